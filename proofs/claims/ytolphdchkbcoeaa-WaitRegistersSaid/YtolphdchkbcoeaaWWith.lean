/- The function word.With is a function of data. No condition. -/
import Derived.Test.YtolphdchkbcoeaaWIn
import Derived.Test.YtolphdchkbcoeaaBd
import Derived.Test.YtolphdchkbcoeaaOpen
namespace Go.Proofs.Ytolphdchkbcoeaa
set_option linter.unusedVariables false
set_option linter.unusedSimpArgs false
set_option maxRecDepth 100000

theorem bor0 (m : Int) : IntKind.i64.wrap ((BitVec.ofInt IntKind.i64.bits m ||| BitVec.ofInt IntKind.i64.bits 0).toNat : Int) = IntKind.i64.wrap m := by
  show IntKind.i64.wrap ((BitVec.ofInt 64 m ||| 0#64).toNat : Int) = _
  rw [BitVec.or_zero, wrap_ofInt]
theorem wrap_wrap (m : Int) : IntKind.i64.wrap (IntKind.i64.wrap m) = IntKind.i64.wrap m := by simp only [w64_eq]; omega
def wWithE (m t : Int) : List DV := [.int (IntKind.i64.wrap (withM m t))]

def wWithF (ds : List DV) : List DV := wWithE (gi ds 0) (gi ds 1)
/-- What the executor makes of it. -/
def wWithTree : PT :=
(.br (.un .not (.bin .le (.int 0) (.var 1)))
 (.leaf [(.bin (.bor .i64) (.var 0) (.int 0))])
 (.br (.bin .le (.int 62) (.var 1))
  (.leaf [(.bin (.bor .i64) (.var 0) (.int 0))])
  (.leaf [(.bin (.bor .i64) (.var 0) (.bin (.shl .i64) (.int 1) (.var 1)))])))

def wWithSm : List (Nat × Smy) := []
def wWithLa : List (LK × LA) := []
def wWithPhi : Fs := ⟨fun n d => match n with
  | _ => d, 115⟩
theorem wWithS : SmyOk true Try.prog wWithPhi wWithSm := smy_nil
theorem wWithT : treeOk ⟨Try.prog, wWithSm, wWithLa, true⟩ 4000 83 [.one (.pl (.int .i64)), .one (.pl (.int .i64))] [.one (.pl (.int .i64))] ([]) wWithTree = true := by decide +kernel
set_option maxHeartbeats 1000000 in
theorem wWith_pure : PureE true Try.prog 83 [.one (.pl (.int .i64)), .one (.pl (.int .i64))] [.one (.pl (.int .i64))] (fun _ => True) wWithF := by
  refine pure_tree (X := ⟨Try.prog, wWithSm, wWithLa, true⟩) (by decide +kernel) (Checked.mixed Try.checked) wWithS (by decide +kernel) (by decide +kernel) wWithT (by decide +kernel) ?_
  intro ds hl hp
  obtain ⟨d0, d1, rfl⟩ := len2 hl
  have hF : wWithF [d0, d1] = wWithE d0.i d1.i := rfl
  rw [hF]
  clear hF hp hl
  have hN : nrmL (clsOf [.one (.pl (.int .i64)), .one (.pl (.int .i64))]) [d0, d1] = [.int d0.i, .int d1.i] := by
    simp only [clsOf, Sh.cls, List.append_nil, List.cons_append, List.nil_append, nrmL, Cl.nrm, CK.nrm]
  rw [hN]
  clear hN
  generalize d0.i = x0
  generalize d1.i = x1
  refine ⟨facts_nil _, ?_⟩
  unfold wWithTree wWithE withM
  simp only [Sat, clsOf, Sh.cls, List.append_nil, List.cons_append, List.nil_append, nrmL, Cl.nrm, CK.nrm, List.map_cons, List.map_nil, List.length_cons, List.length_nil, List.cons.injEq, DV.bool.injEq, DV.int.injEq, DV.list.injEq, DV.str.injEq, and_true, true_and]
  simp only [q_le, q_eq, q_eqs, q_eqb, q_and, q_or, q_not, q_bool, iff_true, iff_false, Bool.not_true, Bool.not_false, Bool.false_eq_true, Bool.true_eq_false, eq_self, Bool.not_not]
  simp only [Bool.not_true, Bool.not_false, Bool.true_eq_false, SE.den, evU, evT, ev_le, ev_eq, ev_eqs, ev_eqb, ev_slt, ev_and, ev_or, ev_add, ev_sub, ev_mul, ev_tdiv, ev_tmod, ev_band, ev_bor, ev_bxor, ev_bandn, ev_shl, ev_shr, ev_cat, ev_byte, ev_idx, ev_cons, ev_snoc, ev_app, ev_take, ev_drop, ev_stake, ev_sdrop, ev_rep, leB_q, eqB_q, eqsB_q, not_q, i_if, b_if, l_if, s_if, i_int, b_bool, s_str, l_list, envL, List.getElem?_cons_succ, List.getElem?_cons_zero, List.getElem?_nil, Option.getD_some, Option.getD_none, Int.toNat_natCast, Int.toNat_zero, Int.reduceToNat, List.length_map, get_Li, get_Lb, get_Ls, set_Li, inj_Li, inj_Lb, inj_Ls, rows_i, rows_b, rows_s, Int.zero_add, iff_true, iff_false, and_true, true_and, Bool.false_eq_true, eq_self, not_true_eq_false, not_false_eq_true, List.length_replicate, DV.int.injEq, DV.bool.injEq, DV.str.injEq, DV.list.injEq, List.cons.injEq, bor0, wrap_wrap]
  by_cases h : 0 ≤ x1 ∧ x1 ≤ 61
  · have hp := pow_lt x1.toNat (by omega)
    have hw : IntKind.i64.wrap (2 ^ x1.toNat) = 2 ^ x1.toNat := w64 (by omega) (by omega)
    simp only [shl_one x1 h.1 h.2, hw, bor_bit x0 x1.toNat (by omega), has_in h, one_in h, wrap_wrap]
    repeat' (first | apply And.intro | intro)
    all_goals first
      | omega
      | trivial
  · simp only [has_out h, one_out h, Bool.false_eq_true, if_false, Int.add_zero]
    repeat' (first | apply And.intro | intro)
    all_goals first
      | omega
      | trivial
end Go.Proofs.Ytolphdchkbcoeaa
