/- The function word.In is a function of data. No condition. -/
import Derived.Test.YtolphdchkbcoeaaNx
import Derived.Test.YtolphdchkbcoeaaBd
import Derived.Test.YtolphdchkbcoeaaOpen
namespace Go.Proofs.Ytolphdchkbcoeaa
set_option linter.unusedVariables false
set_option linter.unusedSimpArgs false
set_option maxRecDepth 100000

theorem band0 (m : Int) : IntKind.i64.wrap ((BitVec.ofInt IntKind.i64.bits m &&& BitVec.ofInt IntKind.i64.bits 0).toNat : Int) = 0 := by
  show IntKind.i64.wrap ((BitVec.ofInt 64 m &&& 0#64).toNat : Int) = 0
  simp; rfl
theorem has_out {m t : Int} (h : ¬ (0 ≤ t ∧ t ≤ 61)) : hasM m t = false := by unfold hasM; simp only [h, decide_false, Bool.false_and]
theorem has_in {m t : Int} (h : 0 ≤ t ∧ t ≤ 61) : hasM m t = bitM m t.toNat := by unfold hasM; simp only [h, and_self, decide_true, Bool.true_and]
theorem one_in {t : Int} (h : 0 ≤ t ∧ t ≤ 61) : oneM t = 2 ^ t.toNat := if_pos h
theorem one_out {t : Int} (h : ¬ (0 ≤ t ∧ t ≤ 61)) : oneM t = 0 := if_neg h
def wInE (m t : Int) : List DV := [.bool (hasM m t)]

def wInF (ds : List DV) : List DV := wInE (gi ds 0) (gi ds 1)
/-- What the executor makes of it. -/
def wInTree : PT :=
(.br (.un .not (.bin .le (.int 0) (.var 1)))
 (.leaf [(.un .not (.bin .eq (.bin (.band .i64) (.var 0) (.int 0)) (.int 0)))])
 (.br (.bin .le (.int 62) (.var 1))
  (.leaf [(.un .not (.bin .eq (.bin (.band .i64) (.var 0) (.int 0)) (.int 0)))])
  (.leaf [(.un .not (.bin .eq (.bin (.band .i64) (.var 0) (.bin (.shl .i64) (.int 1) (.var 1))) (.int 0)))])))

def wInSm : List (Nat × Smy) := []
def wInLa : List (LK × LA) := []
def wInPhi : Fs := ⟨fun n d => match n with
  | _ => d, 115⟩
theorem wInS : SmyOk true Try.prog wInPhi wInSm := smy_nil
theorem wInT : treeOk ⟨Try.prog, wInSm, wInLa, true⟩ 4000 41 [.one (.pl (.int .i64)), .one (.pl (.int .i64))] [.one (.pl .bool)] ([]) wInTree = true := by decide +kernel
set_option maxHeartbeats 1000000 in
theorem wIn_pure : PureE true Try.prog 41 [.one (.pl (.int .i64)), .one (.pl (.int .i64))] [.one (.pl .bool)] (fun _ => True) wInF := by
  refine pure_tree (X := ⟨Try.prog, wInSm, wInLa, true⟩) (by decide +kernel) (Checked.mixed Try.checked) wInS (by decide +kernel) (by decide +kernel) wInT (by decide +kernel) ?_
  intro ds hl hp
  obtain ⟨d0, d1, rfl⟩ := len2 hl
  have hF : wInF [d0, d1] = wInE d0.i d1.i := rfl
  rw [hF]
  clear hF hp hl
  have hN : nrmL (clsOf [.one (.pl (.int .i64)), .one (.pl (.int .i64))]) [d0, d1] = [.int d0.i, .int d1.i] := by
    simp only [clsOf, Sh.cls, List.append_nil, List.cons_append, List.nil_append, nrmL, Cl.nrm, CK.nrm]
  rw [hN]
  clear hN
  generalize d0.i = x0
  generalize d1.i = x1
  refine ⟨facts_nil _, ?_⟩
  unfold wInTree wInE
  simp only [Sat, clsOf, Sh.cls, List.append_nil, List.cons_append, List.nil_append, nrmL, Cl.nrm, CK.nrm, List.map_cons, List.map_nil, List.length_cons, List.length_nil, List.cons.injEq, DV.bool.injEq, DV.int.injEq, DV.list.injEq, DV.str.injEq, and_true, true_and]
  simp only [q_le, q_eq, q_eqs, q_eqb, q_and, q_or, q_not, q_bool, iff_true, iff_false, Bool.not_true, Bool.not_false, Bool.false_eq_true, Bool.true_eq_false, eq_self, Bool.not_not]
  simp only [Bool.not_true, Bool.not_false, Bool.true_eq_false, SE.den, evU, evT, ev_le, ev_eq, ev_eqs, ev_eqb, ev_slt, ev_and, ev_or, ev_add, ev_sub, ev_mul, ev_tdiv, ev_tmod, ev_band, ev_bor, ev_bxor, ev_bandn, ev_shl, ev_shr, ev_cat, ev_byte, ev_idx, ev_cons, ev_snoc, ev_app, ev_take, ev_drop, ev_stake, ev_sdrop, ev_rep, leB_q, eqB_q, eqsB_q, not_q, i_if, b_if, l_if, s_if, i_int, b_bool, s_str, l_list, envL, List.getElem?_cons_succ, List.getElem?_cons_zero, List.getElem?_nil, Option.getD_some, Option.getD_none, Int.toNat_natCast, Int.toNat_zero, Int.reduceToNat, List.length_map, get_Li, get_Lb, get_Ls, set_Li, inj_Li, inj_Lb, inj_Ls, rows_i, rows_b, rows_s, Int.zero_add, iff_true, iff_false, and_true, true_and, Bool.false_eq_true, eq_self, not_true_eq_false, not_false_eq_true, List.length_replicate, DV.int.injEq, DV.bool.injEq, DV.str.injEq, DV.list.injEq, List.cons.injEq, band0]
  by_cases h : 0 ≤ x1 ∧ x1 ≤ 61
  · rw [shl_one x1 h.1 h.2, band_bit x0 x1.toNat (by omega), has_in h]
    have hp := pow_lt x1.toNat (by omega)
    repeat' (first | apply And.intro | intro)
    all_goals first
      | omega
      | (cases bitM x0 x1.toNat <;> simp [eqB] <;> omega)
  · rw [has_out h]
    repeat' (first | apply And.intro | intro)
    all_goals first
      | omega
      | (simp [eqB]; done)
end Go.Proofs.Ytolphdchkbcoeaa
