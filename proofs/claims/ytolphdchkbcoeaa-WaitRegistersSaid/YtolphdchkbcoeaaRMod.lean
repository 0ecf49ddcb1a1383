/- The function hallmootref01.mod is a function of data. No condition. -/
import Derived.Test.YtolphdchkbcoeaaNx
import Derived.Test.YtolphdchkbcoeaaBd
import Derived.Test.YtolphdchkbcoeaaOpen
namespace Go.Proofs.Ytolphdchkbcoeaa
set_option linter.unusedVariables false
set_option linter.unusedSimpArgs false
set_option maxRecDepth 100000

def rModE (m n : Int) : List DV := [.int (m % n)]

def rModF (ds : List DV) : List DV := rModE (gi ds 0) (gi ds 1)
/-- What the executor makes of it. -/
def rModTree : PT :=
(.asrt (.un .not (.bin .eq (.var 1) (.int 0)))
 (.br (.un .not (.bin .le (.int 0) (.bin .tmod (.var 0) (.var 1))))
  (.leaf [(.un (.wrap .i64) (.bin .add (.bin .tmod (.var 0) (.var 1)) (.var 1)))])
  (.leaf [(.bin .tmod (.var 0) (.var 1))])))

def rModSm : List (Nat × Smy) := []
def rModLa : List (LK × LA) := []
def rModPhi : Fs := ⟨fun n d => match n with
  | _ => d, 115⟩
theorem rModS : SmyOk true Try.prog rModPhi rModSm := smy_nil
theorem rModT : treeOk ⟨Try.prog, rModSm, rModLa, true⟩ 4000 47 [.one (.pl (.int .i64)), .one (.pl (.int .i64))] [.one (.pl (.int .i64))] ([]) rModTree = true := by decide +kernel
set_option maxHeartbeats 1000000 in
theorem rMod_pure : PureE true Try.prog 47 [.one (.pl (.int .i64)), .one (.pl (.int .i64))] [.one (.pl (.int .i64))] (fun ds => lenP [] ds ∧ rgeP [(1, 1, 4611686018427387904)] ds) rModF := by
  refine pure_tree (X := ⟨Try.prog, rModSm, rModLa, true⟩) (by decide +kernel) (Checked.mixed Try.checked) rModS (by decide +kernel) (by decide +kernel) rModT (by decide +kernel) ?_
  intro ds hl hp
  obtain ⟨d0, d1, rfl⟩ := len2 hl
  have r1 : 1 ≤ d1.i ∧ d1.i ≤ 4611686018427387904 := hp.2 (1, 1, 4611686018427387904) (by simp)
  have hF : rModF [d0, d1] = rModE d0.i d1.i := rfl
  rw [hF]
  clear hF hp hl
  have hN : nrmL (clsOf [.one (.pl (.int .i64)), .one (.pl (.int .i64))]) [d0, d1] = [.int d0.i, .int d1.i] := by
    simp only [clsOf, Sh.cls, List.append_nil, List.cons_append, List.nil_append, nrmL, Cl.nrm, CK.nrm]
  rw [hN]
  clear hN
  generalize d0.i = x0
  generalize d1.i = x1 at r1 ⊢
  refine ⟨facts_nil _, ?_⟩
  unfold rModTree rModE
  simp only [Sat, clsOf, Sh.cls, List.append_nil, List.cons_append, List.nil_append, nrmL, Cl.nrm, CK.nrm, List.map_cons, List.map_nil, List.length_cons, List.length_nil, List.cons.injEq, DV.bool.injEq, DV.int.injEq, DV.list.injEq, DV.str.injEq, and_true, true_and]
  simp only [q_le, q_eq, q_eqs, q_eqb, q_and, q_or, q_not, q_bool, iff_true, iff_false, Bool.not_true, Bool.not_false, Bool.false_eq_true, Bool.true_eq_false, eq_self, Bool.not_not]
  simp only [Bool.not_true, Bool.not_false, Bool.true_eq_false, SE.den, evU, evT, ev_le, ev_eq, ev_eqs, ev_eqb, ev_slt, ev_and, ev_or, ev_add, ev_sub, ev_mul, ev_tdiv, ev_tmod, ev_band, ev_bor, ev_bxor, ev_bandn, ev_shl, ev_shr, ev_cat, ev_byte, ev_idx, ev_cons, ev_snoc, ev_app, ev_take, ev_drop, ev_stake, ev_sdrop, ev_rep, leB_q, eqB_q, eqsB_q, not_q, i_if, b_if, l_if, s_if, i_int, b_bool, s_str, l_list, envL, List.getElem?_cons_succ, List.getElem?_cons_zero, List.getElem?_nil, Option.getD_some, Option.getD_none, Int.toNat_natCast, Int.toNat_zero, Int.reduceToNat, List.length_map, get_Li, get_Lb, get_Ls, set_Li, inj_Li, inj_Lb, inj_Ls, rows_i, rows_b, rows_s, Int.zero_add, iff_true, iff_false, and_true, true_and, Bool.false_eq_true, eq_self, not_true_eq_false, not_false_eq_true, List.length_replicate, DV.int.injEq, DV.bool.injEq, DV.str.injEq, DV.list.injEq, List.cons.injEq]
  have h1 : x0.tmod x1 = x0 % x1 ∨ (x0.tmod x1 < 0 ∧ x0.tmod x1 + x1 = x0 % x1) := by
    rcases Int.lt_or_le x0 0 with h | h
    · have e : x0.tmod x1 = -((-x0) % x1) := by
        conv => lhs; rw [show x0 = -(-x0) by omega, Int.neg_tmod, Int.tmod_eq_emod_of_nonneg (by omega)]
      have e2 : x0 % x1 = (-(-x0)) % x1 := by rw [Int.neg_neg]
      have h3 := Int.emod_nonneg (-x0) (show x1 ≠ 0 by omega)
      have h4 := Int.emod_lt_of_pos (-x0) (show 0 < x1 by omega)
      by_cases hz : (-x0) % x1 = 0
      · left
        rw [e, hz]
        have := Int.dvd_of_emod_eq_zero hz
        have := Int.emod_eq_zero_of_dvd ((Int.dvd_neg).1 this)
        omega
      · right
        refine ⟨by omega, ?_⟩
        rw [e]
        have h5 := Int.emod_add_mul_ediv (-x0) x1
        generalize hb : (-x0) / x1 = b at h5
        generalize hr : (-x0) % x1 = r at h3 h4 h5 hz ⊢
        have h6 : x0 = (x1 - r) + x1 * (-b - 1) := by
          rw [Int.mul_sub, Int.mul_neg, Int.mul_one]; omega
        have h7 : x0 % x1 = (x1 - r) % x1 := by
          conv => lhs; rw [h6]
          rw [Int.add_mul_emod_self_left]
        rw [h7, Int.emod_eq_of_lt (by omega) (by omega)]
        omega
    · left; exact Int.tmod_eq_emod_of_nonneg h
  have h2 := Int.emod_nonneg x0 (show x1 ≠ 0 by omega)
  have h3 := Int.emod_lt_of_pos x0 (show 0 < x1 by omega)
  repeat' (first | apply And.intro | intro)
  all_goals first
    | omega
    | (simp only [DV.int.injEq, w64_eq]; omega)
    | (congr 1; simp only [DV.int.injEq, w64_eq]; omega)
    | trace_state
end Go.Proofs.Ytolphdchkbcoeaa
