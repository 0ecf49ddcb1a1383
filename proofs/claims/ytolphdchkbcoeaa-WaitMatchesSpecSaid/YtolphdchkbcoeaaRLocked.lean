/- The function hallmootref01.Locked is a function of data. No condition. -/
import Derived.Test.YtolphdchkbcoeaaBit
import Derived.Test.YtolphdchkbcoeaaBd
import Derived.Test.YtolphdchkbcoeaaOpen
namespace Go.Proofs.Ytolphdchkbcoeaa
set_option linter.unusedVariables false
set_option linter.unusedSimpArgs false
set_option maxRecDepth 100000

def rLockedE (w : Int) : List DV := [.bool (eqB (w % 2) 1)]

def rLockedF (ds : List DV) : List DV := rLockedE (gi ds 0)
/-- What the executor makes of it. -/
def rLockedTree : PT :=
(.br (.un .not (.bin .le (.int 0) (.bin .tmod (.var 0) (.int 2))))
 (.leaf [(.bin .eq (.un (.wrap .i64) (.bin .add (.bin .tmod (.var 0) (.int 2)) (.int 2))) (.int 1))])
 (.leaf [(.bin .eq (.bin .tmod (.var 0) (.int 2)) (.int 1))]))

def rLockedSm : List (Nat × Smy) := []
def rLockedLa : List (LK × LA) := []
def rLockedPhi : Fs := ⟨fun n d => match n with
  | _ => d, 115⟩
theorem rLockedS : SmyOk true Try.prog rLockedPhi rLockedSm := smy_nil
theorem rLockedT : treeOk ⟨Try.prog, rLockedSm, rLockedLa, true⟩ 4000 71 [.one (.pl (.int .i64))] [.one (.pl .bool)] ([]) rLockedTree = true := by decide +kernel
set_option maxHeartbeats 1000000 in
theorem rLocked_pure : PureE true Try.prog 71 [.one (.pl (.int .i64))] [.one (.pl .bool)] (fun _ => True) rLockedF := by
  refine pure_tree (X := ⟨Try.prog, rLockedSm, rLockedLa, true⟩) (by decide +kernel) (Checked.mixed Try.checked) rLockedS (by decide +kernel) (by decide +kernel) rLockedT (by decide +kernel) ?_
  intro ds hl hp
  obtain ⟨d0, rfl⟩ := len1 hl
  have hF : rLockedF [d0] = rLockedE d0.i := rfl
  rw [hF]
  clear hF hp hl
  have hN : nrmL (clsOf [.one (.pl (.int .i64))]) [d0] = [.int d0.i] := by
    simp only [clsOf, Sh.cls, List.append_nil, List.cons_append, List.nil_append, nrmL, Cl.nrm, CK.nrm]
  rw [hN]
  clear hN
  generalize d0.i = x0
  refine ⟨facts_nil _, ?_⟩
  unfold rLockedTree rLockedE
  simp only [Sat, clsOf, Sh.cls, List.append_nil, List.cons_append, List.nil_append, nrmL, Cl.nrm, CK.nrm, List.map_cons, List.map_nil, List.length_cons, List.length_nil, List.cons.injEq, DV.bool.injEq, DV.int.injEq, DV.list.injEq, DV.str.injEq, and_true, true_and]
  simp only [q_le, q_eq, q_eqs, q_eqb, q_and, q_or, q_not, q_bool, iff_true, iff_false, Bool.not_true, Bool.not_false, Bool.false_eq_true, Bool.true_eq_false, eq_self, Bool.not_not]
  simp only [Bool.not_true, Bool.not_false, Bool.true_eq_false, SE.den, evU, evT, ev_le, ev_eq, ev_eqs, ev_eqb, ev_slt, ev_and, ev_or, ev_add, ev_sub, ev_mul, ev_tdiv, ev_tmod, ev_band, ev_bor, ev_bxor, ev_bandn, ev_shl, ev_shr, ev_cat, ev_byte, ev_idx, ev_cons, ev_snoc, ev_app, ev_take, ev_drop, ev_stake, ev_sdrop, ev_rep, leB_q, eqB_q, eqsB_q, not_q, i_if, b_if, l_if, s_if, i_int, b_bool, s_str, l_list, envL, List.getElem?_cons_succ, List.getElem?_cons_zero, List.getElem?_nil, Option.getD_some, Option.getD_none, Int.toNat_natCast, Int.toNat_zero, Int.reduceToNat, List.length_map, get_Li, get_Lb, get_Ls, set_Li, inj_Li, inj_Lb, inj_Ls, rows_i, rows_b, rows_s, Int.zero_add, iff_true, iff_false, and_true, true_and, Bool.false_eq_true, eq_self, not_true_eq_false, not_false_eq_true, List.length_replicate, DV.int.injEq, DV.bool.injEq, DV.str.injEq, DV.list.injEq, List.cons.injEq, tm2]
  repeat' (first | apply And.intro | intro)
  all_goals (simp [eqB, w64_eq] at *; omega)
end Go.Proofs.Ytolphdchkbcoeaa
