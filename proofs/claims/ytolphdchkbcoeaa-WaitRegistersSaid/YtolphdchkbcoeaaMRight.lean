/- The function mem.Right is a function of data. No condition. -/
import Derived.Test.YtolphdchkbcoeaaBd
import Derived.Test.YtolphdchkbcoeaaOpen
namespace Go.Proofs.Ytolphdchkbcoeaa
set_option linter.unusedVariables false
set_option linter.unusedSimpArgs false
set_option maxRecDepth 100000

def rightM (k c o n : Int) (s : List UInt8) : Bool := decide (1 ≤ k ∧ k ≤ 4 ∧ 0 ≤ c ∧ s = [] ∧ (k = 3 ∨ o = 0) ∧ (k ≠ 1 ∨ n = 0))
def mRightE (k c o n : Int) (s : List UInt8) : List DV := [.bool (rightM k c o n s)]

def mRightF (ds : List DV) : List DV := mRightE (gi ds 0) (gi ds 1) (gi ds 2) (gi ds 3) (gs ds 4)
/-- What the executor makes of it. -/
def mRightTree : PT :=
(.br (.bin .le (.int 0) (.var 1))
 (.br (.bin .eq (.var 0) (.int 1))
  (.br (.bin .eqs (.var 4) (.str []))
   (.br (.bin .eq (.var 3) (.int 0))
    (.leaf [(.bin .eq (.var 2) (.int 0))])
    (.leaf [(.bool false)]))
   (.leaf [(.bool false)]))
  (.br (.bin .eq (.var 0) (.int 2))
   (.br (.bin .eqs (.var 4) (.str []))
    (.leaf [(.bin .eq (.var 2) (.int 0))])
    (.leaf [(.bool false)]))
   (.br (.bin .eq (.var 0) (.int 4))
    (.br (.bin .eqs (.var 4) (.str []))
     (.leaf [(.bin .eq (.var 2) (.int 0))])
     (.leaf [(.bool false)]))
    (.br (.bin .eq (.var 0) (.int 3))
     (.leaf [(.bin .eqs (.var 4) (.str []))])
     (.leaf [(.bool false)])))))
 (.leaf [(.bool false)]))

def mRightSm : List (Nat × Smy) := []
def mRightLa : List (LK × LA) := []
def mRightPhi : Fs := ⟨fun n d => match n with
  | _ => d, 115⟩
theorem mRightS : SmyOk true Try.prog mRightPhi mRightSm := smy_nil
theorem mRightT : treeOk ⟨Try.prog, mRightSm, mRightLa, true⟩ 4000 78 [.agg [.pl (.int .i64), .pl (.int .i64), .pl (.int .i64), .pl (.int .i64), .pl .str]] [.one (.pl .bool)] ([]) mRightTree = true := by decide +kernel
set_option maxHeartbeats 1000000 in
theorem mRight_pure : PureE true Try.prog 78 [.agg [.pl (.int .i64), .pl (.int .i64), .pl (.int .i64), .pl (.int .i64), .pl .str]] [.one (.pl .bool)] (fun _ => True) mRightF := by
  refine pure_tree (X := ⟨Try.prog, mRightSm, mRightLa, true⟩) (by decide +kernel) (Checked.mixed Try.checked) mRightS (by decide +kernel) (by decide +kernel) mRightT (by decide +kernel) ?_
  intro ds hl hp
  obtain ⟨d0, d1, d2, d3, d4, rfl⟩ := len5 hl
  have hF : mRightF [d0, d1, d2, d3, d4] = mRightE d0.i d1.i d2.i d3.i d4.s := rfl
  rw [hF]
  clear hF hp hl
  have hN : nrmL (clsOf [.agg [.pl (.int .i64), .pl (.int .i64), .pl (.int .i64), .pl (.int .i64), .pl .str]]) [d0, d1, d2, d3, d4] = [.int d0.i, .int d1.i, .int d2.i, .int d3.i, .str d4.s] := by
    simp only [clsOf, Sh.cls, List.append_nil, List.cons_append, List.nil_append, nrmL, Cl.nrm, CK.nrm]
  rw [hN]
  clear hN
  generalize d0.i = x0
  generalize d1.i = x1
  generalize d2.i = x2
  generalize d3.i = x3
  generalize d4.s = x4
  refine ⟨facts_nil _, ?_⟩
  unfold mRightTree mRightE rightM
  simp only [Sat, clsOf, Sh.cls, List.append_nil, List.cons_append, List.nil_append, nrmL, Cl.nrm, CK.nrm, List.map_cons, List.map_nil, List.length_cons, List.length_nil, List.cons.injEq, DV.bool.injEq, DV.int.injEq, DV.list.injEq, DV.str.injEq, and_true, true_and]
  simp only [q_le, q_eq, q_eqs, q_eqb, q_and, q_or, q_not, q_bool, iff_true, iff_false, Bool.not_true, Bool.not_false, Bool.false_eq_true, Bool.true_eq_false, eq_self, Bool.not_not]
  simp only [Bool.not_true, Bool.not_false, Bool.true_eq_false, SE.den, evU, evT, ev_le, ev_eq, ev_eqs, ev_eqb, ev_slt, ev_and, ev_or, ev_add, ev_sub, ev_mul, ev_tdiv, ev_tmod, ev_band, ev_bor, ev_bxor, ev_bandn, ev_shl, ev_shr, ev_cat, ev_byte, ev_idx, ev_cons, ev_snoc, ev_app, ev_take, ev_drop, ev_stake, ev_sdrop, ev_rep, leB_q, eqB_q, eqsB_q, not_q, i_if, b_if, l_if, s_if, i_int, b_bool, s_str, l_list, envL, List.getElem?_cons_succ, List.getElem?_cons_zero, List.getElem?_nil, Option.getD_some, Option.getD_none, Int.toNat_natCast, Int.toNat_zero, Int.reduceToNat, List.length_map, get_Li, get_Lb, get_Ls, set_Li, inj_Li, inj_Lb, inj_Ls, rows_i, rows_b, rows_s, Int.zero_add, iff_true, iff_false, and_true, true_and, Bool.false_eq_true, eq_self, not_true_eq_false, not_false_eq_true, List.length_replicate, DV.int.injEq, DV.bool.injEq, DV.str.injEq, DV.list.injEq, List.cons.injEq]
  grind
end Go.Proofs.Ytolphdchkbcoeaa
