/- The function hallmootref02.Right is a function of data. No condition. -/
import Derived.Test.YtbnbljeegghgiaaMRight
import Derived.Test.YtbnbljeegghgiaaBd
import Derived.Test.YtbnbljeegghgiaaOpen
namespace Go.Proofs.Ytbnbljeegghgiaa
set_option linter.unusedVariables false
set_option linter.unusedSimpArgs false
set_option maxRecDepth 100000

def rRightE (k c o n : Int) (s : List UInt8) : List DV := [.bool (rightM k c o n s)]

def rRightF (ds : List DV) : List DV := rRightE (gi ds 0) (gi ds 1) (gi ds 2) (gi ds 3) (gs ds 4)
/-- What the executor makes of it. -/
def rRightTree : PT :=
(.br (.un .not (.bin .le (.int 1) (.var 0)))
 (.leaf [(.bool false)])
 (.br (.un .not (.bin .le (.var 0) (.int 4)))
  (.leaf [(.bool false)])
  (.br (.un .not (.bin .le (.int 0) (.var 1)))
   (.leaf [(.bool false)])
   (.br (.un .not (.bin .eqs (.var 4) (.str [])))
    (.leaf [(.bool false)])
    (.br (.bin .eq (.var 0) (.int 3))
     (.leaf [(.bool true)])
     (.br (.bin .eq (.var 2) (.int 0))
      (.br (.un .not (.bin .eq (.var 0) (.int 1)))
       (.leaf [(.bool true)])
       (.leaf [(.bin .eq (.var 3) (.int 0))]))
      (.leaf [(.bool false)])))))))

def rRightSm : List (Nat × Smy) := []
def rRightLa : List (LK × LA) := []
def rRightPhi : Nat → DV → DV := fun n d => match n with
  | _ => d
theorem rRightS : SmyOk Try.prog rRightPhi rRightSm := smy_nil
theorem rRightT : treeOk ⟨Try.prog, rRightSm, rRightLa⟩ 4000 35 [.agg [.pl (.int .i64), .pl (.int .i64), .pl (.int .i64), .pl (.int .i64), .pl .str]] [.one (.pl .bool)] ([]) rRightTree = true := by decide +kernel
set_option maxHeartbeats 1000000 in
theorem rRight_pure : Pure Try.prog 35 [.agg [.pl (.int .i64), .pl (.int .i64), .pl (.int .i64), .pl (.int .i64), .pl .str]] [.one (.pl .bool)] (fun _ => True) rRightF := by
  refine pure_tree (X := ⟨Try.prog, rRightSm, rRightLa⟩) (Checked.mixed Try.checked) rRightS (by decide +kernel) (by decide +kernel) rRightT (by decide +kernel) ?_
  intro ds hl hp
  obtain ⟨d0, d1, d2, d3, d4, rfl⟩ := len5 hl
  have hF : rRightF [d0, d1, d2, d3, d4] = rRightE d0.i d1.i d2.i d3.i d4.s := rfl
  rw [hF]
  clear hF hp hl
  have hN : nrmL (clsOf [.agg [.pl (.int .i64), .pl (.int .i64), .pl (.int .i64), .pl (.int .i64), .pl .str]]) [d0, d1, d2, d3, d4] = [.int d0.i, .int d1.i, .int d2.i, .int d3.i, .str d4.s] := by
    simp only [clsOf, Sh.cls, List.append_nil, List.cons_append, List.nil_append, nrmL, Cl.nrm, CK.nrm]
  rw [hN]
  clear hN
  generalize d0.i = x0
  generalize d1.i = x1
  generalize d2.i = x2
  generalize d3.i = x3
  generalize d4.s = x4
  refine ⟨facts_nil _, ?_⟩
  unfold rRightTree rRightE rightM
  simp only [Sat, clsOf, Sh.cls, List.append_nil, List.cons_append, List.nil_append, nrmL, Cl.nrm, CK.nrm, List.map_cons, List.map_nil, List.length_cons, List.length_nil, List.cons.injEq, DV.bool.injEq, DV.int.injEq, DV.list.injEq, DV.str.injEq, and_true, true_and]
  simp only [q_le, q_eq, q_eqs, q_eqb, q_and, q_or, q_not, q_bool, iff_true, iff_false, Bool.not_true, Bool.not_false, Bool.false_eq_true, Bool.true_eq_false, eq_self, Bool.not_not]
  simp only [SE.den, evU, evB, evT, i_int, b_bool, s_str, l_list, envL, List.getElem?_cons_succ, List.getElem?_cons_zero, List.getElem?_nil, Option.getD_some, Option.getD_none, Int.toNat_natCast, Int.toNat_zero, Int.reduceToNat, List.length_map, get_Li, get_Lb, get_Ls, set_Li, inj_Li, inj_Lb, inj_Ls, rows_i, rows_b, rows_s, Int.zero_add, iff_true, iff_false, and_true, true_and, Bool.false_eq_true, eq_self, not_true_eq_false, not_false_eq_true, List.length_replicate, DV.int.injEq, DV.bool.injEq, DV.str.injEq, DV.list.injEq, List.cons.injEq]
  repeat' (first | apply And.intro | intro)
  all_goals grind
end Go.Proofs.Ytbnbljeegghgiaa
