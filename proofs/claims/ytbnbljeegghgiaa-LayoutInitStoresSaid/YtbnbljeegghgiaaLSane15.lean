/- The function hallmootlaw15.sanity is a function of data. No condition. -/
import Derived.Test.YtbnbljeegghgiaaBd
import Derived.Test.YtbnbljeegghgiaaOpen
namespace Go.Proofs.Ytbnbljeegghgiaa
set_option linter.unusedVariables false
set_option linter.unusedSimpArgs false
set_option maxRecDepth 100000

def lSane15E : List DV := [.bool true]

def lSane15F (ds : List DV) : List DV := lSane15E
/-- What the executor makes of it. -/
def lSane15Tree : PT :=
(.leaf [(.bool true)])

def lSane15Sm : List (Nat × Smy) := []
def lSane15La : List (LK × LA) := []
def lSane15Phi : Nat → DV → DV := fun n d => match n with
  | _ => d
theorem lSane15S : SmyOk Try.prog lSane15Phi lSane15Sm := smy_nil
theorem lSane15T : treeOk ⟨Try.prog, lSane15Sm, lSane15La⟩ 4000 15 [] [.one (.pl .bool)] ([]) lSane15Tree = true := by decide +kernel
set_option maxHeartbeats 1000000 in
theorem lSane15_pure : Pure Try.prog 15 [] [.one (.pl .bool)] (fun _ => True) lSane15F := by
  refine pure_tree (X := ⟨Try.prog, lSane15Sm, lSane15La⟩) (Checked.mixed Try.checked) lSane15S (by decide +kernel) (by decide +kernel) lSane15T (by decide +kernel) ?_
  intro ds hl hp
  obtain rfl := len0 hl
  have hF : lSane15F [] = lSane15E  := rfl
  rw [hF]
  clear hF hp hl
  have hN : nrmL (clsOf []) [] = [] := by
    simp only [clsOf, Sh.cls, List.append_nil, List.cons_append, List.nil_append, nrmL, Cl.nrm, CK.nrm]
  rw [hN]
  clear hN
  refine ⟨facts_nil _, ?_⟩
  unfold lSane15Tree
  simp only [Sat, clsOf, Sh.cls, List.append_nil, List.cons_append, List.nil_append, nrmL, Cl.nrm, CK.nrm, List.map_cons, List.map_nil, List.length_cons, List.length_nil, List.cons.injEq, DV.bool.injEq, DV.int.injEq, DV.list.injEq, DV.str.injEq, and_true, true_and, lSane15E, lSane15F]
  simp only [q_le, q_eq, q_eqs, q_eqb, q_and, q_or, q_not, q_bool, iff_true, iff_false, Bool.not_true, Bool.not_false, Bool.false_eq_true, Bool.true_eq_false, eq_self, Bool.not_not]
  rfl
end Go.Proofs.Ytbnbljeegghgiaa
