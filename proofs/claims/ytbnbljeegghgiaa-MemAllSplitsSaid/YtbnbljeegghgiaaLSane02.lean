/- The function hallmootlaw02.sanity is a function of data. No condition. -/
import Derived.Test.YtbnbljeegghgiaaBd
import Derived.Test.YtbnbljeegghgiaaOpen
namespace Go.Proofs.Ytbnbljeegghgiaa
set_option linter.unusedVariables false
set_option linter.unusedSimpArgs false
set_option maxRecDepth 100000

def lSane02E : List DV := [.bool true]

def lSane02F (ds : List DV) : List DV := lSane02E
/-- What the executor makes of it. -/
def lSane02Tree : PT :=
(.leaf [(.bool true)])

def lSane02Sm : List (Nat × Smy) := []
def lSane02La : List (LK × LA) := []
def lSane02Phi : Nat → DV → DV := fun n d => match n with
  | _ => d
theorem lSane02S : SmyOk Try.prog lSane02Phi lSane02Sm := smy_nil
theorem lSane02T : treeOk ⟨Try.prog, lSane02Sm, lSane02La⟩ 4000 31 [] [.one (.pl .bool)] ([]) lSane02Tree = true := by decide +kernel
set_option maxHeartbeats 1000000 in
theorem lSane02_pure : Pure Try.prog 31 [] [.one (.pl .bool)] (fun _ => True) lSane02F := by
  refine pure_tree (X := ⟨Try.prog, lSane02Sm, lSane02La⟩) (Checked.mixed Try.checked) lSane02S (by decide +kernel) (by decide +kernel) lSane02T (by decide +kernel) ?_
  intro ds hl hp
  obtain rfl := len0 hl
  have hF : lSane02F [] = lSane02E  := rfl
  rw [hF]
  clear hF hp hl
  have hN : nrmL (clsOf []) [] = [] := by
    simp only [clsOf, Sh.cls, List.append_nil, List.cons_append, List.nil_append, nrmL, Cl.nrm, CK.nrm]
  rw [hN]
  clear hN
  refine ⟨facts_nil _, ?_⟩
  unfold lSane02Tree
  simp only [Sat, clsOf, Sh.cls, List.append_nil, List.cons_append, List.nil_append, nrmL, Cl.nrm, CK.nrm, List.map_cons, List.map_nil, List.length_cons, List.length_nil, List.cons.injEq, DV.bool.injEq, DV.int.injEq, DV.list.injEq, DV.str.injEq, and_true, true_and, lSane02E, lSane02F]
  simp only [q_le, q_eq, q_eqs, q_eqb, q_and, q_or, q_not, q_bool, iff_true, iff_false, Bool.not_true, Bool.not_false, Bool.false_eq_true, Bool.true_eq_false, eq_self, Bool.not_not]
  rfl
end Go.Proofs.Ytbnbljeegghgiaa
