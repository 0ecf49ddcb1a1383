/- The model of disk.Right. No program in sight. -/
import Derived.Test.YtlaebfjfnbiooaaDoorNx
import Derived.Test.YtlaebfjfnbiooaaDoorBd
namespace Go.Proofs.YtlaebfjfnbiooaaDoor
set_option linter.unusedVariables false
set_option linter.unusedSimpArgs false
def secOkM (s : List UInt8) : Bool := decide ((s.length : Int) = 32)
def wasOkM (n : Int) (w : Tis) : Bool := decide (0 ≤ w.1 ∧ w.1 < n ∧ (w.2.length : Int) = 32)
def rightDM (sec : List (List UInt8)) (was : List Tis) : Bool := decide ((sec.length : Int) ≤ 512) && (sec.all secOkM && was.all (wasOkM sec.length))
theorem all_of {α : Type} {l : List α} {p : α → Bool} (d : α) (h : ∀ i, i < l.length → p (l[i]?.getD d) = true) : l.all p = true := by
  rw [List.all_eq_true]
  intro x hx
  obtain ⟨i, hi, rfl⟩ := List.getElem_of_mem hx
  have := h i hi
  rw [List.getElem?_eq_getElem hi] at this
  exact this
theorem not_all {α : Type} {l : List α} {p : α → Bool} (d : α) {i : Nat} (hi : i < l.length) (h : p (l[i]?.getD d) = false) : l.all p = false := by
  rw [List.getElem?_eq_getElem hi] at h
  rw [List.all_eq_false]
  exact ⟨l[i], List.getElem_mem hi, by rw [show p l[i] = false from h]; simp⟩
def dRightE (sec : List (List UInt8)) (was : List Tis) : List DV := [.bool (rightDM sec was)]

end Go.Proofs.YtlaebfjfnbiooaaDoor
