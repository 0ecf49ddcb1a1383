/- Recovering entries from sectors, as data. No program in sight. -/
import Derived.Test.YtkfjgggiopegbaaDoorWalN
namespace Go.Proofs.YtkfjgggiopegbaaDoor
set_option linter.unusedVariables false
set_option linter.unusedSimpArgs false
/-- Entries from a sector on, as long as their versions rise. -/
def recM (l : List (List UInt8)) : Nat → Int → Int → List TEn × Int
  | 0, a, _ => ([], a)
  | n + 1, a, last => match parseM l a with
    | none => ([], a)
    | some r => if r.1.1 ≤ last then ([], a) else (r.1 :: (recM l n (a + r.2) r.1.1).1, (recM l n (a + r.2) r.1.1).2)
def recoverM (l : List (List UInt8)) : List TEn × Int := recM l (l.length + 1) 0 0
theorem recM_none {l : List (List UInt8)} {n : Nat} {a last : Int} (h : parseM l a = none) : recM l (n + 1) a last = ([], a) := by unfold recM; rw [h]
theorem recM_old {l : List (List UInt8)} {n : Nat} {a last : Int} {r : TEn × Nat} (h : parseM l a = some r) (h1 : r.1.1 ≤ last) : recM l (n + 1) a last = ([], a) := by
  rw [recM, h]
  exact if_pos h1
theorem recM_some {l : List (List UInt8)} {n : Nat} {a last : Int} {r : TEn × Nat} (h : parseM l a = some r) (h1 : ¬ r.1.1 ≤ last) : recM l (n + 1) a last = (r.1 :: (recM l n (a + r.2) r.1.1).1, (recM l n (a + r.2) r.1.1).2) := by
  rw [recM, h]
  exact if_neg h1
end Go.Proofs.YtkfjgggiopegbaaDoor
