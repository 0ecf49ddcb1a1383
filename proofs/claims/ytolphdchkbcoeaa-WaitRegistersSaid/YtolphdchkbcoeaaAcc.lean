/- One access on a memory. No program in sight. -/
import Derived.Test.YtolphdchkbcoeaaMemDo
import Derived.Test.YtolphdchkbcoeaaNx
namespace Go.Proofs.Ytolphdchkbcoeaa
set_option linter.unusedVariables false
section
variable {m : List Int} {c : Int} (h0 : 0 ≤ c) (h1 : c < m.length)
include h0 h1
theorem do_load : doM m 1 c 0 0 [] = (m, (m[c.toNat]?.getD 0, true), 0) := by
  have hs : m.set c.toNat (m[c.toNat]?.getD 0) = m := set_same _ _ _ (by omega)
  have hr : rightM 1 c 0 0 [] = true := by simp [rightM, h0]
  unfold doM
  rw [if_pos hr, if_pos h1]
  simp [nextM, hs]
theorem do_store (n : Int) : doM m 2 c 0 n [] = (m.set c.toNat n, (m[c.toNat]?.getD 0, true), 0) := by
  have hr : rightM 2 c 0 n [] = true := by simp [rightM, h0]
  unfold doM
  rw [if_pos hr, if_pos h1]
  simp [nextM]
theorem do_cas {o : Int} (n : Int) (ho : m[c.toNat]?.getD 0 = o) : doM m 3 c o n [] = (m.set c.toNat n, (o, true), 0) := by
  have hr : rightM 3 c o n [] = true := by simp [rightM, h0]
  unfold doM
  rw [if_pos hr, if_pos h1, ho]
  simp [nextM]
theorem do_cas_no {o w : Int} (n : Int) (hw : m[c.toNat]?.getD 0 = w) (ho : w ≠ o) : doM m 3 c o n [] = (m, (w, false), 0) := by
  have hs : m.set c.toNat (m[c.toNat]?.getD 0) = m := set_same _ _ _ (by omega)
  have hr : rightM 3 c o n [] = true := by simp [rightM, h0]
  unfold doM
  rw [if_pos hr, if_pos h1]
  rw [hw] at hs ⊢
  simp [nextM, ho, hs]
end
end Go.Proofs.Ytolphdchkbcoeaa
