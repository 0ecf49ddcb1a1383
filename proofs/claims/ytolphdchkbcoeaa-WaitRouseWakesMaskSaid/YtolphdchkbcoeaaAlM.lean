/- One access on a memory, and an operation without interference, step by step. No program in sight. -/
import Derived.Test.YtolphdchkbcoeaaMemAll
import Derived.Test.YtolphdchkbcoeaaNx
namespace Go.Proofs.Ytolphdchkbcoeaa
set_option linter.unusedVariables false
section
variable {m : List Int} {c : Int} (h0 : 0 ≤ c) (h1 : c < m.length)
include h0 h1
theorem do_load : doM m 1 c 0 0 [] = (m, (m[c.toNat]?.getD 0, true), 0) := by
  have hs : m.set c.toNat (m[c.toNat]?.getD 0) = m := set_same _ _ _ (by omega)
  have hr : rightM 1 c 0 0 [] = true := by simp [rightM, h0]
  unfold doM
  rw [if_pos hr, if_pos h1]
  simp [nextM, hs]
theorem do_store (n : Int) : doM m 2 c 0 n [] = (m.set c.toNat n, (m[c.toNat]?.getD 0, true), 0) := by
  have hr : rightM 2 c 0 n [] = true := by simp [rightM, h0]
  unfold doM
  rw [if_pos hr, if_pos h1]
  simp [nextM]
theorem do_cas {o : Int} (n : Int) (ho : m[c.toNat]?.getD 0 = o) : doM m 3 c o n [] = (m.set c.toNat n, (o, true), 0) := by
  have hr : rightM 3 c o n [] = true := by simp [rightM, h0]
  unfold doM
  rw [if_pos hr, if_pos h1, ho]
  simp [nextM]
theorem do_cas_no {o w : Int} (n : Int) (hw : m[c.toNat]?.getD 0 = w) (ho : w ≠ o) : doM m 3 c o n [] = (m, (w, false), 0) := by
  have hs : m.set c.toNat (m[c.toNat]?.getD 0) = m := set_same _ _ _ (by omega)
  have hr : rightM 3 c o n [] = true := by simp [rightM, h0]
  unfold doM
  rw [if_pos hr, if_pos h1]
  rw [hw] at hs ⊢
  simp [nextM, ho, hs]
end
/-- An operation without interference: its outcome, the memory, the number of accesses. -/
def aloneM (z : Bool) (nx : List Tib → Nx) : Nat → Int → List Int → List Tib → Nx × List Int × Int
  | 0, i, m, log => (doneN 0 0 false 0, m, -1)
  | f + 1, i, m, log => if (nx log).done = true then (nx log, m, i) else
    if (doM m (nx log).k (nx log).c (nx log).o (nx log).n (nx log).s).2.2 = 0 then aloneM z nx f (i + 1) (doM m (nx log).k (nx log).c (nx log).o (nx log).n (nx log).s).1 (log ++ [(doM m (nx log).k (nx log).c (nx log).o (nx log).n (nx log).s).2.1])
    else (if z then doneN 0 0 false 0 else nx log, m, -1)
theorem aloneM_len (z : Bool) (nx : List Tib → Nx) : ∀ (f : Nat) (i : Int) (m : List Int) (log : List Tib), (aloneM z nx f i m log).2.1.length = m.length
  | 0, i, m, log => rfl
  | f + 1, i, m, log => by
    unfold aloneM
    split
    · rfl
    · split
      · rw [aloneM_len, doM_len]
      · rfl
theorem aloneM_done {z : Bool} {nx : List Tib → Nx} {f : Nat} {i : Int} {m : List Int} {log : List Tib} {x : Nx} (hx : nx log = x) (hd : x.done = true) : aloneM z nx (f + 1) i m log = (x, m, i) := by
  unfold aloneM
  rw [hx, if_pos hd]
theorem aloneM_step {z : Bool} {nx : List Tib → Nx} {f : Nat} {i : Int} {m : List Int} {log : List Tib} {x : Nx} {m' : List Int} {r : Tib} (hx : nx log = x) (hd : x.done = false) (h : doM m x.k x.c x.o x.n x.s = (m', r, 0)) : aloneM z nx (f + 1) i m log = aloneM z nx f (i + 1) m' (log ++ [r]) := by
  rw [aloneM]
  rw [hx, hd, if_neg (by simp), h, if_pos rfl]
section
variable {z : Bool} {nx : List Tib → Nx} {f : Nat} {i : Int} {m : List Int} {log : List Tib} {c w : Int}
theorem aloneM_load (hx : nx log = askN 1 c 0 0) (h0 : 0 ≤ c) (h1 : c < m.length) (hw : m[c.toNat]?.getD 0 = w) : aloneM z nx (f + 1) i m log = aloneM z nx f (i + 1) m (log ++ [(w, true)]) := by
  subst hw; exact aloneM_step hx rfl (do_load h0 h1)
theorem aloneM_store {n : Int} (hx : nx log = askN 2 c 0 n) (h0 : 0 ≤ c) (h1 : c < m.length) (hw : m[c.toNat]?.getD 0 = w) : aloneM z nx (f + 1) i m log = aloneM z nx f (i + 1) (m.set c.toNat n) (log ++ [(w, true)]) := by
  subst hw; exact aloneM_step hx rfl (do_store h0 h1 n)
theorem aloneM_cas {n : Int} (hx : nx log = askN 3 c w n) (h0 : 0 ≤ c) (h1 : c < m.length) (hw : m[c.toNat]?.getD 0 = w) : aloneM z nx (f + 1) i m log = aloneM z nx f (i + 1) (m.set c.toNat n) (log ++ [(w, true)]) := by
  exact aloneM_step hx rfl (do_cas h0 h1 n hw)
end
end Go.Proofs.Ytolphdchkbcoeaa
