/- The wait operations of the reference: loops that go on with a flag when an access is asked for. No program in sight. -/
import Derived.Test.YtolphdchkbcoeaaWaM
namespace Go.Proofs.Ytolphdchkbcoeaa
set_option linter.unusedVariables false
/-- Where the log is read next, what is asked for, and whether anything is. -/
def refS (len : Nat) : Nx ⊕ Nat → List DV
  | .inr j => [.int j, .int 0, .int 0, .int 0, .int 0, .bool false]
  | .inl a => [.int len, .int a.k, .int a.c, .int a.o, .int a.n, .bool true]
theorem refS_len (len : Nat) (r : Nx ⊕ Nat) : (refS len r).length = 6 := by cases r <;> rfl
theorem goN_ask {put : Bool} {chg : Int → Int} {c me : Int} : ∀ (l : List Tib) (j : Nat) {a : Nx}, goN put chg c me j l = .inl a → a = askN a.k a.c a.o a.n
  | [], j, a, h => by cases h; rfl
  | [r], j, a, h => by
    unfold goN at h
    split at h
    · cases h
    · cases h; rfl
  | r :: x :: rest, j, a, h => by
    unfold goN at h
    split at h
    · cases h
    · split at h
      · cases h
      · exact goN_ask rest _ h
theorem allN_ask {put : Bool} {chg : Int → Int} {me : Int} {log : List Tib} : ∀ (wt : List Int) (j : Nat) {a : Nx}, allN put chg me log wt j = .inl a → a = askN a.k a.c a.o a.n
  | [], j, a, h => by cases h
  | c :: cs, j, a, h => by
    unfold allN at h
    split at h
    · rename_i n hn; cases h; exact goN_ask _ _ hn
    · exact allN_ask cs _ h
theorem valN_ask {log : List Tib} : ∀ (wd : List (Int × Int)) (j : Nat) {a : Nx}, valN log wd j = .inl a → a = askN a.k a.c a.o a.n
  | [], j, a, h => by cases h
  | p :: r, j, a, h => by
    unfold valN at h
    split at h
    · cases h; rfl
    · split at h
      · exact valN_ask r _ h
      · cases h
theorem ask_ds {a : Nx} (h : a = askN a.k a.c a.o a.n) : [DV.int a.k, .int a.c, .int a.o, .int a.n, .str [], .int 0, .int 0, .int 0, .int 0, .bool false, .bool false, .int 0, .bool false] = a.ds := by rw [h]; rfl
theorem nle (p : Int) : (!leB 0 p) = decide (p < 0) := by
  unfold leB
  by_cases h : 0 ≤ p
  · simp [h]
  · simp [h]; omega
section
variable {put : Bool} {chg : Int → Int} {c me : Int} {log : List Tib} {B : List DV → List DV → Prop} {R : List DV → Prop}
theorem rounds_goR {A : Nx ⊕ Nat} {j0 : Nat} (hj0 : j0 ≤ log.length) (hA : goN put chg c me j0 (log.drop j0) = A)
    (h1 : A = .inl (askN 1 c 0 0) → B (refS log.length (.inr log.length)) (refS log.length (.inl (askN 1 c 0 0))) ∨ R (refS log.length (.inr log.length)))
    (h3 : ∀ j : Nat, j + 1 = log.length → ¬ hasM (log[j]?.getD dib).1 me = put → B (refS log.length (.inr j)) (refS log.length (.inl (askN 3 c (log[j]?.getD dib).1 (chg (log[j]?.getD dib).1)))))
    (h5 : ∀ j : Nat, j + 1 < log.length → ¬ hasM (log[j]?.getD dib).1 me = put → ¬ (log[j + 1]?.getD dib).2 = true → B (refS log.length (.inr j)) (refS log.length (.inr (j + 2))))
    (r0 : ∀ a, A = .inl a → R (refS log.length (.inl a)))
    (r2 : ∀ j : Nat, j < log.length → hasM (log[j]?.getD dib).1 me = put → A = .inr (j + 1) → R (refS log.length (.inr j)))
    (r4 : ∀ j : Nat, j + 1 < log.length → ¬ hasM (log[j]?.getD dib).1 me = put → (log[j + 1]?.getD dib).2 = true → A = .inr (j + 2) → R (refS log.length (.inr j))) : Rounds B R (refS log.length (.inr j0)) := by
  refine rounds_inv (fun y => (∃ j : Nat, y = refS log.length (.inr j) ∧ j ≤ log.length ∧ goN put chg c me j (log.drop j) = A) ∨ ∃ a, y = refS log.length (.inl a) ∧ A = .inl a)
    (fun y => 2 * (log.length - ((y[0]?).getD (DV.int 0)).i.toNat) + (if ((y[5]?).getD (DV.int 0)).b = true then 0 else 1)) (.inl ⟨j0, rfl, hj0, hA⟩) ?_
  rintro y (⟨j, rfl, hj, h⟩ | ⟨a, rfl, h⟩)
  · rw [goN_at] at h
    have mu : ∀ j : Nat, (2 * (log.length - (((refS log.length (.inr j))[0]?).getD (DV.int 0)).i.toNat) + (if (((refS log.length (.inr j))[5]?).getD (DV.int 0)).b = true then 0 else 1)) = 2 * (log.length - j) + 1 := fun j => by
      simp [refS, DV.i, DV.b]
    have mu2 : ∀ a, (2 * (log.length - (((refS log.length (.inl a))[0]?).getD (DV.int 0)).i.toNat) + (if (((refS log.length (.inl a))[5]?).getD (DV.int 0)).b = true then 0 else 1)) = 0 := fun a => by
      simp [refS, DV.i, DV.b]
    by_cases g1 : log.length ≤ j
    · rw [if_pos g1] at h
      have : j = log.length := by omega
      subst this
      rcases h1 h.symm with hb | hr
      · refine .inr ⟨_, hb, rfl, .inr ⟨_, rfl, h.symm⟩, ?_⟩
        rw [mu, mu2]; omega
      · exact .inl hr
    · rw [if_neg g1] at h
      by_cases g2 : hasM (log[j]?.getD dib).1 me = put
      · rw [if_pos g2] at h
        exact .inl (r2 j (by omega) g2 h.symm)
      · rw [if_neg g2] at h
        by_cases g3 : log.length ≤ j + 1
        · rw [if_pos g3] at h
          refine .inr ⟨_, h3 j (by omega) g2, rfl, .inr ⟨_, rfl, h.symm⟩, ?_⟩
          rw [mu, mu2]; omega
        · rw [if_neg g3] at h
          by_cases g4 : (log[j + 1]?.getD dib).2 = true
          · rw [if_pos g4] at h
            exact .inl (r4 j (by omega) g2 g4 h.symm)
          · rw [if_neg g4] at h
            refine .inr ⟨_, h5 j (by omega) g2 g4, rfl, .inl ⟨j + 2, rfl, by omega, h⟩, ?_⟩
            rw [mu, mu]; omega
  · exact .inl (r0 a h)
theorem rounds_allR {A : Nx ⊕ Nat} {wt : List Int} {j0 : Nat} (hj0 : j0 ≤ log.length) (hA : allN put chg me log wt j0 = A)
    (hB : ∀ (i j : Nat) (r : Nx ⊕ Nat), i < wt.length → j ≤ log.length → goN put chg (wt[i]?.getD 0) me j (log.drop j) = r → B (.int i :: refS log.length (.inr j)) (.int ((i + 1 : Nat) : Int) :: refS log.length r))
    (r1 : ∀ (i : Nat) (a : Nx), i ≤ wt.length → A = .inl a → R (.int i :: refS log.length (.inl a)))
    (r2 : ∀ j : Nat, j ≤ log.length → A = .inr j → R (.int (wt.length : Nat) :: refS log.length (.inr j))) : Rounds B R (.int 0 :: refS log.length (.inr j0)) := by
  refine rounds_inv (fun y => (∃ i j : Nat, y = .int i :: refS log.length (.inr j) ∧ i ≤ wt.length ∧ j ≤ log.length ∧ allN put chg me log (wt.drop i) j = A) ∨ ∃ (i : Nat) (a : Nx), y = .int i :: refS log.length (.inl a) ∧ i ≤ wt.length ∧ A = .inl a)
    (fun y => wt.length - ((y[0]?).getD (DV.int 0)).i.toNat) (.inl ⟨0, j0, rfl, Nat.zero_le _, hj0, hA⟩) ?_
  rintro y (⟨i, j, rfl, hi, hj, h⟩ | ⟨i, a, rfl, hi, h⟩)
  · rw [allN_at] at h
    by_cases g1 : wt.length ≤ i
    · rw [if_pos g1] at h
      have : i = wt.length := by omega
      subst this
      exact .inl (r2 j hj h.symm)
    · rw [if_neg g1] at h
      have mu : ∀ (r r' : Nx ⊕ Nat), wt.length - ((((DV.int ((i + 1 : Nat) : Int) :: refS log.length r))[0]?).getD (DV.int 0)).i.toNat < wt.length - ((((DV.int i :: refS log.length r'))[0]?).getD (DV.int 0)).i.toNat := fun r r' => by
        show wt.length - ((i + 1 : Nat) : Int).toNat < wt.length - (i : Int).toNat
        omega
      cases hg : goN put chg (wt[i]?.getD 0) me j (log.drop j) with
      | inl n =>
        rw [hg] at h
        exact .inr ⟨_, hB i j _ (by omega) hj hg, by simp [refS_len], .inr ⟨i + 1, n, rfl, by omega, h.symm⟩, mu _ _⟩
      | inr j' =>
        rw [hg] at h
        exact .inr ⟨_, hB i j _ (by omega) hj hg, by simp [refS_len], .inl ⟨i + 1, j', rfl, by omega, goN_len hj hg, h⟩, mu _ _⟩
  · exact .inl (r1 i a hi h)
theorem rounds_valR {A : Nx ⊕ (Bool × Nat)} {wd : List (Int × Int)} {j0 : Nat} (hj0 : j0 ≤ log.length) (hA : valN log wd j0 = A)
    (hBs : ∀ i j : Nat, i < wd.length → j < log.length → (log[j]?.getD dib).1 = (wd[i]?.getD (0, 0)).2 → B (.bool false :: .int i :: refS log.length (.inr j)) (.bool false :: .int ((i + 1 : Nat) : Int) :: refS log.length (.inr (j + 1))))
    (hBd : ∀ i j : Nat, i < wd.length → j < log.length → ¬ (log[j]?.getD dib).1 = (wd[i]?.getD (0, 0)).2 → B (.bool false :: .int i :: refS log.length (.inr j)) (.bool true :: .int ((i + 1 : Nat) : Int) :: refS log.length (.inr (j + 1))))
    (hBa : ∀ i : Nat, i < wd.length → ∃ b, B (.bool false :: .int i :: refS log.length (.inr log.length)) (.bool b :: .int ((i + 1 : Nat) : Int) :: refS log.length (.inl (askN 1 (wd[i]?.getD (0, 0)).1 0 0))))
    (r1 : ∀ (b : Bool) (i : Nat) (a : Nx), i ≤ wd.length → A = .inl a → R (.bool b :: .int i :: refS log.length (.inl a)))
    (r2 : ∀ i j : Nat, i ≤ wd.length → j ≤ log.length → A = .inr (false, j) → R (.bool true :: .int i :: refS log.length (.inr j)))
    (r3 : ∀ j : Nat, j ≤ log.length → A = .inr (true, j) → R (.bool false :: .int (wd.length : Nat) :: refS log.length (.inr j))) : Rounds B R (.bool false :: .int 0 :: refS log.length (.inr j0)) := by
  refine rounds_inv (fun y => (∃ i j : Nat, y = .bool false :: .int i :: refS log.length (.inr j) ∧ i ≤ wd.length ∧ j ≤ log.length ∧ valN log (wd.drop i) j = A) ∨ (∃ (b : Bool) (i : Nat) (a : Nx), y = .bool b :: .int i :: refS log.length (.inl a) ∧ i ≤ wd.length ∧ A = .inl a) ∨ ∃ i j : Nat, y = .bool true :: .int i :: refS log.length (.inr j) ∧ i ≤ wd.length ∧ j ≤ log.length ∧ A = .inr (false, j))
    (fun y => wd.length - ((y[1]?).getD (DV.int 0)).i.toNat) (.inl ⟨0, j0, rfl, Nat.zero_le _, hj0, hA⟩) ?_
  rintro y (⟨i, j, rfl, hi, hj, h⟩ | ⟨b, i, a, rfl, hi, h⟩ | ⟨i, j, rfl, hi, hj, h⟩)
  · rw [valN_at] at h
    by_cases g1 : wd.length ≤ i
    · rw [if_pos g1] at h
      have : i = wd.length := by omega
      subst this
      exact .inl (r3 j hj h.symm)
    · rw [if_neg g1] at h
      have mu : ∀ (b b' : Bool) (r r' : Nx ⊕ Nat), wd.length - ((((DV.bool b :: DV.int ((i + 1 : Nat) : Int) :: refS log.length r))[1]?).getD (DV.int 0)).i.toNat < wd.length - ((((DV.bool b' :: DV.int i :: refS log.length r'))[1]?).getD (DV.int 0)).i.toNat := fun b b' r r' => by
        show wd.length - ((i + 1 : Nat) : Int).toNat < wd.length - (i : Int).toNat
        omega
      by_cases g2 : log.length ≤ j
      · rw [if_pos g2] at h
        have : j = log.length := by omega
        subst this
        obtain ⟨b, hb⟩ := hBa i (by omega)
        exact .inr ⟨_, hb, by simp [refS_len], .inr (.inl ⟨b, i + 1, _, rfl, by omega, h.symm⟩), mu _ _ _ _⟩
      · rw [if_neg g2] at h
        by_cases g3 : (log[j]?.getD dib).1 = (wd[i]?.getD (0, 0)).2
        · rw [if_pos g3] at h
          exact .inr ⟨_, hBs i j (by omega) (by omega) g3, by simp [refS_len], .inl ⟨i + 1, j + 1, rfl, by omega, by omega, h⟩, mu _ _ _ _⟩
        · rw [if_neg g3] at h
          exact .inr ⟨_, hBd i j (by omega) (by omega) g3, by simp [refS_len], .inr (.inr ⟨i + 1, j + 1, rfl, by omega, by omega, h.symm⟩), mu _ _ _ _⟩
  · exact .inl (r1 b i a hi h)
  · exact .inl (r2 i j hi hj h)
theorem rounds_badR {wd : List (Int × Int)} {b0 : Bool}
    (hB : ∀ (b : Bool) (i : Nat), i < wd.length → B [.bool b, .int i] [.bool (b || decide ((wd[i]?.getD (0, 0)).1 < 0)), .int ((i + 1 : Nat) : Int)])
    (hR : R [.bool (b0 || badW wd), .int (wd.length : Nat)]) : Rounds B R [.bool b0, .int 0] := by
  refine rounds_inv (fun y => ∃ (b : Bool) (i : Nat), y = [.bool b, .int i] ∧ i ≤ wd.length ∧ (b || badW (wd.drop i)) = (b0 || badW wd)) (fun y => wd.length - ((y[1]?).getD (DV.int 0)).i.toNat) ⟨b0, 0, rfl, Nat.zero_le _, rfl⟩ ?_
  rintro y ⟨b, i, rfl, hi, h⟩
  by_cases g1 : wd.length ≤ i
  · have : i = wd.length := by omega
    subst this
    rw [List.drop_eq_nil_of_le (Nat.le_refl _)] at h
    have hb : badW [] = false := rfl
    rw [hb, Bool.or_false] at h
    subst h
    exact .inl hR
  · rw [List.drop_eq_getElem_cons (by omega)] at h
    have e : wd[i]?.getD (0, 0) = wd[i] := by rw [List.getElem?_eq_getElem (by omega)]; rfl
    refine .inr ⟨_, hB b i (by omega), rfl, ⟨_, i + 1, rfl, by omega, ?_⟩, ?_⟩
    · rw [e, ← h]
      unfold badW
      rw [List.any_cons, Bool.or_assoc]
    · show wd.length - ((i + 1 : Nat) : Int).toNat < wd.length - (i : Int).toNat
      omega
end
end Go.Proofs.Ytolphdchkbcoeaa
