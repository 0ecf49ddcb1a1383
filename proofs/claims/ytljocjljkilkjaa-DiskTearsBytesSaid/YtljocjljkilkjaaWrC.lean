/- Devices after a list of commands. -/
import Derived.Test.YtljocjljkilkjaaWritten
import Derived.Test.YtljocjljkilkjaaUndone
import Derived.Test.YtljocjljkilkjaaDRight
import Derived.Test.YtljocjljkilkjaaBd
namespace Go.Proofs.Ytljocjljkilkjaa
/-- The last write to a sector. -/
def lastM (d : List Tis) (a : Int) : List UInt8 := d.foldl (fun b w => if w.1 = a then w.2 else b) noughtM
theorem last_snoc (d : List Tis) (w : Tis) (a : Int) : lastM (d ++ [w]) a = if w.1 = a then w.2 else lastM d a := by unfold lastM; rw [List.foldl_append]; rfl
theorem full_len (c : Int) : (fullM c).length = 32 := by simp [fullM]
/-- Commands within their bounds succeed; what is read is what was written last; the device stays right. -/
theorem wrM_law {n : Int} (h0 : 1 ≤ n) (h1 : n ≤ 512) : ∀ (l : List Int) (s : List (List UInt8)) (w d : List Tis), (∀ c ∈ l, 0 ≤ c ∧ c ≤ 255) → (s.length : Int) = n → (∀ a : Nat, (a : Int) < n → s[a]?.getD [] = lastM d a) → rightDM s w = true →
    (wrM n l s w d).2.2.2 = true ∧ ((wrM n l s w d).1.length : Int) = n ∧ (∀ a : Nat, (a : Int) < n → (wrM n l s w d).1[a]?.getD [] = lastM (wrM n l s w d).2.2.1 a) ∧ rightDM (wrM n l s w d).1 (wrM n l s w d).2.1 = true
  | [], s, w, d, hl, hs, hr, hg => ⟨rfl, hs, hr, hg⟩
  | c :: r, s, w, d, hl, hs, hr, hg => by
    have hr' : ∀ c ∈ r, 0 ≤ c ∧ c ≤ 255 := fun c hc => hl c (List.mem_cons_of_mem _ hc)
    unfold wrM
    by_cases h : c = 255
    · rw [if_pos h]
      refine wrM_law h0 h1 r s [] d hr' hs hr ?_
      unfold rightDM at hg ⊢
      simp only [Bool.and_eq_true] at hg
      rw [hg.1, hg.2.1]
      rfl
    · rw [if_neg h]
      obtain ⟨c0, c1⟩ := hl c (by simp)
      have ha : (IntKind.i64.wrap c).tmod n = c % n := by rw [w64 (by omega) (by omega)]; exact Int.tmod_eq_emod_of_nonneg c0
      have ha0 := Int.emod_nonneg c (show n ≠ 0 by omega)
      have ha1 := Int.emod_lt_of_pos c (show 0 < n by omega)
      rw [ha]
      generalize c % n = a at ha0 ha1 ⊢
      have hw : writeM s w a (fullM c) = (s.set a.toNat (fullM c), w ++ [(a, s[a.toNat]?.getD [])], 0) := by
        unfold writeM
        rw [if_pos ⟨ha0, by omega⟩, if_pos (by rw [full_len]; rfl)]
      rw [hw]
      simp only [if_true]
      have hal : a.toNat < s.length := by omega
      refine wrM_law h0 h1 r _ _ _ hr' (by rw [List.length_set]; exact hs) (fun b hb => ?_) ?_
      · rw [last_snoc]
        by_cases e : a = (b : Int)
        · have : a.toNat = b := by omega
          rw [if_pos e, this, List.getElem?_set_self (by omega)]
          rfl
        · rw [if_neg e, List.getElem?_set_ne (by omega)]
          exact hr b hb
      · unfold rightDM at hg ⊢
        simp only [Bool.and_eq_true] at hg ⊢
        obtain ⟨g1, g2, g3⟩ := hg
        have hsa := right_sec (sec := s) (was := w) (by unfold rightDM; simp only [Bool.and_eq_true]; exact ⟨g1, g2, g3⟩) hal
        refine ⟨by rw [List.length_set]; exact g1, ?_, ?_⟩
        · rw [List.all_eq_true] at g2 ⊢
          intro x hx
          rcases List.mem_or_eq_of_mem_set hx with hx | rfl
          · exact g2 x hx
          · exact decide_eq_true (by rw [full_len]; rfl)
        · rw [List.length_set, List.all_append, g3, Bool.true_and]
          simp only [List.all_cons, List.all_nil, Bool.and_true]
          exact decide_eq_true ⟨ha0, by omega, hsa⟩
theorem wrM_wlen (n : Int) : ∀ (l : List Int) (s : List (List UInt8)) (w d : List Tis), (wrM n l s w d).2.1.length ≤ w.length + l.length ∧ (wrM n l s w d).2.2.1.length ≤ d.length + l.length
  | [], s, w, d => ⟨Nat.le_refl _, Nat.le_refl _⟩
  | c :: r, s, w, d => by
    have hml : (writeM s w ((IntKind.i64.wrap c).tmod n) (fullM c)).2.1.length ≤ w.length + 1 := by
      unfold writeM
      split
      · split <;> simp
      · simp
    unfold wrM
    split
    · have := wrM_wlen n r s [] d
      simp only [List.length_cons, List.length_nil] at this ⊢
      omega
    · split
      · have := wrM_wlen n r (writeM s w ((IntKind.i64.wrap c).tmod n) (fullM c)).1 (writeM s w ((IntKind.i64.wrap c).tmod n) (fullM c)).2.1 (d ++ [((IntKind.i64.wrap c).tmod n, fullM c)])
        simp only [List.length_cons, List.length_append, List.length_nil] at this ⊢
        omega
      · simp only [List.length_cons, List.length_append, List.length_nil]
        omega
theorem new_law {n : Int} (h0 : 1 ≤ n) (h1 : n ≤ 512) : ((newM n).length : Int) = n ∧ (∀ a : Nat, (a : Int) < n → (newM n)[a]?.getD [] = lastM [] a) ∧ rightDM (newM n) [] = true := by
  have e : newM n = List.replicate n.toNat noughtM := by unfold newM; rw [if_pos (by omega)]
  rw [e]
  refine ⟨by simp; omega, fun a ha => ?_, ?_⟩
  · rw [List.getElem?_replicate, if_pos (by omega)]; rfl
  · unfold rightDM
    simp only [Bool.and_eq_true]
    refine ⟨decide_eq_true (by simp; omega), ?_, rfl⟩
    rw [List.all_eq_true]
    intro x hx
    rw [(List.mem_replicate.1 hx).2]
    rfl
end Go.Proofs.Ytljocjljkilkjaa
