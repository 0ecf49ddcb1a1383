/- What a crash leaves of each byte. -/
import Derived.Test.YtljocjljkilkjaaWrC
import Derived.Test.YtljocjljkilkjaaRCrash
import Derived.Test.YtljocjljkilkjaaBd
namespace Go.Proofs.Ytljocjljkilkjaa
set_option linter.unusedVariables false
theorem synced_push_at {sec : List (List UInt8)} {was : List Tis} {a : Int} {b : List UInt8} (h0 : 0 ≤ a) (j : Nat) (hj : j ≤ was.length) (x : Nat) : syncedM (sec.set a.toNat b) (was ++ [(a, sec[a.toNat]?.getD [])]) j x = syncedM sec was j x := by
  unfold syncedM
  rw [List.drop_append_of_le_length hj, List.find?_append]
  cases hf : (was.drop j).find? (fun w => decide (w.1 = (x : Int))) with
  | some w => rfl
  | none =>
    simp only [Option.none_or, List.find?_cons, List.find?_nil]
    by_cases e : a = (x : Int)
    · have : a.toNat = x := by omega
      simp only [e, decide_true, Int.toNat_natCast]
    · simp only [e, decide_false, Int.toNat_natCast]
      rw [List.getElem?_set_ne (by omega)]
/-- Writes one after the other. -/
def kM (n : Int) (more : List Int) (sec : List (List UInt8)) : Nat → List (List UInt8) × List Tis
  | 0 => (sec, [])
  | i + 1 => ((kM n more sec i).1.set ((more[i]?.getD 0) % n).toNat (fullM (more[i]?.getD 0)), (kM n more sec i).2 ++ [((more[i]?.getD 0) % n, (kM n more sec i).1[((more[i]?.getD 0) % n).toNat]?.getD [])])
theorem kM_len (n : Int) (more : List Int) (sec : List (List UInt8)) : ∀ i, (kM n more sec i).1.length = sec.length ∧ (kM n more sec i).2.length = i
  | 0 => ⟨rfl, rfl⟩
  | i + 1 => by
    obtain ⟨h1, h2⟩ := kM_len n more sec i
    unfold kM
    exact ⟨by rw [List.length_set]; exact h1, by rw [List.length_append, h2]; rfl⟩
theorem kM_at (n : Int) (more : List Int) (sec : List (List UInt8)) : ∀ i j, j < i → ((kM n more sec i).2[j]?.getD dis).1 = (more[j]?.getD 0) % n
  | 0, j, hj => by omega
  | i + 1, j, hj => by
    have hl := (kM_len n more sec i).2
    unfold kM
    by_cases hji : j = i
    · subst hji
      rw [List.getElem?_append_right (by omega), hl, Nat.sub_self]
      rfl
    · rw [List.getElem?_append_left (by omega)]
      exact kM_at n more sec i j (by omega)
/-- What the sectors held ahead of the writes. -/
theorem kM_old {n : Int} (h0 : 1 ≤ n) {more : List Int} {sec : List (List UInt8)} (hs : (sec.length : Int) = n) (a : Nat) : ∀ i, syncedM (kM n more sec i).1 (kM n more sec i).2 0 a = sec[a]?.getD []
  | 0 => by
    have := synced_end sec [] a
    simpa [kM] using this
  | i + 1 => by
    have ha0 := Int.emod_nonneg (more[i]?.getD 0) (show n ≠ 0 by omega)
    have ha1 := Int.emod_lt_of_pos (more[i]?.getD 0) (show 0 < n by omega)
    unfold kM
    rw [synced_push_at ha0 0 (Nat.zero_le _)]
    exact kM_old h0 hs a i
/-- What a write wrote. -/
theorem kM_new {n : Int} (h0 : 1 ≤ n) {more : List Int} {sec : List (List UInt8)} (hs : (sec.length : Int) = n) (i : Nat) (a : Nat) (ha : (more[i]?.getD 0) % n = (a : Int)) : ∀ m, i < m → syncedM (kM n more sec m).1 (kM n more sec m).2 (i + 1) a = fullM (more[i]?.getD 0)
  | 0, h => by omega
  | m + 1, h => by
    have ha0 := Int.emod_nonneg (more[m]?.getD 0) (show n ≠ 0 by omega)
    have ha1 := Int.emod_lt_of_pos (more[m]?.getD 0) (show 0 < n by omega)
    obtain ⟨l1, l2⟩ := kM_len n more sec m
    by_cases e : i = m
    · subst e
      have hl : (kM n more sec (i + 1)).2.length = i + 1 := (kM_len n more sec (i + 1)).2
      have := synced_end (kM n more sec (i + 1)).1 (kM n more sec (i + 1)).2 a
      rw [hl] at this
      rw [this, Int.toNat_natCast]
      unfold kM
      rw [ha, Int.toNat_natCast, List.getElem?_set_self (by omega)]
      rfl
    · unfold kM
      rw [synced_push_at ha0 (i + 1) (by omega)]
      exact kM_new h0 hs i a ha m (by omega)
theorem kM_right {n : Int} (h0 : 1 ≤ n) (h1 : n ≤ 512) {more : List Int} {sec : List (List UInt8)} (hs : (sec.length : Int) = n) (hg : rightDM sec [] = true) : ∀ i, rightDM (kM n more sec i).1 (kM n more sec i).2 = true
  | 0 => hg
  | i + 1 => by
    have ha0 := Int.emod_nonneg (more[i]?.getD 0) (show n ≠ 0 by omega)
    have ha1 := Int.emod_lt_of_pos (more[i]?.getD 0) (show 0 < n by omega)
    have ih := kM_right h0 h1 hs hg (more := more) i
    obtain ⟨l1, l2⟩ := kM_len n more sec i
    unfold kM
    generalize (more[i]?.getD 0) % n = a at *
    have hal : a.toNat < (kM n more sec i).1.length := by omega
    have hsa := right_sec ih hal
    unfold rightDM at ih ⊢
    simp only [Bool.and_eq_true] at ih ⊢
    obtain ⟨g1, g2, g3⟩ := ih
    refine ⟨by rw [List.length_set]; exact g1, ?_, ?_⟩
    · rw [List.all_eq_true] at g2 ⊢
      intro x hx
      rcases List.mem_or_eq_of_mem_set hx with hx | rfl
      · exact g2 x hx
      · exact decide_eq_true (by rw [full_len]; rfl)
    · rw [List.length_set, List.all_append, g3, Bool.true_and]
      simp only [List.all_cons, List.all_nil, Bool.and_true]
      exact decide_eq_true ⟨ha0, by omega, hsa⟩
/-- Each byte behind a crash is that of the last sync or that of a write since then. -/
theorem crash_byte {sec : List (List UInt8)} {was : List Tis} (cuts : List Int) (hr : rightDM sec was = true) (a : Nat) (ha : a < sec.length) (k : Nat) (hk : k < 32) : ∀ i, i ≤ was.length →
    ((crashM sec was cuts i)[a]?.getD [])[k]?.getD 0 = (syncedM sec was 0 a)[k]?.getD 0 ∨ ∃ j, j < i ∧ (was[j]?.getD dis).1 = (a : Int) ∧ ((crashM sec was cuts i)[a]?.getD [])[k]?.getD 0 = (syncedM sec was (j + 1) a)[k]?.getD 0
  | 0, _ => by
    left
    show ((allSyncedM sec was 0)[a]?.getD [])[k]?.getD 0 = _
    rw [allSynced_get ha]
  | i + 1, hi => by
    obtain ⟨w0, w1, w2⟩ := right_was hr (show i < was.length by omega)
    have ih := crash_byte cuts hr a ha k hk i (by omega)
    unfold crashM
    by_cases e : a = (was[i]?.getD dis).1.toNat
    · have hwa : (was[i]?.getD dis).1 = (a : Int) := by omega
      rw [hwa, Int.toNat_natCast, List.getElem?_set_self (by rw [crash_len]; exact ha)]
      have h1 := crash_32 cuts hr i (by omega) a ha
      have h2 := synced_len hr (i + 1) ha
      have h3 := cut_le cuts i
      generalize (crashM sec was cuts i)[a]?.getD [] = p at *
      simp only [Option.getD_some]
      by_cases hc : k < cutM cuts i
      · right
        refine ⟨i, by omega, hwa, ?_⟩
        rw [List.getElem?_append_left (by rw [List.length_take]; omega), List.getElem?_take, if_pos hc]
      · have : (List.take (cutM cuts i) (syncedM sec was (i + 1) a) ++ List.drop (cutM cuts i) p)[k]? = p[k]? := by
          rw [List.getElem?_append_right (by rw [List.length_take]; omega), List.getElem?_drop, List.length_take]
          congr 1
          omega
        rw [this]
        rcases ih with ih | ⟨j, h4, h5, h6⟩
        · exact .inl ih
        · exact .inr ⟨j, by omega, h5, h6⟩
    · rw [List.getElem?_set_ne (by omega)]
      rcases ih with ih | ⟨j, h4, h5, h6⟩
      · exact .inl ih
      · exact .inr ⟨j, by omega, h5, h6⟩
theorem wrM_app (n : Int) : ∀ (a b : List Int) (s : List (List UInt8)) (w d : List Tis), (wrM n a s w d).2.2.2 = true → wrM n (a ++ b) s w d = wrM n b (wrM n a s w d).1 (wrM n a s w d).2.1 (wrM n a s w d).2.2.1
  | [], b, s, w, d, _ => rfl
  | c :: r, b, s, w, d, h => by
    rw [List.cons_append]
    have e : ∀ r', wrM n (c :: r') s w d = if c = 255 then wrM n r' s [] d else if (writeM s w ((IntKind.i64.wrap c).tmod n) (fullM c)).2.2 = 0 then wrM n r' (writeM s w ((IntKind.i64.wrap c).tmod n) (fullM c)).1 (writeM s w ((IntKind.i64.wrap c).tmod n) (fullM c)).2.1 (d ++ [((IntKind.i64.wrap c).tmod n, fullM c)]) else ((writeM s w ((IntKind.i64.wrap c).tmod n) (fullM c)).1, (writeM s w ((IntKind.i64.wrap c).tmod n) (fullM c)).2.1, d ++ [((IntKind.i64.wrap c).tmod n, fullM c)], false) := fun _ => rfl
    rw [e] at h
    rw [e, e]
    by_cases hc : c = 255
    · simp only [if_pos hc] at h ⊢
      exact wrM_app n r b s [] d h
    · simp only [if_neg hc] at h ⊢
      by_cases hz : (writeM s w ((IntKind.i64.wrap c).tmod n) (fullM c)).2.2 = 0
      · simp only [if_pos hz] at h ⊢
        exact wrM_app n r b _ _ _ h
      · simp only [if_neg hz] at h
        cases h
def putW (n c : Int) : Tis := (c % n, fullM c)
/-- Writes without a sync. -/
theorem wrM_kM {n : Int} (h0 : 1 ≤ n) {l : List Int} {s : List (List UInt8)} (hs : (s.length : Int) = n) (d : List Tis) (hl : ∀ c ∈ l, 0 ≤ c ∧ c ≤ 255) (hn : ∀ c ∈ l, c ≠ 255) : ∀ i, i ≤ l.length → wrM n (l.take i) s [] d = ((kM n l s i).1, (kM n l s i).2, d ++ (l.take i).map (putW n), true)
  | 0, _ => by simp [wrM, kM]
  | i + 1, hi => by
    have ih := wrM_kM h0 hs d hl hn i (by omega)
    have hm : l[i]?.getD 0 ∈ l := by rw [List.getElem?_eq_getElem (by omega)]; exact List.getElem_mem _
    have e : l.take (i + 1) = l.take i ++ [l[i]?.getD 0] := by rw [List.take_add_one, List.getElem?_eq_getElem (by omega)]; rfl
    rw [e, wrM_app n _ _ _ _ _ (by rw [ih]), ih]
    have ek : kM n l s (i + 1) = ((kM n l s i).1.set ((l[i]?.getD 0) % n).toNat (fullM (l[i]?.getD 0)), (kM n l s i).2 ++ [((l[i]?.getD 0) % n, (kM n l s i).1[((l[i]?.getD 0) % n).toNat]?.getD [])]) := rfl
    rw [ek]
    obtain ⟨l1, l2⟩ := kM_len n l s i
    generalize l[i]?.getD 0 = c at *
    obtain ⟨c0, c1⟩ := hl c hm
    have ha : (IntKind.i64.wrap c).tmod n = c % n := by rw [w64 (by omega) (by omega)]; exact Int.tmod_eq_emod_of_nonneg c0
    have ha0 := Int.emod_nonneg c (show n ≠ 0 by omega)
    have ha1 := Int.emod_lt_of_pos c (show 0 < n by omega)
    have hw : writeM (kM n l s i).1 (kM n l s i).2 (c % n) (fullM c) = ((kM n l s i).1.set (c % n).toNat (fullM c), (kM n l s i).2 ++ [(c % n, (kM n l s i).1[(c % n).toNat]?.getD [])], 0) := by
      unfold writeM
      rw [if_pos ⟨ha0, by omega⟩, if_pos (by rw [full_len]; rfl)]
    show wrM n [c] _ _ _ = _
    unfold wrM
    rw [if_neg (hn c hm), ha, hw]
    simp only [if_true, wrM, List.map_append, List.map_cons, List.map_nil, List.append_assoc]
    rfl
/-- Where the last sync ends. -/
def lstM (l : List Int) : Nat → Nat
  | 0 => 0
  | i + 1 => if l[i]?.getD 0 = 255 then i + 1 else lstM l i
theorem lst_le (l : List Int) : ∀ i, lstM l i ≤ i
  | 0 => Nat.le_refl _
  | i + 1 => by unfold lstM; split; omega; have := lst_le l i; omega
theorem lst_end (l : List Int) : ∀ i, lstM l i = 0 ∨ ∃ j, lstM l i = j + 1 ∧ l[j]?.getD 0 = 255
  | 0 => .inl rfl
  | i + 1 => by
    unfold lstM
    split
    · exact .inr ⟨i, rfl, by assumption⟩
    · exact lst_end l i
theorem lst_past (l : List Int) : ∀ i j, lstM l i ≤ j → j < i → l[j]?.getD 0 ≠ 255
  | 0, j, _, h => by omega
  | i + 1, j, h, hj => by
    unfold lstM at h
    split at h
    · omega
    · rename_i hc
      by_cases e : j = i
      · subst e; exact hc
      · exact lst_past l i j h (by omega)
end Go.Proofs.Ytljocjljkilkjaa
