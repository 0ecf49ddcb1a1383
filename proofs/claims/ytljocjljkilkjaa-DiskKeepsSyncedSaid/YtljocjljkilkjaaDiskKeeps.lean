/- DiskKeepsSynced: the law returns true for every input, and each argument reads afterwards as it read before. No condition. -/
import Derived.Test.YtljocjljkilkjaaDSane
import Derived.Test.YtljocjljkilkjaaWritten
import Derived.Test.YtljocjljkilkjaaDSync
import Derived.Test.YtljocjljkilkjaaDWrite
import Derived.Test.YtljocjljkilkjaaDFull
import Derived.Test.YtljocjljkilkjaaRDRight
import Derived.Test.YtljocjljkilkjaaDCrash
import Derived.Test.YtljocjljkilkjaaDRead
import Derived.Test.YtljocjljkilkjaaRDSame
import Derived.Test.YtljocjljkilkjaaWrC
import Derived.Test.YtljocjljkilkjaaBd
import Derived.Test.YtljocjljkilkjaaOpen
namespace Go.Proofs.Ytljocjljkilkjaa
set_option linter.unusedVariables false
set_option linter.unusedSimpArgs false
set_option maxRecDepth 100000

theorem synced_push {sec : List (List UInt8)} {was : List Tis} {a : Int} {b : List UInt8} (h0 : 0 ≤ a) (h1 : a < sec.length) (x : Nat) : syncedM (sec.set a.toNat b) (was ++ [(a, sec[a.toNat]?.getD [])]) 0 x = syncedM sec was 0 x := by
  unfold syncedM
  rw [List.drop_zero, List.drop_zero, List.find?_append]
  cases hf : was.find? (fun w => decide (w.1 = (x : Int))) with
  | some w => rfl
  | none =>
    simp only [Option.none_or, List.find?_cons, List.find?_nil]
    by_cases e : a = (x : Int)
    · have : a.toNat = x := by omega
      simp only [e, decide_true, Int.toNat_natCast]
    · simp only [e, decide_false, Int.toNat_natCast]
      rw [List.getElem?_set_ne (by omega)]
theorem allSynced_push {sec : List (List UInt8)} {was : List Tis} {a : Int} {b : List UInt8} (h0 : 0 ≤ a) (h1 : a < sec.length) : allSyncedM (sec.set a.toNat b) (was ++ [(a, sec[a.toNat]?.getD [])]) 0 = allSyncedM sec was 0 := by
  unfold allSyncedM
  rw [List.length_set]
  apply List.map_congr_left
  intro x _
  exact synced_push h0 h1 x
/-- Writes one after the other. -/
def kM (n : Int) (more : List Int) (sec : List (List UInt8)) : Nat → List (List UInt8) × List Tis
  | 0 => (sec, [])
  | i + 1 => ((kM n more sec i).1.set ((more[i]?.getD 0) % n).toNat (fullM (more[i]?.getD 0)), (kM n more sec i).2 ++ [((more[i]?.getD 0) % n, (kM n more sec i).1[((more[i]?.getD 0) % n).toNat]?.getD [])])
theorem kM_len (n : Int) (more : List Int) (sec : List (List UInt8)) : ∀ i, (kM n more sec i).1.length = sec.length ∧ (kM n more sec i).2.length = i
  | 0 => ⟨rfl, rfl⟩
  | i + 1 => by
    obtain ⟨h1, h2⟩ := kM_len n more sec i
    unfold kM
    exact ⟨by rw [List.length_set]; exact h1, by rw [List.length_append, h2]; rfl⟩
theorem kM_synced {n : Int} (h0 : 1 ≤ n) {more : List Int} {sec : List (List UInt8)} (hs : (sec.length : Int) = n) : ∀ i, allSyncedM (kM n more sec i).1 (kM n more sec i).2 0 = sec
  | 0 => allSynced_end sec []
  | i + 1 => by
    have ha0 := Int.emod_nonneg (more[i]?.getD 0) (show n ≠ 0 by omega)
    have ha1 := Int.emod_lt_of_pos (more[i]?.getD 0) (show 0 < n by omega)
    unfold kM
    rw [allSynced_push ha0 (by rw [(kM_len n more sec i).1]; omega)]
    exact kM_synced h0 hs i
/-- With all cuts zero nothing comes through. -/
theorem crash_zero {sec : List (List UInt8)} {was : List Tis} {cuts : List Int} (hr : rightDM sec was = true) (hc : ∀ i, i < was.length → cutM cuts i = 0) : ∀ i, i ≤ was.length → crashM sec was cuts i = allSyncedM sec was 0
  | 0, _ => rfl
  | i + 1, hi => by
    obtain ⟨w0, w1, _⟩ := right_was hr (show i < was.length by omega)
    unfold crashM
    rw [hc i (by omega), crash_zero hr hc i (by omega), List.take_zero, List.drop_zero, List.nil_append]
    exact set_same _ _ _ (by rw [allSynced_len]; omega)
/-- Without cuts all comes through. -/
theorem crash_all {sec : List (List UInt8)} {was : List Tis} (hr : rightDM sec was = true) : ∀ i, i ≤ was.length → crashM sec was [] i = allSyncedM sec was i
  | 0, _ => rfl
  | i + 1, hi => by
    obtain ⟨w0, w1, _⟩ := right_was hr (show i < was.length by omega)
    have hwn : (was[i]?.getD dis).1.toNat < sec.length := by omega
    have hcut : cutM [] i = 32 := by unfold cutM; rw [if_pos (by simp)]
    unfold crashM
    rw [hcut, crash_all hr i (by omega)]
    have h1 : (syncedM sec was (i + 1) (was[i]?.getD dis).1).length = 32 := by
      have := synced_len hr (i + 1) hwn
      rw [show (((was[i]?.getD dis).1.toNat : Nat) : Int) = (was[i]?.getD dis).1 by omega] at this
      exact this
    have h2 : ((allSyncedM sec was i)[(was[i]?.getD dis).1.toNat]?.getD []).length = 32 := by rw [allSynced_get hwn]; exact synced_len hr i hwn
    rw [List.take_of_length_le (by omega), List.drop_of_length_le (by omega), List.append_nil]
    apply List.ext_getElem?
    intro x
    by_cases hx : x < sec.length
    · have e : (allSyncedM sec was (i + 1))[x]? = some (syncedM sec was (i + 1) x) := by simp [allSyncedM, hx]
      have e' : (allSyncedM sec was i)[x]? = some (syncedM sec was i x) := by simp [allSyncedM, hx]
      by_cases hw : x = (was[i]?.getD dis).1.toNat
      · subst hw
        rw [List.getElem?_set_self (by rw [allSynced_len]; exact hx), e]
        rw [show (((was[i]?.getD dis).1.toNat : Nat) : Int) = (was[i]?.getD dis).1 by omega]
      · rw [List.getElem?_set_ne (by omega), e, e', synced_step (show i < was.length by omega), if_neg (by omega)]
    · rw [List.getElem?_eq_none (by rw [List.length_set, allSynced_len]; omega), List.getElem?_eq_none (by rw [allSynced_len]; omega)]
/-- A sector that was not written keeps what it held. -/
theorem crash_un {sec : List (List UInt8)} {was : List Tis} {cuts : List Int} {a : Nat} (ha : a < sec.length) (hr : rightDM sec was = true) (hu : ∀ i, i < was.length → (was[i]?.getD dis).1 ≠ (a : Int)) : ∀ i, i ≤ was.length → (crashM sec was cuts i)[a]?.getD [] = sec[a]?.getD []
  | 0, _ => by
    show (allSyncedM sec was 0)[a]?.getD [] = _
    rw [allSynced_get ha, synced_none 0 (Nat.zero_le _) (fun j _ h => hu j h)]
    simp
  | i + 1, hi => by
    obtain ⟨w0, w1, _⟩ := right_was hr (show i < was.length by omega)
    have := hu i (by omega)
    unfold crashM
    rw [List.getElem?_set_ne (by omega)]
    exact crash_un ha hr hu i (by omega)
theorem kM_right {n : Int} (h0 : 1 ≤ n) (h1 : n ≤ 512) {more : List Int} {sec : List (List UInt8)} (hs : (sec.length : Int) = n) (hg : rightDM sec [] = true) : ∀ i, rightDM (kM n more sec i).1 (kM n more sec i).2 = true
  | 0 => hg
  | i + 1 => by
    have ha0 := Int.emod_nonneg (more[i]?.getD 0) (show n ≠ 0 by omega)
    have ha1 := Int.emod_lt_of_pos (more[i]?.getD 0) (show 0 < n by omega)
    have ih := kM_right h0 h1 hs hg (more := more) i
    obtain ⟨l1, l2⟩ := kM_len n more sec i
    unfold kM
    generalize (more[i]?.getD 0) % n = a at *
    have hal : a.toNat < (kM n more sec i).1.length := by omega
    have hsa := right_sec ih hal
    unfold rightDM at ih ⊢
    simp only [Bool.and_eq_true] at ih ⊢
    obtain ⟨g1, g2, g3⟩ := ih
    refine ⟨by rw [List.length_set]; exact g1, ?_, ?_⟩
    · rw [List.all_eq_true] at g2 ⊢
      intro x hx
      rcases List.mem_or_eq_of_mem_set hx with hx | rfl
      · exact g2 x hx
      · exact decide_eq_true (by rw [full_len]; rfl)
    · rw [List.length_set, List.all_append, g3, Bool.true_and]
      simp only [List.all_cons, List.all_nil, Bool.and_true]
      exact decide_eq_true ⟨ha0, by omega, hsa⟩
/-- Which sectors were written. -/
def tchM (n : Int) (more : List Int) : Nat → List DV
  | 0 => List.replicate n.toNat (DV.bool false)
  | i + 1 => (tchM n more i).set ((more[i]?.getD 0) % n).toNat (DV.bool true)
theorem tch_len (n : Int) (more : List Int) : ∀ i, (tchM n more i).length = n.toNat
  | 0 => by simp [tchM]
  | i + 1 => by unfold tchM; rw [List.length_set]; exact tch_len n more i
theorem tch_un {n : Int} (h0 : 1 ≤ n) {more : List Int} {a : Nat} (ha : (a : Int) < n) : ∀ i, ((tchM n more i)[a]?.getD (DV.int 0)).b = false → ∀ j, j < i → (more[j]?.getD 0) % n ≠ (a : Int)
  | 0, _, j, hj => by omega
  | i + 1, h, j, hj => by
    have ha0 := Int.emod_nonneg (more[i]?.getD 0) (show n ≠ 0 by omega)
    unfold tchM at h
    by_cases e : (more[i]?.getD 0) % n = (a : Int)
    · have : ((more[i]?.getD 0) % n).toNat = a := by omega
      rw [this, List.getElem?_set_self (by rw [tch_len]; omega)] at h
      cases h
    · rw [List.getElem?_set_ne (by omega)] at h
      by_cases hji : j = i
      · rw [hji]; exact e
      · exact tch_un h0 ha i h j (by omega)
theorem kM_at (n : Int) (more : List Int) (sec : List (List UInt8)) : ∀ i j, j < i → ((kM n more sec i).2[j]?.getD dis).1 = (more[j]?.getD 0) % n
  | 0, j, hj => by omega
  | i + 1, j, hj => by
    have hl := (kM_len n more sec i).2
    unfold kM
    by_cases hji : j = i
    · subst hji
      rw [List.getElem?_append_right (by omega), hl, Nat.sub_self]
      rfl
    · rw [List.getElem?_append_left (by omega)]
      exact kM_at n more sec i j (by omega)
theorem kM_un {n : Int} (h0 : 1 ≤ n) {more : List Int} {sec : List (List UInt8)} {a : Nat} : ∀ i, (∀ j, j < i → (more[j]?.getD 0) % n ≠ (a : Int)) → (kM n more sec i).1[a]?.getD [] = sec[a]?.getD []
  | 0, _ => rfl
  | i + 1, h => by
    have ha0 := Int.emod_nonneg (more[i]?.getD 0) (show n ≠ 0 by omega)
    have := h i (by omega)
    unfold kM
    rw [List.getElem?_set_ne (by omega)]
    exact kM_un h0 i fun j hj => h j (by omega)
theorem crash_right {sec : List (List UInt8)} {was : List Tis} (cuts : List Int) (hr : rightDM sec was = true) : rightDM (crashM sec was cuts was.length) [] = true := by
  have hr' := hr
  unfold rightDM at hr ⊢
  simp only [Bool.and_eq_true] at hr ⊢
  refine ⟨by rw [crash_len]; exact hr.1, ?_, rfl⟩
  rw [List.all_eq_true]
  intro x hx
  obtain ⟨a, ha, rfl⟩ := List.getElem_of_mem hx
  rw [crash_len] at ha
  have := crash_32 cuts hr' was.length (Nat.le_refl _) a ha
  rw [List.getElem?_eq_getElem (by rw [crash_len]; exact ha)] at this
  simp only [Option.getD_some] at this
  exact decide_eq_true (by omega)
theorem cut_none (m i : Nat) (h : i < m) : cutM (List.replicate m 0) i = 0 := by
  unfold cutM
  rw [if_neg (by simp; omega), List.getElem?_replicate, if_pos h]
  rfl
theorem read_in {s : List (List UInt8)} {n : Int} (hs : (s.length : Int) = n) {a : Nat} (ha : (a : Int) < n) : readDM s a = (s[a]?.getD [], 0) := by
  unfold readDM
  rw [if_pos (by omega), Int.toNat_natCast]

def diskKeepsF (ds : List DV) : List DV := [.bool true]
/-- What the executor makes of it. -/
def diskKeepsTree : PT :=
(.br (.un .not (.bin .le (.un .len (.var 1)) (.int 30)))
 (.leaf [(.bin .idx (.fn 88 .nil) (.int 0))])
 (.br (.un .not (.bin .le (.un .len (.var 2)) (.int 30)))
  (.leaf [(.bin .idx (.fn 88 .nil) (.int 0))])
  (.br (.un .not (.bin .le (.un .len (.var 3)) (.int 40)))
   (.leaf [(.bin .idx (.fn 88 .nil) (.int 0))])
   (.asrt (.bin .le (.int 1) (.un (.wrap .i64) (.bin .add (.int 1) (.bin .tmod (.un (.wrap .i64) (.var 0)) (.int 6)))))
    (.asrt (.bin .le (.un (.wrap .i64) (.bin .add (.int 1) (.bin .tmod (.un (.wrap .i64) (.var 0)) (.int 6)))) (.int 512))
     (.asrt (.bin .le (.un .len (.bin .idx (.fn 87 (.bin .cons (.un (.wrap .i64) (.bin .add (.int 1) (.bin .tmod (.un (.wrap .i64) (.var 0)) (.int 6)))) (.bin .cons (.var 1) .nil))) (.int 0))) (.int 1000000))
      (.loop 4 [(.int 0), (.bin .rep (.un (.wrap .i64) (.bin .add (.int 1) (.bin .tmod (.un (.wrap .i64) (.var 0)) (.int 6)))) (.bool false)), (.bin .idx (.fn 81 (.bin .cons (.bin .idx (.fn 87 (.bin .cons (.un (.wrap .i64) (.bin .add (.int 1) (.bin .tmod (.un (.wrap .i64) (.var 0)) (.int 6)))) (.bin .cons (.var 1) .nil))) (.int 0)) (.bin .cons (.bin .idx (.fn 87 (.bin .cons (.un (.wrap .i64) (.bin .add (.int 1) (.bin .tmod (.un (.wrap .i64) (.var 0)) (.int 6)))) (.bin .cons (.var 1) .nil))) (.int 1)) .nil))) (.int 0)), (.bin .idx (.fn 81 (.bin .cons (.bin .idx (.fn 87 (.bin .cons (.un (.wrap .i64) (.bin .add (.int 1) (.bin .tmod (.un (.wrap .i64) (.var 0)) (.int 6)))) (.bin .cons (.var 1) .nil))) (.int 0)) (.bin .cons (.bin .idx (.fn 87 (.bin .cons (.un (.wrap .i64) (.bin .add (.int 1) (.bin .tmod (.un (.wrap .i64) (.var 0)) (.int 6)))) (.bin .cons (.var 1) .nil))) (.int 1)) .nil))) (.int 1))]
       (.br (.un .not (.bin .le (.un .len (.var 2)) (.var 4)))
        (.asrt (.bin .le (.int 0) (.var 4))
         (.asrt (.bin .le (.un .len (.var 6)) (.int 1000000))
          (.asrt (.bin .le (.un .len (.var 7)) (.int 1000000))
           (.br (.un .not (.bin .eq (.bin .idx (.fn 79 (.bin .cons (.var 6) (.bin .cons (.var 7) (.bin .cons (.bin .tmod (.un (.wrap .i64) (.bin .idx (.var 2) (.bin .add (.int 0) (.var 4)))) (.un (.wrap .i64) (.bin .add (.int 1) (.bin .tmod (.un (.wrap .i64) (.var 0)) (.int 6))))) (.bin .cons (.bin .idx (.fn 67 (.bin .cons (.bin .idx (.var 2) (.bin .add (.int 0) (.var 4))) .nil)) (.int 0)) .nil))))) (.int 2)) (.int 0)))
            .fail
            (.asrt (.bin .le (.int 0) (.bin .tmod (.un (.wrap .i64) (.bin .idx (.var 2) (.bin .add (.int 0) (.var 4)))) (.un (.wrap .i64) (.bin .add (.int 1) (.bin .tmod (.un (.wrap .i64) (.var 0)) (.int 6))))))
             (.asrt (.un .not (.bin .le (.un (.wrap .i64) (.bin .add (.int 1) (.bin .tmod (.un (.wrap .i64) (.var 0)) (.int 6)))) (.bin .tmod (.un (.wrap .i64) (.bin .idx (.var 2) (.bin .add (.int 0) (.var 4)))) (.un (.wrap .i64) (.bin .add (.int 1) (.bin .tmod (.un (.wrap .i64) (.var 0)) (.int 6)))))))
              (.asrt (.un .not (.bin .le (.un .len (.var 5)) (.bin .add (.int 0) (.bin .tmod (.un (.wrap .i64) (.bin .idx (.var 2) (.bin .add (.int 0) (.var 4)))) (.un (.wrap .i64) (.bin .add (.int 1) (.bin .tmod (.un (.wrap .i64) (.var 0)) (.int 6))))))))
               (.leaf [(.un (.wrap .i64) (.bin .add (.var 4) (.int 1))), (.tri .set (.var 5) (.bin .add (.int 0) (.bin .tmod (.un (.wrap .i64) (.bin .idx (.var 2) (.bin .add (.int 0) (.var 4)))) (.un (.wrap .i64) (.bin .add (.int 1) (.bin .tmod (.un (.wrap .i64) (.var 0)) (.int 6)))))) (.bool true)), (.bin .idx (.fn 79 (.bin .cons (.var 6) (.bin .cons (.var 7) (.bin .cons (.bin .tmod (.un (.wrap .i64) (.bin .idx (.var 2) (.bin .add (.int 0) (.var 4)))) (.un (.wrap .i64) (.bin .add (.int 1) (.bin .tmod (.un (.wrap .i64) (.var 0)) (.int 6))))) (.bin .cons (.bin .idx (.fn 67 (.bin .cons (.bin .idx (.var 2) (.bin .add (.int 0) (.var 4))) .nil)) (.int 0)) .nil))))) (.int 0)), (.bin .idx (.fn 79 (.bin .cons (.var 6) (.bin .cons (.var 7) (.bin .cons (.bin .tmod (.un (.wrap .i64) (.bin .idx (.var 2) (.bin .add (.int 0) (.var 4)))) (.un (.wrap .i64) (.bin .add (.int 1) (.bin .tmod (.un (.wrap .i64) (.var 0)) (.int 6))))) (.bin .cons (.bin .idx (.fn 67 (.bin .cons (.bin .idx (.var 2) (.bin .add (.int 0) (.var 4))) .nil)) (.int 0)) .nil))))) (.int 1))]))))))))
        .fail)
       (.br (.un .not (.bin .le (.un .len (.var 2)) (.var 4)))
        (.asrt (.bin .le (.int 0) (.var 4))
         (.asrt (.bin .le (.un .len (.var 6)) (.int 1000000))
          (.asrt (.bin .le (.un .len (.var 7)) (.int 1000000))
           (.br (.un .not (.bin .eq (.bin .idx (.fn 79 (.bin .cons (.var 6) (.bin .cons (.var 7) (.bin .cons (.bin .tmod (.un (.wrap .i64) (.bin .idx (.var 2) (.bin .add (.int 0) (.var 4)))) (.un (.wrap .i64) (.bin .add (.int 1) (.bin .tmod (.un (.wrap .i64) (.var 0)) (.int 6))))) (.bin .cons (.bin .idx (.fn 67 (.bin .cons (.bin .idx (.var 2) (.bin .add (.int 0) (.var 4))) .nil)) (.int 0)) .nil))))) (.int 2)) (.int 0)))
            (.leaf [(.bool false)])
            (.asrt (.bin .le (.int 0) (.bin .tmod (.un (.wrap .i64) (.bin .idx (.var 2) (.bin .add (.int 0) (.var 4)))) (.un (.wrap .i64) (.bin .add (.int 1) (.bin .tmod (.un (.wrap .i64) (.var 0)) (.int 6))))))
             (.asrt (.un .not (.bin .le (.un (.wrap .i64) (.bin .add (.int 1) (.bin .tmod (.un (.wrap .i64) (.var 0)) (.int 6)))) (.bin .tmod (.un (.wrap .i64) (.bin .idx (.var 2) (.bin .add (.int 0) (.var 4)))) (.un (.wrap .i64) (.bin .add (.int 1) (.bin .tmod (.un (.wrap .i64) (.var 0)) (.int 6)))))))
              (.asrt (.un .not (.bin .le (.un .len (.var 5)) (.bin .add (.int 0) (.bin .tmod (.un (.wrap .i64) (.bin .idx (.var 2) (.bin .add (.int 0) (.var 4)))) (.un (.wrap .i64) (.bin .add (.int 1) (.bin .tmod (.un (.wrap .i64) (.var 0)) (.int 6))))))))
               .fail)))))))
        (.asrt (.bin .le (.un .len (.var 6)) (.int 1000000))
         (.asrt (.bin .le (.un .len (.var 7)) (.int 1000000))
          (.asrt (.bin .idx (.fn 78 (.bin .cons (.var 6) (.bin .cons (.var 7) .nil))) (.int 0))
           (.loop 8 [(.int 0)]
            (.br (.un .not (.bin .le (.un (.wrap .i64) (.bin .add (.int 1) (.bin .tmod (.un (.wrap .i64) (.var 0)) (.int 6)))) (.var 8)))
             (.br (.un .not (.bin .eq (.bin .idx (.fn 68 (.bin .cons (.bin .idx (.fn 86 (.bin .cons (.var 6) (.bin .cons (.var 7) (.bin .cons (.var 3) .nil)))) (.int 0)) (.bin .cons (.bin .idx (.fn 86 (.bin .cons (.var 6) (.bin .cons (.var 7) (.bin .cons (.var 3) .nil)))) (.int 1)) (.bin .cons (.var 8) .nil)))) (.int 1)) (.int 0)))
              .fail
              (.br (.un .not (.bin .eq (.bin .idx (.fn 68 (.bin .cons (.bin .idx (.fn 87 (.bin .cons (.un (.wrap .i64) (.bin .add (.int 1) (.bin .tmod (.un (.wrap .i64) (.var 0)) (.int 6)))) (.bin .cons (.var 1) .nil))) (.int 0)) (.bin .cons (.bin .idx (.fn 87 (.bin .cons (.un (.wrap .i64) (.bin .add (.int 1) (.bin .tmod (.un (.wrap .i64) (.var 0)) (.int 6)))) (.bin .cons (.var 1) .nil))) (.int 1)) (.bin .cons (.var 8) .nil)))) (.int 1)) (.int 0)))
               .fail
               (.asrt (.bin .le (.int 0) (.var 8))
                (.asrt (.un .not (.bin .le (.un .len (.var 5)) (.bin .add (.int 0) (.var 8))))
                 (.br (.un .not (.bin .idx (.var 5) (.bin .add (.int 0) (.var 8))))
                  (.br (.un .not (.bin .eqs (.bin .idx (.fn 68 (.bin .cons (.bin .idx (.fn 86 (.bin .cons (.var 6) (.bin .cons (.var 7) (.bin .cons (.var 3) .nil)))) (.int 0)) (.bin .cons (.bin .idx (.fn 86 (.bin .cons (.var 6) (.bin .cons (.var 7) (.bin .cons (.var 3) .nil)))) (.int 1)) (.bin .cons (.var 8) .nil)))) (.int 0)) (.bin .idx (.fn 68 (.bin .cons (.bin .idx (.fn 87 (.bin .cons (.un (.wrap .i64) (.bin .add (.int 1) (.bin .tmod (.un (.wrap .i64) (.var 0)) (.int 6)))) (.bin .cons (.var 1) .nil))) (.int 0)) (.bin .cons (.bin .idx (.fn 87 (.bin .cons (.un (.wrap .i64) (.bin .add (.int 1) (.bin .tmod (.un (.wrap .i64) (.var 0)) (.int 6)))) (.bin .cons (.var 1) .nil))) (.int 1)) (.bin .cons (.var 8) .nil)))) (.int 0))))
                   .fail
                   (.leaf [(.un (.wrap .i64) (.bin .add (.var 8) (.int 1)))]))
                  (.leaf [(.un (.wrap .i64) (.bin .add (.var 8) (.int 1)))]))))))
             .fail)
            (.br (.un .not (.bin .le (.un (.wrap .i64) (.bin .add (.int 1) (.bin .tmod (.un (.wrap .i64) (.var 0)) (.int 6)))) (.var 8)))
             (.br (.un .not (.bin .eq (.bin .idx (.fn 68 (.bin .cons (.bin .idx (.fn 86 (.bin .cons (.var 6) (.bin .cons (.var 7) (.bin .cons (.var 3) .nil)))) (.int 0)) (.bin .cons (.bin .idx (.fn 86 (.bin .cons (.var 6) (.bin .cons (.var 7) (.bin .cons (.var 3) .nil)))) (.int 1)) (.bin .cons (.var 8) .nil)))) (.int 1)) (.int 0)))
              (.leaf [(.bool false)])
              (.br (.un .not (.bin .eq (.bin .idx (.fn 68 (.bin .cons (.bin .idx (.fn 87 (.bin .cons (.un (.wrap .i64) (.bin .add (.int 1) (.bin .tmod (.un (.wrap .i64) (.var 0)) (.int 6)))) (.bin .cons (.var 1) .nil))) (.int 0)) (.bin .cons (.bin .idx (.fn 87 (.bin .cons (.un (.wrap .i64) (.bin .add (.int 1) (.bin .tmod (.un (.wrap .i64) (.var 0)) (.int 6)))) (.bin .cons (.var 1) .nil))) (.int 1)) (.bin .cons (.var 8) .nil)))) (.int 1)) (.int 0)))
               (.leaf [(.bool false)])
               (.asrt (.bin .le (.int 0) (.var 8))
                (.asrt (.un .not (.bin .le (.un .len (.var 5)) (.bin .add (.int 0) (.var 8))))
                 (.br (.un .not (.bin .idx (.var 5) (.bin .add (.int 0) (.var 8))))
                  (.br (.un .not (.bin .eqs (.bin .idx (.fn 68 (.bin .cons (.bin .idx (.fn 86 (.bin .cons (.var 6) (.bin .cons (.var 7) (.bin .cons (.var 3) .nil)))) (.int 0)) (.bin .cons (.bin .idx (.fn 86 (.bin .cons (.var 6) (.bin .cons (.var 7) (.bin .cons (.var 3) .nil)))) (.int 1)) (.bin .cons (.var 8) .nil)))) (.int 0)) (.bin .idx (.fn 68 (.bin .cons (.bin .idx (.fn 87 (.bin .cons (.un (.wrap .i64) (.bin .add (.int 1) (.bin .tmod (.un (.wrap .i64) (.var 0)) (.int 6)))) (.bin .cons (.var 1) .nil))) (.int 0)) (.bin .cons (.bin .idx (.fn 87 (.bin .cons (.un (.wrap .i64) (.bin .add (.int 1) (.bin .tmod (.un (.wrap .i64) (.var 0)) (.int 6)))) (.bin .cons (.var 1) .nil))) (.int 1)) (.bin .cons (.var 8) .nil)))) (.int 0))))
                   (.leaf [(.bool false)])
                   .fail)
                  .fail)))))
             (.br (.bin .idx (.fn 88 .nil) (.int 0))
              (.br (.bin .idx (.fn 87 (.bin .cons (.un (.wrap .i64) (.bin .add (.int 1) (.bin .tmod (.un (.wrap .i64) (.var 0)) (.int 6)))) (.bin .cons (.var 1) .nil))) (.int 3))
               (.asrt (.bin .le (.bin .add (.int 0) (.un .len (.var 2))) (.un .len (.bin .rep (.un .len (.var 2)) (.int 0))))
                (.asrt (.bin .le (.un .len (.bin .take (.bin .drop (.bin .rep (.un .len (.var 2)) (.int 0)) (.int 0)) (.un .len (.var 2)))) (.int 1000000))
                 (.asrt (.bin .le (.un .len (.bin .idx (.fn 86 (.bin .cons (.var 6) (.bin .cons (.var 7) (.bin .cons (.bin .take (.bin .drop (.bin .rep (.un .len (.var 2)) (.int 0)) (.int 0)) (.un .len (.var 2))) .nil)))) (.int 0))) (.int 1000000))
                  (.asrt (.bin .le (.un .len (.bin .idx (.fn 86 (.bin .cons (.var 6) (.bin .cons (.var 7) (.bin .cons (.bin .take (.bin .drop (.bin .rep (.un .len (.var 2)) (.int 0)) (.int 0)) (.un .len (.var 2))) .nil)))) (.int 1))) (.int 1000000))
                   (.asrt (.bin .le (.un .len (.bin .idx (.fn 81 (.bin .cons (.bin .idx (.fn 87 (.bin .cons (.un (.wrap .i64) (.bin .add (.int 1) (.bin .tmod (.un (.wrap .i64) (.var 0)) (.int 6)))) (.bin .cons (.var 1) .nil))) (.int 0)) (.bin .cons (.bin .idx (.fn 87 (.bin .cons (.un (.wrap .i64) (.bin .add (.int 1) (.bin .tmod (.un (.wrap .i64) (.var 0)) (.int 6)))) (.bin .cons (.var 1) .nil))) (.int 1)) .nil))) (.int 0))) (.int 1000000))
                    (.asrt (.bin .le (.un .len (.bin .idx (.fn 81 (.bin .cons (.bin .idx (.fn 87 (.bin .cons (.un (.wrap .i64) (.bin .add (.int 1) (.bin .tmod (.un (.wrap .i64) (.var 0)) (.int 6)))) (.bin .cons (.var 1) .nil))) (.int 0)) (.bin .cons (.bin .idx (.fn 87 (.bin .cons (.un (.wrap .i64) (.bin .add (.int 1) (.bin .tmod (.un (.wrap .i64) (.var 0)) (.int 6)))) (.bin .cons (.var 1) .nil))) (.int 1)) .nil))) (.int 1))) (.int 1000000))
                     (.br (.bin .idx (.fn 84 (.bin .cons (.bin .idx (.fn 86 (.bin .cons (.var 6) (.bin .cons (.var 7) (.bin .cons (.bin .take (.bin .drop (.bin .rep (.un .len (.var 2)) (.int 0)) (.int 0)) (.un .len (.var 2))) .nil)))) (.int 0)) (.bin .cons (.bin .idx (.fn 86 (.bin .cons (.var 6) (.bin .cons (.var 7) (.bin .cons (.bin .take (.bin .drop (.bin .rep (.un .len (.var 2)) (.int 0)) (.int 0)) (.un .len (.var 2))) .nil)))) (.int 1)) (.bin .cons (.bin .idx (.fn 81 (.bin .cons (.bin .idx (.fn 87 (.bin .cons (.un (.wrap .i64) (.bin .add (.int 1) (.bin .tmod (.un (.wrap .i64) (.var 0)) (.int 6)))) (.bin .cons (.var 1) .nil))) (.int 0)) (.bin .cons (.bin .idx (.fn 87 (.bin .cons (.un (.wrap .i64) (.bin .add (.int 1) (.bin .tmod (.un (.wrap .i64) (.var 0)) (.int 6)))) (.bin .cons (.var 1) .nil))) (.int 1)) .nil))) (.int 0)) (.bin .cons (.bin .idx (.fn 81 (.bin .cons (.bin .idx (.fn 87 (.bin .cons (.un (.wrap .i64) (.bin .add (.int 1) (.bin .tmod (.un (.wrap .i64) (.var 0)) (.int 6)))) (.bin .cons (.var 1) .nil))) (.int 0)) (.bin .cons (.bin .idx (.fn 87 (.bin .cons (.un (.wrap .i64) (.bin .add (.int 1) (.bin .tmod (.un (.wrap .i64) (.var 0)) (.int 6)))) (.bin .cons (.var 1) .nil))) (.int 1)) .nil))) (.int 1)) .nil))))) (.int 0))
                      (.asrt (.bin .le (.un .len (.bin .idx (.fn 86 (.bin .cons (.var 6) (.bin .cons (.var 7) (.bin .cons .nil .nil)))) (.int 0))) (.int 1000000))
                       (.asrt (.bin .le (.un .len (.bin .idx (.fn 86 (.bin .cons (.var 6) (.bin .cons (.var 7) (.bin .cons .nil .nil)))) (.int 1))) (.int 1000000))
                        (.asrt (.bin .le (.un .len (.bin .idx (.fn 81 (.bin .cons (.var 6) (.bin .cons (.var 7) .nil))) (.int 0))) (.int 1000000))
                         (.asrt (.bin .le (.un .len (.bin .idx (.fn 81 (.bin .cons (.var 6) (.bin .cons (.var 7) .nil))) (.int 1))) (.int 1000000))
                          (.br (.bin .idx (.fn 84 (.bin .cons (.bin .idx (.fn 86 (.bin .cons (.var 6) (.bin .cons (.var 7) (.bin .cons .nil .nil)))) (.int 0)) (.bin .cons (.bin .idx (.fn 86 (.bin .cons (.var 6) (.bin .cons (.var 7) (.bin .cons .nil .nil)))) (.int 1)) (.bin .cons (.bin .idx (.fn 81 (.bin .cons (.var 6) (.bin .cons (.var 7) .nil))) (.int 0)) (.bin .cons (.bin .idx (.fn 81 (.bin .cons (.var 6) (.bin .cons (.var 7) .nil))) (.int 1)) .nil))))) (.int 0))
                           (.asrt (.bin .le (.un .len (.bin .idx (.fn 86 (.bin .cons (.var 6) (.bin .cons (.var 7) (.bin .cons (.var 3) .nil)))) (.int 0))) (.int 1000000))
                            (.asrt (.bin .le (.un .len (.bin .idx (.fn 86 (.bin .cons (.var 6) (.bin .cons (.var 7) (.bin .cons (.var 3) .nil)))) (.int 1))) (.int 1000000))
                             (.asrt (.bin .idx (.fn 78 (.bin .cons (.bin .idx (.fn 86 (.bin .cons (.var 6) (.bin .cons (.var 7) (.bin .cons (.var 3) .nil)))) (.int 0)) (.bin .cons (.bin .idx (.fn 86 (.bin .cons (.var 6) (.bin .cons (.var 7) (.bin .cons (.var 3) .nil)))) (.int 1)) .nil))) (.int 0))
                              (.asrt (.bin .le (.un .len (.bin .idx (.fn 86 (.bin .cons (.bin .idx (.fn 86 (.bin .cons (.var 6) (.bin .cons (.var 7) (.bin .cons (.var 3) .nil)))) (.int 0)) (.bin .cons (.bin .idx (.fn 86 (.bin .cons (.var 6) (.bin .cons (.var 7) (.bin .cons (.var 3) .nil)))) (.int 1)) (.bin .cons (.var 3) .nil)))) (.int 0))) (.int 1000000))
                               (.asrt (.bin .le (.un .len (.bin .idx (.fn 86 (.bin .cons (.bin .idx (.fn 86 (.bin .cons (.var 6) (.bin .cons (.var 7) (.bin .cons (.var 3) .nil)))) (.int 0)) (.bin .cons (.bin .idx (.fn 86 (.bin .cons (.var 6) (.bin .cons (.var 7) (.bin .cons (.var 3) .nil)))) (.int 1)) (.bin .cons (.var 3) .nil)))) (.int 1))) (.int 1000000))
                                (.leaf [(.bin .idx (.fn 84 (.bin .cons (.bin .idx (.fn 86 (.bin .cons (.bin .idx (.fn 86 (.bin .cons (.var 6) (.bin .cons (.var 7) (.bin .cons (.var 3) .nil)))) (.int 0)) (.bin .cons (.bin .idx (.fn 86 (.bin .cons (.var 6) (.bin .cons (.var 7) (.bin .cons (.var 3) .nil)))) (.int 1)) (.bin .cons (.var 3) .nil)))) (.int 0)) (.bin .cons (.bin .idx (.fn 86 (.bin .cons (.bin .idx (.fn 86 (.bin .cons (.var 6) (.bin .cons (.var 7) (.bin .cons (.var 3) .nil)))) (.int 0)) (.bin .cons (.bin .idx (.fn 86 (.bin .cons (.var 6) (.bin .cons (.var 7) (.bin .cons (.var 3) .nil)))) (.int 1)) (.bin .cons (.var 3) .nil)))) (.int 1)) (.bin .cons (.bin .idx (.fn 86 (.bin .cons (.var 6) (.bin .cons (.var 7) (.bin .cons (.var 3) .nil)))) (.int 0)) (.bin .cons (.bin .idx (.fn 86 (.bin .cons (.var 6) (.bin .cons (.var 7) (.bin .cons (.var 3) .nil)))) (.int 1)) .nil))))) (.int 0))]))))))
                           (.leaf [(.bool false)]))))))
                      (.leaf [(.bool false)]))))))))
               (.leaf [(.bool false)]))
              (.leaf [(.bool false)])))))))))))))))

def diskKeepsSm : List (Nat × Smy) := [(7, ⟨88, [], [.one (.pl .bool)], fun _ => [], none⟩), (23, ⟨87, [.one (.pl (.int .i64)), .one (.rows false [.int .u8])], [.agg [.rows false [.str], .rows false [.int .i64, .str]], .one (.rows false [.int .i64, .str]), .one (.pl .bool)], fun es => lenC [(1, 10000)] es ++ rgeC [(0, 1, 512)] es, none⟩), (19, ⟨81, [.agg [.rows false [.str], .rows false [.int .i64, .str]]], [.agg [.rows false [.str], .rows false [.int .i64, .str]]], lenC [(0, 1000000)], none⟩), (17, ⟨79, [.agg [.rows false [.str], .rows false [.int .i64, .str]], .one (.pl (.int .i64)), .one (.pl .str)], [.agg [.rows false [.str], .rows false [.int .i64, .str]], .one (.pl (.int .i64))], lenC [(0, 1000000), (1, 1000000)], none⟩), (24, ⟨67, [.one (.pl (.int .u8))], [.one (.pl .str)], fun _ => [], none⟩), (11, ⟨78, [.agg [.rows false [.str], .rows false [.int .i64, .str]]], [.one (.pl .bool)], lenC [(0, 1000000), (1, 1000000)], none⟩), (21, ⟨86, [.agg [.rows false [.str], .rows false [.int .i64, .str]], .one (.rows false [.int .i64])], [.agg [.rows false [.str], .rows false [.int .i64, .str]]], fun es => (lenC [(0, 1000000), (1, 1000000), (2, 1000000)]) es ++ [rightC 78 0 1 es], none⟩), (15, ⟨68, [.agg [.rows false [.str], .rows false [.int .i64, .str]], .one (.pl (.int .i64))], [.one (.pl .str), .one (.pl (.int .i64))], fun _ => [], none⟩), (14, ⟨84, [.agg [.rows false [.str], .rows false [.int .i64, .str]], .agg [.rows false [.str], .rows false [.int .i64, .str]]], [.one (.pl .bool)], lenC [(0, 1000000), (1, 1000000), (2, 1000000), (3, 1000000)], none⟩)]
def diskKeepsLa : List (LK × LA) := [(⟨161, 15, 15, 4⟩, ⟨[(16, (.int .i64 (.var 4))), (17, .any), (18, .any), (19, .any), (68, .any), (69, .any), (70, .any), (71, .any), (72, .any), (73, .any), (74, .any), (75, .any), (76, .any), (77, .any), (78, .any), (79, .any), (80, .any), (81, .any), (82, .any), (83, .any), (84, .any), (85, .any), (86, .any), (87, .any), (88, .any), (89, .any), (90, .any), (91, .any), (92, .any), (93, .any), (94, .any), (95, .any), (96, .any), (97, .any)], [(13, (.rows [.bool] (.var 5))), (12, (.cells [(.sl 15 1 (.int 0) (.un .len (.var 6)) none), (.sl 16 2 (.int 0) (.un .len (.var 7)) none)])), (15, (.ro [.str] (.var 6))), (16, (.ro [.int .i64, .str] (.var 7)))], [], 4, 2⟩),
  (⟨161, 25, 20, 8⟩, ⟨[(21, (.int .i64 (.var 8))), (22, .any), (23, .any), (24, .any), (25, .any), (101, .any), (102, .any), (103, .any), (104, .any), (105, .any), (106, .any), (107, .any), (108, .any), (109, .any), (110, .any), (111, .any), (112, .any), (113, .any), (114, .any), (115, .any), (116, .any), (117, .any), (118, .any), (119, .any), (120, .any), (121, .any), (122, .any), (123, .any), (124, .any), (125, .any), (126, .any), (127, .any), (128, .any), (129, .any), (130, .any), (131, .any), (132, .any), (133, .any), (134, .any), (135, .any)], [], [], 1, 0⟩)]
def diskKeepsPhi : Nat → DV → DV := fun n d => match n with
  | 88 => .list (dSaneF d.l)
  | 87 => .list (writtenF d.l)
  | 81 => .list (dSyncF d.l)
  | 79 => .list (dWriteF d.l)
  | 67 => .list (dFullF d.l)
  | 78 => .list (rDRightF d.l)
  | 86 => .list (dCrashF d.l)
  | 68 => .list (dReadF d.l)
  | 84 => .list (rDSameF d.l)
  | _ => d
theorem diskKeepsS : SmyOk Try.prog diskKeepsPhi diskKeepsSm := (smy_cons (fun _ => True) dSaneF dSane_pure (fun _ _ _ _ => trivial) (fun _ => rfl) (fun _ h => by cases h) (smy_cons (fun ds => lenP [(1, 10000)] ds ∧ rgeP [(0, 1, 512)] ds) writtenF written_pure (both_hp [(1, 10000)] [(0, 1, 512)]) (fun _ => rfl) (fun _ h => by cases h) (smy_cons (lenP [(0, 1000000)]) dSyncF dSync_pure (len_hp [(0, 1000000)]) (fun _ => rfl) (fun _ h => by cases h) (smy_cons (lenP [(0, 1000000), (1, 1000000)]) dWriteF dWrite_pure (len_hp [(0, 1000000), (1, 1000000)]) (fun _ => rfl) (fun _ h => by cases h) (smy_cons (fun _ => True) dFullF dFull_pure (fun _ _ _ _ => trivial) (fun _ => rfl) (fun _ h => by cases h) (smy_cons (lenP [(0, 1000000), (1, 1000000)]) rDRightF rDRight_pure (len_hp [(0, 1000000), (1, 1000000)]) (fun _ => rfl) (fun _ h => by cases h) (smy_cons (fun ds => (lenP [(0, 1000000), (1, 1000000), (2, 1000000)]) ds ∧ rightDM (gLs ds 0) (gLis ds 1) = true) dCrashF dCrash_pure (right_hp 78 0 1 (len_hp [(0, 1000000), (1, 1000000), (2, 1000000)]) (fun _ => rfl)) (fun _ => rfl) (fun _ h => by cases h) (smy_cons (fun _ => True) dReadF dRead_pure (fun _ _ _ _ => trivial) (fun _ => rfl) (fun _ h => by cases h) (smy_cons (lenP [(0, 1000000), (1, 1000000), (2, 1000000), (3, 1000000)]) rDSameF rDSame_pure (len_hp [(0, 1000000), (1, 1000000), (2, 1000000), (3, 1000000)]) (fun _ => rfl) (fun _ h => by cases h) smy_nil)))))))))
theorem diskKeepsT : treeOk ⟨Try.prog, diskKeepsSm, diskKeepsLa⟩ 4000 5 [.agg [.pl (.int .u8), .rows false [.int .u8], .rows false [.int .u8], .rows false [.int .i64]]] [.one (.pl .bool)] (rng (0) 255 (.var 0) ++ (rng 0 9223372036854775807 (.un .len (.var 1)) ++ (rng 0 9223372036854775807 (.un .len (.var 2)) ++ (rng 0 9223372036854775807 (.un .len (.var 3)) ++ ([]))))) diskKeepsTree = true := by decide +kernel
set_option maxHeartbeats 1000000 in
theorem diskKeeps_pure : Pure Try.prog 5 [.agg [.pl (.int .u8), .rows false [.int .u8], .rows false [.int .u8], .rows false [.int .i64]]] [.one (.pl .bool)] (Wts (clsOf [.agg [.pl (.int .u8), .rows false [.int .u8], .rows false [.int .u8], .rows false [.int .i64]]])) diskKeepsF := by
  refine pure_tree (X := ⟨Try.prog, diskKeepsSm, diskKeepsLa⟩) (Checked.mixed Try.checked) diskKeepsS (by decide +kernel) (by decide +kernel) diskKeepsT (by decide +kernel) ?_
  intro ds hl hp
  obtain ⟨d0, d1, d2, d3, rfl⟩ := len4 hl
  obtain ⟨_, _, he, w0, hp⟩ := hp
  cases he
  have r0 : 0 ≤ d0.i ∧ d0.i ≤ 255 := wt_i w0 rfl rfl
  clear w0
  obtain ⟨_, _, he, w1, hp⟩ := hp
  cases he
  have b1 : ((d1.l.map DV.i).length : Int) ≤ 9223372036854775807 := by rw [List.length_map]; exact wt_len w1
  have v1 : ∀ v ∈ d1.l.map DV.i, 0 ≤ v ∧ v ≤ 255 := wt_ints w1 rfl rfl
  clear w1
  obtain ⟨_, _, he, w2, hp⟩ := hp
  cases he
  have b2 : ((d2.l.map DV.i).length : Int) ≤ 9223372036854775807 := by rw [List.length_map]; exact wt_len w2
  have v2 : ∀ v ∈ d2.l.map DV.i, 0 ≤ v ∧ v ≤ 255 := wt_ints w2 rfl rfl
  clear w2
  obtain ⟨_, _, he, w3, hp⟩ := hp
  cases he
  have b3 : ((d3.l.map DV.i).length : Int) ≤ 9223372036854775807 := by rw [List.length_map]; exact wt_len w3
  have v3 : ∀ v ∈ d3.l.map DV.i, -9223372036854775808 ≤ v ∧ v ≤ 9223372036854775807 := wt_ints w3 rfl rfl
  clear w3
  have hN : nrmL (clsOf [.agg [.pl (.int .u8), .rows false [.int .u8], .rows false [.int .u8], .rows false [.int .i64]]]) [d0, d1, d2, d3] = [.int d0.i, .list ((d1.l.map DV.i).map DV.int), .list ((d2.l.map DV.i).map DV.int), .list ((d3.l.map DV.i).map DV.int)] := by
    simp only [clsOf, Sh.cls, List.append_nil, List.cons_append, List.nil_append, nrmL, Cl.nrm, CK.nrm, map_Li]
  have hF : diskKeepsF [d0, d1, d2, d3] = [.bool true] := rfl
  rw [hN, hF]
  clear hN hp hl hF
  generalize d0.i = x0 at r0 ⊢
  generalize d1.l.map DV.i = x1 at b1 v1 ⊢
  generalize d2.l.map DV.i = x2 at b2 v2 ⊢
  generalize d3.l.map DV.i = x3 at b3 v3 ⊢
  refine ⟨(rng_ok (e := .var 0) r0.1 r0.2 (rng_ok (e := .un .len (.var 1)) (Int.natCast_nonneg _) (by show ((x1.map _).length : Int) ≤ _; rw [List.length_map]; exact b1) (rng_ok (e := .un .len (.var 2)) (Int.natCast_nonneg _) (by show ((x2.map _).length : Int) ≤ _; rw [List.length_map]; exact b2) (rng_ok (e := .un .len (.var 3)) (Int.natCast_nonneg _) (by show ((x3.map _).length : Int) ≤ _; rw [List.length_map]; exact b3) (facts_nil _))))), ?_⟩
  unfold diskKeepsTree
  simp only [Sat, clsOf, Sh.cls, List.append_nil, List.cons_append, List.nil_append, nrmL, Cl.nrm, CK.nrm, List.map_cons, List.map_nil, List.length_cons, List.length_nil, List.cons.injEq, DV.bool.injEq, DV.int.injEq, DV.list.injEq, DV.str.injEq, and_true, true_and]
  try simp only [q_le, q_eq, q_eqs, q_eqb, q_and, q_or, q_not, q_bool, iff_true, iff_false, Bool.not_true, Bool.not_false, Bool.false_eq_true, Bool.true_eq_false, eq_self, Bool.not_not]
  simp only [Bool.not_true, Bool.not_false, Bool.true_eq_false, SE.den, evU, evT, ev_le, ev_eq, ev_eqs, ev_eqb, ev_slt, ev_and, ev_or, ev_add, ev_sub, ev_mul, ev_tdiv, ev_tmod, ev_band, ev_bor, ev_bxor, ev_bandn, ev_shl, ev_shr, ev_cat, ev_byte, ev_idx, ev_cons, ev_snoc, ev_app, ev_take, ev_drop, ev_stake, ev_sdrop, ev_rep, leB_q, eqB_q, eqsB_q, not_q, i_if, b_if, l_if, s_if, i_int, b_bool, s_str, l_list, envL, List.getElem?_cons_succ, List.getElem?_cons_zero, List.getElem?_nil, Option.getD_some, Option.getD_none, Int.toNat_natCast, Int.toNat_zero, Int.reduceToNat, List.length_map, get_Li, get_Lb, get_Ls, set_Li, inj_Li, inj_Lb, inj_Ls, rows_i, rows_b, rows_s, Int.zero_add, iff_true, iff_false, and_true, true_and, Bool.false_eq_true, eq_self, not_true_eq_false, not_false_eq_true, List.length_replicate, DV.int.injEq, DV.bool.injEq, DV.str.injEq, DV.list.injEq, List.cons.injEq, f_is_0, rows_is, inj_Lis, f_is_1, rows_is, inj_Lis, diskKeepsPhi, dSaneF, dSaneE, writtenF, writtenE, dSyncF, dSyncE, dWriteF, dWriteE, dFullF, dFullE, rDRightF, rDRightE, dCrashF, dCrashE, dReadF, dReadE, rDSameF, rDSameE, gi, gb, gs, gLi, gLu, gLb, gLs, dece_i, dece_b, dece_s, gLis, deces_is]
  have t : IntKind.i64.wrap (1 + (IntKind.i64.wrap x0).tmod 6) = 1 + x0 % 6 := by
    rw [w64 (n := x0) (by omega) (by omega), Int.tmod_eq_emod_of_nonneg r0.1]
    exact w64 (by omega) (by omega)
  simp only [t]
  have hn : 1 ≤ 1 + x0 % 6 ∧ 1 + x0 % 6 ≤ 6 := by omega
  generalize 1 + x0 % 6 = n at *
  obtain ⟨n1, n2, n3⟩ := new_law hn.1 (by omega)
  obtain ⟨g1, g2, g3, g4⟩ := wrM_law hn.1 (by omega) x1 (newM n) [] [] v1 n1 n2 n3
  generalize wrM n x1 (newM n) [] [] = W at *
  have hsr : rightDM W.1 [] = true := by
    unfold rightDM at g4 ⊢
    simp only [Bool.and_eq_true] at g4 ⊢
    exact ⟨g4.1, g4.2.1, rfl⟩
  refine ⟨fun _ => trivial, fun h30 => ⟨fun _ => trivial, fun h31 => ⟨fun _ => trivial, fun h40 => ⟨by omega, by omega, by omega, ?_⟩⟩⟩⟩
  refine rounds_at x2.length (fun i => [.int i, .list (tchM n x2 i), .list ((kM n x2 W.1 i).1.map DV.str), .list ((kM n x2 W.1 i).2.map encis)]) ?_ (fun _ => rfl) (fun i hi => ?_) ?_
  · rfl
  · obtain ⟨l1, l2⟩ := kM_len n x2 W.1 i
    obtain ⟨c0, c1⟩ := v2 (x2[i]?.getD 0) (by rw [List.getElem?_eq_getElem hi]; exact List.getElem_mem hi)
    have ha : (IntKind.i64.wrap (x2[i]?.getD 0)).tmod n = (x2[i]?.getD 0) % n := by rw [w64 (by omega) (by omega)]; exact Int.tmod_eq_emod_of_nonneg c0
    have ha0 := Int.emod_nonneg (x2[i]?.getD 0) (show n ≠ 0 by omega)
    have ha1 := Int.emod_lt_of_pos (x2[i]?.getD 0) (show 0 < n by omega)
    have hw : writeM (kM n x2 W.1 i).1 (kM n x2 W.1 i).2 ((x2[i]?.getD 0) % n) (fullM (x2[i]?.getD 0)) = ((kM n x2 W.1 (i + 1)).1, (kM n x2 W.1 (i + 1)).2, 0) := by
      unfold writeM
      rw [if_pos ⟨ha0, by omega⟩, if_pos (by rw [full_len]; rfl)]
      rfl
    have e1 : ¬ (x2.length : Int) ≤ i := by omega
    have e2 : ¬ n ≤ (x2[i]?.getD 0) % n := by omega
    have e3 : ¬ ((tchM n x2 i).length : Int) ≤ (x2[i]?.getD 0) % n := by rw [tch_len]; omega
    have hwa : IntKind.i64.wrap ((i : Int) + 1) = ((i + 1 : Nat) : Int) := by rw [w64 (by omega) (by omega)]; omega
    have ht : (tchM n x2 i).set ((x2[i]?.getD 0) % n).toNat (DV.bool true) = tchM n x2 (i + 1) := rfl
    simp only [Bool.not_true, Bool.not_false, Bool.true_eq_false, SE.den, evU, evT, ev_le, ev_eq, ev_eqs, ev_eqb, ev_slt, ev_and, ev_or, ev_add, ev_sub, ev_mul, ev_tdiv, ev_tmod, ev_band, ev_bor, ev_bxor, ev_bandn, ev_shl, ev_shr, ev_cat, ev_byte, ev_idx, ev_cons, ev_snoc, ev_app, ev_take, ev_drop, ev_stake, ev_sdrop, ev_rep, leB_q, eqB_q, eqsB_q, not_q, i_if, b_if, l_if, s_if, i_int, b_bool, s_str, l_list, envL, List.getElem?_cons_succ, List.getElem?_cons_zero, List.getElem?_nil, Option.getD_some, Option.getD_none, Int.toNat_natCast, Int.toNat_zero, Int.reduceToNat, List.length_map, get_Li, get_Lb, get_Ls, set_Li, inj_Li, inj_Lb, inj_Ls, rows_i, rows_b, rows_s, Int.zero_add, iff_true, iff_false, and_true, true_and, Bool.false_eq_true, eq_self, not_true_eq_false, not_false_eq_true, List.length_replicate, DV.int.injEq, DV.bool.injEq, DV.str.injEq, DV.list.injEq, List.cons.injEq, f_is_0, rows_is, inj_Lis, f_is_1, rows_is, inj_Lis, diskKeepsPhi, dSaneF, dSaneE, writtenF, writtenE, dSyncF, dSyncE, dWriteF, dWriteE, dFullF, dFullE, rDRightF, rDRightE, dCrashF, dCrashE, dReadF, dReadE, rDSameF, rDSameE, gi, gb, gs, gLi, gLu, gLb, gLs, dece_i, dece_b, dece_s, gLis, deces_is, dece_s, deces_is, List.length_map, Int.toNat_natCast, ha, hw, e1, e2, e3, hwa, ht, ha0, l1, l2]
    simp
    try omega
  · obtain ⟨l1, l2⟩ := kM_len n x2 W.1 x2.length
    have hkr := kM_right hn.1 (by omega) g2 hsr (more := x2) x2.length
    have hks := kM_synced hn.1 g2 (more := x2) x2.length
    have hka := kM_at n x2 W.1 x2.length
    have hku := fun a => kM_un hn.1 (more := x2) (sec := W.1) (a := a) x2.length
    have hcz := crash_zero (cuts := List.replicate x2.length 0) hkr (fun i hi => cut_none _ _ (by omega)) _ (Nat.le_refl _)
    have hca := crash_all hkr _ (Nat.le_refl _)
    rw [allSynced_end] at hca
    rw [hks] at hcz
    have hcr := crash_right x3 hkr
    have hcl := crash_len (kM n x2 W.1 x2.length).1 (kM n x2 W.1 x2.length).2 x3 (kM n x2 W.1 x2.length).2.length
    have hcu := fun (a : Nat) (ha : a < _) (hu) => crash_un (cuts := x3) (a := a) ha hkr hu _ (Nat.le_refl _)
    have htl := tch_len n x2 x2.length
    have hun := fun (a : Nat) (ha : (a : Int) < n) => tch_un hn.1 (more := x2) ha x2.length
    simp only [Bool.not_true, Bool.not_false, Bool.true_eq_false, SE.den, evU, evT, ev_le, ev_eq, ev_eqs, ev_eqb, ev_slt, ev_and, ev_or, ev_add, ev_sub, ev_mul, ev_tdiv, ev_tmod, ev_band, ev_bor, ev_bxor, ev_bandn, ev_shl, ev_shr, ev_cat, ev_byte, ev_idx, ev_cons, ev_snoc, ev_app, ev_take, ev_drop, ev_stake, ev_sdrop, ev_rep, leB_q, eqB_q, eqsB_q, not_q, i_if, b_if, l_if, s_if, i_int, b_bool, s_str, l_list, envL, List.getElem?_cons_succ, List.getElem?_cons_zero, List.getElem?_nil, Option.getD_some, Option.getD_none, Int.toNat_natCast, Int.toNat_zero, Int.reduceToNat, List.length_map, get_Li, get_Lb, get_Ls, set_Li, inj_Li, inj_Lb, inj_Ls, rows_i, rows_b, rows_s, Int.zero_add, iff_true, iff_false, and_true, true_and, Bool.false_eq_true, eq_self, not_true_eq_false, not_false_eq_true, List.length_replicate, DV.int.injEq, DV.bool.injEq, DV.str.injEq, DV.list.injEq, List.cons.injEq, f_is_0, rows_is, inj_Lis, f_is_1, rows_is, inj_Lis, diskKeepsPhi, dSaneF, dSaneE, writtenF, writtenE, dSyncF, dSyncE, dWriteF, dWriteE, dFullF, dFullE, rDRightF, rDRightE, dCrashF, dCrashE, dReadF, dReadE, rDSameF, rDSameE, gi, gb, gs, gLi, gLu, gLb, gLs, dece_i, dece_b, dece_s, gLis, deces_is, dece_s, deces_is, List.length_map, hkr]
    generalize kM n x2 W.1 x2.length = K at *
    generalize tchM n x2 x2.length = T at *
    generalize hC : crashM K.1 K.2 x3 K.2.length = C at *
    refine ⟨fun h => absurd (Int.le_refl _) h, fun _ => ⟨by omega, by omega, rfl, ?_⟩⟩
    refine rounds_at n.toNat (fun a => [.int a]) rfl (fun _ => rfl) (fun a ha => ?_) ?_
    · have e1 : ¬ n ≤ (a : Int) := by omega
      have e2 : ¬ (T.length : Int) ≤ (a : Int) := by omega
      have hwa : IntKind.i64.wrap ((a : Int) + 1) = ((a + 1 : Nat) : Int) := by rw [w64 (by omega) (by omega)]; omega
      have q1 : readDM C a = (C[a]?.getD [], 0) := read_in (n := n) (by omega) (by omega)
      have q2 : readDM W.1 a = (W.1[a]?.getD [], 0) := read_in g2 (by omega)
      have q3 : (T[a]?.getD (DV.int 0)).b = false → C[a]?.getD [] = W.1[a]?.getD [] := fun h => by
        rw [hcu a (by omega) (fun i hi => by rw [hka i (by omega)]; exact hun a (by omega) h i (by omega))]
        exact hku a fun j hj => hun a (by omega) h j hj
      simp only [Bool.not_true, Bool.not_false, Bool.true_eq_false, SE.den, evU, evT, ev_le, ev_eq, ev_eqs, ev_eqb, ev_slt, ev_and, ev_or, ev_add, ev_sub, ev_mul, ev_tdiv, ev_tmod, ev_band, ev_bor, ev_bxor, ev_bandn, ev_shl, ev_shr, ev_cat, ev_byte, ev_idx, ev_cons, ev_snoc, ev_app, ev_take, ev_drop, ev_stake, ev_sdrop, ev_rep, leB_q, eqB_q, eqsB_q, not_q, i_if, b_if, l_if, s_if, i_int, b_bool, s_str, l_list, envL, List.getElem?_cons_succ, List.getElem?_cons_zero, List.getElem?_nil, Option.getD_some, Option.getD_none, Int.toNat_natCast, Int.toNat_zero, Int.reduceToNat, List.length_map, get_Li, get_Lb, get_Ls, set_Li, inj_Li, inj_Lb, inj_Ls, rows_i, rows_b, rows_s, Int.zero_add, iff_true, iff_false, and_true, true_and, Bool.false_eq_true, eq_self, not_true_eq_false, not_false_eq_true, List.length_replicate, DV.int.injEq, DV.bool.injEq, DV.str.injEq, DV.list.injEq, List.cons.injEq, f_is_0, rows_is, inj_Lis, f_is_1, rows_is, inj_Lis, diskKeepsPhi, dSaneF, dSaneE, writtenF, writtenE, dSyncF, dSyncE, dWriteF, dWriteE, dFullF, dFullE, rDRightF, rDRightE, dCrashF, dCrashE, dReadF, dReadE, rDSameF, rDSameE, gi, gb, gs, gLi, gLu, gLb, gLs, dece_i, dece_b, dece_s, gLis, deces_is, List.cons_append, List.nil_append, dece_s, deces_is, List.length_map, hC, q1, q2, e1, e2, hwa, Int.toNat_natCast]
      refine ⟨fun _ => ⟨fun h => h.elim, fun _ => ⟨fun h => h.elim, fun _ => ⟨by omega, fun h => ⟨fun h' => h' (q3 h), fun _ => trivial⟩, fun _ => trivial⟩⟩⟩, fun h => h.elim⟩
    · have e1 : n ≤ (n.toNat : Int) := by omega
      simp only [Bool.not_true, Bool.not_false, Bool.true_eq_false, SE.den, evU, evT, ev_le, ev_eq, ev_eqs, ev_eqb, ev_slt, ev_and, ev_or, ev_add, ev_sub, ev_mul, ev_tdiv, ev_tmod, ev_band, ev_bor, ev_bxor, ev_bandn, ev_shl, ev_shr, ev_cat, ev_byte, ev_idx, ev_cons, ev_snoc, ev_app, ev_take, ev_drop, ev_stake, ev_sdrop, ev_rep, leB_q, eqB_q, eqsB_q, not_q, i_if, b_if, l_if, s_if, i_int, b_bool, s_str, l_list, envL, List.getElem?_cons_succ, List.getElem?_cons_zero, List.getElem?_nil, Option.getD_some, Option.getD_none, Int.toNat_natCast, Int.toNat_zero, Int.reduceToNat, List.length_map, get_Li, get_Lb, get_Ls, set_Li, inj_Li, inj_Lb, inj_Ls, rows_i, rows_b, rows_s, Int.zero_add, iff_true, iff_false, and_true, true_and, Bool.false_eq_true, eq_self, not_true_eq_false, not_false_eq_true, List.length_replicate, DV.int.injEq, DV.bool.injEq, DV.str.injEq, DV.list.injEq, List.cons.injEq, f_is_0, rows_is, inj_Lis, f_is_1, rows_is, inj_Lis, diskKeepsPhi, dSaneF, dSaneE, writtenF, writtenE, dSyncF, dSyncE, dWriteF, dWriteE, dFullF, dFullE, rDRightF, rDRightE, dCrashF, dCrashE, dReadF, dReadE, rDSameF, rDSameE, gi, gb, gs, gLi, gLu, gLb, gLs, dece_i, dece_b, dece_s, gLis, deces_is, List.cons_append, List.nil_append, dece_s, deces_is, List.length_map, hC, e1]
      have hz : List.map DV.i (List.take x2.length (List.drop 0 (List.replicate x2.length (DV.int 0)))) = List.replicate x2.length 0 := by
        rw [List.drop_zero, List.take_of_length_le (by simp), List.map_replicate]
        rfl
      have hcc : crashM C [] x3 0 = C := allSynced_end C []
      simp only [hz, hcz, List.map_nil, List.length_nil, hca, hcr, hcc, hcl, g1, List.length_replicate, List.take_replicate, List.drop_zero]
      have hz0 : (DV.int 0).i = 0 := rfl
      simp
      simp only [hz0, hcz]
      refine ⟨by omega, by omega, by omega, fun _ => by omega, trivial⟩
namespace row
open Go.ChangeShapes Go.WideShapes Go.ChangeAt Go.RowKit Go.Joins Go.Deep Go.Proofs.Ytljocjljkilkjaa
theorem lifted (os : Os) (started : os.Started) (H : Type) (enc : TypeId × Value → H) :
    ReturnsInHanded {} Try.checked os 5 .any (Rows.diskKeepsSyncedSpec.pre6 enc Try.prog Try.f5 Rows.diskKeepsSyncedRow.domain false) (Rows.diskKeepsSyncedSpec.post enc Try.prog Try.f5 false true false false) := by
  refine returnsInHanded_of_change (C := Try.checked) own started (by kernel_rfl) Try.func5
    (ChangeSpec.witness6 (enc := enc) (C := Try.checked) false ⟨#[], #[.agg #[.int .u8 0, .slice none 0 0, .slice none 0 0, .slice none 0 0]], []⟩ 8 (by kernel_rfl) (by kernel_rfl) (by kernel_rfl) (by kernel_rfl)) ?_
  intro W base args ds gs before hval0 hW hcnd _
  have hval : ∀ (j : Nat) t v, Try.f5.params[j]? = some t → args[j]? = some v → Value.okWide Try.prog W .any base t v := hval0
  have hW' := hW
  obtain ⟨p, q, hA0, hV, rfl, hfz, hnd⟩ := hW
  have hA : DataW.TrodAll enc Try.prog W 0 (fun _ => true) true Try.f5.params.toList args.toList ds p := hA0
  have hval2 : ∀ (j : Nat) t v, Try.f5.params.toList[j]? = some t → args.toList[j]? = some v → Value.okWide Try.prog W .any base t v := fun j t v a b => hval j t v (by simpa using a) (by simpa using b)
  have hcall := law_of diskKeeps_pure (fun _ h => h) (by rw [Try.params5]; kernel_rfl) hA hval2
  rw [Try.params5] at hA
  obtain ⟨v0, vs0, d0, ds0, p0, q0, hargs, rfl, rfl, h0, r0⟩ := trodAll_cons hA
  obtain ⟨rfl, rfl, rfl⟩ := trodAll_nil r0
  obtain rfl : args = #[v0] := by cases args; simp_all
  obtain ⟨rfl, rfl⟩ := trodVars_none hV
  have lt0 : ∀ x ∈ p0, x.block < W.heap.size := by obtain ⟨m, hm⟩ := h0; exact DataW.trod_lt m _ _ _ hm
  clear hA0 hval0 hval2
  refine Calls.mono hcall fun e W' ⟨he, bel⟩ => ?_
  subst he
  exact ⟨_, rfl, _, _, _, [], _, [], hW', trodAll_mk1 (shut_bool Try.underlying4 _), (trodAll_cons_mk (Below.trod laidOut (by kernel_rfl) (of_decide_eq_true (by kernel_rfl)) h0 bel lt0) trodAll_mk0), rfl, bel.frame _, fun h => by cases h⟩
theorem over : Rows.diskKeepsSyncedRow.holds Try.pinned (OpenSpec.ofChange Rows.diskKeepsSyncedSpec) :=
  OpenClaim.holds_of_wide 5 Try.f5 rfl rfl rfl rfl rfl rfl rfl ⟨rfl, rfl, rfl, rfl, rfl⟩ rfl rfl rfl rfl rfl (by kernel_rfl) Try.func5 (by kernel_rfl)
    (of_decide_eq_true (by kernel_rfl)) (by unfold Func.isWrapper; first | (rw [if_pos (by decide +kernel)]; kernel_rfl) | (rw [if_neg (by decide +kernel)]; exact ⟨rfl, rfl⟩))
    (fun os started H enc _ => lifted os started H enc)
end row
theorem diskKeeps_proved : Rows.DiskKeepsSyncedSaid := row.over
end Go.Proofs.Ytljocjljkilkjaa
