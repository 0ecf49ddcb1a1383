/- The function hallmootref22.Crash is a function of data. No condition. -/
import Derived.Test.YtljocjljkilkjaaRDRight
import Derived.Test.YtljocjljkilkjaaUndone
import Derived.Test.YtljocjljkilkjaaBd
import Derived.Test.YtljocjljkilkjaaOpen
namespace Go.Proofs.Ytljocjljkilkjaa
set_option linter.unusedVariables false
set_option linter.unusedSimpArgs false
set_option maxRecDepth 100000

def cutM (cuts : List Int) (i : Nat) : Nat := if cuts.length ≤ i then 32 else ((cuts[i]?.getD 0) % 33).toNat
/-- The sectors after the first writes came through as far as the cuts let them. -/
def crashM (sec : List (List UInt8)) (was : List Tis) (cuts : List Int) : Nat → List (List UInt8)
  | 0 => allSyncedM sec was 0
  | i + 1 => (crashM sec was cuts i).set (was[i]?.getD dis).1.toNat ((syncedM sec was (i + 1) (was[i]?.getD dis).1).take (cutM cuts i) ++ ((crashM sec was cuts i)[(was[i]?.getD dis).1.toNat]?.getD []).drop (cutM cuts i))
theorem crash_len (sec : List (List UInt8)) (was : List Tis) (cuts : List Int) : ∀ i, (crashM sec was cuts i).length = sec.length
  | 0 => allSynced_len _ _ _
  | i + 1 => by unfold crashM; rw [List.length_set]; exact crash_len sec was cuts i
theorem synced_len {sec : List (List UInt8)} {was : List Tis} (h : rightDM sec was = true) (j : Nat) {a : Nat} (ha : a < sec.length) : (syncedM sec was j a).length = 32 := by
  unfold syncedM
  split
  · rename_i w hw
    have hm : w ∈ was := List.mem_of_mem_drop (List.mem_of_find?_eq_some hw)
    unfold rightDM at h
    simp only [Bool.and_eq_true] at h
    have := of_decide_eq_true (List.all_eq_true.1 h.2.2 w hm)
    omega
  · have := right_sec h ha
    simp only [Int.toNat_natCast]
    omega
theorem cut_le (cuts : List Int) (i : Nat) : cutM cuts i ≤ 32 := by
  unfold cutM
  split <;> omega
theorem crash_32 {sec : List (List UInt8)} {was : List Tis} (cuts : List Int) (h : rightDM sec was = true) : ∀ i, i ≤ was.length → ∀ a, a < sec.length → ((crashM sec was cuts i)[a]?.getD []).length = 32
  | 0, _, a, ha => by
    show ((allSyncedM sec was 0)[a]?.getD []).length = 32
    rw [allSynced_get ha]
    exact synced_len h 0 ha
  | i + 1, hi, a, ha => by
    obtain ⟨w0, w1, w2⟩ := right_was h (show i < was.length by omega)
    have hwn : (was[i]?.getD dis).1.toNat < sec.length := by omega
    unfold crashM
    by_cases e : a = (was[i]?.getD dis).1.toNat
    · subst e
      rw [List.getElem?_set_self (by rw [crash_len]; exact ha)]
      have h1 := crash_32 cuts h i (by omega) _ hwn
      have h2 := synced_len h (i + 1) hwn
      rw [show (((was[i]?.getD dis).1.toNat : Nat) : Int) = (was[i]?.getD dis).1 by omega] at h2
      have h3 := cut_le cuts i
      simp only [Option.getD_some, List.length_append, List.length_take, List.length_drop, h1, h2]
      omega
    · rw [List.getElem?_set_ne (by omega)]
      exact crash_32 cuts h i (by omega) a ha
theorem cut_eq (n : Int) : (IntKind.i64.wrap (IntKind.i64.wrap (n.tmod 33 + 32) + 1)).tmod 33 = n % 33 := by
  have h : n.tmod 33 = n % 33 ∨ (n.tmod 33 < 0 ∧ n.tmod 33 + 33 = n % 33) := by
    rcases Int.lt_or_le n 0 with hn | hn
    · have e : n.tmod 33 = -((-n) % 33) := by
        conv => lhs; rw [show n = -(-n) by omega, Int.neg_tmod, Int.tmod_eq_emod_of_nonneg (by omega)]
      omega
    · left; exact Int.tmod_eq_emod_of_nonneg hn
  have h0 := Int.emod_nonneg n (show (33 : Int) ≠ 0 by omega)
  have h1 := Int.emod_lt_of_pos n (show (0 : Int) < 33 by omega)
  rcases h with h | ⟨h2, h⟩
  · rw [h, w64 (n := n % 33 + 32) (by omega) (by omega), w64 (n := n % 33 + 32 + 1) (by omega) (by omega), Int.tmod_eq_emod_of_nonneg (by omega)]
    omega
  · rw [w64 (n := n.tmod 33 + 32) (by omega) (by omega), w64 (n := n.tmod 33 + 32 + 1) (by omega) (by omega), Int.tmod_eq_emod_of_nonneg (by omega)]
    omega
theorem synced_skip {sec : List (List UInt8)} {was : List Tis} {a : Int} : ∀ (d m : Nat), m + d ≤ was.length → (∀ j, m ≤ j → j < m + d → (was[j]?.getD dis).1 ≠ a) → syncedM sec was m a = syncedM sec was (m + d) a
  | 0, m, _, _ => rfl
  | d + 1, m, h, hj => by
    rw [synced_step (show m < was.length by omega), if_neg (hj m (Nat.le_refl _) (by omega)), synced_skip d (m + 1) (by omega) (fun j h1 h2 => hj j (by omega) (by omega))]
    congr 1
    omega
theorem synced_find {sec : List (List UInt8)} {was : List Tis} {a : Int} (m k : Nat) (hmk : m ≤ k) (hk : k < was.length) (hj : ∀ j, m ≤ j → j < k → (was[j]?.getD dis).1 ≠ a) (ha : (was[k]?.getD dis).1 = a) : syncedM sec was m a = (was[k]?.getD dis).2 := by
  rw [synced_skip (k - m) m (by omega) (fun j h1 h2 => hj j h1 (by omega)), show m + (k - m) = k by omega, synced_step hk, if_pos ha]
theorem synced_none {sec : List (List UInt8)} {was : List Tis} {a : Int} (m : Nat) (hm : m ≤ was.length) (hj : ∀ j, m ≤ j → j < was.length → (was[j]?.getD dis).1 ≠ a) : syncedM sec was m a = sec[a.toNat]?.getD [] := by
  rw [synced_skip (was.length - m) m (by omega) (fun j h1 h2 => hj j h1 (by omega)), show m + (was.length - m) = was.length by omega, synced_end]
theorem cut_cases (n : Int) : (n.tmod 33 = n % 33 ∧ 0 ≤ n.tmod 33) ∨ (n.tmod 33 < 0 ∧ n.tmod 33 + 33 = n % 33) := by
  have h0 := Int.emod_nonneg n (show (33 : Int) ≠ 0 by omega)
  rcases Int.lt_or_le n 0 with hn | hn
  · have e : n.tmod 33 = -((-n) % 33) := by
      conv => lhs; rw [show n = -(-n) by omega, Int.neg_tmod, Int.tmod_eq_emod_of_nonneg (by omega)]
    omega
  · have := Int.tmod_eq_emod_of_nonneg (b := 33) hn
    omega
theorem cut_neg {n : Int} (h : n.tmod 33 < 0) : IntKind.i64.wrap (n.tmod 33 + 33) = ((n % 33).toNat : Int) := by
  have h0 := Int.emod_nonneg n (show (33 : Int) ≠ 0 by omega)
  have h1 := Int.emod_lt_of_pos n (show (0 : Int) < 33 by omega)
  rcases cut_cases n with ⟨a, b⟩ | ⟨a, b⟩
  · omega
  · rw [w64 (by omega) (by omega)]; omega
theorem cut_pos {n : Int} (h : 0 ≤ n.tmod 33) : n.tmod 33 = ((n % 33).toNat : Int) := by
  have h0 := Int.emod_nonneg n (show (33 : Int) ≠ 0 by omega)
  rcases cut_cases n with ⟨a, b⟩ | ⟨a, b⟩ <;> omega
def rCrashE (sec : List (List UInt8)) (was : List Tis) (cuts : List Int) : List DV := [.list ((crashM sec was cuts was.length).map DV.str), .list []]

def rCrashF (ds : List DV) : List DV := rCrashE (gLs ds 0) (gLis ds 1) (gLi ds 2)
/-- What the executor makes of it. -/
def rCrashTree : PT :=
(.loop 3 [.nil, (.int 0)]
 (.br (.un .not (.bin .le (.un .len (.var 0)) (.var 4)))
  (.loop 5 [(.int 0)]
   (.br (.un .not (.bin .le (.un .len (.var 1)) (.var 5)))
    (.asrt (.bin .le (.int 0) (.var 5))
     (.br (.bin .eq (.bin .idx (.bin .idx (.var 1) (.bin .add (.int 0) (.var 5))) (.int 0)) (.var 4))
      .fail
      (.leaf [(.un (.wrap .i64) (.bin .add (.var 5) (.int 1)))])))
    .fail)
   (.br (.un .not (.bin .le (.un .len (.var 1)) (.var 5)))
    (.asrt (.bin .le (.int 0) (.var 5))
     (.br (.bin .eq (.bin .idx (.bin .idx (.var 1) (.bin .add (.int 0) (.var 5))) (.int 0)) (.var 4))
      (.asrt (.bin .le (.bin .add (.un .len (.var 3)) (.int 1)) (.int 4294967296))
       (.leaf [(.bin .snoc (.var 3) (.bin .idx (.bin .idx (.var 1) (.bin .add (.int 0) (.var 5))) (.int 1))), (.un (.wrap .i64) (.bin .add (.var 4) (.int 1)))]))
      .fail))
    (.asrt (.bin .le (.int 0) (.var 4))
     (.asrt (.bin .le (.bin .add (.un .len (.var 3)) (.int 1)) (.int 4294967296))
      (.leaf [(.bin .snoc (.var 3) (.bin .idx (.var 0) (.bin .add (.int 0) (.var 4)))), (.un (.wrap .i64) (.bin .add (.var 4) (.int 1)))])))))
  .fail)
 (.br (.un .not (.bin .le (.un .len (.var 0)) (.var 4)))
  (.loop 5 [(.int 0)]
   (.br (.un .not (.bin .le (.un .len (.var 1)) (.var 5)))
    (.asrt (.bin .le (.int 0) (.var 5))
     (.br (.bin .eq (.bin .idx (.bin .idx (.var 1) (.bin .add (.int 0) (.var 5))) (.int 0)) (.var 4))
      .fail
      (.leaf [(.un (.wrap .i64) (.bin .add (.var 5) (.int 1)))])))
    .fail)
   (.br (.un .not (.bin .le (.un .len (.var 1)) (.var 5)))
    (.asrt (.bin .le (.int 0) (.var 5))
     (.br (.bin .eq (.bin .idx (.bin .idx (.var 1) (.bin .add (.int 0) (.var 5))) (.int 0)) (.var 4))
      (.asrt (.bin .le (.bin .add (.un .len (.var 3)) (.int 1)) (.int 4294967296))
       .fail)
      .fail))
    (.asrt (.bin .le (.int 0) (.var 4))
     (.asrt (.bin .le (.bin .add (.un .len (.var 3)) (.int 1)) (.int 4294967296))
      .fail))))
  (.loop 5 [(.int 0), (.var 3)]
   (.br (.un .not (.bin .le (.un .len (.var 1)) (.var 5)))
    (.br (.bin .le (.un .len (.var 2)) (.var 5))
     (.loop 7 [(.un (.wrap .i64) (.bin .add (.var 5) (.int 1)))]
      (.br (.un .not (.bin .le (.un .len (.var 1)) (.var 7)))
       (.asrt (.bin .le (.int 0) (.var 7))
        (.br (.bin .eq (.bin .idx (.bin .idx (.var 1) (.bin .add (.int 0) (.var 7))) (.int 0)) (.bin .idx (.bin .idx (.var 1) (.bin .add (.int 0) (.var 5))) (.int 0)))
         .fail
         (.leaf [(.un (.wrap .i64) (.bin .add (.var 7) (.int 1)))])))
       .fail)
      (.br (.un .not (.bin .le (.un .len (.var 1)) (.var 7)))
       (.asrt (.bin .le (.int 0) (.var 7))
        (.br (.bin .eq (.bin .idx (.bin .idx (.var 1) (.bin .add (.int 0) (.var 7))) (.int 0)) (.bin .idx (.bin .idx (.var 1) (.bin .add (.int 0) (.var 5))) (.int 0)))
         (.asrt (.bin .le (.int 32) (.un .slen (.bin .idx (.bin .idx (.var 1) (.bin .add (.int 0) (.var 7))) (.int 1))))
          (.asrt (.bin .le (.int 0) (.bin .idx (.bin .idx (.var 1) (.bin .add (.int 0) (.var 5))) (.int 0)))
           (.asrt (.un .not (.bin .le (.un .len (.var 3)) (.bin .idx (.bin .idx (.var 1) (.bin .add (.int 0) (.var 5))) (.int 0))))
            (.asrt (.un .not (.bin .le (.un .len (.var 6)) (.bin .add (.int 0) (.bin .idx (.bin .idx (.var 1) (.bin .add (.int 0) (.var 5))) (.int 0)))))
             (.asrt (.bin .le (.int 32) (.un .slen (.bin .idx (.var 6) (.bin .add (.int 0) (.bin .idx (.bin .idx (.var 1) (.bin .add (.int 0) (.var 5))) (.int 0))))))
              (.asrt (.bin .le (.bin .add (.un .slen (.bin .sdrop (.bin .stake (.bin .idx (.bin .idx (.var 1) (.bin .add (.int 0) (.var 7))) (.int 1)) (.int 32)) (.int 0))) (.un .slen (.bin .sdrop (.bin .stake (.bin .idx (.var 6) (.bin .add (.int 0) (.bin .idx (.bin .idx (.var 1) (.bin .add (.int 0) (.var 5))) (.int 0)))) (.un .slen (.bin .idx (.var 6) (.bin .add (.int 0) (.bin .idx (.bin .idx (.var 1) (.bin .add (.int 0) (.var 5))) (.int 0)))))) (.int 32)))) (.int 9223372036854775807))
               (.leaf [(.un (.wrap .i64) (.bin .add (.var 5) (.int 1))), (.tri .set (.var 6) (.bin .add (.int 0) (.bin .idx (.bin .idx (.var 1) (.bin .add (.int 0) (.var 5))) (.int 0))) (.bin .cat (.bin .sdrop (.bin .stake (.bin .idx (.bin .idx (.var 1) (.bin .add (.int 0) (.var 7))) (.int 1)) (.int 32)) (.int 0)) (.bin .sdrop (.bin .stake (.bin .idx (.var 6) (.bin .add (.int 0) (.bin .idx (.bin .idx (.var 1) (.bin .add (.int 0) (.var 5))) (.int 0)))) (.un .slen (.bin .idx (.var 6) (.bin .add (.int 0) (.bin .idx (.bin .idx (.var 1) (.bin .add (.int 0) (.var 5))) (.int 0)))))) (.int 32))))])))))))
         .fail))
       (.asrt (.bin .le (.int 0) (.bin .idx (.bin .idx (.var 1) (.bin .add (.int 0) (.var 5))) (.int 0)))
        (.asrt (.un .not (.bin .le (.un .len (.var 0)) (.bin .idx (.bin .idx (.var 1) (.bin .add (.int 0) (.var 5))) (.int 0))))
         (.asrt (.bin .le (.int 32) (.un .slen (.bin .idx (.var 0) (.bin .add (.int 0) (.bin .idx (.bin .idx (.var 1) (.bin .add (.int 0) (.var 5))) (.int 0))))))
          (.asrt (.un .not (.bin .le (.un .len (.var 3)) (.bin .idx (.bin .idx (.var 1) (.bin .add (.int 0) (.var 5))) (.int 0))))
           (.asrt (.un .not (.bin .le (.un .len (.var 6)) (.bin .add (.int 0) (.bin .idx (.bin .idx (.var 1) (.bin .add (.int 0) (.var 5))) (.int 0)))))
            (.asrt (.bin .le (.int 32) (.un .slen (.bin .idx (.var 6) (.bin .add (.int 0) (.bin .idx (.bin .idx (.var 1) (.bin .add (.int 0) (.var 5))) (.int 0))))))
             (.asrt (.bin .le (.bin .add (.un .slen (.bin .sdrop (.bin .stake (.bin .idx (.var 0) (.bin .add (.int 0) (.bin .idx (.bin .idx (.var 1) (.bin .add (.int 0) (.var 5))) (.int 0)))) (.int 32)) (.int 0))) (.un .slen (.bin .sdrop (.bin .stake (.bin .idx (.var 6) (.bin .add (.int 0) (.bin .idx (.bin .idx (.var 1) (.bin .add (.int 0) (.var 5))) (.int 0)))) (.un .slen (.bin .idx (.var 6) (.bin .add (.int 0) (.bin .idx (.bin .idx (.var 1) (.bin .add (.int 0) (.var 5))) (.int 0)))))) (.int 32)))) (.int 9223372036854775807))
              (.leaf [(.un (.wrap .i64) (.bin .add (.var 5) (.int 1))), (.tri .set (.var 6) (.bin .add (.int 0) (.bin .idx (.bin .idx (.var 1) (.bin .add (.int 0) (.var 5))) (.int 0))) (.bin .cat (.bin .sdrop (.bin .stake (.bin .idx (.var 0) (.bin .add (.int 0) (.bin .idx (.bin .idx (.var 1) (.bin .add (.int 0) (.var 5))) (.int 0)))) (.int 32)) (.int 0)) (.bin .sdrop (.bin .stake (.bin .idx (.var 6) (.bin .add (.int 0) (.bin .idx (.bin .idx (.var 1) (.bin .add (.int 0) (.var 5))) (.int 0)))) (.un .slen (.bin .idx (.var 6) (.bin .add (.int 0) (.bin .idx (.bin .idx (.var 1) (.bin .add (.int 0) (.var 5))) (.int 0)))))) (.int 32))))]))))))))))
     (.asrt (.bin .le (.int 0) (.var 5))
      (.br (.un .not (.bin .le (.int 0) (.bin .tmod (.bin .idx (.var 2) (.bin .add (.int 0) (.var 5))) (.int 33))))
       (.loop 7 [(.un (.wrap .i64) (.bin .add (.var 5) (.int 1)))]
        (.br (.un .not (.bin .le (.un .len (.var 1)) (.var 7)))
         (.asrt (.bin .le (.int 0) (.var 7))
          (.br (.bin .eq (.bin .idx (.bin .idx (.var 1) (.bin .add (.int 0) (.var 7))) (.int 0)) (.bin .idx (.bin .idx (.var 1) (.bin .add (.int 0) (.var 5))) (.int 0)))
           .fail
           (.leaf [(.un (.wrap .i64) (.bin .add (.var 7) (.int 1)))])))
         .fail)
        (.br (.un .not (.bin .le (.un .len (.var 1)) (.var 7)))
         (.asrt (.bin .le (.int 0) (.var 7))
          (.br (.bin .eq (.bin .idx (.bin .idx (.var 1) (.bin .add (.int 0) (.var 7))) (.int 0)) (.bin .idx (.bin .idx (.var 1) (.bin .add (.int 0) (.var 5))) (.int 0)))
           (.asrt (.bin .le (.int 0) (.un (.wrap .i64) (.bin .add (.bin .tmod (.bin .idx (.var 2) (.bin .add (.int 0) (.var 5))) (.int 33)) (.int 33))))
            (.asrt (.bin .le (.un (.wrap .i64) (.bin .add (.bin .tmod (.bin .idx (.var 2) (.bin .add (.int 0) (.var 5))) (.int 33)) (.int 33))) (.un .slen (.bin .idx (.bin .idx (.var 1) (.bin .add (.int 0) (.var 7))) (.int 1))))
             (.asrt (.bin .le (.int 0) (.bin .idx (.bin .idx (.var 1) (.bin .add (.int 0) (.var 5))) (.int 0)))
              (.asrt (.un .not (.bin .le (.un .len (.var 3)) (.bin .idx (.bin .idx (.var 1) (.bin .add (.int 0) (.var 5))) (.int 0))))
               (.asrt (.un .not (.bin .le (.un .len (.var 6)) (.bin .add (.int 0) (.bin .idx (.bin .idx (.var 1) (.bin .add (.int 0) (.var 5))) (.int 0)))))
                (.asrt (.bin .le (.un (.wrap .i64) (.bin .add (.bin .tmod (.bin .idx (.var 2) (.bin .add (.int 0) (.var 5))) (.int 33)) (.int 33))) (.un .slen (.bin .idx (.var 6) (.bin .add (.int 0) (.bin .idx (.bin .idx (.var 1) (.bin .add (.int 0) (.var 5))) (.int 0))))))
                 (.asrt (.bin .le (.bin .add (.un .slen (.bin .sdrop (.bin .stake (.bin .idx (.bin .idx (.var 1) (.bin .add (.int 0) (.var 7))) (.int 1)) (.un (.wrap .i64) (.bin .add (.bin .tmod (.bin .idx (.var 2) (.bin .add (.int 0) (.var 5))) (.int 33)) (.int 33)))) (.int 0))) (.un .slen (.bin .sdrop (.bin .stake (.bin .idx (.var 6) (.bin .add (.int 0) (.bin .idx (.bin .idx (.var 1) (.bin .add (.int 0) (.var 5))) (.int 0)))) (.un .slen (.bin .idx (.var 6) (.bin .add (.int 0) (.bin .idx (.bin .idx (.var 1) (.bin .add (.int 0) (.var 5))) (.int 0)))))) (.un (.wrap .i64) (.bin .add (.bin .tmod (.bin .idx (.var 2) (.bin .add (.int 0) (.var 5))) (.int 33)) (.int 33)))))) (.int 9223372036854775807))
                  (.leaf [(.un (.wrap .i64) (.bin .add (.var 5) (.int 1))), (.tri .set (.var 6) (.bin .add (.int 0) (.bin .idx (.bin .idx (.var 1) (.bin .add (.int 0) (.var 5))) (.int 0))) (.bin .cat (.bin .sdrop (.bin .stake (.bin .idx (.bin .idx (.var 1) (.bin .add (.int 0) (.var 7))) (.int 1)) (.un (.wrap .i64) (.bin .add (.bin .tmod (.bin .idx (.var 2) (.bin .add (.int 0) (.var 5))) (.int 33)) (.int 33)))) (.int 0)) (.bin .sdrop (.bin .stake (.bin .idx (.var 6) (.bin .add (.int 0) (.bin .idx (.bin .idx (.var 1) (.bin .add (.int 0) (.var 5))) (.int 0)))) (.un .slen (.bin .idx (.var 6) (.bin .add (.int 0) (.bin .idx (.bin .idx (.var 1) (.bin .add (.int 0) (.var 5))) (.int 0)))))) (.un (.wrap .i64) (.bin .add (.bin .tmod (.bin .idx (.var 2) (.bin .add (.int 0) (.var 5))) (.int 33)) (.int 33))))))]))))))))
           .fail))
         (.asrt (.bin .le (.int 0) (.bin .idx (.bin .idx (.var 1) (.bin .add (.int 0) (.var 5))) (.int 0)))
          (.asrt (.un .not (.bin .le (.un .len (.var 0)) (.bin .idx (.bin .idx (.var 1) (.bin .add (.int 0) (.var 5))) (.int 0))))
           (.asrt (.bin .le (.int 0) (.un (.wrap .i64) (.bin .add (.bin .tmod (.bin .idx (.var 2) (.bin .add (.int 0) (.var 5))) (.int 33)) (.int 33))))
            (.asrt (.bin .le (.un (.wrap .i64) (.bin .add (.bin .tmod (.bin .idx (.var 2) (.bin .add (.int 0) (.var 5))) (.int 33)) (.int 33))) (.un .slen (.bin .idx (.var 0) (.bin .add (.int 0) (.bin .idx (.bin .idx (.var 1) (.bin .add (.int 0) (.var 5))) (.int 0))))))
             (.asrt (.un .not (.bin .le (.un .len (.var 3)) (.bin .idx (.bin .idx (.var 1) (.bin .add (.int 0) (.var 5))) (.int 0))))
              (.asrt (.un .not (.bin .le (.un .len (.var 6)) (.bin .add (.int 0) (.bin .idx (.bin .idx (.var 1) (.bin .add (.int 0) (.var 5))) (.int 0)))))
               (.asrt (.bin .le (.un (.wrap .i64) (.bin .add (.bin .tmod (.bin .idx (.var 2) (.bin .add (.int 0) (.var 5))) (.int 33)) (.int 33))) (.un .slen (.bin .idx (.var 6) (.bin .add (.int 0) (.bin .idx (.bin .idx (.var 1) (.bin .add (.int 0) (.var 5))) (.int 0))))))
                (.asrt (.bin .le (.bin .add (.un .slen (.bin .sdrop (.bin .stake (.bin .idx (.var 0) (.bin .add (.int 0) (.bin .idx (.bin .idx (.var 1) (.bin .add (.int 0) (.var 5))) (.int 0)))) (.un (.wrap .i64) (.bin .add (.bin .tmod (.bin .idx (.var 2) (.bin .add (.int 0) (.var 5))) (.int 33)) (.int 33)))) (.int 0))) (.un .slen (.bin .sdrop (.bin .stake (.bin .idx (.var 6) (.bin .add (.int 0) (.bin .idx (.bin .idx (.var 1) (.bin .add (.int 0) (.var 5))) (.int 0)))) (.un .slen (.bin .idx (.var 6) (.bin .add (.int 0) (.bin .idx (.bin .idx (.var 1) (.bin .add (.int 0) (.var 5))) (.int 0)))))) (.un (.wrap .i64) (.bin .add (.bin .tmod (.bin .idx (.var 2) (.bin .add (.int 0) (.var 5))) (.int 33)) (.int 33)))))) (.int 9223372036854775807))
                 (.leaf [(.un (.wrap .i64) (.bin .add (.var 5) (.int 1))), (.tri .set (.var 6) (.bin .add (.int 0) (.bin .idx (.bin .idx (.var 1) (.bin .add (.int 0) (.var 5))) (.int 0))) (.bin .cat (.bin .sdrop (.bin .stake (.bin .idx (.var 0) (.bin .add (.int 0) (.bin .idx (.bin .idx (.var 1) (.bin .add (.int 0) (.var 5))) (.int 0)))) (.un (.wrap .i64) (.bin .add (.bin .tmod (.bin .idx (.var 2) (.bin .add (.int 0) (.var 5))) (.int 33)) (.int 33)))) (.int 0)) (.bin .sdrop (.bin .stake (.bin .idx (.var 6) (.bin .add (.int 0) (.bin .idx (.bin .idx (.var 1) (.bin .add (.int 0) (.var 5))) (.int 0)))) (.un .slen (.bin .idx (.var 6) (.bin .add (.int 0) (.bin .idx (.bin .idx (.var 1) (.bin .add (.int 0) (.var 5))) (.int 0)))))) (.un (.wrap .i64) (.bin .add (.bin .tmod (.bin .idx (.var 2) (.bin .add (.int 0) (.var 5))) (.int 33)) (.int 33))))))])))))))))))
       (.loop 7 [(.un (.wrap .i64) (.bin .add (.var 5) (.int 1)))]
        (.br (.un .not (.bin .le (.un .len (.var 1)) (.var 7)))
         (.asrt (.bin .le (.int 0) (.var 7))
          (.br (.bin .eq (.bin .idx (.bin .idx (.var 1) (.bin .add (.int 0) (.var 7))) (.int 0)) (.bin .idx (.bin .idx (.var 1) (.bin .add (.int 0) (.var 5))) (.int 0)))
           .fail
           (.leaf [(.un (.wrap .i64) (.bin .add (.var 7) (.int 1)))])))
         .fail)
        (.br (.un .not (.bin .le (.un .len (.var 1)) (.var 7)))
         (.asrt (.bin .le (.int 0) (.var 7))
          (.br (.bin .eq (.bin .idx (.bin .idx (.var 1) (.bin .add (.int 0) (.var 7))) (.int 0)) (.bin .idx (.bin .idx (.var 1) (.bin .add (.int 0) (.var 5))) (.int 0)))
           (.asrt (.bin .le (.bin .tmod (.bin .idx (.var 2) (.bin .add (.int 0) (.var 5))) (.int 33)) (.un .slen (.bin .idx (.bin .idx (.var 1) (.bin .add (.int 0) (.var 7))) (.int 1))))
            (.asrt (.bin .le (.int 0) (.bin .idx (.bin .idx (.var 1) (.bin .add (.int 0) (.var 5))) (.int 0)))
             (.asrt (.un .not (.bin .le (.un .len (.var 3)) (.bin .idx (.bin .idx (.var 1) (.bin .add (.int 0) (.var 5))) (.int 0))))
              (.asrt (.un .not (.bin .le (.un .len (.var 6)) (.bin .add (.int 0) (.bin .idx (.bin .idx (.var 1) (.bin .add (.int 0) (.var 5))) (.int 0)))))
               (.asrt (.bin .le (.bin .tmod (.bin .idx (.var 2) (.bin .add (.int 0) (.var 5))) (.int 33)) (.un .slen (.bin .idx (.var 6) (.bin .add (.int 0) (.bin .idx (.bin .idx (.var 1) (.bin .add (.int 0) (.var 5))) (.int 0))))))
                (.asrt (.bin .le (.bin .add (.un .slen (.bin .sdrop (.bin .stake (.bin .idx (.bin .idx (.var 1) (.bin .add (.int 0) (.var 7))) (.int 1)) (.bin .tmod (.bin .idx (.var 2) (.bin .add (.int 0) (.var 5))) (.int 33))) (.int 0))) (.un .slen (.bin .sdrop (.bin .stake (.bin .idx (.var 6) (.bin .add (.int 0) (.bin .idx (.bin .idx (.var 1) (.bin .add (.int 0) (.var 5))) (.int 0)))) (.un .slen (.bin .idx (.var 6) (.bin .add (.int 0) (.bin .idx (.bin .idx (.var 1) (.bin .add (.int 0) (.var 5))) (.int 0)))))) (.bin .tmod (.bin .idx (.var 2) (.bin .add (.int 0) (.var 5))) (.int 33))))) (.int 9223372036854775807))
                 (.leaf [(.un (.wrap .i64) (.bin .add (.var 5) (.int 1))), (.tri .set (.var 6) (.bin .add (.int 0) (.bin .idx (.bin .idx (.var 1) (.bin .add (.int 0) (.var 5))) (.int 0))) (.bin .cat (.bin .sdrop (.bin .stake (.bin .idx (.bin .idx (.var 1) (.bin .add (.int 0) (.var 7))) (.int 1)) (.bin .tmod (.bin .idx (.var 2) (.bin .add (.int 0) (.var 5))) (.int 33))) (.int 0)) (.bin .sdrop (.bin .stake (.bin .idx (.var 6) (.bin .add (.int 0) (.bin .idx (.bin .idx (.var 1) (.bin .add (.int 0) (.var 5))) (.int 0)))) (.un .slen (.bin .idx (.var 6) (.bin .add (.int 0) (.bin .idx (.bin .idx (.var 1) (.bin .add (.int 0) (.var 5))) (.int 0)))))) (.bin .tmod (.bin .idx (.var 2) (.bin .add (.int 0) (.var 5))) (.int 33)))))])))))))
           .fail))
         (.asrt (.bin .le (.int 0) (.bin .idx (.bin .idx (.var 1) (.bin .add (.int 0) (.var 5))) (.int 0)))
          (.asrt (.un .not (.bin .le (.un .len (.var 0)) (.bin .idx (.bin .idx (.var 1) (.bin .add (.int 0) (.var 5))) (.int 0))))
           (.asrt (.bin .le (.bin .tmod (.bin .idx (.var 2) (.bin .add (.int 0) (.var 5))) (.int 33)) (.un .slen (.bin .idx (.var 0) (.bin .add (.int 0) (.bin .idx (.bin .idx (.var 1) (.bin .add (.int 0) (.var 5))) (.int 0))))))
            (.asrt (.un .not (.bin .le (.un .len (.var 3)) (.bin .idx (.bin .idx (.var 1) (.bin .add (.int 0) (.var 5))) (.int 0))))
             (.asrt (.un .not (.bin .le (.un .len (.var 6)) (.bin .add (.int 0) (.bin .idx (.bin .idx (.var 1) (.bin .add (.int 0) (.var 5))) (.int 0)))))
              (.asrt (.bin .le (.bin .tmod (.bin .idx (.var 2) (.bin .add (.int 0) (.var 5))) (.int 33)) (.un .slen (.bin .idx (.var 6) (.bin .add (.int 0) (.bin .idx (.bin .idx (.var 1) (.bin .add (.int 0) (.var 5))) (.int 0))))))
               (.asrt (.bin .le (.bin .add (.un .slen (.bin .sdrop (.bin .stake (.bin .idx (.var 0) (.bin .add (.int 0) (.bin .idx (.bin .idx (.var 1) (.bin .add (.int 0) (.var 5))) (.int 0)))) (.bin .tmod (.bin .idx (.var 2) (.bin .add (.int 0) (.var 5))) (.int 33))) (.int 0))) (.un .slen (.bin .sdrop (.bin .stake (.bin .idx (.var 6) (.bin .add (.int 0) (.bin .idx (.bin .idx (.var 1) (.bin .add (.int 0) (.var 5))) (.int 0)))) (.un .slen (.bin .idx (.var 6) (.bin .add (.int 0) (.bin .idx (.bin .idx (.var 1) (.bin .add (.int 0) (.var 5))) (.int 0)))))) (.bin .tmod (.bin .idx (.var 2) (.bin .add (.int 0) (.var 5))) (.int 33))))) (.int 9223372036854775807))
                (.leaf [(.un (.wrap .i64) (.bin .add (.var 5) (.int 1))), (.tri .set (.var 6) (.bin .add (.int 0) (.bin .idx (.bin .idx (.var 1) (.bin .add (.int 0) (.var 5))) (.int 0))) (.bin .cat (.bin .sdrop (.bin .stake (.bin .idx (.var 0) (.bin .add (.int 0) (.bin .idx (.bin .idx (.var 1) (.bin .add (.int 0) (.var 5))) (.int 0)))) (.bin .tmod (.bin .idx (.var 2) (.bin .add (.int 0) (.var 5))) (.int 33))) (.int 0)) (.bin .sdrop (.bin .stake (.bin .idx (.var 6) (.bin .add (.int 0) (.bin .idx (.bin .idx (.var 1) (.bin .add (.int 0) (.var 5))) (.int 0)))) (.un .slen (.bin .idx (.var 6) (.bin .add (.int 0) (.bin .idx (.bin .idx (.var 1) (.bin .add (.int 0) (.var 5))) (.int 0)))))) (.bin .tmod (.bin .idx (.var 2) (.bin .add (.int 0) (.var 5))) (.int 33)))))])))))))))))))
    .fail)
   (.br (.un .not (.bin .le (.un .len (.var 1)) (.var 5)))
    (.br (.bin .le (.un .len (.var 2)) (.var 5))
     (.loop 7 [(.un (.wrap .i64) (.bin .add (.var 5) (.int 1)))]
      (.br (.un .not (.bin .le (.un .len (.var 1)) (.var 7)))
       (.asrt (.bin .le (.int 0) (.var 7))
        (.br (.bin .eq (.bin .idx (.bin .idx (.var 1) (.bin .add (.int 0) (.var 7))) (.int 0)) (.bin .idx (.bin .idx (.var 1) (.bin .add (.int 0) (.var 5))) (.int 0)))
         .fail
         (.leaf [(.un (.wrap .i64) (.bin .add (.var 7) (.int 1)))])))
       .fail)
      (.br (.un .not (.bin .le (.un .len (.var 1)) (.var 7)))
       (.asrt (.bin .le (.int 0) (.var 7))
        (.br (.bin .eq (.bin .idx (.bin .idx (.var 1) (.bin .add (.int 0) (.var 7))) (.int 0)) (.bin .idx (.bin .idx (.var 1) (.bin .add (.int 0) (.var 5))) (.int 0)))
         (.asrt (.bin .le (.int 32) (.un .slen (.bin .idx (.bin .idx (.var 1) (.bin .add (.int 0) (.var 7))) (.int 1))))
          (.asrt (.bin .le (.int 0) (.bin .idx (.bin .idx (.var 1) (.bin .add (.int 0) (.var 5))) (.int 0)))
           (.asrt (.un .not (.bin .le (.un .len (.var 3)) (.bin .idx (.bin .idx (.var 1) (.bin .add (.int 0) (.var 5))) (.int 0))))
            (.asrt (.un .not (.bin .le (.un .len (.var 6)) (.bin .add (.int 0) (.bin .idx (.bin .idx (.var 1) (.bin .add (.int 0) (.var 5))) (.int 0)))))
             (.asrt (.bin .le (.int 32) (.un .slen (.bin .idx (.var 6) (.bin .add (.int 0) (.bin .idx (.bin .idx (.var 1) (.bin .add (.int 0) (.var 5))) (.int 0))))))
              (.asrt (.bin .le (.bin .add (.un .slen (.bin .sdrop (.bin .stake (.bin .idx (.bin .idx (.var 1) (.bin .add (.int 0) (.var 7))) (.int 1)) (.int 32)) (.int 0))) (.un .slen (.bin .sdrop (.bin .stake (.bin .idx (.var 6) (.bin .add (.int 0) (.bin .idx (.bin .idx (.var 1) (.bin .add (.int 0) (.var 5))) (.int 0)))) (.un .slen (.bin .idx (.var 6) (.bin .add (.int 0) (.bin .idx (.bin .idx (.var 1) (.bin .add (.int 0) (.var 5))) (.int 0)))))) (.int 32)))) (.int 9223372036854775807))
               .fail))))))
         .fail))
       (.asrt (.bin .le (.int 0) (.bin .idx (.bin .idx (.var 1) (.bin .add (.int 0) (.var 5))) (.int 0)))
        (.asrt (.un .not (.bin .le (.un .len (.var 0)) (.bin .idx (.bin .idx (.var 1) (.bin .add (.int 0) (.var 5))) (.int 0))))
         (.asrt (.bin .le (.int 32) (.un .slen (.bin .idx (.var 0) (.bin .add (.int 0) (.bin .idx (.bin .idx (.var 1) (.bin .add (.int 0) (.var 5))) (.int 0))))))
          (.asrt (.un .not (.bin .le (.un .len (.var 3)) (.bin .idx (.bin .idx (.var 1) (.bin .add (.int 0) (.var 5))) (.int 0))))
           (.asrt (.un .not (.bin .le (.un .len (.var 6)) (.bin .add (.int 0) (.bin .idx (.bin .idx (.var 1) (.bin .add (.int 0) (.var 5))) (.int 0)))))
            (.asrt (.bin .le (.int 32) (.un .slen (.bin .idx (.var 6) (.bin .add (.int 0) (.bin .idx (.bin .idx (.var 1) (.bin .add (.int 0) (.var 5))) (.int 0))))))
             (.asrt (.bin .le (.bin .add (.un .slen (.bin .sdrop (.bin .stake (.bin .idx (.var 0) (.bin .add (.int 0) (.bin .idx (.bin .idx (.var 1) (.bin .add (.int 0) (.var 5))) (.int 0)))) (.int 32)) (.int 0))) (.un .slen (.bin .sdrop (.bin .stake (.bin .idx (.var 6) (.bin .add (.int 0) (.bin .idx (.bin .idx (.var 1) (.bin .add (.int 0) (.var 5))) (.int 0)))) (.un .slen (.bin .idx (.var 6) (.bin .add (.int 0) (.bin .idx (.bin .idx (.var 1) (.bin .add (.int 0) (.var 5))) (.int 0)))))) (.int 32)))) (.int 9223372036854775807))
              .fail)))))))))
     (.asrt (.bin .le (.int 0) (.var 5))
      (.br (.un .not (.bin .le (.int 0) (.bin .tmod (.bin .idx (.var 2) (.bin .add (.int 0) (.var 5))) (.int 33))))
       (.loop 7 [(.un (.wrap .i64) (.bin .add (.var 5) (.int 1)))]
        (.br (.un .not (.bin .le (.un .len (.var 1)) (.var 7)))
         (.asrt (.bin .le (.int 0) (.var 7))
          (.br (.bin .eq (.bin .idx (.bin .idx (.var 1) (.bin .add (.int 0) (.var 7))) (.int 0)) (.bin .idx (.bin .idx (.var 1) (.bin .add (.int 0) (.var 5))) (.int 0)))
           .fail
           (.leaf [(.un (.wrap .i64) (.bin .add (.var 7) (.int 1)))])))
         .fail)
        (.br (.un .not (.bin .le (.un .len (.var 1)) (.var 7)))
         (.asrt (.bin .le (.int 0) (.var 7))
          (.br (.bin .eq (.bin .idx (.bin .idx (.var 1) (.bin .add (.int 0) (.var 7))) (.int 0)) (.bin .idx (.bin .idx (.var 1) (.bin .add (.int 0) (.var 5))) (.int 0)))
           (.asrt (.bin .le (.int 0) (.un (.wrap .i64) (.bin .add (.bin .tmod (.bin .idx (.var 2) (.bin .add (.int 0) (.var 5))) (.int 33)) (.int 33))))
            (.asrt (.bin .le (.un (.wrap .i64) (.bin .add (.bin .tmod (.bin .idx (.var 2) (.bin .add (.int 0) (.var 5))) (.int 33)) (.int 33))) (.un .slen (.bin .idx (.bin .idx (.var 1) (.bin .add (.int 0) (.var 7))) (.int 1))))
             (.asrt (.bin .le (.int 0) (.bin .idx (.bin .idx (.var 1) (.bin .add (.int 0) (.var 5))) (.int 0)))
              (.asrt (.un .not (.bin .le (.un .len (.var 3)) (.bin .idx (.bin .idx (.var 1) (.bin .add (.int 0) (.var 5))) (.int 0))))
               (.asrt (.un .not (.bin .le (.un .len (.var 6)) (.bin .add (.int 0) (.bin .idx (.bin .idx (.var 1) (.bin .add (.int 0) (.var 5))) (.int 0)))))
                (.asrt (.bin .le (.un (.wrap .i64) (.bin .add (.bin .tmod (.bin .idx (.var 2) (.bin .add (.int 0) (.var 5))) (.int 33)) (.int 33))) (.un .slen (.bin .idx (.var 6) (.bin .add (.int 0) (.bin .idx (.bin .idx (.var 1) (.bin .add (.int 0) (.var 5))) (.int 0))))))
                 (.asrt (.bin .le (.bin .add (.un .slen (.bin .sdrop (.bin .stake (.bin .idx (.bin .idx (.var 1) (.bin .add (.int 0) (.var 7))) (.int 1)) (.un (.wrap .i64) (.bin .add (.bin .tmod (.bin .idx (.var 2) (.bin .add (.int 0) (.var 5))) (.int 33)) (.int 33)))) (.int 0))) (.un .slen (.bin .sdrop (.bin .stake (.bin .idx (.var 6) (.bin .add (.int 0) (.bin .idx (.bin .idx (.var 1) (.bin .add (.int 0) (.var 5))) (.int 0)))) (.un .slen (.bin .idx (.var 6) (.bin .add (.int 0) (.bin .idx (.bin .idx (.var 1) (.bin .add (.int 0) (.var 5))) (.int 0)))))) (.un (.wrap .i64) (.bin .add (.bin .tmod (.bin .idx (.var 2) (.bin .add (.int 0) (.var 5))) (.int 33)) (.int 33)))))) (.int 9223372036854775807))
                  .fail)))))))
           .fail))
         (.asrt (.bin .le (.int 0) (.bin .idx (.bin .idx (.var 1) (.bin .add (.int 0) (.var 5))) (.int 0)))
          (.asrt (.un .not (.bin .le (.un .len (.var 0)) (.bin .idx (.bin .idx (.var 1) (.bin .add (.int 0) (.var 5))) (.int 0))))
           (.asrt (.bin .le (.int 0) (.un (.wrap .i64) (.bin .add (.bin .tmod (.bin .idx (.var 2) (.bin .add (.int 0) (.var 5))) (.int 33)) (.int 33))))
            (.asrt (.bin .le (.un (.wrap .i64) (.bin .add (.bin .tmod (.bin .idx (.var 2) (.bin .add (.int 0) (.var 5))) (.int 33)) (.int 33))) (.un .slen (.bin .idx (.var 0) (.bin .add (.int 0) (.bin .idx (.bin .idx (.var 1) (.bin .add (.int 0) (.var 5))) (.int 0))))))
             (.asrt (.un .not (.bin .le (.un .len (.var 3)) (.bin .idx (.bin .idx (.var 1) (.bin .add (.int 0) (.var 5))) (.int 0))))
              (.asrt (.un .not (.bin .le (.un .len (.var 6)) (.bin .add (.int 0) (.bin .idx (.bin .idx (.var 1) (.bin .add (.int 0) (.var 5))) (.int 0)))))
               (.asrt (.bin .le (.un (.wrap .i64) (.bin .add (.bin .tmod (.bin .idx (.var 2) (.bin .add (.int 0) (.var 5))) (.int 33)) (.int 33))) (.un .slen (.bin .idx (.var 6) (.bin .add (.int 0) (.bin .idx (.bin .idx (.var 1) (.bin .add (.int 0) (.var 5))) (.int 0))))))
                (.asrt (.bin .le (.bin .add (.un .slen (.bin .sdrop (.bin .stake (.bin .idx (.var 0) (.bin .add (.int 0) (.bin .idx (.bin .idx (.var 1) (.bin .add (.int 0) (.var 5))) (.int 0)))) (.un (.wrap .i64) (.bin .add (.bin .tmod (.bin .idx (.var 2) (.bin .add (.int 0) (.var 5))) (.int 33)) (.int 33)))) (.int 0))) (.un .slen (.bin .sdrop (.bin .stake (.bin .idx (.var 6) (.bin .add (.int 0) (.bin .idx (.bin .idx (.var 1) (.bin .add (.int 0) (.var 5))) (.int 0)))) (.un .slen (.bin .idx (.var 6) (.bin .add (.int 0) (.bin .idx (.bin .idx (.var 1) (.bin .add (.int 0) (.var 5))) (.int 0)))))) (.un (.wrap .i64) (.bin .add (.bin .tmod (.bin .idx (.var 2) (.bin .add (.int 0) (.var 5))) (.int 33)) (.int 33)))))) (.int 9223372036854775807))
                 .fail))))))))))
       (.loop 7 [(.un (.wrap .i64) (.bin .add (.var 5) (.int 1)))]
        (.br (.un .not (.bin .le (.un .len (.var 1)) (.var 7)))
         (.asrt (.bin .le (.int 0) (.var 7))
          (.br (.bin .eq (.bin .idx (.bin .idx (.var 1) (.bin .add (.int 0) (.var 7))) (.int 0)) (.bin .idx (.bin .idx (.var 1) (.bin .add (.int 0) (.var 5))) (.int 0)))
           .fail
           (.leaf [(.un (.wrap .i64) (.bin .add (.var 7) (.int 1)))])))
         .fail)
        (.br (.un .not (.bin .le (.un .len (.var 1)) (.var 7)))
         (.asrt (.bin .le (.int 0) (.var 7))
          (.br (.bin .eq (.bin .idx (.bin .idx (.var 1) (.bin .add (.int 0) (.var 7))) (.int 0)) (.bin .idx (.bin .idx (.var 1) (.bin .add (.int 0) (.var 5))) (.int 0)))
           (.asrt (.bin .le (.bin .tmod (.bin .idx (.var 2) (.bin .add (.int 0) (.var 5))) (.int 33)) (.un .slen (.bin .idx (.bin .idx (.var 1) (.bin .add (.int 0) (.var 7))) (.int 1))))
            (.asrt (.bin .le (.int 0) (.bin .idx (.bin .idx (.var 1) (.bin .add (.int 0) (.var 5))) (.int 0)))
             (.asrt (.un .not (.bin .le (.un .len (.var 3)) (.bin .idx (.bin .idx (.var 1) (.bin .add (.int 0) (.var 5))) (.int 0))))
              (.asrt (.un .not (.bin .le (.un .len (.var 6)) (.bin .add (.int 0) (.bin .idx (.bin .idx (.var 1) (.bin .add (.int 0) (.var 5))) (.int 0)))))
               (.asrt (.bin .le (.bin .tmod (.bin .idx (.var 2) (.bin .add (.int 0) (.var 5))) (.int 33)) (.un .slen (.bin .idx (.var 6) (.bin .add (.int 0) (.bin .idx (.bin .idx (.var 1) (.bin .add (.int 0) (.var 5))) (.int 0))))))
                (.asrt (.bin .le (.bin .add (.un .slen (.bin .sdrop (.bin .stake (.bin .idx (.bin .idx (.var 1) (.bin .add (.int 0) (.var 7))) (.int 1)) (.bin .tmod (.bin .idx (.var 2) (.bin .add (.int 0) (.var 5))) (.int 33))) (.int 0))) (.un .slen (.bin .sdrop (.bin .stake (.bin .idx (.var 6) (.bin .add (.int 0) (.bin .idx (.bin .idx (.var 1) (.bin .add (.int 0) (.var 5))) (.int 0)))) (.un .slen (.bin .idx (.var 6) (.bin .add (.int 0) (.bin .idx (.bin .idx (.var 1) (.bin .add (.int 0) (.var 5))) (.int 0)))))) (.bin .tmod (.bin .idx (.var 2) (.bin .add (.int 0) (.var 5))) (.int 33))))) (.int 9223372036854775807))
                 .fail))))))
           .fail))
         (.asrt (.bin .le (.int 0) (.bin .idx (.bin .idx (.var 1) (.bin .add (.int 0) (.var 5))) (.int 0)))
          (.asrt (.un .not (.bin .le (.un .len (.var 0)) (.bin .idx (.bin .idx (.var 1) (.bin .add (.int 0) (.var 5))) (.int 0))))
           (.asrt (.bin .le (.bin .tmod (.bin .idx (.var 2) (.bin .add (.int 0) (.var 5))) (.int 33)) (.un .slen (.bin .idx (.var 0) (.bin .add (.int 0) (.bin .idx (.bin .idx (.var 1) (.bin .add (.int 0) (.var 5))) (.int 0))))))
            (.asrt (.un .not (.bin .le (.un .len (.var 3)) (.bin .idx (.bin .idx (.var 1) (.bin .add (.int 0) (.var 5))) (.int 0))))
             (.asrt (.un .not (.bin .le (.un .len (.var 6)) (.bin .add (.int 0) (.bin .idx (.bin .idx (.var 1) (.bin .add (.int 0) (.var 5))) (.int 0)))))
              (.asrt (.bin .le (.bin .tmod (.bin .idx (.var 2) (.bin .add (.int 0) (.var 5))) (.int 33)) (.un .slen (.bin .idx (.var 6) (.bin .add (.int 0) (.bin .idx (.bin .idx (.var 1) (.bin .add (.int 0) (.var 5))) (.int 0))))))
               (.asrt (.bin .le (.bin .add (.un .slen (.bin .sdrop (.bin .stake (.bin .idx (.var 0) (.bin .add (.int 0) (.bin .idx (.bin .idx (.var 1) (.bin .add (.int 0) (.var 5))) (.int 0)))) (.bin .tmod (.bin .idx (.var 2) (.bin .add (.int 0) (.var 5))) (.int 33))) (.int 0))) (.un .slen (.bin .sdrop (.bin .stake (.bin .idx (.var 6) (.bin .add (.int 0) (.bin .idx (.bin .idx (.var 1) (.bin .add (.int 0) (.var 5))) (.int 0)))) (.un .slen (.bin .idx (.var 6) (.bin .add (.int 0) (.bin .idx (.bin .idx (.var 1) (.bin .add (.int 0) (.var 5))) (.int 0)))))) (.bin .tmod (.bin .idx (.var 2) (.bin .add (.int 0) (.var 5))) (.int 33))))) (.int 9223372036854775807))
                .fail))))))))))))
    (.asrt (.bin .le (.bin .add (.int 0) (.un .len (.var 3))) (.un .len (.var 6)))
     (.leaf [(.bin .take (.bin .drop (.var 6) (.int 0)) (.un .len (.var 3))), .nil]))))))

def rCrashSm : List (Nat × Smy) := [(11, ⟨78, [.agg [.rows false [.str], .rows false [.int .i64, .str]]], [.one (.pl .bool)], lenC [(0, 1000000), (1, 1000000)], none⟩)]
def rCrashLa : List (LK × LA) := [(⟨32, 2, 7, 5⟩, ⟨[(5, (.int .i64 (.var 5))), (6, .any), (7, .any), (8, .any), (9, .any), (10, .any), (11, .any), (12, .any), (13, .any), (14, .any), (15, .any), (16, .any), (17, .any), (18, .any), (19, .any), (20, .any), (21, .any), (22, .any), (23, .any), (24, .any), (25, .any), (26, .any)], [], [], 1, 0⟩),
  (⟨58, 3, 5, 3⟩, ⟨[(5, (.sl 5 1 (.int 0) (.un .len (.var 3)) none)), (6, (.int .i64 (.var 4))), (11, .any), (12, .any), (13, .any), (14, .any), (15, .any), (16, .any), (17, .any), (18, .any), (19, .any), (20, .any), (21, .any), (22, .any), (23, .any)], [(5, (.rows [.str] (.var 3)))], [], 2, 1⟩),
  (⟨44, 2, 7, 7⟩, ⟨[(5, (.int .i64 (.var 7))), (8, .any), (9, .any), (10, .any), (11, .any), (12, .any), (13, .any), (14, .any), (15, .any), (16, .any), (17, .any), (18, .any), (19, .any), (20, .any), (21, .any), (22, .any), (23, .any), (24, .any), (25, .any), (26, .any), (27, .any), (28, .any), (29, .any), (30, .any), (31, .any), (32, .any), (33, .any)], [], [], 1, 0⟩),
  (⟨58, 7, 6, 5⟩, ⟨[(7, (.int .i64 (.var 5))), (8, .any), (9, .any), (10, .any), (24, .any), (25, .any), (26, .any), (27, .any), (28, .any), (29, .any), (30, .any), (31, .any), (32, .any), (33, .any), (34, .any), (35, .any), (36, .any), (37, .any), (38, .any), (39, .any), (40, .any), (41, .any), (42, .any), (43, .any), (44, .any), (45, .any), (46, .any), (47, .any), (48, .any), (49, .any), (50, .any), (51, .any), (52, .any), (53, .any), (54, .any), (55, .any)], [(5, (.rows [.str] (.var 6)))], [], 2, 0⟩)]
def rCrashPhi : Nat → DV → DV := fun n d => match n with
  | 78 => .list (rDRightF d.l)
  | _ => d
theorem rCrashS : SmyOk Try.prog rCrashPhi rCrashSm := (smy_cons (lenP [(0, 1000000), (1, 1000000)]) rDRightF rDRight_pure (len_hp [(0, 1000000), (1, 1000000)]) (fun _ => rfl) (fun _ h => by cases h) smy_nil)
theorem rCrashT : treeOk ⟨Try.prog, rCrashSm, rCrashLa⟩ 4000 22 [.agg [.rows false [.str], .rows false [.int .i64, .str]], .one (.rows false [.int .i64])] [.agg [.rows false [.str], .rows false [.int .i64, .str]]] ([]) rCrashTree = true := by decide +kernel
set_option maxHeartbeats 1000000 in
theorem rCrash_pure : Pure Try.prog 22 [.agg [.rows false [.str], .rows false [.int .i64, .str]], .one (.rows false [.int .i64])] [.agg [.rows false [.str], .rows false [.int .i64, .str]]] (fun ds => (lenP [(0, 1000000), (1, 1000000), (2, 1000000)]) ds ∧ rightDM (gLs ds 0) (gLis ds 1) = true) rCrashF := by
  refine pure_tree (X := ⟨Try.prog, rCrashSm, rCrashLa⟩) (Checked.mixed Try.checked) rCrashS (by decide +kernel) (by decide +kernel) rCrashT (by decide +kernel) ?_
  intro ds hl hp
  obtain ⟨d0, d1, d2, rfl⟩ := len3 hl
  have b0 : (d0.l.length : Int) ≤ 1000000 := hp.1 (0, 1000000) (by simp)
  have b1 : (d1.l.length : Int) ≤ 1000000 := hp.1 (1, 1000000) (by simp)
  have b2 : (d2.l.length : Int) ≤ 1000000 := hp.1 (2, 1000000) (by simp)
  have hx : rightDM (d0.l.map DV.s) (d1.l.map decis) = true := hp.2
  have hF : rCrashF [d0, d1, d2] = rCrashE (d0.l.map DV.s) (d1.l.map decis) (d2.l.map DV.i) := rfl
  rw [hF]
  clear hF hp hl
  have hN : nrmL (clsOf [.agg [.rows false [.str], .rows false [.int .i64, .str]], .one (.rows false [.int .i64])]) [d0, d1, d2] = [.list ((d0.l.map DV.s).map DV.str), .list ((d1.l.map decis).map encis), .list ((d2.l.map DV.i).map DV.int)] := by
    simp only [clsOf, Sh.cls, List.append_nil, List.cons_append, List.nil_append, nrmL, Cl.nrm, CK.nrm, map_Li, map_Lis, map_Ls]
  rw [hN]
  clear hN
  rw [← List.length_map (f := DV.s)] at b0
  generalize d0.l.map DV.s = x0 at b0 hx ⊢
  rw [← List.length_map (f := decis)] at b1
  generalize d1.l.map decis = x1 at b1 hx ⊢
  rw [← List.length_map (f := DV.i)] at b2
  generalize d2.l.map DV.i = x2 at b2 ⊢
  refine ⟨facts_nil _, ?_⟩
  unfold rCrashTree rCrashE
  simp only [Sat, clsOf, Sh.cls, List.append_nil, List.cons_append, List.nil_append, nrmL, Cl.nrm, CK.nrm, List.map_cons, List.map_nil, List.length_cons, List.length_nil, List.cons.injEq, DV.bool.injEq, DV.int.injEq, DV.list.injEq, DV.str.injEq, and_true, true_and]
  try simp only [q_le, q_eq, q_eqs, q_eqb, q_and, q_or, q_not, q_bool, iff_true, iff_false, Bool.not_true, Bool.not_false, Bool.false_eq_true, Bool.true_eq_false, eq_self, Bool.not_not]
  simp only [Bool.not_true, Bool.not_false, Bool.true_eq_false, SE.den, evU, evT, ev_le, ev_eq, ev_eqs, ev_eqb, ev_slt, ev_and, ev_or, ev_add, ev_sub, ev_mul, ev_tdiv, ev_tmod, ev_band, ev_bor, ev_bxor, ev_bandn, ev_shl, ev_shr, ev_cat, ev_byte, ev_idx, ev_cons, ev_snoc, ev_app, ev_take, ev_drop, ev_stake, ev_sdrop, ev_rep, leB_q, eqB_q, eqsB_q, not_q, i_if, b_if, l_if, s_if, i_int, b_bool, s_str, l_list, envL, List.getElem?_cons_succ, List.getElem?_cons_zero, List.getElem?_nil, Option.getD_some, Option.getD_none, Int.toNat_natCast, Int.toNat_zero, Int.reduceToNat, List.length_map, get_Li, get_Lb, get_Ls, set_Li, inj_Li, inj_Lb, inj_Ls, rows_i, rows_b, rows_s, Int.zero_add, iff_true, iff_false, and_true, true_and, Bool.false_eq_true, eq_self, not_true_eq_false, not_false_eq_true, List.length_replicate, DV.int.injEq, DV.bool.injEq, DV.str.injEq, DV.list.injEq, List.cons.injEq, f_is_0, rows_is, inj_Lis, f_is_1, rows_is, inj_Lis, rCrashPhi, rDRightF, rDRightE, gi, gb, gs, gLi, gLu, gLb, gLs, dece_i, dece_b, dece_s, gLis, deces_is]
  have take_one : ∀ a, a < x0.length → (List.take a (allSyncedM x0 x1 0)).map DV.str ++ [DV.str (syncedM x0 x1 0 a)] = (List.take (a + 1) (allSyncedM x0 x1 0)).map DV.str := fun a ha => by
    have : (allSyncedM x0 x1 0)[a]? = some (syncedM x0 x1 0 a) := by simp [allSyncedM, ha]
    rw [List.take_add_one, this, List.map_append]
    rfl
  refine rounds_at x0.length (fun a => [.list ((List.take a (allSyncedM x0 x1 0)).map DV.str), .int a]) rfl (fun _ => rfl) (fun a ha => ?_) ?_
  · have e1 : ¬ (x0.length : Int) ≤ a := by omega
    have hwa : IntKind.i64.wrap ((a : Int) + 1) = a + 1 := w64 (by omega) (by omega)
    have hll : (List.map DV.str (List.take a (allSyncedM x0 x1 0))).length = a := by rw [List.length_map, List.length_take, allSynced_len]; omega
    simp only [Bool.not_true, Bool.not_false, Bool.true_eq_false, SE.den, evU, evT, ev_le, ev_eq, ev_eqs, ev_eqb, ev_slt, ev_and, ev_or, ev_add, ev_sub, ev_mul, ev_tdiv, ev_tmod, ev_band, ev_bor, ev_bxor, ev_bandn, ev_shl, ev_shr, ev_cat, ev_byte, ev_idx, ev_cons, ev_snoc, ev_app, ev_take, ev_drop, ev_stake, ev_sdrop, ev_rep, leB_q, eqB_q, eqsB_q, not_q, i_if, b_if, l_if, s_if, i_int, b_bool, s_str, l_list, envL, List.getElem?_cons_succ, List.getElem?_cons_zero, List.getElem?_nil, Option.getD_some, Option.getD_none, Int.toNat_natCast, Int.toNat_zero, Int.reduceToNat, List.length_map, get_Li, get_Lb, get_Ls, set_Li, inj_Li, inj_Lb, inj_Ls, rows_i, rows_b, rows_s, Int.zero_add, iff_true, iff_false, and_true, true_and, Bool.false_eq_true, eq_self, not_true_eq_false, not_false_eq_true, List.length_replicate, DV.int.injEq, DV.bool.injEq, DV.str.injEq, DV.list.injEq, List.cons.injEq, f_is_0, rows_is, inj_Lis, f_is_1, rows_is, inj_Lis, e1]
    refine ⟨fun _ => ⟨rfl, ?_⟩, fun h => h.elim⟩
    refine rounds_find x1.length (fun k => [.int k]) (fun k => (x1[k]?.getD dis).1 = (a : Int)) rfl (fun _ => rfl) (fun k hk hs hj => ?_) (fun k hk hs hj => ?_) (fun hj => ?_)
    · have e2 : ¬ (x1.length : Int) ≤ k := by omega
      have hwk : IntKind.i64.wrap ((k : Int) + 1) = k + 1 := w64 (by omega) (by omega)
      simp only [Bool.not_true, Bool.not_false, Bool.true_eq_false, SE.den, evU, evT, ev_le, ev_eq, ev_eqs, ev_eqb, ev_slt, ev_and, ev_or, ev_add, ev_sub, ev_mul, ev_tdiv, ev_tmod, ev_band, ev_bor, ev_bxor, ev_bandn, ev_shl, ev_shr, ev_cat, ev_byte, ev_idx, ev_cons, ev_snoc, ev_app, ev_take, ev_drop, ev_stake, ev_sdrop, ev_rep, leB_q, eqB_q, eqsB_q, not_q, i_if, b_if, l_if, s_if, i_int, b_bool, s_str, l_list, envL, List.getElem?_cons_succ, List.getElem?_cons_zero, List.getElem?_nil, Option.getD_some, Option.getD_none, Int.toNat_natCast, Int.toNat_zero, Int.reduceToNat, List.length_map, get_Li, get_Lb, get_Ls, set_Li, inj_Li, inj_Lb, inj_Ls, rows_i, rows_b, rows_s, Int.zero_add, iff_true, iff_false, and_true, true_and, Bool.false_eq_true, eq_self, not_true_eq_false, not_false_eq_true, List.length_replicate, DV.int.injEq, DV.bool.injEq, DV.str.injEq, DV.list.injEq, List.cons.injEq, f_is_0, rows_is, inj_Lis, f_is_1, rows_is, inj_Lis, List.cons_append, List.nil_append, e2, hs, hwk]
      simp
    · have e2 : ¬ (x1.length : Int) ≤ k := by omega
      have hf := synced_find (sec := x0) 0 k (Nat.zero_le _) hk (fun j _ h => hj j h) hs
      have hr := raw_is_1 hk
      have ho := take_one a ha
      rw [hf] at ho
      simp only [Bool.not_true, Bool.not_false, Bool.true_eq_false, SE.den, evU, evT, ev_le, ev_eq, ev_eqs, ev_eqb, ev_slt, ev_and, ev_or, ev_add, ev_sub, ev_mul, ev_tdiv, ev_tmod, ev_band, ev_bor, ev_bxor, ev_bandn, ev_shl, ev_shr, ev_cat, ev_byte, ev_idx, ev_cons, ev_snoc, ev_app, ev_take, ev_drop, ev_stake, ev_sdrop, ev_rep, leB_q, eqB_q, eqsB_q, not_q, i_if, b_if, l_if, s_if, i_int, b_bool, s_str, l_list, envL, List.getElem?_cons_succ, List.getElem?_cons_zero, List.getElem?_nil, Option.getD_some, Option.getD_none, Int.toNat_natCast, Int.toNat_zero, Int.reduceToNat, List.length_map, get_Li, get_Lb, get_Ls, set_Li, inj_Li, inj_Lb, inj_Ls, rows_i, rows_b, rows_s, Int.zero_add, iff_true, iff_false, and_true, true_and, Bool.false_eq_true, eq_self, not_true_eq_false, not_false_eq_true, List.length_replicate, DV.int.injEq, DV.bool.injEq, DV.str.injEq, DV.list.injEq, List.cons.injEq, f_is_0, rows_is, inj_Lis, f_is_1, rows_is, inj_Lis, List.cons_append, List.nil_append, e2, hs, hr, ho, hwa, hll]
      simp
      try omega
    · have hf := synced_none (sec := x0) (was := x1) (a := (a : Int)) 0 (Nat.zero_le _) (fun j _ h => hj j h)
      have hr := raw_s ha
      have ho := take_one a ha
      rw [hf] at ho
      simp only [Int.toNat_natCast] at ho
      simp only [Bool.not_true, Bool.not_false, Bool.true_eq_false, SE.den, evU, evT, ev_le, ev_eq, ev_eqs, ev_eqb, ev_slt, ev_and, ev_or, ev_add, ev_sub, ev_mul, ev_tdiv, ev_tmod, ev_band, ev_bor, ev_bxor, ev_bandn, ev_shl, ev_shr, ev_cat, ev_byte, ev_idx, ev_cons, ev_snoc, ev_app, ev_take, ev_drop, ev_stake, ev_sdrop, ev_rep, leB_q, eqB_q, eqsB_q, not_q, i_if, b_if, l_if, s_if, i_int, b_bool, s_str, l_list, envL, List.getElem?_cons_succ, List.getElem?_cons_zero, List.getElem?_nil, Option.getD_some, Option.getD_none, Int.toNat_natCast, Int.toNat_zero, Int.reduceToNat, List.length_map, get_Li, get_Lb, get_Ls, set_Li, inj_Li, inj_Lb, inj_Ls, rows_i, rows_b, rows_s, Int.zero_add, iff_true, iff_false, and_true, true_and, Bool.false_eq_true, eq_self, not_true_eq_false, not_false_eq_true, List.length_replicate, DV.int.injEq, DV.bool.injEq, DV.str.injEq, DV.list.injEq, List.cons.injEq, f_is_0, rows_is, inj_Lis, f_is_1, rows_is, inj_Lis, List.cons_append, List.nil_append, hr, ho, hwa, hll]
      simp
      try omega
  · simp only [Bool.not_true, Bool.not_false, Bool.true_eq_false, SE.den, evU, evT, ev_le, ev_eq, ev_eqs, ev_eqb, ev_slt, ev_and, ev_or, ev_add, ev_sub, ev_mul, ev_tdiv, ev_tmod, ev_band, ev_bor, ev_bxor, ev_bandn, ev_shl, ev_shr, ev_cat, ev_byte, ev_idx, ev_cons, ev_snoc, ev_app, ev_take, ev_drop, ev_stake, ev_sdrop, ev_rep, leB_q, eqB_q, eqsB_q, not_q, i_if, b_if, l_if, s_if, i_int, b_bool, s_str, l_list, envL, List.getElem?_cons_succ, List.getElem?_cons_zero, List.getElem?_nil, Option.getD_some, Option.getD_none, Int.toNat_natCast, Int.toNat_zero, Int.reduceToNat, List.length_map, get_Li, get_Lb, get_Ls, set_Li, inj_Li, inj_Lb, inj_Ls, rows_i, rows_b, rows_s, Int.zero_add, iff_true, iff_false, and_true, true_and, Bool.false_eq_true, eq_self, not_true_eq_false, not_false_eq_true, List.length_replicate, DV.int.injEq, DV.bool.injEq, DV.str.injEq, DV.list.injEq, List.cons.injEq, f_is_0, rows_is, inj_Lis, f_is_1, rows_is, inj_Lis]
    refine ⟨fun h => absurd (Int.le_refl _) h, fun _ => ⟨rfl, ?_⟩⟩
    have tk : List.take x0.length (allSyncedM x0 x1 0) = allSyncedM x0 x1 0 := List.take_of_length_le (by rw [allSynced_len]; exact Nat.le_refl _)
    simp only [tk]
    refine rounds_at x1.length (fun i => [.int i, .list ((crashM x0 x1 x2 i).map DV.str)]) rfl (fun _ => rfl) (fun i hi => ?_) ?_
    · obtain ⟨w0, w1, w2⟩ := right_was hx hi
      have hwn : (x1[i]?.getD dis).1.toNat < x0.length := by omega
      have hp32 : (syncedM x0 x1 (i + 1) (x1[i]?.getD dis).1).length = 32 := by
        have := synced_len hx (i + 1) hwn
        rw [show (((x1[i]?.getD dis).1.toNat : Nat) : Int) = (x1[i]?.getD dis).1 by omega] at this
        exact this
      have hraw : ((List.map DV.str (crashM x0 x1 x2 i))[(x1[i]?.getD dis).1.toNat]?).getD (DV.int 0) = .str ((crashM x0 x1 x2 i)[(x1[i]?.getD dis).1.toNat]?.getD []) := raw_s (by rw [crash_len]; exact hwn)
      have hs32 := crash_32 x2 hx i (by omega) _ hwn
      have e1 : ¬ (x1.length : Int) ≤ i := by omega
      have e2 : ¬ (x0.length : Int) ≤ (x1[i]?.getD dis).1 := by omega
      have ec : crashM x0 x1 x2 (i + 1) = (crashM x0 x1 x2 i).set (x1[i]?.getD dis).1.toNat ((syncedM x0 x1 (i + 1) (x1[i]?.getD dis).1).take (cutM x2 i) ++ ((crashM x0 x1 x2 i)[(x1[i]?.getD dis).1.toNat]?.getD []).drop (cutM x2 i)) := rfl
      have hw : IntKind.i64.wrap ((i : Int) + 1) = i + 1 := w64 (by omega) (by omega)
      have hcl := cut_le x2 i
      generalize hS : (crashM x0 x1 x2 i)[(x1[i]?.getD dis).1.toNat]?.getD [] = s0 at *
      have t32 : List.take 32 s0 = s0 := List.take_of_length_le (by omega)
      have hwk : ∀ k : Nat, k < x1.length - (i + 1) → IntKind.i64.wrap ((i : Int) + 1 + k + 1) = i + 1 + (k + 1 : Nat) := fun k hk => by rw [w64 (by omega) (by omega)]; omega
      have tn : ∀ k : Nat, ((i : Int) + 1 + k).toNat = i + 1 + k := fun k => by omega
      have fin : ∀ k, k < x1.length - (i + 1) → (x1[i + 1 + k]?.getD dis).1 = (x1[i]?.getD dis).1 → (∀ j, j < k → ¬ (x1[i + 1 + j]?.getD dis).1 = (x1[i]?.getD dis).1) → syncedM x0 x1 (i + 1) (x1[i]?.getD dis).1 = (x1[i + 1 + k]?.getD dis).2 := fun k hk h hj =>
        synced_find (i + 1) (i + 1 + k) (by omega) (by omega) (fun j h1 h2 => by have := hj (j - (i + 1)) (by omega); rw [show i + 1 + (j - (i + 1)) = j by omega] at this; exact this) h
      have non : (∀ j, j < x1.length - (i + 1) → ¬ (x1[i + 1 + j]?.getD dis).1 = (x1[i]?.getD dis).1) → syncedM x0 x1 (i + 1) (x1[i]?.getD dis).1 = x0[(x1[i]?.getD dis).1.toNat]?.getD [] := fun hj =>
        synced_none (i + 1) (by omega) (fun j h1 h2 => by have := hj (j - (i + 1)) (by omega); rw [show i + 1 + (j - (i + 1)) = j by omega] at this; exact this)
      simp only [Bool.not_true, Bool.not_false, Bool.true_eq_false, SE.den, evU, evT, ev_le, ev_eq, ev_eqs, ev_eqb, ev_slt, ev_and, ev_or, ev_add, ev_sub, ev_mul, ev_tdiv, ev_tmod, ev_band, ev_bor, ev_bxor, ev_bandn, ev_shl, ev_shr, ev_cat, ev_byte, ev_idx, ev_cons, ev_snoc, ev_app, ev_take, ev_drop, ev_stake, ev_sdrop, ev_rep, leB_q, eqB_q, eqsB_q, not_q, i_if, b_if, l_if, s_if, i_int, b_bool, s_str, l_list, envL, List.getElem?_cons_succ, List.getElem?_cons_zero, List.getElem?_nil, Option.getD_some, Option.getD_none, Int.toNat_natCast, Int.toNat_zero, Int.reduceToNat, List.length_map, get_Li, get_Lb, get_Ls, set_Li, inj_Li, inj_Lb, inj_Ls, rows_i, rows_b, rows_s, Int.zero_add, iff_true, iff_false, and_true, true_and, Bool.false_eq_true, eq_self, not_true_eq_false, not_false_eq_true, List.length_replicate, DV.int.injEq, DV.bool.injEq, DV.str.injEq, DV.list.injEq, List.cons.injEq, f_is_0, rows_is, inj_Lis, f_is_1, rows_is, inj_Lis, List.cons_append, List.nil_append, e1, e2, hraw, allSynced_len, crash_len, w0, hw, List.drop_zero, ec, hS, hs32, t32]
      refine ⟨fun _ => ⟨fun hcu => ⟨rfl, ?_⟩, fun hcu => ⟨by omega, fun hn => ⟨rfl, ?_⟩, fun hn => ⟨rfl, ?_⟩⟩⟩, fun h => h.elim⟩
      · have hc : cutM x2 i = 32 := by unfold cutM; rw [if_pos (by omega)]
        simp only [hc]
        refine rounds_find (x1.length - (i + 1)) (fun k => [.int ((i : Int) + 1 + (k : Nat))]) (fun k => (x1[i + 1 + k]?.getD dis).1 = (x1[i]?.getD dis).1) (by simp) (fun _ => rfl) (fun k hk hs hj => ?_) (fun k hk hs hj => ?_) (fun hj => ?_)
        · have ek : ¬ (x1.length : Int) ≤ (i : Int) + 1 + (k : Nat) := by omega
          simp only [Bool.not_true, Bool.not_false, Bool.true_eq_false, SE.den, evU, evT, ev_le, ev_eq, ev_eqs, ev_eqb, ev_slt, ev_and, ev_or, ev_add, ev_sub, ev_mul, ev_tdiv, ev_tmod, ev_band, ev_bor, ev_bxor, ev_bandn, ev_shl, ev_shr, ev_cat, ev_byte, ev_idx, ev_cons, ev_snoc, ev_app, ev_take, ev_drop, ev_stake, ev_sdrop, ev_rep, leB_q, eqB_q, eqsB_q, not_q, i_if, b_if, l_if, s_if, i_int, b_bool, s_str, l_list, envL, List.getElem?_cons_succ, List.getElem?_cons_zero, List.getElem?_nil, Option.getD_some, Option.getD_none, Int.toNat_natCast, Int.toNat_zero, Int.reduceToNat, List.length_map, get_Li, get_Lb, get_Ls, set_Li, inj_Li, inj_Lb, inj_Ls, rows_i, rows_b, rows_s, Int.zero_add, iff_true, iff_false, and_true, true_and, Bool.false_eq_true, eq_self, not_true_eq_false, not_false_eq_true, List.length_replicate, DV.int.injEq, DV.bool.injEq, DV.str.injEq, DV.list.injEq, List.cons.injEq, f_is_0, rows_is, inj_Lis, f_is_1, rows_is, inj_Lis, ek, tn k, hs, hwk k hk]
          simp
          try omega
        · have ek : ¬ (x1.length : Int) ≤ (i : Int) + 1 + (k : Nat) := by omega
          have hf := fin k hk hs hj
          rw [hf] at hp32 ⊢
          simp only [Bool.not_true, Bool.not_false, Bool.true_eq_false, SE.den, evU, evT, ev_le, ev_eq, ev_eqs, ev_eqb, ev_slt, ev_and, ev_or, ev_add, ev_sub, ev_mul, ev_tdiv, ev_tmod, ev_band, ev_bor, ev_bxor, ev_bandn, ev_shl, ev_shr, ev_cat, ev_byte, ev_idx, ev_cons, ev_snoc, ev_app, ev_take, ev_drop, ev_stake, ev_sdrop, ev_rep, leB_q, eqB_q, eqsB_q, not_q, i_if, b_if, l_if, s_if, i_int, b_bool, s_str, l_list, envL, List.getElem?_cons_succ, List.getElem?_cons_zero, List.getElem?_nil, Option.getD_some, Option.getD_none, Int.toNat_natCast, Int.toNat_zero, Int.reduceToNat, List.length_map, get_Li, get_Lb, get_Ls, set_Li, inj_Li, inj_Lb, inj_Ls, rows_i, rows_b, rows_s, Int.zero_add, iff_true, iff_false, and_true, true_and, Bool.false_eq_true, eq_self, not_true_eq_false, not_false_eq_true, List.length_replicate, DV.int.injEq, DV.bool.injEq, DV.str.injEq, DV.list.injEq, List.cons.injEq, f_is_0, rows_is, inj_Lis, f_is_1, rows_is, inj_Lis, ek, tn k, hs, List.map_set, List.length_take, List.length_drop, hp32, hs32]
          simp
          try omega
        · have hf := non hj
          have eN : (x1.length : Int) ≤ (i : Int) + 1 + ((x1.length - (i + 1) : Nat) : Int) := by omega
          rw [hf] at hp32 ⊢
          simp only [Bool.not_true, Bool.not_false, Bool.true_eq_false, SE.den, evU, evT, ev_le, ev_eq, ev_eqs, ev_eqb, ev_slt, ev_and, ev_or, ev_add, ev_sub, ev_mul, ev_tdiv, ev_tmod, ev_band, ev_bor, ev_bxor, ev_bandn, ev_shl, ev_shr, ev_cat, ev_byte, ev_idx, ev_cons, ev_snoc, ev_app, ev_take, ev_drop, ev_stake, ev_sdrop, ev_rep, leB_q, eqB_q, eqsB_q, not_q, i_if, b_if, l_if, s_if, i_int, b_bool, s_str, l_list, envL, List.getElem?_cons_succ, List.getElem?_cons_zero, List.getElem?_nil, Option.getD_some, Option.getD_none, Int.toNat_natCast, Int.toNat_zero, Int.reduceToNat, List.length_map, get_Li, get_Lb, get_Ls, set_Li, inj_Li, inj_Lb, inj_Ls, rows_i, rows_b, rows_s, Int.zero_add, iff_true, iff_false, and_true, true_and, Bool.false_eq_true, eq_self, not_true_eq_false, not_false_eq_true, List.length_replicate, DV.int.injEq, DV.bool.injEq, DV.str.injEq, DV.list.injEq, List.cons.injEq, f_is_0, rows_is, inj_Lis, f_is_1, rows_is, inj_Lis, eN, List.map_set, List.length_take, List.length_drop, hp32, hs32]
          simp
          try omega
      · have hval : IntKind.i64.wrap ((x2[i]?.getD 0).tmod 33 + 33) = (cutM x2 i : Int) := by
          unfold cutM
          rw [if_neg (by omega)]
          exact cut_neg (by omega)
        simp only [hval, Int.toNat_natCast]
        generalize cutM x2 i = c at *
        refine rounds_find (x1.length - (i + 1)) (fun k => [.int ((i : Int) + 1 + (k : Nat))]) (fun k => (x1[i + 1 + k]?.getD dis).1 = (x1[i]?.getD dis).1) (by simp) (fun _ => rfl) (fun k hk hs hj => ?_) (fun k hk hs hj => ?_) (fun hj => ?_)
        · have ek : ¬ (x1.length : Int) ≤ (i : Int) + 1 + (k : Nat) := by omega
          simp only [Bool.not_true, Bool.not_false, Bool.true_eq_false, SE.den, evU, evT, ev_le, ev_eq, ev_eqs, ev_eqb, ev_slt, ev_and, ev_or, ev_add, ev_sub, ev_mul, ev_tdiv, ev_tmod, ev_band, ev_bor, ev_bxor, ev_bandn, ev_shl, ev_shr, ev_cat, ev_byte, ev_idx, ev_cons, ev_snoc, ev_app, ev_take, ev_drop, ev_stake, ev_sdrop, ev_rep, leB_q, eqB_q, eqsB_q, not_q, i_if, b_if, l_if, s_if, i_int, b_bool, s_str, l_list, envL, List.getElem?_cons_succ, List.getElem?_cons_zero, List.getElem?_nil, Option.getD_some, Option.getD_none, Int.toNat_natCast, Int.toNat_zero, Int.reduceToNat, List.length_map, get_Li, get_Lb, get_Ls, set_Li, inj_Li, inj_Lb, inj_Ls, rows_i, rows_b, rows_s, Int.zero_add, iff_true, iff_false, and_true, true_and, Bool.false_eq_true, eq_self, not_true_eq_false, not_false_eq_true, List.length_replicate, DV.int.injEq, DV.bool.injEq, DV.str.injEq, DV.list.injEq, List.cons.injEq, f_is_0, rows_is, inj_Lis, f_is_1, rows_is, inj_Lis, ek, tn k, hs, hwk k hk]
          simp
          try omega
        · have ek : ¬ (x1.length : Int) ≤ (i : Int) + 1 + (k : Nat) := by omega
          have hf := fin k hk hs hj
          rw [hf] at hp32 ⊢
          simp only [Bool.not_true, Bool.not_false, Bool.true_eq_false, SE.den, evU, evT, ev_le, ev_eq, ev_eqs, ev_eqb, ev_slt, ev_and, ev_or, ev_add, ev_sub, ev_mul, ev_tdiv, ev_tmod, ev_band, ev_bor, ev_bxor, ev_bandn, ev_shl, ev_shr, ev_cat, ev_byte, ev_idx, ev_cons, ev_snoc, ev_app, ev_take, ev_drop, ev_stake, ev_sdrop, ev_rep, leB_q, eqB_q, eqsB_q, not_q, i_if, b_if, l_if, s_if, i_int, b_bool, s_str, l_list, envL, List.getElem?_cons_succ, List.getElem?_cons_zero, List.getElem?_nil, Option.getD_some, Option.getD_none, Int.toNat_natCast, Int.toNat_zero, Int.reduceToNat, List.length_map, get_Li, get_Lb, get_Ls, set_Li, inj_Li, inj_Lb, inj_Ls, rows_i, rows_b, rows_s, Int.zero_add, iff_true, iff_false, and_true, true_and, Bool.false_eq_true, eq_self, not_true_eq_false, not_false_eq_true, List.length_replicate, DV.int.injEq, DV.bool.injEq, DV.str.injEq, DV.list.injEq, List.cons.injEq, f_is_0, rows_is, inj_Lis, f_is_1, rows_is, inj_Lis, ek, tn k, hs, List.map_set, List.length_take, List.length_drop, hp32, hs32]
          simp
          try omega
        · have hf := non hj
          have eN : (x1.length : Int) ≤ (i : Int) + 1 + ((x1.length - (i + 1) : Nat) : Int) := by omega
          rw [hf] at hp32 ⊢
          simp only [Bool.not_true, Bool.not_false, Bool.true_eq_false, SE.den, evU, evT, ev_le, ev_eq, ev_eqs, ev_eqb, ev_slt, ev_and, ev_or, ev_add, ev_sub, ev_mul, ev_tdiv, ev_tmod, ev_band, ev_bor, ev_bxor, ev_bandn, ev_shl, ev_shr, ev_cat, ev_byte, ev_idx, ev_cons, ev_snoc, ev_app, ev_take, ev_drop, ev_stake, ev_sdrop, ev_rep, leB_q, eqB_q, eqsB_q, not_q, i_if, b_if, l_if, s_if, i_int, b_bool, s_str, l_list, envL, List.getElem?_cons_succ, List.getElem?_cons_zero, List.getElem?_nil, Option.getD_some, Option.getD_none, Int.toNat_natCast, Int.toNat_zero, Int.reduceToNat, List.length_map, get_Li, get_Lb, get_Ls, set_Li, inj_Li, inj_Lb, inj_Ls, rows_i, rows_b, rows_s, Int.zero_add, iff_true, iff_false, and_true, true_and, Bool.false_eq_true, eq_self, not_true_eq_false, not_false_eq_true, List.length_replicate, DV.int.injEq, DV.bool.injEq, DV.str.injEq, DV.list.injEq, List.cons.injEq, f_is_0, rows_is, inj_Lis, f_is_1, rows_is, inj_Lis, eN, List.map_set, List.length_take, List.length_drop, hp32, hs32]
          simp
          try omega
      · have hval : (x2[i]?.getD 0).tmod 33 = (cutM x2 i : Int) := by
          unfold cutM
          rw [if_neg (by omega)]
          exact cut_pos hn
        simp only [hval, Int.toNat_natCast]
        generalize cutM x2 i = c at *
        refine rounds_find (x1.length - (i + 1)) (fun k => [.int ((i : Int) + 1 + (k : Nat))]) (fun k => (x1[i + 1 + k]?.getD dis).1 = (x1[i]?.getD dis).1) (by simp) (fun _ => rfl) (fun k hk hs hj => ?_) (fun k hk hs hj => ?_) (fun hj => ?_)
        · have ek : ¬ (x1.length : Int) ≤ (i : Int) + 1 + (k : Nat) := by omega
          simp only [Bool.not_true, Bool.not_false, Bool.true_eq_false, SE.den, evU, evT, ev_le, ev_eq, ev_eqs, ev_eqb, ev_slt, ev_and, ev_or, ev_add, ev_sub, ev_mul, ev_tdiv, ev_tmod, ev_band, ev_bor, ev_bxor, ev_bandn, ev_shl, ev_shr, ev_cat, ev_byte, ev_idx, ev_cons, ev_snoc, ev_app, ev_take, ev_drop, ev_stake, ev_sdrop, ev_rep, leB_q, eqB_q, eqsB_q, not_q, i_if, b_if, l_if, s_if, i_int, b_bool, s_str, l_list, envL, List.getElem?_cons_succ, List.getElem?_cons_zero, List.getElem?_nil, Option.getD_some, Option.getD_none, Int.toNat_natCast, Int.toNat_zero, Int.reduceToNat, List.length_map, get_Li, get_Lb, get_Ls, set_Li, inj_Li, inj_Lb, inj_Ls, rows_i, rows_b, rows_s, Int.zero_add, iff_true, iff_false, and_true, true_and, Bool.false_eq_true, eq_self, not_true_eq_false, not_false_eq_true, List.length_replicate, DV.int.injEq, DV.bool.injEq, DV.str.injEq, DV.list.injEq, List.cons.injEq, f_is_0, rows_is, inj_Lis, f_is_1, rows_is, inj_Lis, ek, tn k, hs, hwk k hk]
          simp
          try omega
        · have ek : ¬ (x1.length : Int) ≤ (i : Int) + 1 + (k : Nat) := by omega
          have hf := fin k hk hs hj
          rw [hf] at hp32 ⊢
          simp only [Bool.not_true, Bool.not_false, Bool.true_eq_false, SE.den, evU, evT, ev_le, ev_eq, ev_eqs, ev_eqb, ev_slt, ev_and, ev_or, ev_add, ev_sub, ev_mul, ev_tdiv, ev_tmod, ev_band, ev_bor, ev_bxor, ev_bandn, ev_shl, ev_shr, ev_cat, ev_byte, ev_idx, ev_cons, ev_snoc, ev_app, ev_take, ev_drop, ev_stake, ev_sdrop, ev_rep, leB_q, eqB_q, eqsB_q, not_q, i_if, b_if, l_if, s_if, i_int, b_bool, s_str, l_list, envL, List.getElem?_cons_succ, List.getElem?_cons_zero, List.getElem?_nil, Option.getD_some, Option.getD_none, Int.toNat_natCast, Int.toNat_zero, Int.reduceToNat, List.length_map, get_Li, get_Lb, get_Ls, set_Li, inj_Li, inj_Lb, inj_Ls, rows_i, rows_b, rows_s, Int.zero_add, iff_true, iff_false, and_true, true_and, Bool.false_eq_true, eq_self, not_true_eq_false, not_false_eq_true, List.length_replicate, DV.int.injEq, DV.bool.injEq, DV.str.injEq, DV.list.injEq, List.cons.injEq, f_is_0, rows_is, inj_Lis, f_is_1, rows_is, inj_Lis, ek, tn k, hs, List.map_set, List.length_take, List.length_drop, hp32, hs32]
          simp
          try omega
        · have hf := non hj
          have eN : (x1.length : Int) ≤ (i : Int) + 1 + ((x1.length - (i + 1) : Nat) : Int) := by omega
          rw [hf] at hp32 ⊢
          simp only [Bool.not_true, Bool.not_false, Bool.true_eq_false, SE.den, evU, evT, ev_le, ev_eq, ev_eqs, ev_eqb, ev_slt, ev_and, ev_or, ev_add, ev_sub, ev_mul, ev_tdiv, ev_tmod, ev_band, ev_bor, ev_bxor, ev_bandn, ev_shl, ev_shr, ev_cat, ev_byte, ev_idx, ev_cons, ev_snoc, ev_app, ev_take, ev_drop, ev_stake, ev_sdrop, ev_rep, leB_q, eqB_q, eqsB_q, not_q, i_if, b_if, l_if, s_if, i_int, b_bool, s_str, l_list, envL, List.getElem?_cons_succ, List.getElem?_cons_zero, List.getElem?_nil, Option.getD_some, Option.getD_none, Int.toNat_natCast, Int.toNat_zero, Int.reduceToNat, List.length_map, get_Li, get_Lb, get_Ls, set_Li, inj_Li, inj_Lb, inj_Ls, rows_i, rows_b, rows_s, Int.zero_add, iff_true, iff_false, and_true, true_and, Bool.false_eq_true, eq_self, not_true_eq_false, not_false_eq_true, List.length_replicate, DV.int.injEq, DV.bool.injEq, DV.str.injEq, DV.list.injEq, List.cons.injEq, f_is_0, rows_is, inj_Lis, f_is_1, rows_is, inj_Lis, eN, List.map_set, List.length_take, List.length_drop, hp32, hs32]
          simp
          try omega
    · simp only [Bool.not_true, Bool.not_false, Bool.true_eq_false, SE.den, evU, evT, ev_le, ev_eq, ev_eqs, ev_eqb, ev_slt, ev_and, ev_or, ev_add, ev_sub, ev_mul, ev_tdiv, ev_tmod, ev_band, ev_bor, ev_bxor, ev_bandn, ev_shl, ev_shr, ev_cat, ev_byte, ev_idx, ev_cons, ev_snoc, ev_app, ev_take, ev_drop, ev_stake, ev_sdrop, ev_rep, leB_q, eqB_q, eqsB_q, not_q, i_if, b_if, l_if, s_if, i_int, b_bool, s_str, l_list, envL, List.getElem?_cons_succ, List.getElem?_cons_zero, List.getElem?_nil, Option.getD_some, Option.getD_none, Int.toNat_natCast, Int.toNat_zero, Int.reduceToNat, List.length_map, get_Li, get_Lb, get_Ls, set_Li, inj_Li, inj_Lb, inj_Ls, rows_i, rows_b, rows_s, Int.zero_add, iff_true, iff_false, and_true, true_and, Bool.false_eq_true, eq_self, not_true_eq_false, not_false_eq_true, List.length_replicate, DV.int.injEq, DV.bool.injEq, DV.str.injEq, DV.list.injEq, List.cons.injEq, f_is_0, rows_is, inj_Lis, f_is_1, rows_is, inj_Lis, List.cons_append, List.nil_append, crash_len, List.drop_zero]
      refine ⟨fun h => absurd (Int.le_refl _) h, fun _ => ⟨by rw [allSynced_len]; exact Int.le_refl _, ?_⟩⟩
      have t1 : List.take (allSyncedM x0 x1 0).length (List.map DV.str (crashM x0 x1 x2 x1.length)) = List.map DV.str (crashM x0 x1 x2 x1.length) := List.take_of_length_le (by rw [List.length_map, crash_len, allSynced_len]; exact Nat.le_refl _)
      rw [t1, rows_s]
end Go.Proofs.Ytljocjljkilkjaa
