/- DiskTearsBytes: the law returns true for every input, and each argument reads afterwards as it read before. No condition. -/
import Derived.Test.YtljocjljkilkjaaDSane
import Derived.Test.YtljocjljkilkjaaWritten
import Derived.Test.YtljocjljkilkjaaDFull
import Derived.Test.YtljocjljkilkjaaRDRight
import Derived.Test.YtljocjljkilkjaaDCrash
import Derived.Test.YtljocjljkilkjaaDRead
import Derived.Test.YtljocjljkilkjaaDRight
import Derived.Test.YtljocjljkilkjaaTearC
import Derived.Test.YtljocjljkilkjaaBd
import Derived.Test.YtljocjljkilkjaaOpen
namespace Go.Proofs.Ytljocjljkilkjaa
set_option linter.unusedVariables false
set_option linter.unusedSimpArgs false
set_option maxRecDepth 100000

/-- Whether the byte is one of those that it may be. -/
def isM (n : Int) (l : List Int) (a : Int) (cb ob : Int) (k : Nat) : Nat → Bool
  | 0 => eqB cb ob
  | m + 1 => if isM n l a cb ob k m = true then true else if (l[m]?.getD 0) % n = a then eqB cb (((fullM (l[m]?.getD 0))[k]?.getD 0).toNat : Int) else false
theorem isM_true {n : Int} {l : List Int} {a cb ob : Int} {k : Nat} : ∀ m, (cb = ob ∨ ∃ j, j < m ∧ (l[j]?.getD 0) % n = a ∧ cb = (((fullM (l[j]?.getD 0))[k]?.getD 0).toNat : Int)) → isM n l a cb ob k m = true
  | 0, h => by
    rcases h with h | ⟨j, h, _⟩
    · exact decide_eq_true h
    · omega
  | m + 1, h => by
    unfold isM
    by_cases hm : isM n l a cb ob k m = true
    · rw [if_pos hm]
    · rw [if_neg hm]
      rcases h with h | ⟨j, h1, h2, h3⟩
      · exact absurd (isM_true m (.inl h)) hm
      · by_cases e : j = m
        · subst e
          rw [if_pos h2]
          exact decide_eq_true h3
        · exact absurd (isM_true m (.inr ⟨j, by omega, h2, h3⟩)) hm
theorem read_in {s : List (List UInt8)} {n : Int} (hs : (s.length : Int) = n) {a : Nat} (ha : (a : Int) < n) : readDM s a = (s[a]?.getD [], 0) := by
  unfold readDM
  rw [if_pos (by omega), Int.toNat_natCast]
theorem crash_right {sec : List (List UInt8)} {was : List Tis} (cuts : List Int) (hr : rightDM sec was = true) : rightDM (crashM sec was cuts was.length) [] = true := by
  have hr' := hr
  unfold rightDM at hr ⊢
  simp only [Bool.and_eq_true] at hr ⊢
  refine ⟨by rw [crash_len]; exact hr.1, ?_, rfl⟩
  rw [List.all_eq_true]
  intro x hx
  obtain ⟨a, ha, rfl⟩ := List.getElem_of_mem hx
  rw [crash_len] at ha
  have := crash_32 cuts hr' was.length (Nat.le_refl _) a ha
  rw [List.getElem?_eq_getElem (by rw [crash_len]; exact ha)] at this
  simp only [Option.getD_some] at this
  exact decide_eq_true (by omega)
/-- The state at the last sync, and the writes since then. -/
theorem tear_law {n : Int} (h0 : 1 ≤ n) (h1 : n ≤ 512) {l : List Int} (hl : ∀ c ∈ l, 0 ≤ c ∧ c ≤ 255) :
    ∃ (old : List (List UInt8)) (bef : List Tis), wrM n (l.take (lstM l l.length)) (newM n) [] [] = (old, [], bef, true) ∧ (old.length : Int) = n ∧ rightDM old [] = true ∧
      wrM n l (newM n) [] [] = ((kM n (l.drop (lstM l l.length)) old (l.drop (lstM l l.length)).length).1, (kM n (l.drop (lstM l l.length)) old (l.drop (lstM l l.length)).length).2, bef ++ (l.drop (lstM l l.length)).map (putW n), true) := by
  obtain ⟨n1, n2, n3⟩ := new_law h0 h1
  have hle := lst_le l l.length
  have hp := lst_past l l.length
  have he := lst_end l l.length
  generalize lstM l l.length = q at *
  have hlt : ∀ c ∈ l.take q, 0 ≤ c ∧ c ≤ 255 := fun c hc => hl c (List.mem_of_mem_take hc)
  obtain ⟨g1, g2, g3, g4⟩ := wrM_law h0 h1 (l.take q) (newM n) [] [] hlt n1 n2 n3
  have hw : (wrM n (l.take q) (newM n) [] []).2.1 = [] := by
    rcases he with rfl | ⟨j, rfl, hj⟩
    · rw [List.take_zero]; rfl
    · have e : l.take (j + 1) = l.take j ++ [255] := by
        have : l[j]? = some 255 := by
          rw [List.getElem?_eq_getElem (by omega)] at hj ⊢
          simpa using hj
        rw [List.take_add_one, this]; rfl
      have hltj : ∀ c ∈ l.take j, 0 ≤ c ∧ c ≤ 255 := fun c hc => hl c (List.mem_of_mem_take hc)
      obtain ⟨k1, k2, k3, k4⟩ := wrM_law h0 h1 (l.take j) (newM n) [] [] hltj n1 n2 n3
      rw [e, wrM_app n _ _ _ _ _ k1]
      show (wrM n [255] _ _ _).2.1 = []
      unfold wrM
      rw [if_pos rfl]
      rfl
  rcases hW : wrM n (l.take q) (newM n) [] [] with ⟨old, w, bef, ok⟩
  rw [hW] at g1 g2 g3 g4 hw
  simp only at g1 g2 g3 g4 hw
  subst g1 hw
  refine ⟨old, bef, rfl, g2, g4, ?_⟩
  have e : l = l.take q ++ l.drop q := (List.take_append_drop q l).symm
  have hd : ∀ c ∈ l.drop q, c ≠ 255 := fun c hc => by
    obtain ⟨i, hi, rfl⟩ := List.getElem_of_mem hc
    rw [List.length_drop] at hi
    have := hp (q + i) (by omega) (by omega)
    rw [List.getElem?_eq_getElem (by omega)] at this
    rw [List.getElem_drop]
    exact this
  have k := wrM_kM h0 g2 bef (l := l.drop q) (fun c hc => hl c (List.mem_of_mem_drop hc)) hd (l.drop q).length (Nat.le_refl _)
  rw [List.take_length] at k
  have key : wrM n (l.take q ++ l.drop q) (newM n) [] [] = _ := wrM_app n (l.take q) (l.drop q) (newM n) [] [] (by rw [hW])
  rw [List.take_append_drop, hW] at key
  rw [key]
  exact k

def diskTearsF (ds : List DV) : List DV := [.bool true]
/-- What the executor makes of it. -/
def diskTearsTree : PT :=
(.br (.un .not (.bin .le (.un .len (.var 1)) (.int 30)))
 (.leaf [(.bin .idx (.fn 88 .nil) (.int 0))])
 (.br (.un .not (.bin .le (.un .len (.var 2)) (.int 40)))
  (.leaf [(.bin .idx (.fn 88 .nil) (.int 0))])
  (.asrt (.bin .le (.int 1) (.un (.wrap .i64) (.bin .add (.int 1) (.bin .tmod (.un (.wrap .i64) (.var 0)) (.int 4)))))
   (.asrt (.bin .le (.un (.wrap .i64) (.bin .add (.int 1) (.bin .tmod (.un (.wrap .i64) (.var 0)) (.int 4)))) (.int 512))
    (.loop 3 [(.int 0), (.int 0)]
     (.br (.un .not (.bin .le (.un .len (.var 1)) (.var 4)))
      (.asrt (.bin .le (.int 0) (.var 4))
       (.br (.bin .eq (.bin .idx (.var 1) (.bin .add (.int 0) (.var 4))) (.int 255))
        (.leaf [(.un (.wrap .i64) (.bin .add (.var 4) (.int 1))), (.un (.wrap .i64) (.bin .add (.var 4) (.int 1)))])
        (.leaf [(.var 3), (.un (.wrap .i64) (.bin .add (.var 4) (.int 1)))])))
      .fail)
     (.br (.un .not (.bin .le (.un .len (.var 1)) (.var 4)))
      (.asrt (.bin .le (.int 0) (.var 4))
       .fail)
      (.asrt (.bin .le (.int 0) (.var 3))
       (.asrt (.bin .le (.var 3) (.un .len (.var 1)))
        (.asrt (.bin .le (.un .len (.bin .take (.bin .drop (.var 1) (.int 0)) (.bin .sub (.var 3) (.int 0)))) (.int 10000))
         (.asrt (.bin .le (.un .len (.bin .idx (.fn 87 (.bin .cons (.un (.wrap .i64) (.bin .add (.int 1) (.bin .tmod (.un (.wrap .i64) (.var 0)) (.int 4)))) (.bin .cons (.var 1) .nil))) (.int 0))) (.int 1000000))
          (.asrt (.bin .le (.un .len (.bin .idx (.fn 87 (.bin .cons (.un (.wrap .i64) (.bin .add (.int 1) (.bin .tmod (.un (.wrap .i64) (.var 0)) (.int 4)))) (.bin .cons (.var 1) .nil))) (.int 1))) (.int 1000000))
           (.asrt (.bin .idx (.fn 78 (.bin .cons (.bin .idx (.fn 87 (.bin .cons (.un (.wrap .i64) (.bin .add (.int 1) (.bin .tmod (.un (.wrap .i64) (.var 0)) (.int 4)))) (.bin .cons (.var 1) .nil))) (.int 0)) (.bin .cons (.bin .idx (.fn 87 (.bin .cons (.un (.wrap .i64) (.bin .add (.int 1) (.bin .tmod (.un (.wrap .i64) (.var 0)) (.int 4)))) (.bin .cons (.var 1) .nil))) (.int 1)) .nil))) (.int 0))
            (.loop 5 [(.int 0)]
             (.br (.un .not (.bin .le (.un (.wrap .i64) (.bin .add (.int 1) (.bin .tmod (.un (.wrap .i64) (.var 0)) (.int 4)))) (.var 5)))
              (.br (.bin .idx (.fn 87 (.bin .cons (.un (.wrap .i64) (.bin .add (.int 1) (.bin .tmod (.un (.wrap .i64) (.var 0)) (.int 4)))) (.bin .cons (.var 1) .nil))) (.int 3))
               (.br (.un .not (.bin .eq (.bin .idx (.fn 68 (.bin .cons (.bin .idx (.fn 86 (.bin .cons (.bin .idx (.fn 87 (.bin .cons (.un (.wrap .i64) (.bin .add (.int 1) (.bin .tmod (.un (.wrap .i64) (.var 0)) (.int 4)))) (.bin .cons (.var 1) .nil))) (.int 0)) (.bin .cons (.bin .idx (.fn 87 (.bin .cons (.un (.wrap .i64) (.bin .add (.int 1) (.bin .tmod (.un (.wrap .i64) (.var 0)) (.int 4)))) (.bin .cons (.var 1) .nil))) (.int 1)) (.bin .cons (.var 2) .nil)))) (.int 0)) (.bin .cons (.bin .idx (.fn 86 (.bin .cons (.bin .idx (.fn 87 (.bin .cons (.un (.wrap .i64) (.bin .add (.int 1) (.bin .tmod (.un (.wrap .i64) (.var 0)) (.int 4)))) (.bin .cons (.var 1) .nil))) (.int 0)) (.bin .cons (.bin .idx (.fn 87 (.bin .cons (.un (.wrap .i64) (.bin .add (.int 1) (.bin .tmod (.un (.wrap .i64) (.var 0)) (.int 4)))) (.bin .cons (.var 1) .nil))) (.int 1)) (.bin .cons (.var 2) .nil)))) (.int 1)) (.bin .cons (.var 5) .nil)))) (.int 1)) (.int 0)))
                .fail
                (.br (.un .not (.bin .eq (.bin .idx (.fn 68 (.bin .cons (.bin .idx (.fn 87 (.bin .cons (.un (.wrap .i64) (.bin .add (.int 1) (.bin .tmod (.un (.wrap .i64) (.var 0)) (.int 4)))) (.bin .cons (.bin .take (.bin .drop (.var 1) (.int 0)) (.bin .sub (.var 3) (.int 0))) .nil))) (.int 0)) (.bin .cons (.bin .idx (.fn 87 (.bin .cons (.un (.wrap .i64) (.bin .add (.int 1) (.bin .tmod (.un (.wrap .i64) (.var 0)) (.int 4)))) (.bin .cons (.bin .take (.bin .drop (.var 1) (.int 0)) (.bin .sub (.var 3) (.int 0))) .nil))) (.int 1)) (.bin .cons (.var 5) .nil)))) (.int 1)) (.int 0)))
                 .fail
                 (.br (.un .not (.bin .eq (.un .slen (.bin .idx (.fn 68 (.bin .cons (.bin .idx (.fn 86 (.bin .cons (.bin .idx (.fn 87 (.bin .cons (.un (.wrap .i64) (.bin .add (.int 1) (.bin .tmod (.un (.wrap .i64) (.var 0)) (.int 4)))) (.bin .cons (.var 1) .nil))) (.int 0)) (.bin .cons (.bin .idx (.fn 87 (.bin .cons (.un (.wrap .i64) (.bin .add (.int 1) (.bin .tmod (.un (.wrap .i64) (.var 0)) (.int 4)))) (.bin .cons (.var 1) .nil))) (.int 1)) (.bin .cons (.var 2) .nil)))) (.int 0)) (.bin .cons (.bin .idx (.fn 86 (.bin .cons (.bin .idx (.fn 87 (.bin .cons (.un (.wrap .i64) (.bin .add (.int 1) (.bin .tmod (.un (.wrap .i64) (.var 0)) (.int 4)))) (.bin .cons (.var 1) .nil))) (.int 0)) (.bin .cons (.bin .idx (.fn 87 (.bin .cons (.un (.wrap .i64) (.bin .add (.int 1) (.bin .tmod (.un (.wrap .i64) (.var 0)) (.int 4)))) (.bin .cons (.var 1) .nil))) (.int 1)) (.bin .cons (.var 2) .nil)))) (.int 1)) (.bin .cons (.var 5) .nil)))) (.int 0))) (.int 32)))
                  .fail
                  (.br (.un .not (.bin .eq (.un .slen (.bin .idx (.fn 68 (.bin .cons (.bin .idx (.fn 87 (.bin .cons (.un (.wrap .i64) (.bin .add (.int 1) (.bin .tmod (.un (.wrap .i64) (.var 0)) (.int 4)))) (.bin .cons (.bin .take (.bin .drop (.var 1) (.int 0)) (.bin .sub (.var 3) (.int 0))) .nil))) (.int 0)) (.bin .cons (.bin .idx (.fn 87 (.bin .cons (.un (.wrap .i64) (.bin .add (.int 1) (.bin .tmod (.un (.wrap .i64) (.var 0)) (.int 4)))) (.bin .cons (.bin .take (.bin .drop (.var 1) (.int 0)) (.bin .sub (.var 3) (.int 0))) .nil))) (.int 1)) (.bin .cons (.var 5) .nil)))) (.int 0))) (.int 32)))
                   .fail
                   (.loop 6 [(.int 0)]
                    (.br (.un .not (.bin .le (.un .slen (.bin .idx (.fn 68 (.bin .cons (.bin .idx (.fn 86 (.bin .cons (.bin .idx (.fn 87 (.bin .cons (.un (.wrap .i64) (.bin .add (.int 1) (.bin .tmod (.un (.wrap .i64) (.var 0)) (.int 4)))) (.bin .cons (.var 1) .nil))) (.int 0)) (.bin .cons (.bin .idx (.fn 87 (.bin .cons (.un (.wrap .i64) (.bin .add (.int 1) (.bin .tmod (.un (.wrap .i64) (.var 0)) (.int 4)))) (.bin .cons (.var 1) .nil))) (.int 1)) (.bin .cons (.var 2) .nil)))) (.int 0)) (.bin .cons (.bin .idx (.fn 86 (.bin .cons (.bin .idx (.fn 87 (.bin .cons (.un (.wrap .i64) (.bin .add (.int 1) (.bin .tmod (.un (.wrap .i64) (.var 0)) (.int 4)))) (.bin .cons (.var 1) .nil))) (.int 0)) (.bin .cons (.bin .idx (.fn 87 (.bin .cons (.un (.wrap .i64) (.bin .add (.int 1) (.bin .tmod (.un (.wrap .i64) (.var 0)) (.int 4)))) (.bin .cons (.var 1) .nil))) (.int 1)) (.bin .cons (.var 2) .nil)))) (.int 1)) (.bin .cons (.var 5) .nil)))) (.int 0))) (.var 6)))
                     (.asrt (.bin .le (.int 0) (.var 6))
                      (.loop 7 [(.bin .eq (.bin .byte (.bin .idx (.fn 68 (.bin .cons (.bin .idx (.fn 86 (.bin .cons (.bin .idx (.fn 87 (.bin .cons (.un (.wrap .i64) (.bin .add (.int 1) (.bin .tmod (.un (.wrap .i64) (.var 0)) (.int 4)))) (.bin .cons (.var 1) .nil))) (.int 0)) (.bin .cons (.bin .idx (.fn 87 (.bin .cons (.un (.wrap .i64) (.bin .add (.int 1) (.bin .tmod (.un (.wrap .i64) (.var 0)) (.int 4)))) (.bin .cons (.var 1) .nil))) (.int 1)) (.bin .cons (.var 2) .nil)))) (.int 0)) (.bin .cons (.bin .idx (.fn 86 (.bin .cons (.bin .idx (.fn 87 (.bin .cons (.un (.wrap .i64) (.bin .add (.int 1) (.bin .tmod (.un (.wrap .i64) (.var 0)) (.int 4)))) (.bin .cons (.var 1) .nil))) (.int 0)) (.bin .cons (.bin .idx (.fn 87 (.bin .cons (.un (.wrap .i64) (.bin .add (.int 1) (.bin .tmod (.un (.wrap .i64) (.var 0)) (.int 4)))) (.bin .cons (.var 1) .nil))) (.int 1)) (.bin .cons (.var 2) .nil)))) (.int 1)) (.bin .cons (.var 5) .nil)))) (.int 0)) (.var 6)) (.bin .byte (.bin .idx (.fn 68 (.bin .cons (.bin .idx (.fn 87 (.bin .cons (.un (.wrap .i64) (.bin .add (.int 1) (.bin .tmod (.un (.wrap .i64) (.var 0)) (.int 4)))) (.bin .cons (.bin .take (.bin .drop (.var 1) (.int 0)) (.bin .sub (.var 3) (.int 0))) .nil))) (.int 0)) (.bin .cons (.bin .idx (.fn 87 (.bin .cons (.un (.wrap .i64) (.bin .add (.int 1) (.bin .tmod (.un (.wrap .i64) (.var 0)) (.int 4)))) (.bin .cons (.bin .take (.bin .drop (.var 1) (.int 0)) (.bin .sub (.var 3) (.int 0))) .nil))) (.int 1)) (.bin .cons (.var 5) .nil)))) (.int 0)) (.var 6))), (.un .len (.bin .idx (.fn 87 (.bin .cons (.un (.wrap .i64) (.bin .add (.int 1) (.bin .tmod (.un (.wrap .i64) (.var 0)) (.int 4)))) (.bin .cons (.bin .take (.bin .drop (.var 1) (.int 0)) (.bin .sub (.var 3) (.int 0))) .nil))) (.int 2)))]
                       (.br (.un .not (.bin .le (.un .len (.bin .idx (.fn 87 (.bin .cons (.un (.wrap .i64) (.bin .add (.int 1) (.bin .tmod (.un (.wrap .i64) (.var 0)) (.int 4)))) (.bin .cons (.var 1) .nil))) (.int 2))) (.var 8)))
                        (.br (.var 7)
                         (.leaf [(.bool true), (.un (.wrap .i64) (.bin .add (.var 8) (.int 1)))])
                         (.asrt (.bin .le (.int 0) (.var 8))
                          (.br (.bin .eq (.bin .idx (.bin .idx (.bin .idx (.fn 87 (.bin .cons (.un (.wrap .i64) (.bin .add (.int 1) (.bin .tmod (.un (.wrap .i64) (.var 0)) (.int 4)))) (.bin .cons (.var 1) .nil))) (.int 2)) (.bin .add (.int 0) (.var 8))) (.int 0)) (.var 5))
                           (.asrt (.un .not (.bin .le (.un .slen (.bin .idx (.bin .idx (.bin .idx (.fn 87 (.bin .cons (.un (.wrap .i64) (.bin .add (.int 1) (.bin .tmod (.un (.wrap .i64) (.var 0)) (.int 4)))) (.bin .cons (.var 1) .nil))) (.int 2)) (.bin .add (.int 0) (.var 8))) (.int 1))) (.var 6)))
                            (.leaf [(.bin .eq (.bin .byte (.bin .idx (.fn 68 (.bin .cons (.bin .idx (.fn 86 (.bin .cons (.bin .idx (.fn 87 (.bin .cons (.un (.wrap .i64) (.bin .add (.int 1) (.bin .tmod (.un (.wrap .i64) (.var 0)) (.int 4)))) (.bin .cons (.var 1) .nil))) (.int 0)) (.bin .cons (.bin .idx (.fn 87 (.bin .cons (.un (.wrap .i64) (.bin .add (.int 1) (.bin .tmod (.un (.wrap .i64) (.var 0)) (.int 4)))) (.bin .cons (.var 1) .nil))) (.int 1)) (.bin .cons (.var 2) .nil)))) (.int 0)) (.bin .cons (.bin .idx (.fn 86 (.bin .cons (.bin .idx (.fn 87 (.bin .cons (.un (.wrap .i64) (.bin .add (.int 1) (.bin .tmod (.un (.wrap .i64) (.var 0)) (.int 4)))) (.bin .cons (.var 1) .nil))) (.int 0)) (.bin .cons (.bin .idx (.fn 87 (.bin .cons (.un (.wrap .i64) (.bin .add (.int 1) (.bin .tmod (.un (.wrap .i64) (.var 0)) (.int 4)))) (.bin .cons (.var 1) .nil))) (.int 1)) (.bin .cons (.var 2) .nil)))) (.int 1)) (.bin .cons (.var 5) .nil)))) (.int 0)) (.var 6)) (.bin .byte (.bin .idx (.bin .idx (.bin .idx (.fn 87 (.bin .cons (.un (.wrap .i64) (.bin .add (.int 1) (.bin .tmod (.un (.wrap .i64) (.var 0)) (.int 4)))) (.bin .cons (.var 1) .nil))) (.int 2)) (.bin .add (.int 0) (.var 8))) (.int 1)) (.var 6))), (.un (.wrap .i64) (.bin .add (.var 8) (.int 1)))]))
                           (.leaf [(.bool false), (.un (.wrap .i64) (.bin .add (.var 8) (.int 1)))]))))
                        .fail)
                       (.br (.un .not (.bin .le (.un .len (.bin .idx (.fn 87 (.bin .cons (.un (.wrap .i64) (.bin .add (.int 1) (.bin .tmod (.un (.wrap .i64) (.var 0)) (.int 4)))) (.bin .cons (.var 1) .nil))) (.int 2))) (.var 8)))
                        (.br (.var 7)
                         .fail
                         (.asrt (.bin .le (.int 0) (.var 8))
                          (.br (.bin .eq (.bin .idx (.bin .idx (.bin .idx (.fn 87 (.bin .cons (.un (.wrap .i64) (.bin .add (.int 1) (.bin .tmod (.un (.wrap .i64) (.var 0)) (.int 4)))) (.bin .cons (.var 1) .nil))) (.int 2)) (.bin .add (.int 0) (.var 8))) (.int 0)) (.var 5))
                           (.asrt (.un .not (.bin .le (.un .slen (.bin .idx (.bin .idx (.bin .idx (.fn 87 (.bin .cons (.un (.wrap .i64) (.bin .add (.int 1) (.bin .tmod (.un (.wrap .i64) (.var 0)) (.int 4)))) (.bin .cons (.var 1) .nil))) (.int 2)) (.bin .add (.int 0) (.var 8))) (.int 1))) (.var 6)))
                            .fail)
                           .fail)))
                        (.br (.un .not (.var 7))
                         .fail
                         (.leaf [(.un (.wrap .i64) (.bin .add (.var 6) (.int 1)))])))))
                     .fail)
                    (.br (.un .not (.bin .le (.un .slen (.bin .idx (.fn 68 (.bin .cons (.bin .idx (.fn 86 (.bin .cons (.bin .idx (.fn 87 (.bin .cons (.un (.wrap .i64) (.bin .add (.int 1) (.bin .tmod (.un (.wrap .i64) (.var 0)) (.int 4)))) (.bin .cons (.var 1) .nil))) (.int 0)) (.bin .cons (.bin .idx (.fn 87 (.bin .cons (.un (.wrap .i64) (.bin .add (.int 1) (.bin .tmod (.un (.wrap .i64) (.var 0)) (.int 4)))) (.bin .cons (.var 1) .nil))) (.int 1)) (.bin .cons (.var 2) .nil)))) (.int 0)) (.bin .cons (.bin .idx (.fn 86 (.bin .cons (.bin .idx (.fn 87 (.bin .cons (.un (.wrap .i64) (.bin .add (.int 1) (.bin .tmod (.un (.wrap .i64) (.var 0)) (.int 4)))) (.bin .cons (.var 1) .nil))) (.int 0)) (.bin .cons (.bin .idx (.fn 87 (.bin .cons (.un (.wrap .i64) (.bin .add (.int 1) (.bin .tmod (.un (.wrap .i64) (.var 0)) (.int 4)))) (.bin .cons (.var 1) .nil))) (.int 1)) (.bin .cons (.var 2) .nil)))) (.int 1)) (.bin .cons (.var 5) .nil)))) (.int 0))) (.var 6)))
                     (.asrt (.bin .le (.int 0) (.var 6))
                      (.loop 7 [(.bin .eq (.bin .byte (.bin .idx (.fn 68 (.bin .cons (.bin .idx (.fn 86 (.bin .cons (.bin .idx (.fn 87 (.bin .cons (.un (.wrap .i64) (.bin .add (.int 1) (.bin .tmod (.un (.wrap .i64) (.var 0)) (.int 4)))) (.bin .cons (.var 1) .nil))) (.int 0)) (.bin .cons (.bin .idx (.fn 87 (.bin .cons (.un (.wrap .i64) (.bin .add (.int 1) (.bin .tmod (.un (.wrap .i64) (.var 0)) (.int 4)))) (.bin .cons (.var 1) .nil))) (.int 1)) (.bin .cons (.var 2) .nil)))) (.int 0)) (.bin .cons (.bin .idx (.fn 86 (.bin .cons (.bin .idx (.fn 87 (.bin .cons (.un (.wrap .i64) (.bin .add (.int 1) (.bin .tmod (.un (.wrap .i64) (.var 0)) (.int 4)))) (.bin .cons (.var 1) .nil))) (.int 0)) (.bin .cons (.bin .idx (.fn 87 (.bin .cons (.un (.wrap .i64) (.bin .add (.int 1) (.bin .tmod (.un (.wrap .i64) (.var 0)) (.int 4)))) (.bin .cons (.var 1) .nil))) (.int 1)) (.bin .cons (.var 2) .nil)))) (.int 1)) (.bin .cons (.var 5) .nil)))) (.int 0)) (.var 6)) (.bin .byte (.bin .idx (.fn 68 (.bin .cons (.bin .idx (.fn 87 (.bin .cons (.un (.wrap .i64) (.bin .add (.int 1) (.bin .tmod (.un (.wrap .i64) (.var 0)) (.int 4)))) (.bin .cons (.bin .take (.bin .drop (.var 1) (.int 0)) (.bin .sub (.var 3) (.int 0))) .nil))) (.int 0)) (.bin .cons (.bin .idx (.fn 87 (.bin .cons (.un (.wrap .i64) (.bin .add (.int 1) (.bin .tmod (.un (.wrap .i64) (.var 0)) (.int 4)))) (.bin .cons (.bin .take (.bin .drop (.var 1) (.int 0)) (.bin .sub (.var 3) (.int 0))) .nil))) (.int 1)) (.bin .cons (.var 5) .nil)))) (.int 0)) (.var 6))), (.un .len (.bin .idx (.fn 87 (.bin .cons (.un (.wrap .i64) (.bin .add (.int 1) (.bin .tmod (.un (.wrap .i64) (.var 0)) (.int 4)))) (.bin .cons (.bin .take (.bin .drop (.var 1) (.int 0)) (.bin .sub (.var 3) (.int 0))) .nil))) (.int 2)))]
                       (.br (.un .not (.bin .le (.un .len (.bin .idx (.fn 87 (.bin .cons (.un (.wrap .i64) (.bin .add (.int 1) (.bin .tmod (.un (.wrap .i64) (.var 0)) (.int 4)))) (.bin .cons (.var 1) .nil))) (.int 2))) (.var 8)))
                        (.br (.var 7)
                         (.leaf [(.bool true), (.un (.wrap .i64) (.bin .add (.var 8) (.int 1)))])
                         (.asrt (.bin .le (.int 0) (.var 8))
                          (.br (.bin .eq (.bin .idx (.bin .idx (.bin .idx (.fn 87 (.bin .cons (.un (.wrap .i64) (.bin .add (.int 1) (.bin .tmod (.un (.wrap .i64) (.var 0)) (.int 4)))) (.bin .cons (.var 1) .nil))) (.int 2)) (.bin .add (.int 0) (.var 8))) (.int 0)) (.var 5))
                           (.asrt (.un .not (.bin .le (.un .slen (.bin .idx (.bin .idx (.bin .idx (.fn 87 (.bin .cons (.un (.wrap .i64) (.bin .add (.int 1) (.bin .tmod (.un (.wrap .i64) (.var 0)) (.int 4)))) (.bin .cons (.var 1) .nil))) (.int 2)) (.bin .add (.int 0) (.var 8))) (.int 1))) (.var 6)))
                            (.leaf [(.bin .eq (.bin .byte (.bin .idx (.fn 68 (.bin .cons (.bin .idx (.fn 86 (.bin .cons (.bin .idx (.fn 87 (.bin .cons (.un (.wrap .i64) (.bin .add (.int 1) (.bin .tmod (.un (.wrap .i64) (.var 0)) (.int 4)))) (.bin .cons (.var 1) .nil))) (.int 0)) (.bin .cons (.bin .idx (.fn 87 (.bin .cons (.un (.wrap .i64) (.bin .add (.int 1) (.bin .tmod (.un (.wrap .i64) (.var 0)) (.int 4)))) (.bin .cons (.var 1) .nil))) (.int 1)) (.bin .cons (.var 2) .nil)))) (.int 0)) (.bin .cons (.bin .idx (.fn 86 (.bin .cons (.bin .idx (.fn 87 (.bin .cons (.un (.wrap .i64) (.bin .add (.int 1) (.bin .tmod (.un (.wrap .i64) (.var 0)) (.int 4)))) (.bin .cons (.var 1) .nil))) (.int 0)) (.bin .cons (.bin .idx (.fn 87 (.bin .cons (.un (.wrap .i64) (.bin .add (.int 1) (.bin .tmod (.un (.wrap .i64) (.var 0)) (.int 4)))) (.bin .cons (.var 1) .nil))) (.int 1)) (.bin .cons (.var 2) .nil)))) (.int 1)) (.bin .cons (.var 5) .nil)))) (.int 0)) (.var 6)) (.bin .byte (.bin .idx (.bin .idx (.bin .idx (.fn 87 (.bin .cons (.un (.wrap .i64) (.bin .add (.int 1) (.bin .tmod (.un (.wrap .i64) (.var 0)) (.int 4)))) (.bin .cons (.var 1) .nil))) (.int 2)) (.bin .add (.int 0) (.var 8))) (.int 1)) (.var 6))), (.un (.wrap .i64) (.bin .add (.var 8) (.int 1)))]))
                           (.leaf [(.bool false), (.un (.wrap .i64) (.bin .add (.var 8) (.int 1)))]))))
                        .fail)
                       (.br (.un .not (.bin .le (.un .len (.bin .idx (.fn 87 (.bin .cons (.un (.wrap .i64) (.bin .add (.int 1) (.bin .tmod (.un (.wrap .i64) (.var 0)) (.int 4)))) (.bin .cons (.var 1) .nil))) (.int 2))) (.var 8)))
                        (.br (.var 7)
                         .fail
                         (.asrt (.bin .le (.int 0) (.var 8))
                          (.br (.bin .eq (.bin .idx (.bin .idx (.bin .idx (.fn 87 (.bin .cons (.un (.wrap .i64) (.bin .add (.int 1) (.bin .tmod (.un (.wrap .i64) (.var 0)) (.int 4)))) (.bin .cons (.var 1) .nil))) (.int 2)) (.bin .add (.int 0) (.var 8))) (.int 0)) (.var 5))
                           (.asrt (.un .not (.bin .le (.un .slen (.bin .idx (.bin .idx (.bin .idx (.fn 87 (.bin .cons (.un (.wrap .i64) (.bin .add (.int 1) (.bin .tmod (.un (.wrap .i64) (.var 0)) (.int 4)))) (.bin .cons (.var 1) .nil))) (.int 2)) (.bin .add (.int 0) (.var 8))) (.int 1))) (.var 6)))
                            .fail)
                           .fail)))
                        .fail)))
                     (.leaf [(.un (.wrap .i64) (.bin .add (.var 5) (.int 1)))])))))))
               .fail)
              .fail)
             (.br (.un .not (.bin .le (.un (.wrap .i64) (.bin .add (.int 1) (.bin .tmod (.un (.wrap .i64) (.var 0)) (.int 4)))) (.var 5)))
              (.br (.bin .idx (.fn 87 (.bin .cons (.un (.wrap .i64) (.bin .add (.int 1) (.bin .tmod (.un (.wrap .i64) (.var 0)) (.int 4)))) (.bin .cons (.var 1) .nil))) (.int 3))
               (.br (.un .not (.bin .eq (.bin .idx (.fn 68 (.bin .cons (.bin .idx (.fn 86 (.bin .cons (.bin .idx (.fn 87 (.bin .cons (.un (.wrap .i64) (.bin .add (.int 1) (.bin .tmod (.un (.wrap .i64) (.var 0)) (.int 4)))) (.bin .cons (.var 1) .nil))) (.int 0)) (.bin .cons (.bin .idx (.fn 87 (.bin .cons (.un (.wrap .i64) (.bin .add (.int 1) (.bin .tmod (.un (.wrap .i64) (.var 0)) (.int 4)))) (.bin .cons (.var 1) .nil))) (.int 1)) (.bin .cons (.var 2) .nil)))) (.int 0)) (.bin .cons (.bin .idx (.fn 86 (.bin .cons (.bin .idx (.fn 87 (.bin .cons (.un (.wrap .i64) (.bin .add (.int 1) (.bin .tmod (.un (.wrap .i64) (.var 0)) (.int 4)))) (.bin .cons (.var 1) .nil))) (.int 0)) (.bin .cons (.bin .idx (.fn 87 (.bin .cons (.un (.wrap .i64) (.bin .add (.int 1) (.bin .tmod (.un (.wrap .i64) (.var 0)) (.int 4)))) (.bin .cons (.var 1) .nil))) (.int 1)) (.bin .cons (.var 2) .nil)))) (.int 1)) (.bin .cons (.var 5) .nil)))) (.int 1)) (.int 0)))
                (.leaf [(.bool false)])
                (.br (.un .not (.bin .eq (.bin .idx (.fn 68 (.bin .cons (.bin .idx (.fn 87 (.bin .cons (.un (.wrap .i64) (.bin .add (.int 1) (.bin .tmod (.un (.wrap .i64) (.var 0)) (.int 4)))) (.bin .cons (.bin .take (.bin .drop (.var 1) (.int 0)) (.bin .sub (.var 3) (.int 0))) .nil))) (.int 0)) (.bin .cons (.bin .idx (.fn 87 (.bin .cons (.un (.wrap .i64) (.bin .add (.int 1) (.bin .tmod (.un (.wrap .i64) (.var 0)) (.int 4)))) (.bin .cons (.bin .take (.bin .drop (.var 1) (.int 0)) (.bin .sub (.var 3) (.int 0))) .nil))) (.int 1)) (.bin .cons (.var 5) .nil)))) (.int 1)) (.int 0)))
                 (.leaf [(.bool false)])
                 (.br (.un .not (.bin .eq (.un .slen (.bin .idx (.fn 68 (.bin .cons (.bin .idx (.fn 86 (.bin .cons (.bin .idx (.fn 87 (.bin .cons (.un (.wrap .i64) (.bin .add (.int 1) (.bin .tmod (.un (.wrap .i64) (.var 0)) (.int 4)))) (.bin .cons (.var 1) .nil))) (.int 0)) (.bin .cons (.bin .idx (.fn 87 (.bin .cons (.un (.wrap .i64) (.bin .add (.int 1) (.bin .tmod (.un (.wrap .i64) (.var 0)) (.int 4)))) (.bin .cons (.var 1) .nil))) (.int 1)) (.bin .cons (.var 2) .nil)))) (.int 0)) (.bin .cons (.bin .idx (.fn 86 (.bin .cons (.bin .idx (.fn 87 (.bin .cons (.un (.wrap .i64) (.bin .add (.int 1) (.bin .tmod (.un (.wrap .i64) (.var 0)) (.int 4)))) (.bin .cons (.var 1) .nil))) (.int 0)) (.bin .cons (.bin .idx (.fn 87 (.bin .cons (.un (.wrap .i64) (.bin .add (.int 1) (.bin .tmod (.un (.wrap .i64) (.var 0)) (.int 4)))) (.bin .cons (.var 1) .nil))) (.int 1)) (.bin .cons (.var 2) .nil)))) (.int 1)) (.bin .cons (.var 5) .nil)))) (.int 0))) (.int 32)))
                  (.leaf [(.bool false)])
                  (.br (.un .not (.bin .eq (.un .slen (.bin .idx (.fn 68 (.bin .cons (.bin .idx (.fn 87 (.bin .cons (.un (.wrap .i64) (.bin .add (.int 1) (.bin .tmod (.un (.wrap .i64) (.var 0)) (.int 4)))) (.bin .cons (.bin .take (.bin .drop (.var 1) (.int 0)) (.bin .sub (.var 3) (.int 0))) .nil))) (.int 0)) (.bin .cons (.bin .idx (.fn 87 (.bin .cons (.un (.wrap .i64) (.bin .add (.int 1) (.bin .tmod (.un (.wrap .i64) (.var 0)) (.int 4)))) (.bin .cons (.bin .take (.bin .drop (.var 1) (.int 0)) (.bin .sub (.var 3) (.int 0))) .nil))) (.int 1)) (.bin .cons (.var 5) .nil)))) (.int 0))) (.int 32)))
                   (.leaf [(.bool false)])
                   (.loop 6 [(.int 0)]
                    (.br (.un .not (.bin .le (.un .slen (.bin .idx (.fn 68 (.bin .cons (.bin .idx (.fn 86 (.bin .cons (.bin .idx (.fn 87 (.bin .cons (.un (.wrap .i64) (.bin .add (.int 1) (.bin .tmod (.un (.wrap .i64) (.var 0)) (.int 4)))) (.bin .cons (.var 1) .nil))) (.int 0)) (.bin .cons (.bin .idx (.fn 87 (.bin .cons (.un (.wrap .i64) (.bin .add (.int 1) (.bin .tmod (.un (.wrap .i64) (.var 0)) (.int 4)))) (.bin .cons (.var 1) .nil))) (.int 1)) (.bin .cons (.var 2) .nil)))) (.int 0)) (.bin .cons (.bin .idx (.fn 86 (.bin .cons (.bin .idx (.fn 87 (.bin .cons (.un (.wrap .i64) (.bin .add (.int 1) (.bin .tmod (.un (.wrap .i64) (.var 0)) (.int 4)))) (.bin .cons (.var 1) .nil))) (.int 0)) (.bin .cons (.bin .idx (.fn 87 (.bin .cons (.un (.wrap .i64) (.bin .add (.int 1) (.bin .tmod (.un (.wrap .i64) (.var 0)) (.int 4)))) (.bin .cons (.var 1) .nil))) (.int 1)) (.bin .cons (.var 2) .nil)))) (.int 1)) (.bin .cons (.var 5) .nil)))) (.int 0))) (.var 6)))
                     (.asrt (.bin .le (.int 0) (.var 6))
                      (.loop 7 [(.bin .eq (.bin .byte (.bin .idx (.fn 68 (.bin .cons (.bin .idx (.fn 86 (.bin .cons (.bin .idx (.fn 87 (.bin .cons (.un (.wrap .i64) (.bin .add (.int 1) (.bin .tmod (.un (.wrap .i64) (.var 0)) (.int 4)))) (.bin .cons (.var 1) .nil))) (.int 0)) (.bin .cons (.bin .idx (.fn 87 (.bin .cons (.un (.wrap .i64) (.bin .add (.int 1) (.bin .tmod (.un (.wrap .i64) (.var 0)) (.int 4)))) (.bin .cons (.var 1) .nil))) (.int 1)) (.bin .cons (.var 2) .nil)))) (.int 0)) (.bin .cons (.bin .idx (.fn 86 (.bin .cons (.bin .idx (.fn 87 (.bin .cons (.un (.wrap .i64) (.bin .add (.int 1) (.bin .tmod (.un (.wrap .i64) (.var 0)) (.int 4)))) (.bin .cons (.var 1) .nil))) (.int 0)) (.bin .cons (.bin .idx (.fn 87 (.bin .cons (.un (.wrap .i64) (.bin .add (.int 1) (.bin .tmod (.un (.wrap .i64) (.var 0)) (.int 4)))) (.bin .cons (.var 1) .nil))) (.int 1)) (.bin .cons (.var 2) .nil)))) (.int 1)) (.bin .cons (.var 5) .nil)))) (.int 0)) (.var 6)) (.bin .byte (.bin .idx (.fn 68 (.bin .cons (.bin .idx (.fn 87 (.bin .cons (.un (.wrap .i64) (.bin .add (.int 1) (.bin .tmod (.un (.wrap .i64) (.var 0)) (.int 4)))) (.bin .cons (.bin .take (.bin .drop (.var 1) (.int 0)) (.bin .sub (.var 3) (.int 0))) .nil))) (.int 0)) (.bin .cons (.bin .idx (.fn 87 (.bin .cons (.un (.wrap .i64) (.bin .add (.int 1) (.bin .tmod (.un (.wrap .i64) (.var 0)) (.int 4)))) (.bin .cons (.bin .take (.bin .drop (.var 1) (.int 0)) (.bin .sub (.var 3) (.int 0))) .nil))) (.int 1)) (.bin .cons (.var 5) .nil)))) (.int 0)) (.var 6))), (.un .len (.bin .idx (.fn 87 (.bin .cons (.un (.wrap .i64) (.bin .add (.int 1) (.bin .tmod (.un (.wrap .i64) (.var 0)) (.int 4)))) (.bin .cons (.bin .take (.bin .drop (.var 1) (.int 0)) (.bin .sub (.var 3) (.int 0))) .nil))) (.int 2)))]
                       (.br (.un .not (.bin .le (.un .len (.bin .idx (.fn 87 (.bin .cons (.un (.wrap .i64) (.bin .add (.int 1) (.bin .tmod (.un (.wrap .i64) (.var 0)) (.int 4)))) (.bin .cons (.var 1) .nil))) (.int 2))) (.var 8)))
                        (.br (.var 7)
                         (.leaf [(.bool true), (.un (.wrap .i64) (.bin .add (.var 8) (.int 1)))])
                         (.asrt (.bin .le (.int 0) (.var 8))
                          (.br (.bin .eq (.bin .idx (.bin .idx (.bin .idx (.fn 87 (.bin .cons (.un (.wrap .i64) (.bin .add (.int 1) (.bin .tmod (.un (.wrap .i64) (.var 0)) (.int 4)))) (.bin .cons (.var 1) .nil))) (.int 2)) (.bin .add (.int 0) (.var 8))) (.int 0)) (.var 5))
                           (.asrt (.un .not (.bin .le (.un .slen (.bin .idx (.bin .idx (.bin .idx (.fn 87 (.bin .cons (.un (.wrap .i64) (.bin .add (.int 1) (.bin .tmod (.un (.wrap .i64) (.var 0)) (.int 4)))) (.bin .cons (.var 1) .nil))) (.int 2)) (.bin .add (.int 0) (.var 8))) (.int 1))) (.var 6)))
                            (.leaf [(.bin .eq (.bin .byte (.bin .idx (.fn 68 (.bin .cons (.bin .idx (.fn 86 (.bin .cons (.bin .idx (.fn 87 (.bin .cons (.un (.wrap .i64) (.bin .add (.int 1) (.bin .tmod (.un (.wrap .i64) (.var 0)) (.int 4)))) (.bin .cons (.var 1) .nil))) (.int 0)) (.bin .cons (.bin .idx (.fn 87 (.bin .cons (.un (.wrap .i64) (.bin .add (.int 1) (.bin .tmod (.un (.wrap .i64) (.var 0)) (.int 4)))) (.bin .cons (.var 1) .nil))) (.int 1)) (.bin .cons (.var 2) .nil)))) (.int 0)) (.bin .cons (.bin .idx (.fn 86 (.bin .cons (.bin .idx (.fn 87 (.bin .cons (.un (.wrap .i64) (.bin .add (.int 1) (.bin .tmod (.un (.wrap .i64) (.var 0)) (.int 4)))) (.bin .cons (.var 1) .nil))) (.int 0)) (.bin .cons (.bin .idx (.fn 87 (.bin .cons (.un (.wrap .i64) (.bin .add (.int 1) (.bin .tmod (.un (.wrap .i64) (.var 0)) (.int 4)))) (.bin .cons (.var 1) .nil))) (.int 1)) (.bin .cons (.var 2) .nil)))) (.int 1)) (.bin .cons (.var 5) .nil)))) (.int 0)) (.var 6)) (.bin .byte (.bin .idx (.bin .idx (.bin .idx (.fn 87 (.bin .cons (.un (.wrap .i64) (.bin .add (.int 1) (.bin .tmod (.un (.wrap .i64) (.var 0)) (.int 4)))) (.bin .cons (.var 1) .nil))) (.int 2)) (.bin .add (.int 0) (.var 8))) (.int 1)) (.var 6))), (.un (.wrap .i64) (.bin .add (.var 8) (.int 1)))]))
                           (.leaf [(.bool false), (.un (.wrap .i64) (.bin .add (.var 8) (.int 1)))]))))
                        .fail)
                       (.br (.un .not (.bin .le (.un .len (.bin .idx (.fn 87 (.bin .cons (.un (.wrap .i64) (.bin .add (.int 1) (.bin .tmod (.un (.wrap .i64) (.var 0)) (.int 4)))) (.bin .cons (.var 1) .nil))) (.int 2))) (.var 8)))
                        (.br (.var 7)
                         .fail
                         (.asrt (.bin .le (.int 0) (.var 8))
                          (.br (.bin .eq (.bin .idx (.bin .idx (.bin .idx (.fn 87 (.bin .cons (.un (.wrap .i64) (.bin .add (.int 1) (.bin .tmod (.un (.wrap .i64) (.var 0)) (.int 4)))) (.bin .cons (.var 1) .nil))) (.int 2)) (.bin .add (.int 0) (.var 8))) (.int 0)) (.var 5))
                           (.asrt (.un .not (.bin .le (.un .slen (.bin .idx (.bin .idx (.bin .idx (.fn 87 (.bin .cons (.un (.wrap .i64) (.bin .add (.int 1) (.bin .tmod (.un (.wrap .i64) (.var 0)) (.int 4)))) (.bin .cons (.var 1) .nil))) (.int 2)) (.bin .add (.int 0) (.var 8))) (.int 1))) (.var 6)))
                            .fail)
                           .fail)))
                        (.br (.un .not (.var 7))
                         .fail
                         (.leaf [(.un (.wrap .i64) (.bin .add (.var 6) (.int 1)))])))))
                     .fail)
                    (.br (.un .not (.bin .le (.un .slen (.bin .idx (.fn 68 (.bin .cons (.bin .idx (.fn 86 (.bin .cons (.bin .idx (.fn 87 (.bin .cons (.un (.wrap .i64) (.bin .add (.int 1) (.bin .tmod (.un (.wrap .i64) (.var 0)) (.int 4)))) (.bin .cons (.var 1) .nil))) (.int 0)) (.bin .cons (.bin .idx (.fn 87 (.bin .cons (.un (.wrap .i64) (.bin .add (.int 1) (.bin .tmod (.un (.wrap .i64) (.var 0)) (.int 4)))) (.bin .cons (.var 1) .nil))) (.int 1)) (.bin .cons (.var 2) .nil)))) (.int 0)) (.bin .cons (.bin .idx (.fn 86 (.bin .cons (.bin .idx (.fn 87 (.bin .cons (.un (.wrap .i64) (.bin .add (.int 1) (.bin .tmod (.un (.wrap .i64) (.var 0)) (.int 4)))) (.bin .cons (.var 1) .nil))) (.int 0)) (.bin .cons (.bin .idx (.fn 87 (.bin .cons (.un (.wrap .i64) (.bin .add (.int 1) (.bin .tmod (.un (.wrap .i64) (.var 0)) (.int 4)))) (.bin .cons (.var 1) .nil))) (.int 1)) (.bin .cons (.var 2) .nil)))) (.int 1)) (.bin .cons (.var 5) .nil)))) (.int 0))) (.var 6)))
                     (.asrt (.bin .le (.int 0) (.var 6))
                      (.loop 7 [(.bin .eq (.bin .byte (.bin .idx (.fn 68 (.bin .cons (.bin .idx (.fn 86 (.bin .cons (.bin .idx (.fn 87 (.bin .cons (.un (.wrap .i64) (.bin .add (.int 1) (.bin .tmod (.un (.wrap .i64) (.var 0)) (.int 4)))) (.bin .cons (.var 1) .nil))) (.int 0)) (.bin .cons (.bin .idx (.fn 87 (.bin .cons (.un (.wrap .i64) (.bin .add (.int 1) (.bin .tmod (.un (.wrap .i64) (.var 0)) (.int 4)))) (.bin .cons (.var 1) .nil))) (.int 1)) (.bin .cons (.var 2) .nil)))) (.int 0)) (.bin .cons (.bin .idx (.fn 86 (.bin .cons (.bin .idx (.fn 87 (.bin .cons (.un (.wrap .i64) (.bin .add (.int 1) (.bin .tmod (.un (.wrap .i64) (.var 0)) (.int 4)))) (.bin .cons (.var 1) .nil))) (.int 0)) (.bin .cons (.bin .idx (.fn 87 (.bin .cons (.un (.wrap .i64) (.bin .add (.int 1) (.bin .tmod (.un (.wrap .i64) (.var 0)) (.int 4)))) (.bin .cons (.var 1) .nil))) (.int 1)) (.bin .cons (.var 2) .nil)))) (.int 1)) (.bin .cons (.var 5) .nil)))) (.int 0)) (.var 6)) (.bin .byte (.bin .idx (.fn 68 (.bin .cons (.bin .idx (.fn 87 (.bin .cons (.un (.wrap .i64) (.bin .add (.int 1) (.bin .tmod (.un (.wrap .i64) (.var 0)) (.int 4)))) (.bin .cons (.bin .take (.bin .drop (.var 1) (.int 0)) (.bin .sub (.var 3) (.int 0))) .nil))) (.int 0)) (.bin .cons (.bin .idx (.fn 87 (.bin .cons (.un (.wrap .i64) (.bin .add (.int 1) (.bin .tmod (.un (.wrap .i64) (.var 0)) (.int 4)))) (.bin .cons (.bin .take (.bin .drop (.var 1) (.int 0)) (.bin .sub (.var 3) (.int 0))) .nil))) (.int 1)) (.bin .cons (.var 5) .nil)))) (.int 0)) (.var 6))), (.un .len (.bin .idx (.fn 87 (.bin .cons (.un (.wrap .i64) (.bin .add (.int 1) (.bin .tmod (.un (.wrap .i64) (.var 0)) (.int 4)))) (.bin .cons (.bin .take (.bin .drop (.var 1) (.int 0)) (.bin .sub (.var 3) (.int 0))) .nil))) (.int 2)))]
                       (.br (.un .not (.bin .le (.un .len (.bin .idx (.fn 87 (.bin .cons (.un (.wrap .i64) (.bin .add (.int 1) (.bin .tmod (.un (.wrap .i64) (.var 0)) (.int 4)))) (.bin .cons (.var 1) .nil))) (.int 2))) (.var 8)))
                        (.br (.var 7)
                         (.leaf [(.bool true), (.un (.wrap .i64) (.bin .add (.var 8) (.int 1)))])
                         (.asrt (.bin .le (.int 0) (.var 8))
                          (.br (.bin .eq (.bin .idx (.bin .idx (.bin .idx (.fn 87 (.bin .cons (.un (.wrap .i64) (.bin .add (.int 1) (.bin .tmod (.un (.wrap .i64) (.var 0)) (.int 4)))) (.bin .cons (.var 1) .nil))) (.int 2)) (.bin .add (.int 0) (.var 8))) (.int 0)) (.var 5))
                           (.asrt (.un .not (.bin .le (.un .slen (.bin .idx (.bin .idx (.bin .idx (.fn 87 (.bin .cons (.un (.wrap .i64) (.bin .add (.int 1) (.bin .tmod (.un (.wrap .i64) (.var 0)) (.int 4)))) (.bin .cons (.var 1) .nil))) (.int 2)) (.bin .add (.int 0) (.var 8))) (.int 1))) (.var 6)))
                            (.leaf [(.bin .eq (.bin .byte (.bin .idx (.fn 68 (.bin .cons (.bin .idx (.fn 86 (.bin .cons (.bin .idx (.fn 87 (.bin .cons (.un (.wrap .i64) (.bin .add (.int 1) (.bin .tmod (.un (.wrap .i64) (.var 0)) (.int 4)))) (.bin .cons (.var 1) .nil))) (.int 0)) (.bin .cons (.bin .idx (.fn 87 (.bin .cons (.un (.wrap .i64) (.bin .add (.int 1) (.bin .tmod (.un (.wrap .i64) (.var 0)) (.int 4)))) (.bin .cons (.var 1) .nil))) (.int 1)) (.bin .cons (.var 2) .nil)))) (.int 0)) (.bin .cons (.bin .idx (.fn 86 (.bin .cons (.bin .idx (.fn 87 (.bin .cons (.un (.wrap .i64) (.bin .add (.int 1) (.bin .tmod (.un (.wrap .i64) (.var 0)) (.int 4)))) (.bin .cons (.var 1) .nil))) (.int 0)) (.bin .cons (.bin .idx (.fn 87 (.bin .cons (.un (.wrap .i64) (.bin .add (.int 1) (.bin .tmod (.un (.wrap .i64) (.var 0)) (.int 4)))) (.bin .cons (.var 1) .nil))) (.int 1)) (.bin .cons (.var 2) .nil)))) (.int 1)) (.bin .cons (.var 5) .nil)))) (.int 0)) (.var 6)) (.bin .byte (.bin .idx (.bin .idx (.bin .idx (.fn 87 (.bin .cons (.un (.wrap .i64) (.bin .add (.int 1) (.bin .tmod (.un (.wrap .i64) (.var 0)) (.int 4)))) (.bin .cons (.var 1) .nil))) (.int 2)) (.bin .add (.int 0) (.var 8))) (.int 1)) (.var 6))), (.un (.wrap .i64) (.bin .add (.var 8) (.int 1)))]))
                           (.leaf [(.bool false), (.un (.wrap .i64) (.bin .add (.var 8) (.int 1)))]))))
                        .fail)
                       (.br (.un .not (.bin .le (.un .len (.bin .idx (.fn 87 (.bin .cons (.un (.wrap .i64) (.bin .add (.int 1) (.bin .tmod (.un (.wrap .i64) (.var 0)) (.int 4)))) (.bin .cons (.var 1) .nil))) (.int 2))) (.var 8)))
                        (.br (.var 7)
                         .fail
                         (.asrt (.bin .le (.int 0) (.var 8))
                          (.br (.bin .eq (.bin .idx (.bin .idx (.bin .idx (.fn 87 (.bin .cons (.un (.wrap .i64) (.bin .add (.int 1) (.bin .tmod (.un (.wrap .i64) (.var 0)) (.int 4)))) (.bin .cons (.var 1) .nil))) (.int 2)) (.bin .add (.int 0) (.var 8))) (.int 0)) (.var 5))
                           (.asrt (.un .not (.bin .le (.un .slen (.bin .idx (.bin .idx (.bin .idx (.fn 87 (.bin .cons (.un (.wrap .i64) (.bin .add (.int 1) (.bin .tmod (.un (.wrap .i64) (.var 0)) (.int 4)))) (.bin .cons (.var 1) .nil))) (.int 2)) (.bin .add (.int 0) (.var 8))) (.int 1))) (.var 6)))
                            .fail)
                           .fail)))
                        (.br (.un .not (.var 7))
                         (.leaf [(.bool false)])
                         .fail))))
                     .fail))))))
               (.leaf [(.bool false)]))
              (.br (.bin .idx (.fn 88 .nil) (.int 0))
               (.br (.bin .idx (.fn 87 (.bin .cons (.un (.wrap .i64) (.bin .add (.int 1) (.bin .tmod (.un (.wrap .i64) (.var 0)) (.int 4)))) (.bin .cons (.var 1) .nil))) (.int 3))
                (.asrt (.bin .le (.un .len (.bin .idx (.fn 86 (.bin .cons (.bin .idx (.fn 87 (.bin .cons (.un (.wrap .i64) (.bin .add (.int 1) (.bin .tmod (.un (.wrap .i64) (.var 0)) (.int 4)))) (.bin .cons (.var 1) .nil))) (.int 0)) (.bin .cons (.bin .idx (.fn 87 (.bin .cons (.un (.wrap .i64) (.bin .add (.int 1) (.bin .tmod (.un (.wrap .i64) (.var 0)) (.int 4)))) (.bin .cons (.var 1) .nil))) (.int 1)) (.bin .cons (.var 2) .nil)))) (.int 0))) (.int 1000000))
                 (.asrt (.bin .le (.un .len (.bin .idx (.fn 86 (.bin .cons (.bin .idx (.fn 87 (.bin .cons (.un (.wrap .i64) (.bin .add (.int 1) (.bin .tmod (.un (.wrap .i64) (.var 0)) (.int 4)))) (.bin .cons (.var 1) .nil))) (.int 0)) (.bin .cons (.bin .idx (.fn 87 (.bin .cons (.un (.wrap .i64) (.bin .add (.int 1) (.bin .tmod (.un (.wrap .i64) (.var 0)) (.int 4)))) (.bin .cons (.var 1) .nil))) (.int 1)) (.bin .cons (.var 2) .nil)))) (.int 1))) (.int 1000000))
                  (.br (.bin .idx (.fn 70 (.bin .cons (.bin .idx (.fn 86 (.bin .cons (.bin .idx (.fn 87 (.bin .cons (.un (.wrap .i64) (.bin .add (.int 1) (.bin .tmod (.un (.wrap .i64) (.var 0)) (.int 4)))) (.bin .cons (.var 1) .nil))) (.int 0)) (.bin .cons (.bin .idx (.fn 87 (.bin .cons (.un (.wrap .i64) (.bin .add (.int 1) (.bin .tmod (.un (.wrap .i64) (.var 0)) (.int 4)))) (.bin .cons (.var 1) .nil))) (.int 1)) (.bin .cons (.var 2) .nil)))) (.int 0)) (.bin .cons (.bin .idx (.fn 86 (.bin .cons (.bin .idx (.fn 87 (.bin .cons (.un (.wrap .i64) (.bin .add (.int 1) (.bin .tmod (.un (.wrap .i64) (.var 0)) (.int 4)))) (.bin .cons (.var 1) .nil))) (.int 0)) (.bin .cons (.bin .idx (.fn 87 (.bin .cons (.un (.wrap .i64) (.bin .add (.int 1) (.bin .tmod (.un (.wrap .i64) (.var 0)) (.int 4)))) (.bin .cons (.var 1) .nil))) (.int 1)) (.bin .cons (.var 2) .nil)))) (.int 1)) .nil))) (.int 0))
                   (.leaf [(.bin .eq (.un .len (.bin .idx (.fn 86 (.bin .cons (.bin .idx (.fn 87 (.bin .cons (.un (.wrap .i64) (.bin .add (.int 1) (.bin .tmod (.un (.wrap .i64) (.var 0)) (.int 4)))) (.bin .cons (.var 1) .nil))) (.int 0)) (.bin .cons (.bin .idx (.fn 87 (.bin .cons (.un (.wrap .i64) (.bin .add (.int 1) (.bin .tmod (.un (.wrap .i64) (.var 0)) (.int 4)))) (.bin .cons (.var 1) .nil))) (.int 1)) (.bin .cons (.var 2) .nil)))) (.int 1))) (.int 0))])
                   (.leaf [(.bool false)]))))
                (.leaf [(.bool false)]))
               (.leaf [(.bool false)]))))))))))))))))

def diskTearsSm : List (Nat × Smy) := [(7, ⟨88, [], [.one (.pl .bool)], fun _ => [], none⟩), (23, ⟨87, [.one (.pl (.int .i64)), .one (.rows false [.int .u8])], [.agg [.rows false [.str], .rows false [.int .i64, .str]], .one (.rows false [.int .i64, .str]), .one (.pl .bool)], fun es => lenC [(1, 10000)] es ++ rgeC [(0, 1, 512)] es, none⟩), (24, ⟨67, [.one (.pl (.int .u8))], [.one (.pl .str)], fun _ => [], none⟩), (11, ⟨78, [.agg [.rows false [.str], .rows false [.int .i64, .str]]], [.one (.pl .bool)], lenC [(0, 1000000), (1, 1000000)], none⟩), (21, ⟨86, [.agg [.rows false [.str], .rows false [.int .i64, .str]], .one (.rows false [.int .i64])], [.agg [.rows false [.str], .rows false [.int .i64, .str]]], fun es => (lenC [(0, 1000000), (1, 1000000), (2, 1000000)]) es ++ [rightC 78 0 1 es], none⟩), (15, ⟨68, [.agg [.rows false [.str], .rows false [.int .i64, .str]], .one (.pl (.int .i64))], [.one (.pl .str), .one (.pl (.int .i64))], fun _ => [], none⟩), (12, ⟨70, [.agg [.rows false [.str], .rows false [.int .i64, .str]]], [.one (.pl .bool)], lenC [(0, 1000000), (1, 1000000)], none⟩)]
def diskTearsLa : List (LK × LA) := [(⟨168, 8, 7, 3⟩, ⟨[(12, (.int .i64 (.var 3))), (13, (.int .i64 (.var 4))), (47, .any), (48, .any), (49, .any), (50, .any), (51, .any), (52, .any), (53, .any), (54, .any), (55, .any), (56, .any), (57, .any), (58, .any), (59, .any)], [], [], 2, 0⟩),
  (⟨168, 26, 22, 7⟩, ⟨[(24, (.bool (.var 7))), (25, (.int .i64 (.var 8))), (123, .any), (124, .any), (125, .any), (126, .any), (127, .any), (128, .any), (129, .any), (130, .any), (131, .any), (132, .any), (133, .any), (134, .any), (135, .any), (136, .any), (137, .any), (138, .any), (139, .any), (140, .any), (141, .any), (142, .any), (143, .any), (144, .any), (145, .any), (146, .any), (147, .any), (148, .any), (149, .any), (150, .any), (151, .any)], [], [], 2, 0⟩),
  (⟨168, 22, 14, 6⟩, ⟨[(23, (.int .i64 (.var 6))), (24, .any), (25, .any), (108, .any), (109, .any), (110, .any), (111, .any), (112, .any), (113, .any), (114, .any), (115, .any), (116, .any), (117, .any), (118, .any), (119, .any), (120, .any), (121, .any), (122, .any), (123, .any), (124, .any), (125, .any), (126, .any), (127, .any), (128, .any), (129, .any), (130, .any), (131, .any), (132, .any), (133, .any), (134, .any), (135, .any), (136, .any), (137, .any), (138, .any), (139, .any), (140, .any), (141, .any), (142, .any), (143, .any), (144, .any), (145, .any), (146, .any), (147, .any), (148, .any), (149, .any), (150, .any), (151, .any), (152, .any), (153, .any)], [], [], 1, 0⟩),
  (⟨168, 15, 14, 5⟩, ⟨[(18, (.int .i64 (.var 5))), (19, .any), (20, .any), (21, .any), (22, .any), (23, .any), (24, .any), (25, .any), (72, .any), (73, .any), (74, .any), (75, .any), (76, .any), (77, .any), (78, .any), (79, .any), (80, .any), (81, .any), (82, .any), (83, .any), (84, .any), (85, .any), (86, .any), (87, .any), (88, .any), (89, .any), (90, .any), (91, .any), (92, .any), (93, .any), (94, .any), (95, .any), (96, .any), (97, .any), (98, .any), (99, .any), (100, .any), (101, .any), (102, .any), (103, .any), (104, .any), (105, .any), (106, .any), (107, .any), (108, .any), (109, .any), (110, .any), (111, .any), (112, .any), (113, .any), (114, .any), (115, .any), (116, .any), (117, .any), (118, .any), (119, .any), (120, .any), (121, .any), (122, .any), (123, .any), (124, .any), (125, .any), (126, .any), (127, .any), (128, .any), (129, .any), (130, .any), (131, .any), (132, .any), (133, .any), (134, .any), (135, .any), (136, .any), (137, .any), (138, .any), (139, .any), (140, .any), (141, .any), (142, .any), (143, .any), (144, .any), (145, .any), (146, .any), (147, .any), (148, .any), (149, .any), (150, .any), (151, .any), (152, .any), (153, .any)], [], [], 1, 0⟩)]
def diskTearsPhi : Nat → DV → DV := fun n d => match n with
  | 88 => .list (dSaneF d.l)
  | 87 => .list (writtenF d.l)
  | 67 => .list (dFullF d.l)
  | 78 => .list (rDRightF d.l)
  | 86 => .list (dCrashF d.l)
  | 68 => .list (dReadF d.l)
  | 70 => .list (dRightF d.l)
  | _ => d
theorem diskTearsS : SmyOk Try.prog diskTearsPhi diskTearsSm := (smy_cons (fun _ => True) dSaneF dSane_pure (fun _ _ _ _ => trivial) (fun _ => rfl) (fun _ h => by cases h) (smy_cons (fun ds => lenP [(1, 10000)] ds ∧ rgeP [(0, 1, 512)] ds) writtenF written_pure (both_hp [(1, 10000)] [(0, 1, 512)]) (fun _ => rfl) (fun _ h => by cases h) (smy_cons (fun _ => True) dFullF dFull_pure (fun _ _ _ _ => trivial) (fun _ => rfl) (fun _ h => by cases h) (smy_cons (lenP [(0, 1000000), (1, 1000000)]) rDRightF rDRight_pure (len_hp [(0, 1000000), (1, 1000000)]) (fun _ => rfl) (fun _ h => by cases h) (smy_cons (fun ds => (lenP [(0, 1000000), (1, 1000000), (2, 1000000)]) ds ∧ rightDM (gLs ds 0) (gLis ds 1) = true) dCrashF dCrash_pure (right_hp 78 0 1 (len_hp [(0, 1000000), (1, 1000000), (2, 1000000)]) (fun _ => rfl)) (fun _ => rfl) (fun _ h => by cases h) (smy_cons (fun _ => True) dReadF dRead_pure (fun _ _ _ _ => trivial) (fun _ => rfl) (fun _ h => by cases h) (smy_cons (lenP [(0, 1000000), (1, 1000000)]) dRightF dRight_pure (len_hp [(0, 1000000), (1, 1000000)]) (fun _ => rfl) (fun _ h => by cases h) smy_nil)))))))
theorem diskTearsT : treeOk ⟨Try.prog, diskTearsSm, diskTearsLa⟩ 4000 6 [.one (.pl (.int .u8)), .one (.rows false [.int .u8]), .one (.rows false [.int .i64])] [.one (.pl .bool)] (rng (0) 255 (.var 0) ++ (rng 0 9223372036854775807 (.un .len (.var 1)) ++ (rng 0 9223372036854775807 (.un .len (.var 2)) ++ ([])))) diskTearsTree = true := by decide +kernel
set_option maxHeartbeats 1000000 in
theorem diskTears_pure : Pure Try.prog 6 [.one (.pl (.int .u8)), .one (.rows false [.int .u8]), .one (.rows false [.int .i64])] [.one (.pl .bool)] (Wts (clsOf [.one (.pl (.int .u8)), .one (.rows false [.int .u8]), .one (.rows false [.int .i64])])) diskTearsF := by
  refine pure_tree (X := ⟨Try.prog, diskTearsSm, diskTearsLa⟩) (Checked.mixed Try.checked) diskTearsS (by decide +kernel) (by decide +kernel) diskTearsT (by decide +kernel) ?_
  intro ds hl hp
  obtain ⟨d0, d1, d2, rfl⟩ := len3 hl
  obtain ⟨_, _, he, w0, hp⟩ := hp
  cases he
  have r0 : 0 ≤ d0.i ∧ d0.i ≤ 255 := wt_i w0 rfl rfl
  clear w0
  obtain ⟨_, _, he, w1, hp⟩ := hp
  cases he
  have b1 : ((d1.l.map DV.i).length : Int) ≤ 9223372036854775807 := by rw [List.length_map]; exact wt_len w1
  have v1 : ∀ v ∈ d1.l.map DV.i, 0 ≤ v ∧ v ≤ 255 := wt_ints w1 rfl rfl
  clear w1
  obtain ⟨_, _, he, w2, hp⟩ := hp
  cases he
  have b2 : ((d2.l.map DV.i).length : Int) ≤ 9223372036854775807 := by rw [List.length_map]; exact wt_len w2
  have v2 : ∀ v ∈ d2.l.map DV.i, -9223372036854775808 ≤ v ∧ v ≤ 9223372036854775807 := wt_ints w2 rfl rfl
  clear w2
  have hN : nrmL (clsOf [.one (.pl (.int .u8)), .one (.rows false [.int .u8]), .one (.rows false [.int .i64])]) [d0, d1, d2] = [.int d0.i, .list ((d1.l.map DV.i).map DV.int), .list ((d2.l.map DV.i).map DV.int)] := by
    simp only [clsOf, Sh.cls, List.append_nil, List.cons_append, List.nil_append, nrmL, Cl.nrm, CK.nrm, map_Li]
  have hF : diskTearsF [d0, d1, d2] = [.bool true] := rfl
  rw [hN, hF]
  clear hN hp hl hF
  generalize d0.i = x0 at r0 ⊢
  generalize d1.l.map DV.i = x1 at b1 v1 ⊢
  generalize d2.l.map DV.i = x2 at b2 v2 ⊢
  refine ⟨(rng_ok (e := .var 0) r0.1 r0.2 (rng_ok (e := .un .len (.var 1)) (Int.natCast_nonneg _) (by show ((x1.map _).length : Int) ≤ _; rw [List.length_map]; exact b1) (rng_ok (e := .un .len (.var 2)) (Int.natCast_nonneg _) (by show ((x2.map _).length : Int) ≤ _; rw [List.length_map]; exact b2) (facts_nil _)))), ?_⟩
  unfold diskTearsTree
  simp only [Sat, clsOf, Sh.cls, List.append_nil, List.cons_append, List.nil_append, nrmL, Cl.nrm, CK.nrm, List.map_cons, List.map_nil, List.length_cons, List.length_nil, List.cons.injEq, DV.bool.injEq, DV.int.injEq, DV.list.injEq, DV.str.injEq, and_true, true_and]
  try simp only [q_le, q_eq, q_eqs, q_eqb, q_and, q_or, q_not, q_bool, iff_true, iff_false, Bool.not_true, Bool.not_false, Bool.false_eq_true, Bool.true_eq_false, eq_self, Bool.not_not]
  simp only [Bool.not_true, Bool.not_false, Bool.true_eq_false, SE.den, evU, evT, ev_le, ev_eq, ev_eqs, ev_eqb, ev_slt, ev_and, ev_or, ev_add, ev_sub, ev_mul, ev_tdiv, ev_tmod, ev_band, ev_bor, ev_bxor, ev_bandn, ev_shl, ev_shr, ev_cat, ev_byte, ev_idx, ev_cons, ev_snoc, ev_app, ev_take, ev_drop, ev_stake, ev_sdrop, ev_rep, leB_q, eqB_q, eqsB_q, not_q, i_if, b_if, l_if, s_if, i_int, b_bool, s_str, l_list, envL, List.getElem?_cons_succ, List.getElem?_cons_zero, List.getElem?_nil, Option.getD_some, Option.getD_none, Int.toNat_natCast, Int.toNat_zero, Int.reduceToNat, List.length_map, get_Li, get_Lb, get_Ls, set_Li, inj_Li, inj_Lb, inj_Ls, rows_i, rows_b, rows_s, Int.zero_add, iff_true, iff_false, and_true, true_and, Bool.false_eq_true, eq_self, not_true_eq_false, not_false_eq_true, List.length_replicate, DV.int.injEq, DV.bool.injEq, DV.str.injEq, DV.list.injEq, List.cons.injEq, f_is_0, rows_is, inj_Lis, f_is_1, rows_is, inj_Lis, diskTearsPhi, dSaneF, dSaneE, writtenF, writtenE, dFullF, dFullE, rDRightF, rDRightE, dCrashF, dCrashE, dReadF, dReadE, dRightF, dRightE, gi, gb, gs, gLi, gLu, gLb, gLs, dece_i, dece_b, dece_s, gLis, deces_is]
  have t : IntKind.i64.wrap (1 + (IntKind.i64.wrap x0).tmod 4) = 1 + x0 % 4 := by
    rw [w64 (n := x0) (by omega) (by omega), Int.tmod_eq_emod_of_nonneg r0.1]
    exact w64 (by omega) (by omega)
  simp only [t]
  have hn : 1 ≤ 1 + x0 % 4 ∧ 1 + x0 % 4 ≤ 4 := by omega
  generalize 1 + x0 % 4 = n at *
  obtain ⟨old, bef, hB, ho, hor, hW⟩ := tear_law hn.1 (show n ≤ 512 by omega) v1
  obtain ⟨q1, q2⟩ := wrM_wlen n (x1.take (lstM x1 x1.length)) (newM n) [] []
  rw [hB] at q1 q2
  have hlst := lst_le x1 x1.length
  refine ⟨fun _ => trivial, fun h30 => ⟨fun _ => trivial, fun h40 => ⟨by omega, by omega, ?_⟩⟩⟩
  refine rounds_at x1.length (fun i => [.int (lstM x1 i), .int i]) rfl (fun _ => rfl) (fun i hi => ?_) ?_
  · have e1 : ¬ (x1.length : Int) ≤ i := by omega
    have hwi : IntKind.i64.wrap ((i : Int) + 1) = ((i + 1 : Nat) : Int) := by rw [w64 (by omega) (by omega)]; omega
    have hls : lstM x1 (i + 1) = if x1[i]?.getD 0 = 255 then i + 1 else lstM x1 i := rfl
    simp only [Bool.not_true, Bool.not_false, Bool.true_eq_false, SE.den, evU, evT, ev_le, ev_eq, ev_eqs, ev_eqb, ev_slt, ev_and, ev_or, ev_add, ev_sub, ev_mul, ev_tdiv, ev_tmod, ev_band, ev_bor, ev_bxor, ev_bandn, ev_shl, ev_shr, ev_cat, ev_byte, ev_idx, ev_cons, ev_snoc, ev_app, ev_take, ev_drop, ev_stake, ev_sdrop, ev_rep, leB_q, eqB_q, eqsB_q, not_q, i_if, b_if, l_if, s_if, i_int, b_bool, s_str, l_list, envL, List.getElem?_cons_succ, List.getElem?_cons_zero, List.getElem?_nil, Option.getD_some, Option.getD_none, Int.toNat_natCast, Int.toNat_zero, Int.reduceToNat, List.length_map, get_Li, get_Lb, get_Ls, set_Li, inj_Li, inj_Lb, inj_Ls, rows_i, rows_b, rows_s, Int.zero_add, iff_true, iff_false, and_true, true_and, Bool.false_eq_true, eq_self, not_true_eq_false, not_false_eq_true, List.length_replicate, DV.int.injEq, DV.bool.injEq, DV.str.injEq, DV.list.injEq, List.cons.injEq, f_is_0, rows_is, inj_Lis, f_is_1, rows_is, inj_Lis, e1, hwi, hls]
    by_cases h : x1[i]?.getD 0 = 255
    · simp [h]
    · simp [h]
  · obtain ⟨l1, l2⟩ := kM_len n (x1.drop (lstM x1 x1.length)) old (x1.drop (lstM x1 x1.length)).length
    have hkr := kM_right hn.1 (show n ≤ 512 by omega) (more := x1.drop (lstM x1 x1.length)) ho hor (x1.drop (lstM x1 x1.length)).length
    have hka := kM_at n (x1.drop (lstM x1 x1.length)) old (x1.drop (lstM x1 x1.length)).length
    have hko := fun a => kM_old hn.1 (more := x1.drop (lstM x1 x1.length)) ho a (x1.drop (lstM x1 x1.length)).length
    have hkn := fun i a ha => kM_new hn.1 (more := x1.drop (lstM x1 x1.length)) ho i a ha (x1.drop (lstM x1 x1.length)).length
    have htk : (List.take (lstM x1 x1.length) (x1.map DV.int)).map DV.i = x1.take (lstM x1 x1.length) := by rw [← List.map_take, dece_i]
    have htl : ((x1.drop (lstM x1 x1.length)).length : Int) ≤ 30 := by rw [List.length_drop]; omega
    have hbl : (bef.length : Int) ≤ 30 := by simp only [List.length_nil, List.length_take] at q2; omega
    simp only [Bool.not_true, Bool.not_false, Bool.true_eq_false, SE.den, evU, evT, ev_le, ev_eq, ev_eqs, ev_eqb, ev_slt, ev_and, ev_or, ev_add, ev_sub, ev_mul, ev_tdiv, ev_tmod, ev_band, ev_bor, ev_bxor, ev_bandn, ev_shl, ev_shr, ev_cat, ev_byte, ev_idx, ev_cons, ev_snoc, ev_app, ev_take, ev_drop, ev_stake, ev_sdrop, ev_rep, leB_q, eqB_q, eqsB_q, not_q, i_if, b_if, l_if, s_if, i_int, b_bool, s_str, l_list, envL, List.getElem?_cons_succ, List.getElem?_cons_zero, List.getElem?_nil, Option.getD_some, Option.getD_none, Int.toNat_natCast, Int.toNat_zero, Int.reduceToNat, List.length_map, get_Li, get_Lb, get_Ls, set_Li, inj_Li, inj_Lb, inj_Ls, rows_i, rows_b, rows_s, Int.zero_add, iff_true, iff_false, and_true, true_and, Bool.false_eq_true, eq_self, not_true_eq_false, not_false_eq_true, List.length_replicate, DV.int.injEq, DV.bool.injEq, DV.str.injEq, DV.list.injEq, List.cons.injEq, f_is_0, rows_is, inj_Lis, f_is_1, rows_is, inj_Lis, Int.sub_zero, List.drop_zero, htk, hW, hB]
    generalize hL : x1.drop (lstM x1 x1.length) = L at *
    generalize hK : kM n L old L.length = K at *
    have hcl := crash_len K.1 K.2 x2 K.2.length
    have hc32 := crash_32 x2 hkr K.2.length (Nat.le_refl _)
    have hcb := crash_byte x2 hkr
    have hcr := crash_right x2 hkr
    have hnr := kM_len n L old L.length
    generalize hC : crashM K.1 K.2 x2 K.2.length = C at *
    refine ⟨fun h => absurd (Int.le_refl _) h, fun _ => ⟨by omega, by omega, by rw [List.length_take, List.length_map]; omega, by omega, by omega, hkr, rfl, ?_⟩⟩
    refine rounds_at n.toNat (fun a => [.int a]) rfl (fun _ => rfl) (fun a ha => ?_) ?_
    · have e1 : ¬ n ≤ (a : Int) := by omega
      have hwa : IntKind.i64.wrap ((a : Int) + 1) = ((a + 1 : Nat) : Int) := by rw [w64 (by omega) (by omega)]; omega
      have r1 : readDM C a = (C[a]?.getD [], 0) := read_in (n := n) (by omega) (by omega)
      have r2 : readDM old a = (old[a]?.getD [], 0) := read_in ho (by omega)
      have s1 : (C[a]?.getD []).length = 32 := hc32 a (by omega)
      have s2 : ((old[a]?.getD []).length : Int) = 32 := right_sec hor (by omega)
      have key : ∀ k : Nat, k < 32 → isM n L a ((C[a]?.getD [])[k]?.getD 0).toNat ((old[a]?.getD [])[k]?.getD 0).toNat k L.length = true := fun k hk => by
        refine isM_true _ ?_
        rcases hcb a (by omega) k hk K.2.length (Nat.le_refl _) with h | ⟨j, h4, h5, h6⟩
        · left
          rw [hC, hko a] at h
          rw [h]
        · right
          rw [hka j (by omega)] at h5
          rw [hC, hkn j a h5 (by omega)] at h6
          exact ⟨j, by omega, h5, by rw [h6]⟩
      simp only [Bool.not_true, Bool.not_false, Bool.true_eq_false, SE.den, evU, evT, ev_le, ev_eq, ev_eqs, ev_eqb, ev_slt, ev_and, ev_or, ev_add, ev_sub, ev_mul, ev_tdiv, ev_tmod, ev_band, ev_bor, ev_bxor, ev_bandn, ev_shl, ev_shr, ev_cat, ev_byte, ev_idx, ev_cons, ev_snoc, ev_app, ev_take, ev_drop, ev_stake, ev_sdrop, ev_rep, leB_q, eqB_q, eqsB_q, not_q, i_if, b_if, l_if, s_if, i_int, b_bool, s_str, l_list, envL, List.getElem?_cons_succ, List.getElem?_cons_zero, List.getElem?_nil, Option.getD_some, Option.getD_none, Int.toNat_natCast, Int.toNat_zero, Int.reduceToNat, List.length_map, get_Li, get_Lb, get_Ls, set_Li, inj_Li, inj_Lb, inj_Ls, rows_i, rows_b, rows_s, Int.zero_add, iff_true, iff_false, and_true, true_and, Bool.false_eq_true, eq_self, not_true_eq_false, not_false_eq_true, List.length_replicate, DV.int.injEq, DV.bool.injEq, DV.str.injEq, DV.list.injEq, List.cons.injEq, f_is_0, rows_is, inj_Lis, f_is_1, rows_is, inj_Lis, List.cons_append, List.nil_append, Int.sub_zero, List.drop_zero, htk, hB, hC, e1, r1, r2, s1, s2]
      refine ⟨fun _ => ⟨fun _ => ⟨fun h => h.elim, fun _ => ⟨fun h => h.elim, fun _ => ⟨fun h => h rfl, fun _ => ⟨fun h => h.elim, fun _ => ⟨rfl, ?_⟩⟩⟩⟩⟩, fun h => by cases h⟩, fun h => h.elim⟩
      refine rounds_at 32 (fun k => [.int k]) rfl (fun _ => rfl) (fun k hk => ?_) ?_
      · have e2 : ¬ ((32 : Nat) : Int) ≤ k := by omega
        have hwk : IntKind.i64.wrap ((k : Int) + 1) = ((k + 1 : Nat) : Int) := by rw [w64 (by omega) (by omega)]; omega
        simp only [Bool.not_true, Bool.not_false, Bool.true_eq_false, SE.den, evU, evT, ev_le, ev_eq, ev_eqs, ev_eqb, ev_slt, ev_and, ev_or, ev_add, ev_sub, ev_mul, ev_tdiv, ev_tmod, ev_band, ev_bor, ev_bxor, ev_bandn, ev_shl, ev_shr, ev_cat, ev_byte, ev_idx, ev_cons, ev_snoc, ev_app, ev_take, ev_drop, ev_stake, ev_sdrop, ev_rep, leB_q, eqB_q, eqsB_q, not_q, i_if, b_if, l_if, s_if, i_int, b_bool, s_str, l_list, envL, List.getElem?_cons_succ, List.getElem?_cons_zero, List.getElem?_nil, Option.getD_some, Option.getD_none, Int.toNat_natCast, Int.toNat_zero, Int.reduceToNat, List.length_map, get_Li, get_Lb, get_Ls, set_Li, inj_Li, inj_Lb, inj_Ls, rows_i, rows_b, rows_s, Int.zero_add, iff_true, iff_false, and_true, true_and, Bool.false_eq_true, eq_self, not_true_eq_false, not_false_eq_true, List.length_replicate, DV.int.injEq, DV.bool.injEq, DV.str.injEq, DV.list.injEq, List.cons.injEq, f_is_0, rows_is, inj_Lis, f_is_1, rows_is, inj_Lis, List.cons_append, List.nil_append, e2]
        refine ⟨fun _ => ⟨by omega, rfl, ?_⟩, fun h => h.elim⟩
        refine rounds_at L.length (fun m => [.bool (isM n L a ((C[a]?.getD [])[k]?.getD 0).toNat ((old[a]?.getD [])[k]?.getD 0).toNat k m), .int ((bef.length + m : Nat) : Int)]) rfl (fun _ => rfl) (fun m hm => ?_) ?_
        · have e3 : ¬ ((bef ++ L.map (putW n)).length : Int) ≤ ((bef.length + m : Nat) : Int) := by rw [List.length_append, List.length_map]; omega
          have hwm : IntKind.i64.wrap (((bef.length + m : Nat) : Int) + 1) = ((bef.length + (m + 1) : Nat) : Int) := by rw [w64 (by omega) (by omega)]; omega
          have hrec : (bef ++ L.map (putW n))[bef.length + m]?.getD dis = putW n (L[m]?.getD 0) := by
            rw [List.getElem?_append_right (by omega), show bef.length + m - bef.length = m by omega, List.getElem?_map, List.getElem?_eq_getElem hm]
            rfl
          have hp1 : (putW n (L[m]?.getD 0)).1 = (L[m]?.getD 0) % n := rfl
          have hp2 : (putW n (L[m]?.getD 0)).2 = fullM (L[m]?.getD 0) := rfl
          have hfl : ¬ ((fullM (L[m]?.getD 0)).length : Int) ≤ k := by rw [full_len]; omega
          have hst : isM n L a ((C[a]?.getD [])[k]?.getD 0).toNat ((old[a]?.getD [])[k]?.getD 0).toNat k (m + 1) = if isM n L a ((C[a]?.getD [])[k]?.getD 0).toNat ((old[a]?.getD [])[k]?.getD 0).toNat k m = true then true else if (L[m]?.getD 0) % n = a then eqB (((C[a]?.getD [])[k]?.getD 0).toNat : Int) (((fullM (L[m]?.getD 0))[k]?.getD 0).toNat : Int) else false := rfl
          simp only [Bool.not_true, Bool.not_false, Bool.true_eq_false, SE.den, evU, evT, ev_le, ev_eq, ev_eqs, ev_eqb, ev_slt, ev_and, ev_or, ev_add, ev_sub, ev_mul, ev_tdiv, ev_tmod, ev_band, ev_bor, ev_bxor, ev_bandn, ev_shl, ev_shr, ev_cat, ev_byte, ev_idx, ev_cons, ev_snoc, ev_app, ev_take, ev_drop, ev_stake, ev_sdrop, ev_rep, leB_q, eqB_q, eqsB_q, not_q, i_if, b_if, l_if, s_if, i_int, b_bool, s_str, l_list, envL, List.getElem?_cons_succ, List.getElem?_cons_zero, List.getElem?_nil, Option.getD_some, Option.getD_none, Int.toNat_natCast, Int.toNat_zero, Int.reduceToNat, List.length_map, get_Li, get_Lb, get_Ls, set_Li, inj_Li, inj_Lb, inj_Ls, rows_i, rows_b, rows_s, Int.zero_add, iff_true, iff_false, and_true, true_and, Bool.false_eq_true, eq_self, not_true_eq_false, not_false_eq_true, List.length_replicate, DV.int.injEq, DV.bool.injEq, DV.str.injEq, DV.list.injEq, List.cons.injEq, f_is_0, rows_is, inj_Lis, f_is_1, rows_is, inj_Lis, List.cons_append, List.nil_append, e3, hwm, hrec, hp1, hp2, hfl, hst]
          generalize isM n L a ((C[a]?.getD [])[k]?.getD 0).toNat ((old[a]?.getD [])[k]?.getD 0).toNat k m = b
          cases b
          · by_cases h : (L[m]?.getD 0) % n = (a : Int)
            · simp only [h, if_true, Bool.false_eq_true, if_false, not_true_eq_false, false_implies, true_implies, and_true]
              exact ⟨trivial, by omega, by unfold eqB; simp⟩
            · simp only [h, if_true, Bool.false_eq_true, if_false, not_false_eq_true, false_implies, true_implies, and_true, true_and]
              omega
          · simp
        · have e3 : ((bef ++ L.map (putW n)).length : Int) ≤ ((bef.length + L.length : Nat) : Int) := by rw [List.length_append, List.length_map]; omega
          simp only [Bool.not_true, Bool.not_false, Bool.true_eq_false, SE.den, evU, evT, ev_le, ev_eq, ev_eqs, ev_eqb, ev_slt, ev_and, ev_or, ev_add, ev_sub, ev_mul, ev_tdiv, ev_tmod, ev_band, ev_bor, ev_bxor, ev_bandn, ev_shl, ev_shr, ev_cat, ev_byte, ev_idx, ev_cons, ev_snoc, ev_app, ev_take, ev_drop, ev_stake, ev_sdrop, ev_rep, leB_q, eqB_q, eqsB_q, not_q, i_if, b_if, l_if, s_if, i_int, b_bool, s_str, l_list, envL, List.getElem?_cons_succ, List.getElem?_cons_zero, List.getElem?_nil, Option.getD_some, Option.getD_none, Int.toNat_natCast, Int.toNat_zero, Int.reduceToNat, List.length_map, get_Li, get_Lb, get_Ls, set_Li, inj_Li, inj_Lb, inj_Ls, rows_i, rows_b, rows_s, Int.zero_add, iff_true, iff_false, and_true, true_and, Bool.false_eq_true, eq_self, not_true_eq_false, not_false_eq_true, List.length_replicate, DV.int.injEq, DV.bool.injEq, DV.str.injEq, DV.list.injEq, List.cons.injEq, f_is_0, rows_is, inj_Lis, f_is_1, rows_is, inj_Lis, List.cons_append, List.nil_append, e3, key k hk, hwk]
          simp
      · simp only [Bool.not_true, Bool.not_false, Bool.true_eq_false, SE.den, evU, evT, ev_le, ev_eq, ev_eqs, ev_eqb, ev_slt, ev_and, ev_or, ev_add, ev_sub, ev_mul, ev_tdiv, ev_tmod, ev_band, ev_bor, ev_bxor, ev_bandn, ev_shl, ev_shr, ev_cat, ev_byte, ev_idx, ev_cons, ev_snoc, ev_app, ev_take, ev_drop, ev_stake, ev_sdrop, ev_rep, leB_q, eqB_q, eqsB_q, not_q, i_if, b_if, l_if, s_if, i_int, b_bool, s_str, l_list, envL, List.getElem?_cons_succ, List.getElem?_cons_zero, List.getElem?_nil, Option.getD_some, Option.getD_none, Int.toNat_natCast, Int.toNat_zero, Int.reduceToNat, List.length_map, get_Li, get_Lb, get_Ls, set_Li, inj_Li, inj_Lb, inj_Ls, rows_i, rows_b, rows_s, Int.zero_add, iff_true, iff_false, and_true, true_and, Bool.false_eq_true, eq_self, not_true_eq_false, not_false_eq_true, List.length_replicate, DV.int.injEq, DV.bool.injEq, DV.str.injEq, DV.list.injEq, List.cons.injEq, f_is_0, rows_is, inj_Lis, f_is_1, rows_is, inj_Lis, List.cons_append, List.nil_append]
        refine ⟨fun h => absurd (Int.le_refl _) h, fun _ => ?_⟩
        simp only [hwa]
    · have e1 : n ≤ ((n.toNat : Nat) : Int) := by omega
      simp only [Bool.not_true, Bool.not_false, Bool.true_eq_false, SE.den, evU, evT, ev_le, ev_eq, ev_eqs, ev_eqb, ev_slt, ev_and, ev_or, ev_add, ev_sub, ev_mul, ev_tdiv, ev_tmod, ev_band, ev_bor, ev_bxor, ev_bandn, ev_shl, ev_shr, ev_cat, ev_byte, ev_idx, ev_cons, ev_snoc, ev_app, ev_take, ev_drop, ev_stake, ev_sdrop, ev_rep, leB_q, eqB_q, eqsB_q, not_q, i_if, b_if, l_if, s_if, i_int, b_bool, s_str, l_list, envL, List.getElem?_cons_succ, List.getElem?_cons_zero, List.getElem?_nil, Option.getD_some, Option.getD_none, Int.toNat_natCast, Int.toNat_zero, Int.reduceToNat, List.length_map, get_Li, get_Lb, get_Ls, set_Li, inj_Li, inj_Lb, inj_Ls, rows_i, rows_b, rows_s, Int.zero_add, iff_true, iff_false, and_true, true_and, Bool.false_eq_true, eq_self, not_true_eq_false, not_false_eq_true, List.length_replicate, DV.int.injEq, DV.bool.injEq, DV.str.injEq, DV.list.injEq, List.cons.injEq, f_is_0, rows_is, inj_Lis, f_is_1, rows_is, inj_Lis, List.cons_append, List.nil_append, Int.sub_zero, List.drop_zero, htk, hB, hC, hcr, e1]
      refine ⟨fun h => h.elim, fun _ => ?_⟩
      simp
      exact ⟨by omega, hcr⟩
namespace row
open Go.ChangeShapes Go.WideShapes Go.ChangeAt Go.RowKit Go.Joins Go.Deep Go.Proofs.Ytljocjljkilkjaa
theorem lifted (os : Os) (started : os.Started) (H : Type) (enc : TypeId × Value → H) :
    ReturnsInHanded {} Try.checked os 6 .any (Rows.diskTearsBytesSpec.pre6 enc Try.prog Try.f6 Rows.diskTearsBytesRow.domain false) (Rows.diskTearsBytesSpec.post enc Try.prog Try.f6 false true false false) := by
  refine returnsInHanded_of_change (C := Try.checked) own started (by kernel_rfl) Try.func6
    (ChangeSpec.witness6 (enc := enc) (C := Try.checked) false ⟨#[], #[.int .u8 0, .slice none 0 0, .slice none 0 0], []⟩ 8 (by kernel_rfl) (by kernel_rfl) (by kernel_rfl) (by kernel_rfl)) ?_
  intro W base args ds gs before hval0 hW hcnd _
  have hval : ∀ (j : Nat) t v, Try.f6.params[j]? = some t → args[j]? = some v → Value.okWide Try.prog W .any base t v := hval0
  have hW' := hW
  obtain ⟨p, q, hA0, hV, rfl, hfz, hnd⟩ := hW
  have hA : DataW.TrodAll enc Try.prog W 0 (fun _ => true) true Try.f6.params.toList args.toList ds p := hA0
  have hval2 : ∀ (j : Nat) t v, Try.f6.params.toList[j]? = some t → args.toList[j]? = some v → Value.okWide Try.prog W .any base t v := fun j t v a b => hval j t v (by simpa using a) (by simpa using b)
  have hcall := law_of diskTears_pure (fun _ h => h) (by rw [Try.params6]; kernel_rfl) hA hval2
  rw [Try.params6] at hA
  obtain ⟨v0, vs0, d0, ds0, p0, q0, hargs, rfl, rfl, h0, r0⟩ := trodAll_cons hA
  obtain ⟨v1, vs1, d1, ds1, p1, q1, rfl, rfl, rfl, h1, r1⟩ := trodAll_cons r0
  obtain ⟨v2, vs2, d2, ds2, p2, q2, rfl, rfl, rfl, h2, r2⟩ := trodAll_cons r1
  obtain ⟨rfl, rfl, rfl⟩ := trodAll_nil r2
  obtain rfl : args = #[v0, v1, v2] := by cases args; simp_all
  obtain ⟨rfl, rfl⟩ := trodVars_none hV
  have lt0 : ∀ x ∈ p0, x.block < W.heap.size := by obtain ⟨m, hm⟩ := h0; exact DataW.trod_lt m _ _ _ hm
  have lt1 : ∀ x ∈ p1, x.block < W.heap.size := by obtain ⟨m, hm⟩ := h1; exact DataW.trod_lt m _ _ _ hm
  have lt2 : ∀ x ∈ p2, x.block < W.heap.size := by obtain ⟨m, hm⟩ := h2; exact DataW.trod_lt m _ _ _ hm
  clear hA0 hval0 hval2
  refine Calls.mono hcall fun e W' ⟨he, bel⟩ => ?_
  subst he
  exact ⟨_, rfl, _, _, _, [], _, [], hW', trodAll_mk1 (shut_bool Try.underlying4 _), (trodAll_cons_mk (Below.trod laidOut (by kernel_rfl) (of_decide_eq_true (by kernel_rfl)) h0 bel lt0) (trodAll_cons_mk (Below.trod laidOut (by kernel_rfl) (of_decide_eq_true (by kernel_rfl)) h1 bel lt1) (trodAll_cons_mk (Below.trod laidOut (by kernel_rfl) (of_decide_eq_true (by kernel_rfl)) h2 bel lt2) trodAll_mk0))), rfl, bel.frame _, fun h => by cases h⟩
theorem over : Rows.diskTearsBytesRow.holds Try.pinned (OpenSpec.ofChange Rows.diskTearsBytesSpec) :=
  OpenClaim.holds_of_wide 6 Try.f6 rfl rfl rfl rfl rfl rfl rfl ⟨rfl, rfl, rfl, rfl, rfl⟩ rfl rfl rfl rfl rfl (by kernel_rfl) Try.func6 (by kernel_rfl)
    (of_decide_eq_true (by kernel_rfl)) (by unfold Func.isWrapper; first | (rw [if_pos (by decide +kernel)]; kernel_rfl) | (rw [if_neg (by decide +kernel)]; exact ⟨rfl, rfl⟩))
    (fun os started H enc _ => lifted os started H enc)
end row
theorem diskTears_proved : Rows.DiskTearsBytesSaid := row.over
end Go.Proofs.Ytljocjljkilkjaa
