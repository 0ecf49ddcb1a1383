/- MemCommutes: the law returns true for every input, and each argument reads afterwards as it read before. No condition. -/
import Derived.Test.YtbnbljeegghgiaaLSane02
import Derived.Test.YtbnbljeegghgiaaMemAll
import Derived.Test.YtbnbljeegghgiaaRSame
import Derived.Test.YtbnbljeegghgiaaBd
import Derived.Test.YtbnbljeegghgiaaOpen
namespace Go.Proofs.Ytbnbljeegghgiaa
set_option linter.unusedVariables false
set_option linter.unusedSimpArgs false
set_option maxRecDepth 100000

theorem doM_ok {l : List Int} {k c o n : Int} {s : List UInt8} (h : rightM k c o n s = true) (hc : c < l.length) : doM l k c o n s = (l.set c.toNat (nextM (l[c.toNat]?.getD 0) k o n).1, (l[c.toNat]?.getD 0, (nextM (l[c.toNat]?.getD 0) k o n).2), 0) := by
  unfold doM; rw [if_pos h, if_pos hc]
theorem doM_bad {l : List Int} {k c o n : Int} {s : List UInt8} (h : ¬ (rightM k c o n s = true ∧ c < l.length)) : (doM l k c o n s).2.2 ≠ 0 := by
  unfold doM
  split
  · split
    · exact absurd ⟨by assumption, by assumption⟩ h
    · simp
  · simp
theorem rightM_cell {k c o n : Int} {s : List UInt8} (h : rightM k c o n s = true) : 0 ≤ c := by unfold rightM at h; simp at h; exact h.2.2.1
theorem two_bad {m : List Int} {a b : Tiiiis} (h : ¬ (rightM a.1 a.2.1 a.2.2.1 a.2.2.2.1 a.2.2.2.2 = true ∧ a.2.1 < m.length) ∨ ¬ (rightM b.1 b.2.1 b.2.2.1 b.2.2.2.1 b.2.2.2.2 = true ∧ b.2.1 < m.length)) : (allM m [a, b] m []).2.2 ≠ 0 := by
  unfold allM
  by_cases ha : rightM a.1 a.2.1 a.2.2.1 a.2.2.2.1 a.2.2.2.2 = true ∧ a.2.1 < m.length
  · have hb : ¬ (rightM b.1 b.2.1 b.2.2.1 b.2.2.2.1 b.2.2.2.2 = true ∧ b.2.1 < m.length) := h.resolve_left (fun h => h ha)
    have e := doM_ok (l := m) ha.1 ha.2
    rw [e]
    simp only [if_true]
    unfold allM
    rw [if_neg (doM_bad (by rw [List.length_set]; exact hb))]
    exact doM_bad (by rw [List.length_set]; exact hb)
  · rw [if_neg (doM_bad ha)]
    exact doM_bad ha
theorem wrap_comm (w a b : Int) : IntKind.i64.wrap (IntKind.i64.wrap (w + a) + b) = IntKind.i64.wrap (IntKind.i64.wrap (w + b) + a) := by
  simp only [w64_eq]
  omega
theorem commuteM (m : List Int) (k c o n : Int) (s : List UInt8) (k' c' o' n' : Int) (s' : List UInt8) (h : c ≠ c' ∨ (k = k' ∧ (k = 1 ∨ k = 4))) :
    ((allM m [(k, c, o, n, s), (k', c', o', n', s')] m []).2.2 = 0 ↔ (allM m [(k', c', o', n', s'), (k, c, o, n, s)] m []).2.2 = 0) ∧
    ((allM m [(k, c, o, n, s), (k', c', o', n', s')] m []).2.2 = 0 → (allM m [(k, c, o, n, s), (k', c', o', n', s')] m []).1 = (allM m [(k', c', o', n', s'), (k, c, o, n, s)] m []).1 ∧
      ∃ u v u' v', (allM m [(k, c, o, n, s), (k', c', o', n', s')] m []).2.1 = [u, v] ∧ (allM m [(k', c', o', n', s'), (k, c, o, n, s)] m []).2.1 = [u', v'] ∧ ((c = c' ∧ k = 4) ∨ (u = v' ∧ v = u'))) := by
  by_cases ha : rightM k c o n s = true ∧ c < m.length
  · by_cases hb : rightM k' c' o' n' s' = true ∧ c' < m.length
    · have h0 := rightM_cell ha.1
      have h0' := rightM_cell hb.1
      have e1 : allM m [(k, c, o, n, s), (k', c', o', n', s')] m [] = ((m.set c.toNat (nextM (m[c.toNat]?.getD 0) k o n).1).set c'.toNat (nextM ((m.set c.toNat (nextM (m[c.toNat]?.getD 0) k o n).1)[c'.toNat]?.getD 0) k' o' n').1, [(m[c.toNat]?.getD 0, (nextM (m[c.toNat]?.getD 0) k o n).2), ((m.set c.toNat (nextM (m[c.toNat]?.getD 0) k o n).1)[c'.toNat]?.getD 0, (nextM ((m.set c.toNat (nextM (m[c.toNat]?.getD 0) k o n).1)[c'.toNat]?.getD 0) k' o' n').2)], 0) := by
        simp only [allM]
        rw [doM_ok ha.1 ha.2]
        simp only [if_true]
        rw [doM_ok hb.1 (by rw [List.length_set]; exact hb.2)]
        rfl
      have e2 : allM m [(k', c', o', n', s'), (k, c, o, n, s)] m [] = ((m.set c'.toNat (nextM (m[c'.toNat]?.getD 0) k' o' n').1).set c.toNat (nextM ((m.set c'.toNat (nextM (m[c'.toNat]?.getD 0) k' o' n').1)[c.toNat]?.getD 0) k o n).1, [(m[c'.toNat]?.getD 0, (nextM (m[c'.toNat]?.getD 0) k' o' n').2), ((m.set c'.toNat (nextM (m[c'.toNat]?.getD 0) k' o' n').1)[c.toNat]?.getD 0, (nextM ((m.set c'.toNat (nextM (m[c'.toNat]?.getD 0) k' o' n').1)[c.toNat]?.getD 0) k o n).2)], 0) := by
        simp only [allM]
        rw [doM_ok hb.1 hb.2]
        simp only [if_true]
        rw [doM_ok ha.1 (by rw [List.length_set]; exact ha.2)]
        rfl
      rw [e1, e2]
      refine ⟨by simp, fun _ => ?_⟩
      by_cases hcc : c = c'
      · subst hcc
        rcases h with h | ⟨rfl, h⟩
        · exact absurd rfl h
        have hl : c.toNat < m.length := by omega
        have hg : ∀ v : Int, (m.set c.toNat v)[c.toNat]?.getD 0 = v := fun v => by rw [List.getElem?_set_self hl]; rfl
        rcases h with rfl | rfl
        · have hn : ∀ w o n, nextM w 1 o n = (w, true) := fun w o n => by simp [nextM]
          simp only [hn, hg, set_same _ _ _ hl]
          exact ⟨trivial, _, _, _, _, rfl, rfl, .inr ⟨rfl, rfl⟩⟩
        · have hn : ∀ w o n, nextM w 4 o n = (IntKind.i64.wrap (w + n), true) := fun w o n => by simp [nextM]
          simp only [hn, hg, List.set_set]
          exact ⟨by rw [wrap_comm], _, _, _, _, rfl, rfl, .inl ⟨trivial, trivial⟩⟩
      · have hne : c.toNat ≠ c'.toNat := by omega
        have g1 : ∀ v : Int, (m.set c.toNat v)[c'.toNat]?.getD 0 = m[c'.toNat]?.getD 0 := fun v => by rw [List.getElem?_set_ne hne]
        have g2 : ∀ v : Int, (m.set c'.toNat v)[c.toNat]?.getD 0 = m[c.toNat]?.getD 0 := fun v => by rw [List.getElem?_set_ne (Ne.symm hne)]
        simp only [g1, g2]
        exact ⟨List.set_comm _ _ hne, _, _, _, _, rfl, rfl, .inr ⟨rfl, rfl⟩⟩
    · have h1 := two_bad (m := m) (a := (k, c, o, n, s)) (b := (k', c', o', n', s')) (.inr hb)
      have h2 := two_bad (m := m) (a := (k', c', o', n', s')) (b := (k, c, o, n, s)) (.inl hb)
      exact ⟨⟨fun h => absurd h h1, fun h => absurd h h2⟩, fun h => absurd h h1⟩
  · have h1 := two_bad (m := m) (a := (k, c, o, n, s)) (b := (k', c', o', n', s')) (.inl ha)
    have h2 := two_bad (m := m) (a := (k', c', o', n', s')) (b := (k, c, o, n, s)) (.inr ha)
    exact ⟨⟨fun h => absurd h h1, fun h => absurd h h2⟩, fun h => absurd h h1⟩

def memCommutesF (ds : List DV) : List DV := [.bool true]
/-- What the executor makes of it. -/
def memCommutesTree : PT :=
(.br (.bin .eq (.var 1) (.var 6))
 (.br (.bin .eq (.var 1) (.int 1))
  (.br (.un .not (.bin .le (.un .len (.var 0)) (.int 100)))
   (.leaf [(.bin .idx (.fn 12 .nil) (.int 0))])
   (.asrt (.bin .le (.un .len (.bin .cons (.bin .cons (.var 1) (.bin .cons (.var 2) (.bin .cons (.var 3) (.bin .cons (.var 4) (.bin .cons (.var 5) .nil))))) (.bin .cons (.bin .cons (.var 6) (.bin .cons (.var 7) (.bin .cons (.var 8) (.bin .cons (.var 9) (.bin .cons (.var 10) .nil))))) .nil))) (.int 1000000))
    (.asrt (.bin .le (.un .len (.bin .cons (.bin .cons (.var 6) (.bin .cons (.var 7) (.bin .cons (.var 8) (.bin .cons (.var 9) (.bin .cons (.var 10) .nil))))) (.bin .cons (.bin .cons (.var 1) (.bin .cons (.var 2) (.bin .cons (.var 3) (.bin .cons (.var 4) (.bin .cons (.var 5) .nil))))) .nil))) (.int 1000000))
     (.br (.un .not (.bin .eq (.bin .idx (.fn 8 (.bin .cons (.var 0) (.bin .cons (.bin .cons (.bin .cons (.var 1) (.bin .cons (.var 2) (.bin .cons (.var 3) (.bin .cons (.var 4) (.bin .cons (.var 5) .nil))))) (.bin .cons (.bin .cons (.var 6) (.bin .cons (.var 7) (.bin .cons (.var 8) (.bin .cons (.var 9) (.bin .cons (.var 10) .nil))))) .nil)) .nil))) (.int 2)) (.int 0)))
      (.br (.bin .idx (.fn 12 .nil) (.int 0))
       (.leaf [(.un .not (.bin .eq (.bin .idx (.fn 8 (.bin .cons (.var 0) (.bin .cons (.bin .cons (.bin .cons (.var 6) (.bin .cons (.var 7) (.bin .cons (.var 8) (.bin .cons (.var 9) (.bin .cons (.var 10) .nil))))) (.bin .cons (.bin .cons (.var 1) (.bin .cons (.var 2) (.bin .cons (.var 3) (.bin .cons (.var 4) (.bin .cons (.var 5) .nil))))) .nil)) .nil))) (.int 2)) (.int 0)))])
       (.leaf [(.bool false)]))
      (.br (.un .not (.bin .eq (.bin .idx (.fn 8 (.bin .cons (.var 0) (.bin .cons (.bin .cons (.bin .cons (.var 6) (.bin .cons (.var 7) (.bin .cons (.var 8) (.bin .cons (.var 9) (.bin .cons (.var 10) .nil))))) (.bin .cons (.bin .cons (.var 1) (.bin .cons (.var 2) (.bin .cons (.var 3) (.bin .cons (.var 4) (.bin .cons (.var 5) .nil))))) .nil)) .nil))) (.int 2)) (.int 0)))
       (.leaf [(.bool false)])
       (.br (.un .not (.bin .eq (.un .len (.bin .idx (.fn 8 (.bin .cons (.var 0) (.bin .cons (.bin .cons (.bin .cons (.var 1) (.bin .cons (.var 2) (.bin .cons (.var 3) (.bin .cons (.var 4) (.bin .cons (.var 5) .nil))))) (.bin .cons (.bin .cons (.var 6) (.bin .cons (.var 7) (.bin .cons (.var 8) (.bin .cons (.var 9) (.bin .cons (.var 10) .nil))))) .nil)) .nil))) (.int 1))) (.int 2)))
        (.leaf [(.bool false)])
        (.br (.un .not (.bin .eq (.un .len (.bin .idx (.fn 8 (.bin .cons (.var 0) (.bin .cons (.bin .cons (.bin .cons (.var 6) (.bin .cons (.var 7) (.bin .cons (.var 8) (.bin .cons (.var 9) (.bin .cons (.var 10) .nil))))) (.bin .cons (.bin .cons (.var 1) (.bin .cons (.var 2) (.bin .cons (.var 3) (.bin .cons (.var 4) (.bin .cons (.var 5) .nil))))) .nil)) .nil))) (.int 1))) (.int 2)))
         (.leaf [(.bool false)])
         (.br (.bin .idx (.fn 12 .nil) (.int 0))
          (.asrt (.bin .le (.un .len (.bin .idx (.fn 8 (.bin .cons (.var 0) (.bin .cons (.bin .cons (.bin .cons (.var 1) (.bin .cons (.var 2) (.bin .cons (.var 3) (.bin .cons (.var 4) (.bin .cons (.var 5) .nil))))) (.bin .cons (.bin .cons (.var 6) (.bin .cons (.var 7) (.bin .cons (.var 8) (.bin .cons (.var 9) (.bin .cons (.var 10) .nil))))) .nil)) .nil))) (.int 0))) (.int 1000000))
           (.asrt (.bin .le (.un .len (.bin .idx (.fn 8 (.bin .cons (.var 0) (.bin .cons (.bin .cons (.bin .cons (.var 6) (.bin .cons (.var 7) (.bin .cons (.var 8) (.bin .cons (.var 9) (.bin .cons (.var 10) .nil))))) (.bin .cons (.bin .cons (.var 1) (.bin .cons (.var 2) (.bin .cons (.var 3) (.bin .cons (.var 4) (.bin .cons (.var 5) .nil))))) .nil)) .nil))) (.int 0))) (.int 1000000))
            (.br (.bin .idx (.fn 4 (.bin .cons (.bin .idx (.fn 8 (.bin .cons (.var 0) (.bin .cons (.bin .cons (.bin .cons (.var 1) (.bin .cons (.var 2) (.bin .cons (.var 3) (.bin .cons (.var 4) (.bin .cons (.var 5) .nil))))) (.bin .cons (.bin .cons (.var 6) (.bin .cons (.var 7) (.bin .cons (.var 8) (.bin .cons (.var 9) (.bin .cons (.var 10) .nil))))) .nil)) .nil))) (.int 0)) (.bin .cons (.bin .idx (.fn 8 (.bin .cons (.var 0) (.bin .cons (.bin .cons (.bin .cons (.var 6) (.bin .cons (.var 7) (.bin .cons (.var 8) (.bin .cons (.var 9) (.bin .cons (.var 10) .nil))))) (.bin .cons (.bin .cons (.var 1) (.bin .cons (.var 2) (.bin .cons (.var 3) (.bin .cons (.var 4) (.bin .cons (.var 5) .nil))))) .nil)) .nil))) (.int 0)) .nil))) (.int 0))
             (.br (.bin .and (.bin .eq (.bin .idx (.bin .idx (.bin .idx (.fn 8 (.bin .cons (.var 0) (.bin .cons (.bin .cons (.bin .cons (.var 1) (.bin .cons (.var 2) (.bin .cons (.var 3) (.bin .cons (.var 4) (.bin .cons (.var 5) .nil))))) (.bin .cons (.bin .cons (.var 6) (.bin .cons (.var 7) (.bin .cons (.var 8) (.bin .cons (.var 9) (.bin .cons (.var 10) .nil))))) .nil)) .nil))) (.int 1)) (.int 0)) (.int 0)) (.bin .idx (.bin .idx (.bin .idx (.fn 8 (.bin .cons (.var 0) (.bin .cons (.bin .cons (.bin .cons (.var 6) (.bin .cons (.var 7) (.bin .cons (.var 8) (.bin .cons (.var 9) (.bin .cons (.var 10) .nil))))) (.bin .cons (.bin .cons (.var 1) (.bin .cons (.var 2) (.bin .cons (.var 3) (.bin .cons (.var 4) (.bin .cons (.var 5) .nil))))) .nil)) .nil))) (.int 1)) (.int 1)) (.int 0))) (.bin .eqb (.bin .idx (.bin .idx (.bin .idx (.fn 8 (.bin .cons (.var 0) (.bin .cons (.bin .cons (.bin .cons (.var 1) (.bin .cons (.var 2) (.bin .cons (.var 3) (.bin .cons (.var 4) (.bin .cons (.var 5) .nil))))) (.bin .cons (.bin .cons (.var 6) (.bin .cons (.var 7) (.bin .cons (.var 8) (.bin .cons (.var 9) (.bin .cons (.var 10) .nil))))) .nil)) .nil))) (.int 1)) (.int 0)) (.int 1)) (.bin .idx (.bin .idx (.bin .idx (.fn 8 (.bin .cons (.var 0) (.bin .cons (.bin .cons (.bin .cons (.var 6) (.bin .cons (.var 7) (.bin .cons (.var 8) (.bin .cons (.var 9) (.bin .cons (.var 10) .nil))))) (.bin .cons (.bin .cons (.var 1) (.bin .cons (.var 2) (.bin .cons (.var 3) (.bin .cons (.var 4) (.bin .cons (.var 5) .nil))))) .nil)) .nil))) (.int 1)) (.int 1)) (.int 1))))
              (.leaf [(.bin .and (.bin .eq (.bin .idx (.bin .idx (.bin .idx (.fn 8 (.bin .cons (.var 0) (.bin .cons (.bin .cons (.bin .cons (.var 1) (.bin .cons (.var 2) (.bin .cons (.var 3) (.bin .cons (.var 4) (.bin .cons (.var 5) .nil))))) (.bin .cons (.bin .cons (.var 6) (.bin .cons (.var 7) (.bin .cons (.var 8) (.bin .cons (.var 9) (.bin .cons (.var 10) .nil))))) .nil)) .nil))) (.int 1)) (.int 1)) (.int 0)) (.bin .idx (.bin .idx (.bin .idx (.fn 8 (.bin .cons (.var 0) (.bin .cons (.bin .cons (.bin .cons (.var 6) (.bin .cons (.var 7) (.bin .cons (.var 8) (.bin .cons (.var 9) (.bin .cons (.var 10) .nil))))) (.bin .cons (.bin .cons (.var 1) (.bin .cons (.var 2) (.bin .cons (.var 3) (.bin .cons (.var 4) (.bin .cons (.var 5) .nil))))) .nil)) .nil))) (.int 1)) (.int 0)) (.int 0))) (.bin .eqb (.bin .idx (.bin .idx (.bin .idx (.fn 8 (.bin .cons (.var 0) (.bin .cons (.bin .cons (.bin .cons (.var 1) (.bin .cons (.var 2) (.bin .cons (.var 3) (.bin .cons (.var 4) (.bin .cons (.var 5) .nil))))) (.bin .cons (.bin .cons (.var 6) (.bin .cons (.var 7) (.bin .cons (.var 8) (.bin .cons (.var 9) (.bin .cons (.var 10) .nil))))) .nil)) .nil))) (.int 1)) (.int 1)) (.int 1)) (.bin .idx (.bin .idx (.bin .idx (.fn 8 (.bin .cons (.var 0) (.bin .cons (.bin .cons (.bin .cons (.var 6) (.bin .cons (.var 7) (.bin .cons (.var 8) (.bin .cons (.var 9) (.bin .cons (.var 10) .nil))))) (.bin .cons (.bin .cons (.var 1) (.bin .cons (.var 2) (.bin .cons (.var 3) (.bin .cons (.var 4) (.bin .cons (.var 5) .nil))))) .nil)) .nil))) (.int 1)) (.int 0)) (.int 1))))])
              (.leaf [(.bool false)]))
             (.leaf [(.bool false)]))))
          (.leaf [(.bool false)])))))))))
  (.br (.un .not (.bin .le (.un .len (.var 0)) (.int 100)))
   (.leaf [(.bin .idx (.fn 12 .nil) (.int 0))])
   (.br (.bin .eq (.var 2) (.var 7))
    (.br (.un .not (.bin .eq (.var 1) (.int 4)))
     (.leaf [(.bin .idx (.fn 12 .nil) (.int 0))])
     (.asrt (.bin .le (.un .len (.bin .cons (.bin .cons (.var 1) (.bin .cons (.var 2) (.bin .cons (.var 3) (.bin .cons (.var 4) (.bin .cons (.var 5) .nil))))) (.bin .cons (.bin .cons (.var 6) (.bin .cons (.var 7) (.bin .cons (.var 8) (.bin .cons (.var 9) (.bin .cons (.var 10) .nil))))) .nil))) (.int 1000000))
      (.asrt (.bin .le (.un .len (.bin .cons (.bin .cons (.var 6) (.bin .cons (.var 7) (.bin .cons (.var 8) (.bin .cons (.var 9) (.bin .cons (.var 10) .nil))))) (.bin .cons (.bin .cons (.var 1) (.bin .cons (.var 2) (.bin .cons (.var 3) (.bin .cons (.var 4) (.bin .cons (.var 5) .nil))))) .nil))) (.int 1000000))
       (.br (.un .not (.bin .eq (.bin .idx (.fn 8 (.bin .cons (.var 0) (.bin .cons (.bin .cons (.bin .cons (.var 1) (.bin .cons (.var 2) (.bin .cons (.var 3) (.bin .cons (.var 4) (.bin .cons (.var 5) .nil))))) (.bin .cons (.bin .cons (.var 6) (.bin .cons (.var 7) (.bin .cons (.var 8) (.bin .cons (.var 9) (.bin .cons (.var 10) .nil))))) .nil)) .nil))) (.int 2)) (.int 0)))
        (.br (.bin .idx (.fn 12 .nil) (.int 0))
         (.leaf [(.un .not (.bin .eq (.bin .idx (.fn 8 (.bin .cons (.var 0) (.bin .cons (.bin .cons (.bin .cons (.var 6) (.bin .cons (.var 7) (.bin .cons (.var 8) (.bin .cons (.var 9) (.bin .cons (.var 10) .nil))))) (.bin .cons (.bin .cons (.var 1) (.bin .cons (.var 2) (.bin .cons (.var 3) (.bin .cons (.var 4) (.bin .cons (.var 5) .nil))))) .nil)) .nil))) (.int 2)) (.int 0)))])
         (.leaf [(.bool false)]))
        (.br (.un .not (.bin .eq (.bin .idx (.fn 8 (.bin .cons (.var 0) (.bin .cons (.bin .cons (.bin .cons (.var 6) (.bin .cons (.var 7) (.bin .cons (.var 8) (.bin .cons (.var 9) (.bin .cons (.var 10) .nil))))) (.bin .cons (.bin .cons (.var 1) (.bin .cons (.var 2) (.bin .cons (.var 3) (.bin .cons (.var 4) (.bin .cons (.var 5) .nil))))) .nil)) .nil))) (.int 2)) (.int 0)))
         (.leaf [(.bool false)])
         (.br (.un .not (.bin .eq (.un .len (.bin .idx (.fn 8 (.bin .cons (.var 0) (.bin .cons (.bin .cons (.bin .cons (.var 1) (.bin .cons (.var 2) (.bin .cons (.var 3) (.bin .cons (.var 4) (.bin .cons (.var 5) .nil))))) (.bin .cons (.bin .cons (.var 6) (.bin .cons (.var 7) (.bin .cons (.var 8) (.bin .cons (.var 9) (.bin .cons (.var 10) .nil))))) .nil)) .nil))) (.int 1))) (.int 2)))
          (.leaf [(.bool false)])
          (.br (.un .not (.bin .eq (.un .len (.bin .idx (.fn 8 (.bin .cons (.var 0) (.bin .cons (.bin .cons (.bin .cons (.var 6) (.bin .cons (.var 7) (.bin .cons (.var 8) (.bin .cons (.var 9) (.bin .cons (.var 10) .nil))))) (.bin .cons (.bin .cons (.var 1) (.bin .cons (.var 2) (.bin .cons (.var 3) (.bin .cons (.var 4) (.bin .cons (.var 5) .nil))))) .nil)) .nil))) (.int 1))) (.int 2)))
           (.leaf [(.bool false)])
           (.br (.bin .idx (.fn 12 .nil) (.int 0))
            (.asrt (.bin .le (.un .len (.bin .idx (.fn 8 (.bin .cons (.var 0) (.bin .cons (.bin .cons (.bin .cons (.var 1) (.bin .cons (.var 2) (.bin .cons (.var 3) (.bin .cons (.var 4) (.bin .cons (.var 5) .nil))))) (.bin .cons (.bin .cons (.var 6) (.bin .cons (.var 7) (.bin .cons (.var 8) (.bin .cons (.var 9) (.bin .cons (.var 10) .nil))))) .nil)) .nil))) (.int 0))) (.int 1000000))
             (.asrt (.bin .le (.un .len (.bin .idx (.fn 8 (.bin .cons (.var 0) (.bin .cons (.bin .cons (.bin .cons (.var 6) (.bin .cons (.var 7) (.bin .cons (.var 8) (.bin .cons (.var 9) (.bin .cons (.var 10) .nil))))) (.bin .cons (.bin .cons (.var 1) (.bin .cons (.var 2) (.bin .cons (.var 3) (.bin .cons (.var 4) (.bin .cons (.var 5) .nil))))) .nil)) .nil))) (.int 0))) (.int 1000000))
              (.br (.bin .idx (.fn 4 (.bin .cons (.bin .idx (.fn 8 (.bin .cons (.var 0) (.bin .cons (.bin .cons (.bin .cons (.var 1) (.bin .cons (.var 2) (.bin .cons (.var 3) (.bin .cons (.var 4) (.bin .cons (.var 5) .nil))))) (.bin .cons (.bin .cons (.var 6) (.bin .cons (.var 7) (.bin .cons (.var 8) (.bin .cons (.var 9) (.bin .cons (.var 10) .nil))))) .nil)) .nil))) (.int 0)) (.bin .cons (.bin .idx (.fn 8 (.bin .cons (.var 0) (.bin .cons (.bin .cons (.bin .cons (.var 6) (.bin .cons (.var 7) (.bin .cons (.var 8) (.bin .cons (.var 9) (.bin .cons (.var 10) .nil))))) (.bin .cons (.bin .cons (.var 1) (.bin .cons (.var 2) (.bin .cons (.var 3) (.bin .cons (.var 4) (.bin .cons (.var 5) .nil))))) .nil)) .nil))) (.int 0)) .nil))) (.int 0))
               (.leaf [(.bool true)])
               (.leaf [(.bool false)]))))
            (.leaf [(.bool false)])))))))))
    (.asrt (.bin .le (.un .len (.bin .cons (.bin .cons (.var 1) (.bin .cons (.var 2) (.bin .cons (.var 3) (.bin .cons (.var 4) (.bin .cons (.var 5) .nil))))) (.bin .cons (.bin .cons (.var 6) (.bin .cons (.var 7) (.bin .cons (.var 8) (.bin .cons (.var 9) (.bin .cons (.var 10) .nil))))) .nil))) (.int 1000000))
     (.asrt (.bin .le (.un .len (.bin .cons (.bin .cons (.var 6) (.bin .cons (.var 7) (.bin .cons (.var 8) (.bin .cons (.var 9) (.bin .cons (.var 10) .nil))))) (.bin .cons (.bin .cons (.var 1) (.bin .cons (.var 2) (.bin .cons (.var 3) (.bin .cons (.var 4) (.bin .cons (.var 5) .nil))))) .nil))) (.int 1000000))
      (.br (.un .not (.bin .eq (.bin .idx (.fn 8 (.bin .cons (.var 0) (.bin .cons (.bin .cons (.bin .cons (.var 1) (.bin .cons (.var 2) (.bin .cons (.var 3) (.bin .cons (.var 4) (.bin .cons (.var 5) .nil))))) (.bin .cons (.bin .cons (.var 6) (.bin .cons (.var 7) (.bin .cons (.var 8) (.bin .cons (.var 9) (.bin .cons (.var 10) .nil))))) .nil)) .nil))) (.int 2)) (.int 0)))
       (.br (.bin .idx (.fn 12 .nil) (.int 0))
        (.leaf [(.un .not (.bin .eq (.bin .idx (.fn 8 (.bin .cons (.var 0) (.bin .cons (.bin .cons (.bin .cons (.var 6) (.bin .cons (.var 7) (.bin .cons (.var 8) (.bin .cons (.var 9) (.bin .cons (.var 10) .nil))))) (.bin .cons (.bin .cons (.var 1) (.bin .cons (.var 2) (.bin .cons (.var 3) (.bin .cons (.var 4) (.bin .cons (.var 5) .nil))))) .nil)) .nil))) (.int 2)) (.int 0)))])
        (.leaf [(.bool false)]))
       (.br (.un .not (.bin .eq (.bin .idx (.fn 8 (.bin .cons (.var 0) (.bin .cons (.bin .cons (.bin .cons (.var 6) (.bin .cons (.var 7) (.bin .cons (.var 8) (.bin .cons (.var 9) (.bin .cons (.var 10) .nil))))) (.bin .cons (.bin .cons (.var 1) (.bin .cons (.var 2) (.bin .cons (.var 3) (.bin .cons (.var 4) (.bin .cons (.var 5) .nil))))) .nil)) .nil))) (.int 2)) (.int 0)))
        (.leaf [(.bool false)])
        (.br (.un .not (.bin .eq (.un .len (.bin .idx (.fn 8 (.bin .cons (.var 0) (.bin .cons (.bin .cons (.bin .cons (.var 1) (.bin .cons (.var 2) (.bin .cons (.var 3) (.bin .cons (.var 4) (.bin .cons (.var 5) .nil))))) (.bin .cons (.bin .cons (.var 6) (.bin .cons (.var 7) (.bin .cons (.var 8) (.bin .cons (.var 9) (.bin .cons (.var 10) .nil))))) .nil)) .nil))) (.int 1))) (.int 2)))
         (.leaf [(.bool false)])
         (.br (.un .not (.bin .eq (.un .len (.bin .idx (.fn 8 (.bin .cons (.var 0) (.bin .cons (.bin .cons (.bin .cons (.var 6) (.bin .cons (.var 7) (.bin .cons (.var 8) (.bin .cons (.var 9) (.bin .cons (.var 10) .nil))))) (.bin .cons (.bin .cons (.var 1) (.bin .cons (.var 2) (.bin .cons (.var 3) (.bin .cons (.var 4) (.bin .cons (.var 5) .nil))))) .nil)) .nil))) (.int 1))) (.int 2)))
          (.leaf [(.bool false)])
          (.br (.bin .idx (.fn 12 .nil) (.int 0))
           (.asrt (.bin .le (.un .len (.bin .idx (.fn 8 (.bin .cons (.var 0) (.bin .cons (.bin .cons (.bin .cons (.var 1) (.bin .cons (.var 2) (.bin .cons (.var 3) (.bin .cons (.var 4) (.bin .cons (.var 5) .nil))))) (.bin .cons (.bin .cons (.var 6) (.bin .cons (.var 7) (.bin .cons (.var 8) (.bin .cons (.var 9) (.bin .cons (.var 10) .nil))))) .nil)) .nil))) (.int 0))) (.int 1000000))
            (.asrt (.bin .le (.un .len (.bin .idx (.fn 8 (.bin .cons (.var 0) (.bin .cons (.bin .cons (.bin .cons (.var 6) (.bin .cons (.var 7) (.bin .cons (.var 8) (.bin .cons (.var 9) (.bin .cons (.var 10) .nil))))) (.bin .cons (.bin .cons (.var 1) (.bin .cons (.var 2) (.bin .cons (.var 3) (.bin .cons (.var 4) (.bin .cons (.var 5) .nil))))) .nil)) .nil))) (.int 0))) (.int 1000000))
             (.br (.bin .idx (.fn 4 (.bin .cons (.bin .idx (.fn 8 (.bin .cons (.var 0) (.bin .cons (.bin .cons (.bin .cons (.var 1) (.bin .cons (.var 2) (.bin .cons (.var 3) (.bin .cons (.var 4) (.bin .cons (.var 5) .nil))))) (.bin .cons (.bin .cons (.var 6) (.bin .cons (.var 7) (.bin .cons (.var 8) (.bin .cons (.var 9) (.bin .cons (.var 10) .nil))))) .nil)) .nil))) (.int 0)) (.bin .cons (.bin .idx (.fn 8 (.bin .cons (.var 0) (.bin .cons (.bin .cons (.bin .cons (.var 6) (.bin .cons (.var 7) (.bin .cons (.var 8) (.bin .cons (.var 9) (.bin .cons (.var 10) .nil))))) (.bin .cons (.bin .cons (.var 1) (.bin .cons (.var 2) (.bin .cons (.var 3) (.bin .cons (.var 4) (.bin .cons (.var 5) .nil))))) .nil)) .nil))) (.int 0)) .nil))) (.int 0))
              (.br (.bin .and (.bin .eq (.bin .idx (.bin .idx (.bin .idx (.fn 8 (.bin .cons (.var 0) (.bin .cons (.bin .cons (.bin .cons (.var 1) (.bin .cons (.var 2) (.bin .cons (.var 3) (.bin .cons (.var 4) (.bin .cons (.var 5) .nil))))) (.bin .cons (.bin .cons (.var 6) (.bin .cons (.var 7) (.bin .cons (.var 8) (.bin .cons (.var 9) (.bin .cons (.var 10) .nil))))) .nil)) .nil))) (.int 1)) (.int 0)) (.int 0)) (.bin .idx (.bin .idx (.bin .idx (.fn 8 (.bin .cons (.var 0) (.bin .cons (.bin .cons (.bin .cons (.var 6) (.bin .cons (.var 7) (.bin .cons (.var 8) (.bin .cons (.var 9) (.bin .cons (.var 10) .nil))))) (.bin .cons (.bin .cons (.var 1) (.bin .cons (.var 2) (.bin .cons (.var 3) (.bin .cons (.var 4) (.bin .cons (.var 5) .nil))))) .nil)) .nil))) (.int 1)) (.int 1)) (.int 0))) (.bin .eqb (.bin .idx (.bin .idx (.bin .idx (.fn 8 (.bin .cons (.var 0) (.bin .cons (.bin .cons (.bin .cons (.var 1) (.bin .cons (.var 2) (.bin .cons (.var 3) (.bin .cons (.var 4) (.bin .cons (.var 5) .nil))))) (.bin .cons (.bin .cons (.var 6) (.bin .cons (.var 7) (.bin .cons (.var 8) (.bin .cons (.var 9) (.bin .cons (.var 10) .nil))))) .nil)) .nil))) (.int 1)) (.int 0)) (.int 1)) (.bin .idx (.bin .idx (.bin .idx (.fn 8 (.bin .cons (.var 0) (.bin .cons (.bin .cons (.bin .cons (.var 6) (.bin .cons (.var 7) (.bin .cons (.var 8) (.bin .cons (.var 9) (.bin .cons (.var 10) .nil))))) (.bin .cons (.bin .cons (.var 1) (.bin .cons (.var 2) (.bin .cons (.var 3) (.bin .cons (.var 4) (.bin .cons (.var 5) .nil))))) .nil)) .nil))) (.int 1)) (.int 1)) (.int 1))))
               (.leaf [(.bin .and (.bin .eq (.bin .idx (.bin .idx (.bin .idx (.fn 8 (.bin .cons (.var 0) (.bin .cons (.bin .cons (.bin .cons (.var 1) (.bin .cons (.var 2) (.bin .cons (.var 3) (.bin .cons (.var 4) (.bin .cons (.var 5) .nil))))) (.bin .cons (.bin .cons (.var 6) (.bin .cons (.var 7) (.bin .cons (.var 8) (.bin .cons (.var 9) (.bin .cons (.var 10) .nil))))) .nil)) .nil))) (.int 1)) (.int 1)) (.int 0)) (.bin .idx (.bin .idx (.bin .idx (.fn 8 (.bin .cons (.var 0) (.bin .cons (.bin .cons (.bin .cons (.var 6) (.bin .cons (.var 7) (.bin .cons (.var 8) (.bin .cons (.var 9) (.bin .cons (.var 10) .nil))))) (.bin .cons (.bin .cons (.var 1) (.bin .cons (.var 2) (.bin .cons (.var 3) (.bin .cons (.var 4) (.bin .cons (.var 5) .nil))))) .nil)) .nil))) (.int 1)) (.int 0)) (.int 0))) (.bin .eqb (.bin .idx (.bin .idx (.bin .idx (.fn 8 (.bin .cons (.var 0) (.bin .cons (.bin .cons (.bin .cons (.var 1) (.bin .cons (.var 2) (.bin .cons (.var 3) (.bin .cons (.var 4) (.bin .cons (.var 5) .nil))))) (.bin .cons (.bin .cons (.var 6) (.bin .cons (.var 7) (.bin .cons (.var 8) (.bin .cons (.var 9) (.bin .cons (.var 10) .nil))))) .nil)) .nil))) (.int 1)) (.int 1)) (.int 1)) (.bin .idx (.bin .idx (.bin .idx (.fn 8 (.bin .cons (.var 0) (.bin .cons (.bin .cons (.bin .cons (.var 6) (.bin .cons (.var 7) (.bin .cons (.var 8) (.bin .cons (.var 9) (.bin .cons (.var 10) .nil))))) (.bin .cons (.bin .cons (.var 1) (.bin .cons (.var 2) (.bin .cons (.var 3) (.bin .cons (.var 4) (.bin .cons (.var 5) .nil))))) .nil)) .nil))) (.int 1)) (.int 0)) (.int 1))))])
               (.leaf [(.bool false)]))
              (.leaf [(.bool false)]))))
           (.leaf [(.bool false)])))))))))))
 (.br (.un .not (.bin .le (.un .len (.var 0)) (.int 100)))
  (.leaf [(.bin .idx (.fn 12 .nil) (.int 0))])
  (.br (.bin .eq (.var 2) (.var 7))
   (.leaf [(.bin .idx (.fn 12 .nil) (.int 0))])
   (.asrt (.bin .le (.un .len (.bin .cons (.bin .cons (.var 1) (.bin .cons (.var 2) (.bin .cons (.var 3) (.bin .cons (.var 4) (.bin .cons (.var 5) .nil))))) (.bin .cons (.bin .cons (.var 6) (.bin .cons (.var 7) (.bin .cons (.var 8) (.bin .cons (.var 9) (.bin .cons (.var 10) .nil))))) .nil))) (.int 1000000))
    (.asrt (.bin .le (.un .len (.bin .cons (.bin .cons (.var 6) (.bin .cons (.var 7) (.bin .cons (.var 8) (.bin .cons (.var 9) (.bin .cons (.var 10) .nil))))) (.bin .cons (.bin .cons (.var 1) (.bin .cons (.var 2) (.bin .cons (.var 3) (.bin .cons (.var 4) (.bin .cons (.var 5) .nil))))) .nil))) (.int 1000000))
     (.br (.un .not (.bin .eq (.bin .idx (.fn 8 (.bin .cons (.var 0) (.bin .cons (.bin .cons (.bin .cons (.var 1) (.bin .cons (.var 2) (.bin .cons (.var 3) (.bin .cons (.var 4) (.bin .cons (.var 5) .nil))))) (.bin .cons (.bin .cons (.var 6) (.bin .cons (.var 7) (.bin .cons (.var 8) (.bin .cons (.var 9) (.bin .cons (.var 10) .nil))))) .nil)) .nil))) (.int 2)) (.int 0)))
      (.br (.bin .idx (.fn 12 .nil) (.int 0))
       (.leaf [(.un .not (.bin .eq (.bin .idx (.fn 8 (.bin .cons (.var 0) (.bin .cons (.bin .cons (.bin .cons (.var 6) (.bin .cons (.var 7) (.bin .cons (.var 8) (.bin .cons (.var 9) (.bin .cons (.var 10) .nil))))) (.bin .cons (.bin .cons (.var 1) (.bin .cons (.var 2) (.bin .cons (.var 3) (.bin .cons (.var 4) (.bin .cons (.var 5) .nil))))) .nil)) .nil))) (.int 2)) (.int 0)))])
       (.leaf [(.bool false)]))
      (.br (.un .not (.bin .eq (.bin .idx (.fn 8 (.bin .cons (.var 0) (.bin .cons (.bin .cons (.bin .cons (.var 6) (.bin .cons (.var 7) (.bin .cons (.var 8) (.bin .cons (.var 9) (.bin .cons (.var 10) .nil))))) (.bin .cons (.bin .cons (.var 1) (.bin .cons (.var 2) (.bin .cons (.var 3) (.bin .cons (.var 4) (.bin .cons (.var 5) .nil))))) .nil)) .nil))) (.int 2)) (.int 0)))
       (.leaf [(.bool false)])
       (.br (.un .not (.bin .eq (.un .len (.bin .idx (.fn 8 (.bin .cons (.var 0) (.bin .cons (.bin .cons (.bin .cons (.var 1) (.bin .cons (.var 2) (.bin .cons (.var 3) (.bin .cons (.var 4) (.bin .cons (.var 5) .nil))))) (.bin .cons (.bin .cons (.var 6) (.bin .cons (.var 7) (.bin .cons (.var 8) (.bin .cons (.var 9) (.bin .cons (.var 10) .nil))))) .nil)) .nil))) (.int 1))) (.int 2)))
        (.leaf [(.bool false)])
        (.br (.un .not (.bin .eq (.un .len (.bin .idx (.fn 8 (.bin .cons (.var 0) (.bin .cons (.bin .cons (.bin .cons (.var 6) (.bin .cons (.var 7) (.bin .cons (.var 8) (.bin .cons (.var 9) (.bin .cons (.var 10) .nil))))) (.bin .cons (.bin .cons (.var 1) (.bin .cons (.var 2) (.bin .cons (.var 3) (.bin .cons (.var 4) (.bin .cons (.var 5) .nil))))) .nil)) .nil))) (.int 1))) (.int 2)))
         (.leaf [(.bool false)])
         (.br (.bin .idx (.fn 12 .nil) (.int 0))
          (.asrt (.bin .le (.un .len (.bin .idx (.fn 8 (.bin .cons (.var 0) (.bin .cons (.bin .cons (.bin .cons (.var 1) (.bin .cons (.var 2) (.bin .cons (.var 3) (.bin .cons (.var 4) (.bin .cons (.var 5) .nil))))) (.bin .cons (.bin .cons (.var 6) (.bin .cons (.var 7) (.bin .cons (.var 8) (.bin .cons (.var 9) (.bin .cons (.var 10) .nil))))) .nil)) .nil))) (.int 0))) (.int 1000000))
           (.asrt (.bin .le (.un .len (.bin .idx (.fn 8 (.bin .cons (.var 0) (.bin .cons (.bin .cons (.bin .cons (.var 6) (.bin .cons (.var 7) (.bin .cons (.var 8) (.bin .cons (.var 9) (.bin .cons (.var 10) .nil))))) (.bin .cons (.bin .cons (.var 1) (.bin .cons (.var 2) (.bin .cons (.var 3) (.bin .cons (.var 4) (.bin .cons (.var 5) .nil))))) .nil)) .nil))) (.int 0))) (.int 1000000))
            (.br (.bin .idx (.fn 4 (.bin .cons (.bin .idx (.fn 8 (.bin .cons (.var 0) (.bin .cons (.bin .cons (.bin .cons (.var 1) (.bin .cons (.var 2) (.bin .cons (.var 3) (.bin .cons (.var 4) (.bin .cons (.var 5) .nil))))) (.bin .cons (.bin .cons (.var 6) (.bin .cons (.var 7) (.bin .cons (.var 8) (.bin .cons (.var 9) (.bin .cons (.var 10) .nil))))) .nil)) .nil))) (.int 0)) (.bin .cons (.bin .idx (.fn 8 (.bin .cons (.var 0) (.bin .cons (.bin .cons (.bin .cons (.var 6) (.bin .cons (.var 7) (.bin .cons (.var 8) (.bin .cons (.var 9) (.bin .cons (.var 10) .nil))))) (.bin .cons (.bin .cons (.var 1) (.bin .cons (.var 2) (.bin .cons (.var 3) (.bin .cons (.var 4) (.bin .cons (.var 5) .nil))))) .nil)) .nil))) (.int 0)) .nil))) (.int 0))
             (.br (.bin .and (.bin .eq (.bin .idx (.bin .idx (.bin .idx (.fn 8 (.bin .cons (.var 0) (.bin .cons (.bin .cons (.bin .cons (.var 1) (.bin .cons (.var 2) (.bin .cons (.var 3) (.bin .cons (.var 4) (.bin .cons (.var 5) .nil))))) (.bin .cons (.bin .cons (.var 6) (.bin .cons (.var 7) (.bin .cons (.var 8) (.bin .cons (.var 9) (.bin .cons (.var 10) .nil))))) .nil)) .nil))) (.int 1)) (.int 0)) (.int 0)) (.bin .idx (.bin .idx (.bin .idx (.fn 8 (.bin .cons (.var 0) (.bin .cons (.bin .cons (.bin .cons (.var 6) (.bin .cons (.var 7) (.bin .cons (.var 8) (.bin .cons (.var 9) (.bin .cons (.var 10) .nil))))) (.bin .cons (.bin .cons (.var 1) (.bin .cons (.var 2) (.bin .cons (.var 3) (.bin .cons (.var 4) (.bin .cons (.var 5) .nil))))) .nil)) .nil))) (.int 1)) (.int 1)) (.int 0))) (.bin .eqb (.bin .idx (.bin .idx (.bin .idx (.fn 8 (.bin .cons (.var 0) (.bin .cons (.bin .cons (.bin .cons (.var 1) (.bin .cons (.var 2) (.bin .cons (.var 3) (.bin .cons (.var 4) (.bin .cons (.var 5) .nil))))) (.bin .cons (.bin .cons (.var 6) (.bin .cons (.var 7) (.bin .cons (.var 8) (.bin .cons (.var 9) (.bin .cons (.var 10) .nil))))) .nil)) .nil))) (.int 1)) (.int 0)) (.int 1)) (.bin .idx (.bin .idx (.bin .idx (.fn 8 (.bin .cons (.var 0) (.bin .cons (.bin .cons (.bin .cons (.var 6) (.bin .cons (.var 7) (.bin .cons (.var 8) (.bin .cons (.var 9) (.bin .cons (.var 10) .nil))))) (.bin .cons (.bin .cons (.var 1) (.bin .cons (.var 2) (.bin .cons (.var 3) (.bin .cons (.var 4) (.bin .cons (.var 5) .nil))))) .nil)) .nil))) (.int 1)) (.int 1)) (.int 1))))
              (.leaf [(.bin .and (.bin .eq (.bin .idx (.bin .idx (.bin .idx (.fn 8 (.bin .cons (.var 0) (.bin .cons (.bin .cons (.bin .cons (.var 1) (.bin .cons (.var 2) (.bin .cons (.var 3) (.bin .cons (.var 4) (.bin .cons (.var 5) .nil))))) (.bin .cons (.bin .cons (.var 6) (.bin .cons (.var 7) (.bin .cons (.var 8) (.bin .cons (.var 9) (.bin .cons (.var 10) .nil))))) .nil)) .nil))) (.int 1)) (.int 1)) (.int 0)) (.bin .idx (.bin .idx (.bin .idx (.fn 8 (.bin .cons (.var 0) (.bin .cons (.bin .cons (.bin .cons (.var 6) (.bin .cons (.var 7) (.bin .cons (.var 8) (.bin .cons (.var 9) (.bin .cons (.var 10) .nil))))) (.bin .cons (.bin .cons (.var 1) (.bin .cons (.var 2) (.bin .cons (.var 3) (.bin .cons (.var 4) (.bin .cons (.var 5) .nil))))) .nil)) .nil))) (.int 1)) (.int 0)) (.int 0))) (.bin .eqb (.bin .idx (.bin .idx (.bin .idx (.fn 8 (.bin .cons (.var 0) (.bin .cons (.bin .cons (.bin .cons (.var 1) (.bin .cons (.var 2) (.bin .cons (.var 3) (.bin .cons (.var 4) (.bin .cons (.var 5) .nil))))) (.bin .cons (.bin .cons (.var 6) (.bin .cons (.var 7) (.bin .cons (.var 8) (.bin .cons (.var 9) (.bin .cons (.var 10) .nil))))) .nil)) .nil))) (.int 1)) (.int 1)) (.int 1)) (.bin .idx (.bin .idx (.bin .idx (.fn 8 (.bin .cons (.var 0) (.bin .cons (.bin .cons (.bin .cons (.var 6) (.bin .cons (.var 7) (.bin .cons (.var 8) (.bin .cons (.var 9) (.bin .cons (.var 10) .nil))))) (.bin .cons (.bin .cons (.var 1) (.bin .cons (.var 2) (.bin .cons (.var 3) (.bin .cons (.var 4) (.bin .cons (.var 5) .nil))))) .nil)) .nil))) (.int 1)) (.int 0)) (.int 1))))])
              (.leaf [(.bool false)]))
             (.leaf [(.bool false)]))))
          (.leaf [(.bool false)])))))))))))

def memCommutesSm : List (Nat × Smy) := [(31, ⟨12, [], [.one (.pl .bool)], fun _ => []⟩), (38, ⟨8, [.agg [.rows false [.int .i64]], .one (.rows false [.int .i64, .int .i64, .int .i64, .int .i64, .str])], [.agg [.rows false [.int .i64]], .one (.rows true [.int .i64, .bool]), .one (.pl (.int .i64))], lenC [(0, 1000000), (1, 1000000)]⟩), (37, ⟨4, [.agg [.rows false [.int .i64]], .agg [.rows false [.int .i64]]], [.one (.pl .bool)], lenC [(0, 1000000), (1, 1000000)]⟩)]
def memCommutesLa : List (LK × LA) := []
def memCommutesPhi : Nat → DV → DV := fun n d => match n with
  | 12 => .list (lSane02F d.l)
  | 8 => .list (memAllF d.l)
  | 4 => .list (rSameF d.l)
  | _ => d
theorem memCommutesS : SmyOk Try.prog memCommutesPhi memCommutesSm := (smy_cons (fun _ => True) lSane02F lSane02_pure (fun _ _ _ _ => trivial) (fun _ => rfl) (smy_cons (lenP [(0, 1000000), (1, 1000000)]) memAllF memAll_pure (len_hp [(0, 1000000), (1, 1000000)]) (fun _ => rfl) (smy_cons (lenP [(0, 1000000), (1, 1000000)]) rSameF rSame_pure (len_hp [(0, 1000000), (1, 1000000)]) (fun _ => rfl) smy_nil)))
theorem memCommutesT : treeOk ⟨Try.prog, memCommutesSm, memCommutesLa⟩ 4000 9 [.agg [.rows false [.int .i64]], .agg [.pl (.int .i64), .pl (.int .i64), .pl (.int .i64), .pl (.int .i64), .pl .str], .agg [.pl (.int .i64), .pl (.int .i64), .pl (.int .i64), .pl (.int .i64), .pl .str]] [.one (.pl .bool)] (rng 0 9223372036854775807 (.un .len (.var 0)) ++ (rng (-9223372036854775808) 9223372036854775807 (.var 1) ++ (rng (-9223372036854775808) 9223372036854775807 (.var 2) ++ (rng (-9223372036854775808) 9223372036854775807 (.var 3) ++ (rng (-9223372036854775808) 9223372036854775807 (.var 4) ++ (rng 0 9223372036854775807 (.un .slen (.var 5)) ++ (rng (-9223372036854775808) 9223372036854775807 (.var 6) ++ (rng (-9223372036854775808) 9223372036854775807 (.var 7) ++ (rng (-9223372036854775808) 9223372036854775807 (.var 8) ++ (rng (-9223372036854775808) 9223372036854775807 (.var 9) ++ (rng 0 9223372036854775807 (.un .slen (.var 10)) ++ ([])))))))))))) memCommutesTree = true := by decide +kernel
set_option maxHeartbeats 1000000 in
theorem memCommutes_pure : Pure Try.prog 9 [.agg [.rows false [.int .i64]], .agg [.pl (.int .i64), .pl (.int .i64), .pl (.int .i64), .pl (.int .i64), .pl .str], .agg [.pl (.int .i64), .pl (.int .i64), .pl (.int .i64), .pl (.int .i64), .pl .str]] [.one (.pl .bool)] (Wts (clsOf [.agg [.rows false [.int .i64]], .agg [.pl (.int .i64), .pl (.int .i64), .pl (.int .i64), .pl (.int .i64), .pl .str], .agg [.pl (.int .i64), .pl (.int .i64), .pl (.int .i64), .pl (.int .i64), .pl .str]])) memCommutesF := by
  refine pure_tree (X := ⟨Try.prog, memCommutesSm, memCommutesLa⟩) (Checked.mixed Try.checked) memCommutesS (by decide +kernel) (by decide +kernel) memCommutesT (by decide +kernel) ?_
  intro ds hl hp
  obtain ⟨d0, d1, d2, d3, d4, d5, d6, d7, d8, d9, d10, rfl⟩ := len11 hl
  obtain ⟨_, _, he, w0, hp⟩ := hp
  cases he
  have b0 : ((d0.l.map DV.i).length : Int) ≤ 9223372036854775807 := by rw [List.length_map]; exact wt_len w0
  have v0 : ∀ v ∈ d0.l.map DV.i, -9223372036854775808 ≤ v ∧ v ≤ 9223372036854775807 := wt_ints w0 rfl rfl
  clear w0
  obtain ⟨_, _, he, w1, hp⟩ := hp
  cases he
  have r1 : -9223372036854775808 ≤ d1.i ∧ d1.i ≤ 9223372036854775807 := wt_i w1 rfl rfl
  clear w1
  obtain ⟨_, _, he, w2, hp⟩ := hp
  cases he
  have r2 : -9223372036854775808 ≤ d2.i ∧ d2.i ≤ 9223372036854775807 := wt_i w2 rfl rfl
  clear w2
  obtain ⟨_, _, he, w3, hp⟩ := hp
  cases he
  have r3 : -9223372036854775808 ≤ d3.i ∧ d3.i ≤ 9223372036854775807 := wt_i w3 rfl rfl
  clear w3
  obtain ⟨_, _, he, w4, hp⟩ := hp
  cases he
  have r4 : -9223372036854775808 ≤ d4.i ∧ d4.i ≤ 9223372036854775807 := wt_i w4 rfl rfl
  clear w4
  obtain ⟨_, _, he, w5, hp⟩ := hp
  cases he
  have r5 : (d5.s.length : Int) ≤ 9223372036854775807 := wt_s w5
  clear w5
  obtain ⟨_, _, he, w6, hp⟩ := hp
  cases he
  have r6 : -9223372036854775808 ≤ d6.i ∧ d6.i ≤ 9223372036854775807 := wt_i w6 rfl rfl
  clear w6
  obtain ⟨_, _, he, w7, hp⟩ := hp
  cases he
  have r7 : -9223372036854775808 ≤ d7.i ∧ d7.i ≤ 9223372036854775807 := wt_i w7 rfl rfl
  clear w7
  obtain ⟨_, _, he, w8, hp⟩ := hp
  cases he
  have r8 : -9223372036854775808 ≤ d8.i ∧ d8.i ≤ 9223372036854775807 := wt_i w8 rfl rfl
  clear w8
  obtain ⟨_, _, he, w9, hp⟩ := hp
  cases he
  have r9 : -9223372036854775808 ≤ d9.i ∧ d9.i ≤ 9223372036854775807 := wt_i w9 rfl rfl
  clear w9
  obtain ⟨_, _, he, w10, hp⟩ := hp
  cases he
  have r10 : (d10.s.length : Int) ≤ 9223372036854775807 := wt_s w10
  clear w10
  have hN : nrmL (clsOf [.agg [.rows false [.int .i64]], .agg [.pl (.int .i64), .pl (.int .i64), .pl (.int .i64), .pl (.int .i64), .pl .str], .agg [.pl (.int .i64), .pl (.int .i64), .pl (.int .i64), .pl (.int .i64), .pl .str]]) [d0, d1, d2, d3, d4, d5, d6, d7, d8, d9, d10] = [.list ((d0.l.map DV.i).map DV.int), .int d1.i, .int d2.i, .int d3.i, .int d4.i, .str d5.s, .int d6.i, .int d7.i, .int d8.i, .int d9.i, .str d10.s] := by
    simp only [clsOf, Sh.cls, List.append_nil, List.cons_append, List.nil_append, nrmL, Cl.nrm, CK.nrm, map_Li]
  have hF : memCommutesF [d0, d1, d2, d3, d4, d5, d6, d7, d8, d9, d10] = [.bool true] := rfl
  rw [hN, hF]
  clear hN hp hl hF
  generalize d0.l.map DV.i = x0 at b0 v0 ⊢
  generalize d1.i = x1 at r1 ⊢
  generalize d2.i = x2 at r2 ⊢
  generalize d3.i = x3 at r3 ⊢
  generalize d4.i = x4 at r4 ⊢
  generalize d5.s = x5 at r5 ⊢
  generalize d6.i = x6 at r6 ⊢
  generalize d7.i = x7 at r7 ⊢
  generalize d8.i = x8 at r8 ⊢
  generalize d9.i = x9 at r9 ⊢
  generalize d10.s = x10 at r10 ⊢
  refine ⟨(rng_ok (e := .un .len (.var 0)) (Int.natCast_nonneg _) (by show ((x0.map _).length : Int) ≤ _; rw [List.length_map]; exact b0) (rng_ok (e := .var 1) r1.1 r1.2 (rng_ok (e := .var 2) r2.1 r2.2 (rng_ok (e := .var 3) r3.1 r3.2 (rng_ok (e := .var 4) r4.1 r4.2 (rng_ok (e := .un .slen (.var 5)) (Int.natCast_nonneg _) r5 (rng_ok (e := .var 6) r6.1 r6.2 (rng_ok (e := .var 7) r7.1 r7.2 (rng_ok (e := .var 8) r8.1 r8.2 (rng_ok (e := .var 9) r9.1 r9.2 (rng_ok (e := .un .slen (.var 10)) (Int.natCast_nonneg _) r10 (facts_nil _)))))))))))), ?_⟩
  unfold memCommutesTree
  simp only [Sat, clsOf, Sh.cls, List.append_nil, List.cons_append, List.nil_append, nrmL, Cl.nrm, CK.nrm, List.map_cons, List.map_nil, List.length_cons, List.length_nil, List.cons.injEq, DV.bool.injEq, DV.int.injEq, DV.list.injEq, DV.str.injEq, and_true, true_and]
  simp only [q_le, q_eq, q_eqs, q_eqb, q_and, q_or, q_not, q_bool, iff_true, iff_false, Bool.not_true, Bool.not_false, Bool.false_eq_true, Bool.true_eq_false, eq_self, Bool.not_not]
  simp only [SE.den, evU, evB, evT, i_int, b_bool, s_str, l_list, envL, List.getElem?_cons_succ, List.getElem?_cons_zero, List.getElem?_nil, Option.getD_some, Option.getD_none, Int.toNat_natCast, Int.toNat_zero, Int.reduceToNat, List.length_map, get_Li, get_Lb, get_Ls, set_Li, inj_Li, inj_Lb, inj_Ls, rows_i, rows_b, rows_s, Int.zero_add, iff_true, iff_false, and_true, true_and, Bool.false_eq_true, eq_self, not_true_eq_false, not_false_eq_true, List.length_replicate, DV.int.injEq, DV.bool.injEq, DV.str.injEq, DV.list.injEq, List.cons.injEq, f_ib_0, rows_ib, inj_Lib, f_ib_1, rows_ib, inj_Lib, f_iiiis_0, rows_iiiis, inj_Liiiis, f_iiiis_1, rows_iiiis, inj_Liiiis, f_iiiis_2, rows_iiiis, inj_Liiiis, f_iiiis_3, rows_iiiis, inj_Liiiis, f_iiiis_4, rows_iiiis, inj_Liiiis, memCommutesPhi, lSane02F, lSane02E, memAllF, memAllE, rSameF, rSameE, gi, gb, gs, gLi, gLu, gLb, gLs, dece_i, dece_b, dece_s, gLib, deces_ib, gLiiiis, deces_iiiis, deciiiis, List.map_cons, List.map_nil, List.length_cons, List.length_nil]
  have key := commuteM x0 x1 x2 x3 x4 x5 x6 x7 x8 x9 x10
  have hA := allM_len1 x0 [(x1, x2, x3, x4, x5), (x6, x7, x8, x9, x10)] x0 [] rfl
  have hB := allM_len1 x0 [(x6, x7, x8, x9, x10), (x1, x2, x3, x4, x5)] x0 [] rfl
  generalize allM x0 [(x1, x2, x3, x4, x5), (x6, x7, x8, x9, x10)] x0 [] = A at *
  generalize allM x0 [(x6, x7, x8, x9, x10), (x1, x2, x3, x4, x5)] x0 [] = B at *
  clear v0 r1 r2 r3 r4 r5 r6 r7 r8 r9 r10 b0
  by_cases hc : x2 ≠ x7 ∨ x1 = x6 ∧ (x1 = 1 ∨ x1 = 4)
  · obtain ⟨k1, k2⟩ := key hc
    by_cases hz : A.2.2 = 0
    · obtain ⟨k3, u, v, u', v', k4, k5, k6⟩ := k2 hz
      have hz' := k1.1 hz
      rw [k4, k5, k3, hz, hz']
      simp
      clear key k1 k2
      repeat' (first | apply And.intro | intro)
      all_goals first | omega | grind
    · have hz' : ¬ B.2.2 = 0 := fun h => hz (k1.2 h)
      simp [hz, hz']
  · repeat' (first | apply And.intro | intro)
    all_goals first | omega | grind
namespace row
open Go.ChangeShapes Go.WideShapes Go.ChangeAt Go.RowKit Go.Joins Go.Deep Go.Proofs.Ytbnbljeegghgiaa
theorem lifted (os : Os) (started : os.Started) (H : Type) (enc : TypeId × Value → H) :
    ReturnsInHanded {} Try.checked os 9 .any (Rows.memCommutesSpec.pre6 enc Try.prog Try.f9 Rows.memCommutesRow.domain false) (Rows.memCommutesSpec.post enc Try.prog Try.f9 false true false false) := by
  refine returnsInHanded_of_change (C := Try.checked) own started (by kernel_rfl) Try.func9
    (ChangeSpec.witness6 (enc := enc) (C := Try.checked) false ⟨#[], #[.agg #[.slice none 0 0], .agg #[.int .i64 0, .int .i64 0, .int .i64 0, .int .i64 0, .string ⟨#[]⟩], .agg #[.int .i64 0, .int .i64 0, .int .i64 0, .int .i64 0, .string ⟨#[]⟩]], []⟩ 8 (by kernel_rfl) (by kernel_rfl) (by kernel_rfl) (by kernel_rfl)) ?_
  intro W base args ds gs before hval0 hW hcnd _
  have hval : ∀ (j : Nat) t v, Try.f9.params[j]? = some t → args[j]? = some v → Value.okWide Try.prog W .any base t v := hval0
  have hW' := hW
  obtain ⟨p, q, hA0, hV, rfl, hfz, hnd⟩ := hW
  have hA : DataW.TrodAll enc Try.prog W 0 (fun _ => true) true Try.f9.params.toList args.toList ds p := hA0
  have hval2 : ∀ (j : Nat) t v, Try.f9.params.toList[j]? = some t → args.toList[j]? = some v → Value.okWide Try.prog W .any base t v := fun j t v a b => hval j t v (by simpa using a) (by simpa using b)
  have hcall := law_of memCommutes_pure (fun _ h => h) (by rw [Try.params9]; kernel_rfl) hA hval2
  rw [Try.params9] at hA
  obtain ⟨v0, vs0, d0, ds0, p0, q0, hargs, rfl, rfl, h0, r0⟩ := trodAll_cons hA
  obtain ⟨v1, vs1, d1, ds1, p1, q1, rfl, rfl, rfl, h1, r1⟩ := trodAll_cons r0
  obtain ⟨v2, vs2, d2, ds2, p2, q2, rfl, rfl, rfl, h2, r2⟩ := trodAll_cons r1
  obtain ⟨rfl, rfl, rfl⟩ := trodAll_nil r2
  obtain rfl : args = #[v0, v1, v2] := by cases args; simp_all
  obtain ⟨rfl, rfl⟩ := trodVars_none hV
  have lt0 : ∀ x ∈ p0, x.block < W.heap.size := by obtain ⟨m, hm⟩ := h0; exact DataW.trod_lt m _ _ _ hm
  have lt1 : ∀ x ∈ p1, x.block < W.heap.size := by obtain ⟨m, hm⟩ := h1; exact DataW.trod_lt m _ _ _ hm
  have lt2 : ∀ x ∈ p2, x.block < W.heap.size := by obtain ⟨m, hm⟩ := h2; exact DataW.trod_lt m _ _ _ hm
  clear hA0 hval0 hval2
  refine Calls.mono hcall fun e W' ⟨he, bel⟩ => ?_
  subst he
  exact ⟨_, rfl, _, _, _, [], _, [], hW', trodAll_mk1 (shut_bool Try.underlying4 _), (trodAll_cons_mk (Below.trod laidOut (by kernel_rfl) (of_decide_eq_true (by kernel_rfl)) h0 bel lt0) (trodAll_cons_mk (Below.trod laidOut (by kernel_rfl) (of_decide_eq_true (by kernel_rfl)) h1 bel lt1) (trodAll_cons_mk (Below.trod laidOut (by kernel_rfl) (of_decide_eq_true (by kernel_rfl)) h2 bel lt2) trodAll_mk0))), rfl, bel.frame _, fun h => by cases h⟩
theorem over : Rows.memCommutesRow.holds Try.pinned (OpenSpec.ofChange Rows.memCommutesSpec) :=
  OpenClaim.holds_of_wide 9 Try.f9 rfl rfl rfl rfl rfl rfl rfl ⟨rfl, rfl, rfl, rfl, rfl⟩ rfl rfl rfl rfl rfl (by kernel_rfl) Try.func9 (by kernel_rfl)
    (of_decide_eq_true (by kernel_rfl)) (by unfold Func.isWrapper; first | (rw [if_pos (by decide +kernel)]; kernel_rfl) | (rw [if_neg (by decide +kernel)]; exact ⟨rfl, rfl⟩))
    (fun os started H enc _ => lifted os started H enc)
end row
theorem memCommutes_proved : Rows.MemCommutesSaid := row.over
end Go.Proofs.Ytbnbljeegghgiaa
