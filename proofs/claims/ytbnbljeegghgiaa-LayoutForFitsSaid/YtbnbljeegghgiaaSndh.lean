/- What the executor says of stores is so. No program in sight. -/
import Derived.Test.YtbnbljeegghgiaaSndg
namespace Go.Proofs.Ytbnbljeegghgiaa
open Go.RowKit
set_option linter.unusedVariables false
set_option linter.unusedSimpArgs false

section
variable {P : Program} {ρ : Env} {G : Gh}

theorem one_ok {a : AV} {v : Value} (h : VR ρ G a v) (h1 : a.one = true) : v.oneCell' = true := by
  cases h <;> first | rfl | cases h1

theorem setCell_heap (w : World) (b o : Nat) (v : Value) : (w.setCell ⟨b, o, none⟩ v).heap.size = w.heap.size ∧ (∀ k, k ≠ b → (w.setCell ⟨b, o, none⟩ v).heap[k]? = w.heap[k]?) ∧ ∀ arr t f, w.heap[b]? = some (.cells arr t f) → (w.setCell ⟨b, o, none⟩ v).heap[b]? = some (.cells (arr.setIfInBounds o v) t f) := by
  refine ⟨by simp [World.setCell], fun k hk => ?_, fun arr t f h => ?_⟩
  · simp only [World.setCell, Array.getElem?_modify]
    rw [if_neg (by omega)]
  · simp [World.setCell, Array.getElem?_modify, h]
theorem setCells_heap (b : Nat) : ∀ (vs : List Value) (o : Nat) (w : World), (w.setCells b o vs).heap.size = w.heap.size ∧ (w.setCells b o vs).os = w.os ∧ (w.setCells b o vs).tape = w.tape ∧ (w.setCells b o vs).output = w.output ∧ (∀ k, k ≠ b → (w.setCells b o vs).heap[k]? = w.heap[k]?) ∧ ∀ arr t f, w.heap[b]? = some (.cells arr t f) → (w.setCells b o vs).heap[b]? = some (.cells (setManyV arr o vs) t f)
  | [], o, w => ⟨rfl, rfl, rfl, rfl, fun _ _ => rfl, fun _ _ _ h => h⟩
  | v :: r, o, w => by
    obtain ⟨h1, h2, h3, h4, h5, h6⟩ := setCells_heap b r (o + 1) (w.setCell ⟨b, o, none⟩ v)
    obtain ⟨k1, k2, k3⟩ := setCell_heap w b o v
    refine ⟨h1.trans k1, h2, h3, h4, fun k hk => (h5 k hk).trans (k2 k hk), fun arr t f h => ?_⟩
    exact h6 _ t f (k3 arr t f h)
/-- Cells that lie in a block of one's own are stored there. -/
theorem storeCells_ok {w : World} {b o : Nat} {arr : Array Value} {t : TypeId} (hb : w.heap[b]? = some (.cells arr t (0, 0))) (vs : List Value) (hle : o + vs.length ≤ arr.size) (h1 : ∀ v ∈ vs, v.oneCell' = true) : (storeCells ⟨b, o, none⟩ vs).run P w = .ok () (w.setCells b o vs) := by
  have := run_storeCells_cells (P := P) b o vs 0 w (fun j hj => by rw [cell_of_heap hb]; simp; omega) (fun j hj => by simp [World.frozen?, hb]) h1
  simpa using this
theorem storeAt_ok {t0 : TypeId} {n : Nat} (hs : sizeB P t0 = some n) {w : World} {b o : Nat} {arr : Array Value} {t : TypeId} (hb : w.heap[b]? = some (.cells arr t (0, 0))) (v : Value) (hn : v.cells.size = n) (hle : o + n ≤ arr.size) (h1 : ∀ u ∈ v.cells.toList, u.oneCell' = true) :
    (Instr.storeAt t0 (.pointer (some ⟨b, o, none⟩)) v).run P w = .ok () (w.setCells b o v.cells.toList) := by
  unfold Instr.storeAt Instr.sureAddr
  rw [Sem.run_bind, Sem.run_pure, Result.andThen_ok]
  unfold storeVar
  rw [Sem.run_bind, size_ok hs w, Result.andThen_ok]
  simp only [hn, ne_eq, not_true_eq_false, if_false, Sem.run_pure, Result.andThen_ok, Sem.run_bind]
  exact storeCells_ok hb _ (by simp [hn]; exact hle) h1
theorem all_one {cs : List AV} {vs : Array Value} (h : VRs ρ G cs vs) (h1 : cs.all AV.one = true) : ∀ u ∈ vs.toList, u.oneCell' = true := by
  intro u hu
  obtain ⟨i, hi⟩ := List.getElem?_of_mem hu
  rw [Array.getElem?_toList] at hi
  have hlt : i < cs.length := by rw [← h.1]; exact (Array.getElem?_eq_some_iff.1 hi).1
  exact one_ok (h.2 i _ u (List.getElem?_eq_getElem hlt) hi) (List.all_eq_true.1 h1 _ (List.getElem_mem hlt))

theorem setManyV_get (vs : List Value) : ∀ (arr : Array Value) (o i : Nat), o + vs.length ≤ arr.size → (setManyV arr o vs)[i]? = if o ≤ i ∧ i < o + vs.length then vs[i - o]? else arr[i]? := by
  induction vs with
  | nil => intro arr o i h; simp only [setManyV, List.length_nil]; rw [if_neg (by omega)]
  | cons v r ih =>
    intro arr o i h
    simp only [List.length_cons] at h ⊢
    rw [setManyV, ih _ _ _ (by rw [Array.size_setIfInBounds]; omega)]
    by_cases h1 : o + 1 ≤ i ∧ i < o + 1 + r.length
    · rw [if_pos h1, if_pos (by omega)]
      have : i - o = (i - (o + 1)) + 1 := by omega
      rw [this, List.getElem?_cons_succ]
    · rw [if_neg h1, Array.getElem?_setIfInBounds]
      by_cases h2 : o = i
      · subst h2
        rw [if_pos rfl, if_pos (by omega), if_pos (by omega)]
        simp
      · rw [if_neg h2, if_neg (by omega)]

theorem store_ok {M : Me} {w : World} {t : TypeId} {a v : AV} {b : Nat} {ob : Ob} {cs : List SE} {u x : Value} (hM : MR ρ G M w) (h : storeA P M.hp t a v = some (b, ob, cs)) (hcs : ∀ c ∈ cs, (c.den ρ).b = true) (ha : VR ρ G a u) (hv : VR ρ G v x) :
    ∃ w', (Instr.storeAt t u x).run P w = .ok () w' ∧ MR ρ G { M with hp := hset M.hp b ob } w' ∧ Stp ρ G M w G { M with hp := hset M.hp b ob } w' := by
  unfold storeA at h
  split at h
  · rename_i n hs
    split at h
    · cases h
    · rename_i vc hvc
      cases hb : (Nat.beq vc.length n && vc.all AV.one) with
      | false => rw [hb] at h; cases h
      | true =>
        rw [hb] at h
        simp only [cond_true] at h
        simp only [Bool.and_eq_true, beq_iff] at hb
        have hc := cells_ok hv hvc
        have hone := all_one hc hb.2
        have hsz : x.cells.size = n := by rw [hc.1, hb.1]
        split at h
        · rename_i b' o
          obtain ⟨g, hg, rfl⟩ := ha.ptr_inv
          split at h
          · rename_i ds hob
            cases hl : Nat.ble (o + n) ds.length with
            | false => rw [hl] at h; cases h
            | true =>
              rw [hl] at h
              simp only [cond_true] at h
              cases h
              have hl := Nat.le_of_ble_eq_true hl
              obtain ⟨g', hg', hoff, arr, ty, hheap, hsize, hlen, hvr⟩ := hM.ob _ _ hob
              rw [hg] at hg'; cases hg'
              rw [hoff, Nat.zero_add]
              obtain ⟨k1, k2, k3, k4, k5, k6⟩ := setCells_heap g.blk x.cells.toList o w
              have hp := setMany_p vc x.cells.toList ds arr o ⟨hlen, hvr⟩ (by simpa using hc)
              refine ⟨_, storeAt_ok hs hheap x hsz (by omega) hone, hM.turn (.cells (setMany ds o vc)) hob hg rfl rfl trivial k2 k3 k4 (Nat.le_of_eq k1.symm) (fun k _ hk => k5 k hk) ⟨hoff, _, ty, k6 arr ty _ hheap, by rw [setManyV_size]; exact hsize, hp.1, hp.2⟩⟩
          · cases h
        · rename_i b' s i
          obtain ⟨g, hg, rfl⟩ := ha.elt_inv
          split at h
          · rename_i ks e hob
            cases hl : (Nat.beq s ks.length && Nat.beq n s) with
            | false => rw [hl] at h; cases h
            | true =>
              rw [hl] at h
              simp only [cond_true] at h
              simp only [Bool.and_eq_true, beq_iff] at hl
              split at h
              · rename_i hks
                cases h
                obtain ⟨rfl, rfl⟩ := hl
                have h0 := hcs (mkB .le (.int 0) i) (by simp)
                have h1 := hcs (ltE i (mkU .len e)) (by simp)
                rw [le_b, int_i] at h0
                rw [lt_b, len_den] at h1
                have h0 := of_decide_eq_true h0
                have h1 := of_decide_eq_true h1
                obtain ⟨g', hg', hoff, hkn, hz, hreal⟩ := hM.ob _ _ hob
                rw [hg] at hg'; cases hg'
                have hpos : 0 < (e.den ρ).l.length := by omega
                have hsz0 : g.sz ≠ 0 := fun hz0 => by rw [hz hz0] at hpos; simp at hpos
                obtain ⟨arr, ty, hheap, hsize, hlen, hvr⟩ := hreal hsz0
                rw [hoff, Nat.zero_add, Nat.add_zero]
                obtain ⟨q, hq⟩ := Int.eq_ofNat_of_zero_le h0
                have hqn : (i.den ρ).i.toNat = q := by omega
                have hql : q < (e.den ρ).l.length := by omega
                rw [hqn]
                have hfit : q * ks.length + ks.length ≤ arr.size := by
                  have : (q + 1) * ks.length ≤ (e.den ρ).l.length * ks.length := Nat.mul_le_mul_right _ hql
                  rw [Nat.succ_mul] at this
                  omega
                obtain ⟨k1, k2, k3, k4, k5, k6⟩ := setCells_heap g.blk x.cells.toList (q * ks.length) w
                have hden : ((mkT .set e i (rowE vc)).den ρ).l = (e.den ρ).l.set q ((rowE vc).den ρ) := by rw [mkT_den]; simp [evT, DV.l, hqn]
                refine ⟨_, storeAt_ok hs hheap x hsz hfit hone, hM.turn (.rows ks (mkT .set e i (rowE vc))) hob hg rfl rfl hsz0 k2 k3 k4 (Nat.le_of_eq k1.symm) (fun k _ hk => k5 k hk) ⟨hoff, hkn, fun h => absurd h hsz0, fun _ => ⟨_, ty, k6 arr ty _ hheap, by rw [setManyV_size]; exact hsize, by rw [hden, List.length_set, setManyV_size]; exact hlen, fun i' j d k hi hj => ?_⟩⟩⟩
                have hjl : j < ks.length := (List.getElem?_eq_some_iff.1 hj).1
                rw [setManyV_get _ _ _ _ (by simp [hsz]; exact hfit)]
                rw [hden, List.getElem?_set] at hi
                have hxl : x.cells.toList.length = ks.length := by simp [hsz]
                by_cases hqi : q = i'
                · subst hqi
                  rw [if_pos rfl, if_pos hql] at hi
                  cases hi
                  rw [if_pos (by rw [hxl]; omega), Nat.add_sub_cancel_left, Array.getElem?_toList]
                  exact rowE_ok hks hc j k hj
                · rw [if_neg hqi] at hi
                  rw [if_neg]
                  · exact hvr i' j d k hi hj
                  · rw [hxl]
                    intro hh
                    rcases Nat.lt_or_gt_of_ne hqi with hlt | hgt
                    · have : (q + 1) * ks.length ≤ i' * ks.length := Nat.mul_le_mul_right _ hlt
                      rw [Nat.succ_mul] at this
                      omega
                    · have : (i' + 1) * ks.length ≤ q * ks.length := Nat.mul_le_mul_right _ hgt
                      rw [Nat.succ_mul] at this
                      omega
              · cases h
          · cases h
        · cases h
  · cases h
end
end Go.Proofs.Ytbnbljeegghgiaa
