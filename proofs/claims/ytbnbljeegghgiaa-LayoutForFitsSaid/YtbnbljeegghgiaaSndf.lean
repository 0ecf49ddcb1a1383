/- What the executor says of reads, new blocks and stores is so. No program in sight. -/
import Derived.Test.YtbnbljeegghgiaaSnde
namespace Go.Proofs.Ytbnbljeegghgiaa
open Go.RowKit
set_option linter.unusedVariables false
set_option linter.unusedSimpArgs false

section
variable {P : Program} {ρ : Env} {G : Gh}

theorem ck_ok (k : CK) (e : SE) (d : DV) (h : e.den ρ = d) : VR ρ G (k.av e) (k.val d) := by
  subst h
  cases k
  · exact .int _ _ _ rfl
  · exact .bool _ _ rfl
  · exact .str _ _ rfl

theorem cell_of_heap {w : World} {b : Nat} {arr : Array Value} {t : TypeId} {f : Nat × Nat} (h : w.heap[b]? = some (.cells arr t f)) (o : Nat) : w.cell? ⟨b, o, none⟩ = arr[o]? := by simp [World.cell?, h]

theorem loadAgg_ok {t : TypeId} {n : Nat} (hg : isAggB P t = some true) (hs : sizeB P t = some n) (w : World) (b o : Nat) (vs : List Value) (hl : vs.length = n) (hv : ∀ (j : Nat) (v : Value), vs[j]? = some v → w.cell? ⟨b, o + j, none⟩ = some v) :
    (Instr.loadAt t (.pointer (some ⟨b, o, none⟩))).run P w = .ok (.agg vs.toArray) w := by
  unfold Instr.loadAt Instr.sureAddr
  rw [Sem.run_bind, Sem.run_pure, Result.andThen_ok]
  unfold loadVar
  rw [Sem.run_bind, isAgg_ok hg w, Result.andThen_ok]
  simp only [if_true, Sem.run_bind, size_ok hs w, Result.andThen_ok]
  have hl' : (loadCells ⟨b, o, none⟩ n).run P w = .ok vs.toArray w := by
    rw [← hl]
    exact run_loadCells_list (P := P) w ⟨b, o, none⟩ vs (fun j v h => by rw [addr_add]; exact hv j v h)
  rw [hl']
  rfl
theorem load1_ok {t : TypeId} (hg : isAggB P t = some false) (w : World) (b o : Nat) (v : Value) (hv : w.cell? ⟨b, o, none⟩ = some v) :
    (Instr.loadAt t (.pointer (some ⟨b, o, none⟩))).run P w = .ok v w := by
  unfold Instr.loadAt Instr.sureAddr
  rw [Sem.run_bind, Sem.run_pure, Result.andThen_ok]
  unfold loadVar
  rw [Sem.run_bind, isAgg_ok hg w, Result.andThen_ok]
  simp [load, Sem.run, hv]

/-- The row's cells of an element, from place j on. -/
theorem rowCells_ok {ks : List CK} {r : SE} {d : DV} (hr : r.den ρ = d) (j n : Nat) (hjn : j + n ≤ ks.length) :
    VRs ρ G (((ks.drop j).take n).zipIdx.map fun p => p.1.av (cellE ks r (j + p.2))) (((ks.drop j).take n).zipIdx.map fun p => p.1.val (cellD ks d (j + p.2))).toArray := by
  refine VRs.of_list (by simp) fun i a v h1 h2 => ?_
  simp only [List.getElem?_map, Option.map_eq_some_iff] at h1 h2
  obtain ⟨p, hp, rfl⟩ := h1
  obtain ⟨q, hq, rfl⟩ := h2
  rw [hp] at hq; cases hq
  exact ck_ok _ _ _ (by rw [cellE_den, hr])

/-- Where the cells of a row's element lie. -/
def RowAt (ρ : Env) (w : World) (b o : Nat) (ks : List CK) (e : SE) : Prop := ∀ (i j : Nat) (d : DV) (k : CK), (e.den ρ).l[i]? = some d → ks[j]? = some k → w.cell? ⟨b, o + i * ks.length + j, none⟩ = some (k.val (cellD ks d j))
theorem row_at {M : Me} {w : World} {b : Nat} {ks : List CK} {e : SE} {g : GI} (hM : ∀ b o, hget M.hp b = some o → ∃ g, G b = some g ∧ OR ρ G w g o) (hg : G b = some g) (h : hget M.hp b = some (.rows ks e) ∨ hget M.hp b = some (.ro ks e)) : RowAt ρ w g.blk g.off ks e := by
  rcases h with h | h
  · obtain ⟨g', hg', h0, h1, h2, h3⟩ := hM b _ h
    rw [hg] at hg'; cases hg'
    intro i j d k hi hj
    by_cases hz : g.sz = 0
    · rw [h2 hz] at hi; simp at hi
    · obtain ⟨arr, t, hh, _, _, hx⟩ := h3 hz
      rw [cell_of_heap hh, h0, Nat.zero_add]
      exact hx i j d k hi hj
  · obtain ⟨g', hg', h1, h2⟩ := hM b _ h
    rw [hg] at hg'; cases hg'
    exact h2
theorem len_den (e : SE) : ((mkU .len e).den ρ).i = (e.den ρ).l.length := by rw [mkU_den]; rfl
/-- A load out of a row's element. -/
theorem readRow_ok {w : World} {t : TypeId} {g : Bool} {n b o i j : Nat} {ks : List CK} {e re : SE} {r : AV} {cs cs0 : List SE} (hg : isAggB P t = some g) (hs : sizeB P t = some n) (hrow : RowAt ρ w b o ks e) (hjn : j + n ≤ ks.length) (hlt : i < (e.den ρ).l.length) (hre : re.den ρ = (e.den ρ).l[i]?.getD (.int 0))
    (h : (bif g then some (AV.agg (((ks.drop j).take n).zipIdx.map fun p => p.1.av (cellE ks re (j + p.2))), cs0) else (ks[j]?).map fun k => (k.av (cellE ks re j), cs0)) = some (r, cs)) :
    ∃ z, (Instr.loadAt t (.pointer (some ⟨b, o + i * ks.length + j, none⟩))).run P w = .ok z w ∧ VR ρ G r z := by
  have hd : (e.den ρ).l[i]? = some ((e.den ρ).l[i]?.getD (.int 0)) := by rw [List.getElem?_eq_getElem hlt]; rfl
  cases g with
  | true =>
    simp only [cond_true] at h
    cases h
    have hv := rowCells_ok (ρ := ρ) (G := G) (ks := ks) hre j n hjn
    refine ⟨.agg (((ks.drop j).take n).zipIdx.map fun p => p.1.val (cellD ks ((e.den ρ).l[i]?.getD (.int 0)) (j + p.2))).toArray, loadAgg_ok hg hs w _ _ _ (by simp; omega) fun q v hq => ?_, .agg _ _ hv.1 hv.2⟩
    simp only [List.getElem?_map, Option.map_eq_some_iff] at hq
    obtain ⟨p, hp, rfl⟩ := hq
    rw [List.getElem?_zipIdx] at hp
    simp only [Option.map_eq_some_iff] at hp
    obtain ⟨k, hk, rfl⟩ := hp
    rw [List.getElem?_take] at hk
    split at hk
    · rw [List.getElem?_drop] at hk
      have := hrow i (j + q) _ k hd hk
      simp only [Nat.zero_add]
      rw [← this]
      congr 2
      omega
    · cases hk
  | false =>
    simp only [cond_false] at h
    cases hk : ks[j]? with
    | none => rw [hk] at h; cases h
    | some k =>
      rw [hk] at h
      cases h
      exact ⟨_, load1_ok hg w _ _ _ (hrow i j _ k hd hk), ck_ok _ _ _ (by rw [cellE_den, hre])⟩

theorem read_ok {M : Me} {w : World} {t : TypeId} {a r : AV} {cs : List SE} {u : Value} (hM : ∀ b o, hget M.hp b = some o → ∃ g, G b = some g ∧ OR ρ G w g o) (h : readA P M.hp t a = some (r, cs)) (hcs : ∀ c ∈ cs, (c.den ρ).b = true) (ha : VR ρ G a u) :
    ∃ z, (Instr.loadAt t u).run P w = .ok z w ∧ VR ρ G r z := by
  unfold readA at h
  split at h
  · rename_i g n hg hs
    have rowc : ∀ (b o : Nat) (gi : GI) (ks : List CK) (e : SE), G b = some gi → (hget M.hp b = some (.rows ks e) ∨ hget M.hp b = some (.ro ks e)) → (let s := ks.length; let i := o / s; let j := o % s; bif Nat.ble (j + n) s then
          let r := mkB .idx e (.int i)
          bif g then some (AV.agg (((ks.drop j).take n).zipIdx.map fun p => p.1.av (cellE ks r (j + p.2))), [ltE (.int i) (mkU .len e)])
          else (ks[j]?).map fun k => (k.av (cellE ks r j), [ltE (.int i) (mkU .len e)])
        else none) = some (r, cs) → ∃ z, (Instr.loadAt t (.pointer (some ⟨gi.blk, gi.off + o, none⟩))).run P w = .ok z w ∧ VR ρ G r z := by
      intro b o gi ks e hgi hrow h
      simp only at h
      cases hb : Nat.ble (o % ks.length + n) ks.length with
      | false => rw [hb] at h; cases h
      | true =>
        rw [hb] at h
        simp only [cond_true] at h
        have hc : (ltE (.int (o / ks.length : Nat)) (mkU .len e)) ∈ cs := by
          cases g <;> simp only [cond_true, cond_false] at h
          · cases hk : ks[o % ks.length]? with
            | none => rw [hk] at h; cases h
            | some k => rw [hk] at h; cases h; simp
          · cases h; simp
        have hlt := hcs _ hc
        rw [lt_b, int_i, len_den] at hlt
        have hlt : o / ks.length < (e.den ρ).l.length := by have := of_decide_eq_true hlt; omega
        have := readRow_ok (G := G) hg hs (row_at hM hgi hrow) (Nat.le_of_ble_eq_true hb) hlt (by rw [mkB_den]; rfl) h
        rwa [Nat.add_assoc, Nat.mul_comm, Nat.div_add_mod] at this
    split at h
    · -- a pointer at a known place
      rename_i b o
      obtain ⟨gi, hgi, rfl⟩ := ha.ptr_inv
      split at h
      · -- cells
        rename_i ds hob
        obtain ⟨gi', hgi', hor⟩ := hM b _ hob
        rw [hgi] at hgi'; cases hgi'
        obtain ⟨hoff, arr, ty, hheap, hsz, hlen, hvr⟩ := hor
        rw [hoff, Nat.zero_add]
        cases hb : Nat.ble (o + n) ds.length with
        | false => rw [hb] at h; cases h
        | true =>
          rw [hb] at h
          simp only [cond_true] at h
          have hle := Nat.le_of_ble_eq_true hb
          cases g with
          | true =>
            cases h
            refine ⟨.agg (arr.toList.drop o |>.take n).toArray, loadAgg_ok hg hs w _ _ _ (by simp; omega) fun j v hj => ?_, ?_⟩
            · rw [cell_of_heap hheap]
              rw [List.getElem?_take] at hj
              split at hj
              · rwa [List.getElem?_drop, Array.getElem?_toList] at hj
              · cases hj
            · refine .agg _ _ (by simp; omega) fun i a v h1 h2 => ?_
              rw [List.getElem?_toArray] at h2
              rw [List.getElem?_take] at h1 h2
              split at h1
              · rename_i hin
                rw [if_pos hin] at h2
                rw [List.getElem?_drop] at h1 h2
                rw [Array.getElem?_toList] at h2
                exact hvr _ a v h1 h2
              · cases h1
          | false =>
            simp only [cond_false] at h
            cases hd : ds[o]? with
            | none => rw [hd] at h; cases h
            | some a =>
              rw [hd] at h
              cases h
              have hlt : o < arr.size := by have := (List.getElem?_eq_some_iff.1 hd).1; omega
              exact ⟨arr[o], load1_ok hg w _ _ _ (by rw [cell_of_heap hheap]; simp [hlt]), hvr o _ _ hd (by simp [hlt])⟩
      · rename_i ks e hob; exact rowc b o gi ks e hgi (.inl hob) h
      · rename_i ks e hob; exact rowc b o gi ks e hgi (.inr hob) h
      · cases h
    · -- a pointer into a row
      rename_i b s i j
      obtain ⟨gi, hgi, rfl⟩ := ha.elt_inv
      have main : ∀ (ks : List CK) (e : SE), (hget M.hp b = some (.rows ks e) ∨ hget M.hp b = some (.ro ks e)) → (bif Nat.beq s ks.length && Nat.ble (j + n) s then
          let r := mkB .idx e i
          bif g then some (AV.agg (((ks.drop j).take n).zipIdx.map fun p => p.1.av (cellE ks r (j + p.2))), [mkB .le (.int 0) i, ltE i (mkU .len e)])
          else (ks[j]?).map fun k => (k.av (cellE ks r j), [mkB .le (.int 0) i, ltE i (mkU .len e)])
        else none) = some (r, cs) → ∃ z, (Instr.loadAt t (.pointer (some ⟨gi.blk, gi.off + (i.den ρ).i.toNat * s + j, none⟩))).run P w = .ok z w ∧ VR ρ G r z := by
        clear h
        intro ks e hrow h
        cases hb : (Nat.beq s ks.length && Nat.ble (j + n) s) with
        | false => rw [hb] at h; cases h
        | true =>
          rw [hb] at h
          simp only [cond_true] at h
          simp only [Bool.and_eq_true, beq_iff] at hb
          obtain ⟨rfl, hb⟩ := hb
          have hc : (mkB .le (.int 0) i) ∈ cs ∧ (ltE i (mkU .len e)) ∈ cs := by
            cases g <;> simp only [cond_true, cond_false] at h
            · cases hk : ks[j]? with
              | none => rw [hk] at h; cases h
              | some k => rw [hk] at h; cases h; simp
            · cases h; simp
          have h0 := hcs _ hc.1
          have hlt := hcs _ hc.2
          rw [le_b, int_i] at h0
          rw [lt_b, len_den] at hlt
          have h0 := of_decide_eq_true h0
          have hlt := of_decide_eq_true hlt
          exact readRow_ok (G := G) (i := (i.den ρ).i.toNat) hg hs (row_at hM hgi hrow) (Nat.le_of_ble_eq_true hb) (by omega) (by rw [mkB_den]; rfl) h
      split at h
      · rename_i ks e hob; exact main ks e (.inl hob) h
      · rename_i ks e hob; exact main ks e (.inr hob) h
      · cases h
    · cases h
  · cases h
end
end Go.Proofs.Ytbnbljeegghgiaa
