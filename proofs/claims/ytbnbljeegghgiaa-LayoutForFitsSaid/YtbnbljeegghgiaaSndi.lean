/- What the executor says of append is so. No program in sight. -/
import Derived.Test.YtbnbljeegghgiaaSndh
namespace Go.Proofs.Ytbnbljeegghgiaa
open Go.RowKit
set_option linter.unusedVariables false
set_option linter.unusedSimpArgs false

section
variable {P : Program} {ρ : Env} {G : Gh}

/-- A source of cells: its length in elements, and its cells, in every world with this heap. -/
structure Src (P : Program) (w : World) (size : Nat) (u : Value) (m : Nat) (news : List Value) : Prop where
  len : ∀ w' : World, (Builtin.lenOf u).run P w' = .ok m w'
  first : ∀ w' : World, w'.heap = w.heap → (Builtin.firstCells size m u).run P w' = .ok news.toArray w'
  size : news.length = m * size

theorem src_slice {w : World} {size : Nat} {a : Option Addr} {m c : Nat} {news : List Value} (hl : news.length = m * size) (h : ∀ (j : Nat) (v : Value), news[j]? = some v → ∃ b o, a = some ⟨b, o, none⟩ ∧ w.cell? ⟨b, o + j, none⟩ = some v) : Src P w size (.slice a m c) m news := by
  refine ⟨fun w' => rfl, fun w' hw => ?_, hl⟩
  cases a with
  | none =>
    have : news = [] := by
      cases news with
      | nil => rfl
      | cons v r => obtain ⟨b, o, h, _⟩ := h 0 v rfl; cases h
    subst this
    rfl
  | some a =>
    unfold Builtin.firstCells
    rw [← hl]
    refine run_loadCells_list (P := P) w' a news fun j v hj => ?_
    obtain ⟨b, o, h1, h2⟩ := h j v hj
    cases h1
    rw [addr_add, cell_same (w := w) (by rw [hw]), h2]

theorem append_room {t xt e e2 : TypeId} {ty : TypeId} {inf : TypeInfo} {w : World} {u : Value} {m : Nat} {news : List Value} (ht : P.underlying t = some (.slice e)) (hx : P.underlying xt = some (.slice e2)) (hi : P.info? e = some inf) (hs : Src P w inf.size u m news)
    {b o sLen sCap : Nat} {arr : Array Value} {tt : TypeId} (hb : w.heap[b]? = some (.cells arr tt (0, 0))) (hroom : sLen + m ≤ sCap) (hfit : o + sLen * inf.size + news.length ≤ arr.size) (h1 : ∀ v ∈ news, v.oneCell' = true) :
    (Builtin.append_ #[t, xt] ty #[.slice (some ⟨b, o, none⟩) sLen sCap, u]).run P w = .ok (.slice (some ⟨b, o, none⟩) (sLen + m) sCap) (w.setCells b (o + sLen * inf.size) news) := by
  have hst := storeCells_ok (P := P) hb news hfit h1
  have hf := hs.first w rfl
  have hl := hs.len w
  simp [Builtin.append_, run_underlying ht, run_underlying hx, sizeOf, typeInfo, hi, hl, hroom, hf, addr_add, hst]

theorem append_grow {t xt e e2 : TypeId} {ty : TypeId} {inf : TypeInfo} {z : Value} {w : World} {u : Value} {m : Nat} {news olds : List Value} (ht : P.underlying t = some (.slice e)) (hx : P.underlying xt = some (.slice e2)) (hi : P.info? e = some inf) (hz : inf.zero = some z) (hs : Src P w inf.size u m news)
    {a : Option Addr} {sLen sCap : Nat} (ho : Src P w inf.size (.slice a sLen sCap) sLen olds) (hg : sCap < sLen + m) (hm : sLen + m ≤ 4294967296) (hb : inf.bytes ≤ 10000) :
    ∃ q, (Builtin.append_ #[t, xt] ty #[.slice a sLen sCap, u]).run P w = .ok (.slice (some ⟨w.heap.size, 0, none⟩) (sLen + m) (sLen + m + q)) (w.drew.alloc (.cells (olds.toArray ++ news.toArray ++ Builtin.zeroCells z.cells q) e)) := by
  have hn : ¬ (sLen + m ≤ sCap) := by omega
  have h63' : ¬ (9223372036854775807 < ((sLen : Int) + (m : Int))) := by omega
  have hfit : Builtin.nextslicecap (sLen + m) sCap * inf.bytes ≤ 281474976710656 := growslice_fits hg (by
    have : (sLen + m) * inf.bytes ≤ 4294967296 * 10000 := Nat.mul_le_mul hm hb
    omega)
  have h48' : ¬ (281474976710656 < Builtin.nextslicecap (sLen + m) sCap * inf.bytes) := by omega
  have hl := hs.len w
  have hf := hs.first w.drew rfl
  have hfo := ho.first w.drew rfl
  have hge := grownCap_ge w (sLen + m) sCap e
  refine ⟨grownCap w (sLen + m) sCap e - (sLen + m), ?_⟩
  have hcap : sLen + m + (grownCap w (sLen + m) sCap e - (sLen + m)) = grownCap w (sLen + m) sCap e := by omega
  rw [hcap]
  simp [Builtin.append_, run_underlying ht, run_underlying hx, sizeOf, typeInfo, zeroValue, hi, hz, hl, hn, h63', h48', Question.forced, hfo, hf, newRow, grownCap]
  generalize Builtin.zeroCells _ _ = Z
  have : olds.toArray ++ (news.toArray ++ Z) = (olds ++ news).toArray ++ Z := by apply Array.ext'; simp
  rw [this]

theorem zeroCells_size (z : Array Value) (q : Nat) : (Builtin.zeroCells z q).size = q * z.size := by simp [Builtin.zeroCells]

/-- Cells that are known one by one. -/
theorem srcCells_ok {M : Me} {w : World} {n : Nat} {x : AV} {xs : List AV} {u : Value} (hM : MR ρ G M w) (h : srcCells M.hp n x = some xs) (hx : VR ρ G x u) (hn : 0 < n) : ∃ news : List Value, Src P w n u (xs.length / n) news ∧ VRs ρ G xs news.toArray := by
  unfold srcCells at h
  split at h
  · cases h
    cases hx
    refine ⟨[], ?_, VRs.nil⟩
    show Src P w n _ (0 / n) _
    rw [Nat.zero_div]
    exact src_slice (by simp) (fun j v h => by simp at h)
  · rename_i b s off len cap
    split at h
    · rename_i cs o l hob ho hl
      cases hb : (Nat.beq s n && Nat.ble ((o + l) * s) cs.length) with
      | false => rw [hb] at h; cases h
      | true =>
        rw [hb] at h
        simp only [cond_true, Option.some.injEq] at h
        simp only [Bool.and_eq_true, beq_iff, Nat.ble_eq] at hb
        obtain ⟨rfl, hle⟩ := hb
        obtain ⟨g, a, m, c, hg, rfl, hlen, hoff, hmc, hcap, ha, hbd⟩ := hx.sl_inv
        obtain ⟨g', hg', hgo, arr, ty, hheap, hsize, hlen', hvr⟩ := hM.ob _ _ hob
        rw [hg] at hg'; cases hg'
        have e1 : (off.den ρ).i = o := litN_i ho ρ
        have e2 : m = l := by have := litN_i hl ρ; omega
        subst e2
        have hxl : xs.length = m * s := by
          rw [← h, List.length_take, List.length_drop]
          rw [Nat.add_mul] at hle
          omega
        have hdiv : xs.length / s = m := by rw [hxl, Nat.mul_div_cancel _ hn]
        rw [hdiv]
        refine ⟨((arr.toList.drop (o * s)).take (m * s)), src_slice ?_ (fun j v hj => ?_), ?_⟩
        · rw [List.length_take, List.length_drop, Array.length_toList]
          rw [Nat.add_mul] at hle
          omega
        · rw [List.getElem?_take] at hj
          split at hj
          · rename_i hjl
            rw [List.getElem?_drop, Array.getElem?_toList] at hj
            have hm0 : 0 < m := by
              rcases Nat.eq_zero_or_pos m with h0 | h0
              · rw [h0, Nat.zero_mul] at hjl; omega
              · exact h0
            refine ⟨_, _, ha (by omega), ?_⟩
            rw [cell_of_heap hheap, hgo, e1]
            simpa [Int.toNat_natCast] using hj
          · cases hj
        · refine ⟨?_, fun i a' v h1 h2 => ?_⟩
          · rw [hxl]
            simp only [List.size_toArray, List.length_take, List.length_drop, Array.length_toList]
            rw [Nat.add_mul] at hle
            omega
          · rw [← h] at h1
            rw [List.getElem?_toArray] at h2
            rw [List.getElem?_take] at h1 h2
            split at h1
            · rename_i hin
              rw [if_pos hin] at h2
              rw [List.getElem?_drop] at h1 h2
              rw [Array.getElem?_toList] at h2
              exact hvr _ a' v h1 h2
            · cases h1
    · cases h
  · cases h

/-- The cells of a list of plain data. -/
def rowVals (ks : List CK) (l : List DV) : List Value := l.flatMap fun d => ks.zipIdx.map fun p => p.1.val (cellD ks d p.2)
theorem rowVals_length (ks : List CK) (l : List DV) : (rowVals ks l).length = l.length * ks.length := by
  unfold rowVals
  induction l with
  | nil => simp
  | cons d r ih => simp only [List.flatMap_cons, List.length_append, List.length_map, List.length_zipIdx, ih, List.length_cons, Nat.succ_mul]; omega
theorem rowVals_get (ks : List CK) : ∀ (l : List DV) (i j : Nat) (d : DV) (k : CK), l[i]? = some d → ks[j]? = some k → (rowVals ks l)[i * ks.length + j]? = some (k.val (cellD ks d j))
  | [], i, j, d, k, h, _ => by simp at h
  | d' :: r, 0, j, d, k, h, hk => by
    simp at h
    subst h
    have hj := (List.getElem?_eq_some_iff.1 hk).1
    simp only [rowVals, List.flatMap_cons, Nat.zero_mul, Nat.zero_add]
    rw [List.getElem?_append_left (by simp; exact hj)]
    simp [List.getElem?_zipIdx, hk]
  | d' :: r, i + 1, j, d, k, h, hk => by
    have := rowVals_get ks r i j d k (by simpa using h) hk
    simp only [rowVals, List.flatMap_cons] at this ⊢
    rw [List.getElem?_append_right (by simp [Nat.succ_mul]; omega)]
    rw [← this]
    congr 1
    simp [Nat.succ_mul]
    omega
theorem rowVals_inv (ks : List CK) (l : List DV) (q : Nat) (v : Value) (h : (rowVals ks l)[q]? = some v) : ∃ i j d k, q = i * ks.length + j ∧ l[i]? = some d ∧ ks[j]? = some k ∧ v = k.val (cellD ks d j) := by
  have hq := (List.getElem?_eq_some_iff.1 h).1
  rw [rowVals_length] at hq
  have hk : 0 < ks.length := by
    rcases Nat.eq_zero_or_pos ks.length with h0 | h0
    · rw [h0] at hq; simp at hq
    · exact h0
  have hi : q / ks.length < l.length := (Nat.div_lt_iff_lt_mul hk).2 hq
  have hj : q % ks.length < ks.length := Nat.mod_lt _ hk
  have he : q = q / ks.length * ks.length + q % ks.length := by rw [Nat.mul_comm]; exact (Nat.div_add_mod q ks.length).symm
  have := rowVals_get ks l (q / ks.length) (q % ks.length) _ _ (List.getElem?_eq_getElem hi) (List.getElem?_eq_getElem hj)
  rw [← he, h] at this
  exact ⟨_, _, _, _, he, List.getElem?_eq_getElem hi, List.getElem?_eq_getElem hj, by cases this; rfl⟩
theorem rowVals_append (ks : List CK) (a b : List DV) : rowVals ks (a ++ b) = rowVals ks a ++ rowVals ks b := by simp [rowVals]
theorem ck_one (k : CK) (d : DV) : (k.val d).oneCell' = true := by cases k <;> rfl
theorem rowVals_one (ks : List CK) (l : List DV) : ∀ v ∈ rowVals ks l, v.oneCell' = true := by
  intro v hv
  obtain ⟨q, hq⟩ := List.getElem?_of_mem hv
  obtain ⟨i, j, d, k, _, _, _, rfl⟩ := rowVals_inv ks l q v hq
  exact ck_one _ _
/-- A row that stands in an array from its head. -/
theorem row_prefix {ks : List CK} {l : List DV} {arr : Array Value} (h : ∀ q, q < l.length * ks.length → arr[q]? = (rowVals ks l)[q]?) : ∀ (i j : Nat) (d : DV) (k : CK), l[i]? = some d → ks[j]? = some k → arr[i * ks.length + j]? = some (k.val (cellD ks d j)) := by
  intro i j d k hi hj
  have hjl := (List.getElem?_eq_some_iff.1 hj).1
  have hil := (List.getElem?_eq_some_iff.1 hi).1
  rw [h]
  · exact rowVals_get ks l i j d k hi hj
  · have : (i + 1) * ks.length ≤ l.length * ks.length := Nat.mul_le_mul_right _ hil
    rw [Nat.succ_mul] at this
    omega
theorem prefix_row {ks : List CK} {l : List DV} {arr : Array Value} (h : ∀ (i j : Nat) (d : DV) (k : CK), l[i]? = some d → ks[j]? = some k → arr[i * ks.length + j]? = some (k.val (cellD ks d j))) : ∀ q, q < l.length * ks.length → arr[q]? = (rowVals ks l)[q]? := by
  intro q hq
  obtain ⟨i, j, d, k, rfl, hi, hj, hv⟩ := rowVals_inv ks l q _ (List.getElem?_eq_getElem (by rw [rowVals_length]; exact hq))
  rw [h i j d k hi hj, List.getElem?_eq_getElem (by rw [rowVals_length]; exact hq), hv]

theorem srcRows_ok {M : Me} {w : World} {n : Nat} {x : AV} {ks : List CK} {e L : SE} {cs : List SE} {u : Value} (hM : MR ρ G M w) (h : srcRows M.hp n x = some (ks, e, L, cs)) (hcs : ∀ c ∈ cs, (c.den ρ).b = true) (hx : VR ρ G x u) (hel : (e.den ρ).l.length = (L.den ρ).i) :
    ks.length = n ∧ ks ≠ [] ∧ Src P w n u (e.den ρ).l.length (rowVals ks (e.den ρ).l) := by
  unfold srcRows at h
  split at h
  · rename_i b s off len cap
    obtain ⟨g, a, m, c, hg, rfl, hlen, hoff, hmc, hcap, ha, hbd⟩ := hx.sl_inv
    have main : ∀ (ks' : List CK) (e' : SE), (hget M.hp b = some (.rows ks' e') ∨ hget M.hp b = some (.ro ks' e')) → (bif Nat.beq s ks'.length && Nat.beq s n then
        (if off = .int 0 ∧ len = .un .len e' then some (ks', e', len, []) else some (ks', mkB .take (mkB .drop e' off) len, len, [mkB .le (.int 0) len, mkB .le (mkB .add off len) (mkU .len e')])) else none) = some (ks, e, L, cs) → ks.length = n ∧ ks ≠ [] ∧ Src P w n (.slice a m c) (e.den ρ).l.length (rowVals ks (e.den ρ).l) := by
      clear h
      intro ks' e' hrow h
      have hrn := row_at hM.ob hg hrow
      have hkn : ks' ≠ [] := by
        rcases hrow with hr | hr
        · obtain ⟨g', _, ho⟩ := hM.ob _ _ hr; exact ho.2.1
        · obtain ⟨g', _, ho⟩ := hM.ob _ _ hr; exact ho.1
      cases hb : (Nat.beq s ks'.length && Nat.beq s n) with
      | false => rw [hb] at h; cases h
      | true =>
        rw [hb] at h
        simp only [cond_true] at h
        simp only [Bool.and_eq_true, beq_iff] at hb
        obtain ⟨rfl, rfl⟩ := hb
        have fin : ∀ (o : Nat) (l : List DV), ks'.length = ks'.length → (off.den ρ).i = o → l.length = m → (∀ (i : Nat) (d : DV), l[i]? = some d → (e'.den ρ).l[o + i]? = some d) → Src P w ks'.length (.slice a m c) m (rowVals ks' l) := by
          intro o l _ hoe hlm hsub
          refine src_slice (by rw [rowVals_length, hlm]) fun q v hq => ?_
          obtain ⟨i, j, d, k, rfl, hi, hj, rfl⟩ := rowVals_inv ks' l q v hq
          have hil := (List.getElem?_eq_some_iff.1 hi).1
          refine ⟨_, _, ha (by omega), ?_⟩
          have := hrn (o + i) j d k (hsub i d hi) hj
          rw [← this, hoe, Int.toNat_natCast]
          congr 2
          rw [Nat.add_mul]
          omega
        split at h
        · rename_i hwhole
          cases h
          obtain ⟨h1, h2⟩ := hwhole
          have hml : (e.den ρ).l.length = m := by rw [h2] at hlen; have : ((SE.un UO.len e).den ρ).i = (e.den ρ).l.length := rfl; omega
          refine ⟨rfl, hkn, ?_⟩
          rw [hml]
          exact fin 0 _ rfl (by rw [h1]; rfl) hml (fun i d hi => by rw [Nat.zero_add]; exact hi)
        · cases h
          have c1 := hcs (mkB .le (.int 0) L) (by simp)
          have c2 := hcs (mkB .le (mkB .add off L) (mkU .len e')) (by simp)
          rw [le_b] at c1 c2
          rw [int_i] at c1
          rw [len_den, mkB_den] at c2
          have c1 := of_decide_eq_true c1
          have c2 : (off.den ρ).i + (L.den ρ).i ≤ (e'.den ρ).l.length := of_decide_eq_true c2
          obtain ⟨o, ho⟩ := Int.eq_ofNat_of_zero_le hoff
          have hden : ((mkB .take (mkB .drop e' off) L).den ρ).l = ((e'.den ρ).l.drop o).take m := by
            rw [mkB_den, mkB_den]
            simp only [evB, DV.l]
            rw [ho, hlen]; simp
          refine ⟨rfl, hkn, ?_⟩
          rw [hden]
          have hlm : (((e'.den ρ).l.drop o).take m).length = m := by
            rw [List.length_take, List.length_drop]; omega
          rw [hlm]
          exact fin o _ rfl ho hlm (fun i d hi => by
            rw [List.getElem?_take] at hi
            split at hi
            · rwa [List.getElem?_drop] at hi
            · cases hi)
    split at h
    · rename_i ks' e' hob; exact main ks' e' (.inl hob) h
    · rename_i ks' e' hob; exact main ks' e' (.inr hob) h
    · cases h
  · cases h
end
end Go.Proofs.Ytbnbljeegghgiaa
