/- What the executor says of append is so: the theorem. No program in sight. -/
import Derived.Test.YtbnbljeegghgiaaSndi
namespace Go.Proofs.Ytbnbljeegghgiaa
open Go.RowKit
set_option linter.unusedVariables false
set_option linter.unusedSimpArgs false

section
variable {P : Program} {ρ : Env} {G : Gh}

/-- What an operation that may lay or turn one block leaves. -/
def Does (P : Program) (ρ : Env) (G : Gh) (M : Me) (w : World) (s : Sem Value) (r : AV) (M' : Me) : Prop :=
  ∃ z w' G', s.run P w = .ok z w' ∧ MR ρ G' M' w' ∧ Stp ρ G M w G' M' w' ∧ VR ρ G' r z

theorem zero_cells {el : TypeId} {inf : TypeInfo} {zc : List AV} (hi : P.info? el = some inf) (h : (zeroA P el).bind AV.cells? = some zc) : ∃ z, inf.zero = some z ∧ z.cells.size = zc.length := by
  unfold zeroA at h
  rw [hi] at h
  simp only at h
  cases hz : inf.zero with
  | none => rw [hz] at h; cases h
  | some z =>
    rw [hz] at h
    simp only [Option.map_some, Option.bind_some] at h
    exact ⟨z, rfl, (cells_ok (ρ := fun _ => .int 0) (G := fun _ => none) (litV_ok z) h).1⟩

theorem stp_drew_new {M : Me} {w w' : World} {G' : Gh} {M' : Me} (h : Stp ρ G M w.drew G' M' w') : Stp ρ G M w G' M' w' := ⟨h.gh, h.os, h.tape, h.output, h.size, h.keep, h.mine, h.nb, h.old, h.ro⟩

/-- The new block of an append that grows, known cell by cell. -/
theorem grown_cells {M : Me} {w : World} (hM : MR ρ G M w) {co cn : List AV} {olds news : List Value} (ho : VRs ρ G co olds.toArray) (hn : VRs ρ G cn news.toArray) {n k q : Nat} (hl : olds.length + news.length = k * n) (z : Array Value) (hz : z.size = n) (e : TypeId) :
    ∃ G', MR ρ G' { M with hp := hset M.hp M.nb (.cells (co ++ cn)), nb := M.nb + 1 } (w.drew.alloc (.cells (olds.toArray ++ news.toArray ++ Builtin.zeroCells z q) e)) ∧ Stp ρ G M w G' { M with hp := hset M.hp M.nb (.cells (co ++ cn)), nb := M.nb + 1 } (w.drew.alloc (.cells (olds.toArray ++ news.toArray ++ Builtin.zeroCells z q) e)) ∧
      VR ρ G' (.sl M.nb n (.int 0) (.int k) none) (.slice (some ⟨w.heap.size, 0, none⟩) k (k + q)) := by
  have hsz : (olds.toArray ++ news.toArray ++ Builtin.zeroCells z q).size = (k + q) * n := by
    simp only [Array.size_append, List.size_toArray, zeroCells_size, hz]
    rw [Nat.add_mul]; omega
  have happ := ho.append hn
  obtain ⟨h1, h2⟩ := hM.drew.new (w' := w.drew.alloc (.cells (olds.toArray ++ news.toArray ++ Builtin.zeroCells z q) e)) (.cells (co ++ cn)) ⟨w.heap.size, 0, (k + q) * n⟩ (Nat.le_refl _) ⟨rfl, _, e, alloc_new w.drew _, hsz, by rw [hsz, ← happ.1]; simp; rw [hl, Nat.add_mul]; omega, fun i a v x y => by
      have hi : i < (co ++ cn).length := (List.getElem?_eq_some_iff.1 x).1
      rw [← happ.1] at hi
      rw [Array.getElem?_append, if_pos hi] at y
      exact (happ.2 i a v x y).mono (Gh.le_add hM.no)⟩ rfl rfl rfl (by simp) (alloc_more w.drew _)
  exact ⟨_, h1, stp_drew_new h2, .sl _ _ _ _ _ _ _ _ _ (by simp [Gh.add]; rfl) rfl (Int.le_refl _) (by omega) (fun e he => by cases he) (fun _ => by simp [int_i]) (by simp [int_i])⟩

/-- The same, known as a list of plain data. -/
theorem grown_rows {M : Me} {w : World} (hM : MR ρ G M w) {ks : List CK} {E L : SE} {olds news : List Value} {l1 l2 : List DV} (hks : ks ≠ []) (ho : olds = rowVals ks l1) (hn : news = rowVals ks l2) (hE : (E.den ρ).l = l1 ++ l2) {q : Nat} (z : Array Value) (hz : z.size = ks.length) (e : TypeId) (hL : (L.den ρ).i = l1.length + l2.length) :
    ∃ G', MR ρ G' { M with hp := hset M.hp M.nb (.rows ks E), nb := M.nb + 1 } (w.drew.alloc (.cells (olds.toArray ++ news.toArray ++ Builtin.zeroCells z q) e)) ∧ Stp ρ G M w G' { M with hp := hset M.hp M.nb (.rows ks E), nb := M.nb + 1 } (w.drew.alloc (.cells (olds.toArray ++ news.toArray ++ Builtin.zeroCells z q) e)) ∧
      VR ρ G' (.sl M.nb ks.length (.int 0) L none) (.slice (some ⟨w.heap.size, 0, none⟩) (l1.length + l2.length) (l1.length + l2.length + q)) := by
  subst ho hn
  have hk0 : 0 < ks.length := by cases ks with | nil => exact absurd rfl hks | cons _ _ => simp
  have hsz : ((rowVals ks l1).toArray ++ (rowVals ks l2).toArray ++ Builtin.zeroCells z q).size = (l1.length + l2.length + q) * ks.length := by
    simp only [Array.size_append, List.size_toArray, zeroCells_size, hz, rowVals_length]
    rw [Nat.add_mul, Nat.add_mul]
  obtain ⟨h1, h2⟩ := hM.drew.new (w' := w.drew.alloc (.cells ((rowVals ks l1).toArray ++ (rowVals ks l2).toArray ++ Builtin.zeroCells z q) e)) (.rows ks E) ⟨w.heap.size, 0, (l1.length + l2.length + q) * ks.length⟩ (Nat.le_refl _)
    ⟨rfl, hks, fun h => by
      rw [hE]
      rcases Nat.mul_eq_zero.1 h with h | h
      · have e1 : l1 = [] := List.eq_nil_of_length_eq_zero (by omega)
        have e2 : l2 = [] := List.eq_nil_of_length_eq_zero (by omega)
        rw [e1, e2]; rfl
      · omega, fun _ => ⟨_, e, alloc_new w.drew _, hsz, by rw [hsz, hE, List.length_append]; exact Nat.mul_le_mul_right _ (by omega), by
      rw [hE]
      refine row_prefix fun x hx => ?_
      rw [rowVals_append]
      have hlen : x < (rowVals ks l1).length + (rowVals ks l2).length := by
        rw [rowVals_length, rowVals_length, ← Nat.add_mul]
        rwa [List.length_append] at hx
      rw [Array.getElem?_append, if_pos (by simpa using hlen)]
      simp⟩⟩ rfl rfl rfl (by simp) (alloc_more w.drew _)
  exact ⟨_, h1, stp_drew_new h2, .sl _ _ _ _ _ _ _ _ _ (by simp [Gh.add]; rfl) (by rw [hL]; omega) (Int.le_refl _) (by omega) (fun e he => by cases he) (fun _ => by simp [int_i]) (by simp [int_i])⟩

theorem destK_inv {n : Nat} {hp : List (Nat × Ob)} {s : AV} {d : DK} (h : destK hp n s = some d) :
    (d = .zero ∧ (s = .nils ∨ ∃ b off len cap, s = .sl b n off len (some cap) ∧ litN len = some 0 ∧ litN cap = some 0)) ∨
    (∃ b o l c cs off len cap, d = .fixed b o l c cs ∧ s = .sl b n off len (some cap) ∧ litN off = some o ∧ litN len = some l ∧ litN cap = some c ∧ hget hp b = some (.cells cs)) ∨
    (∃ b l cs off len, d = .tip b l cs ∧ s = .sl b n off len none ∧ litN off = some 0 ∧ litN len = some l ∧ hget hp b = some (.cells cs) ∧ l * n = cs.length) ∨
    (∃ b ks e len off cap, d = .rows b ks e len ∧ s = .sl b n off len cap ∧ litN off = some 0 ∧ hget hp b = some (.rows ks e) ∧ ks.length = n) := by
  unfold destK at h
  split at h
  · cases h; exact .inl ⟨rfl, .inl rfl⟩
  · rename_i b s' off len cap
    cases hb : Nat.beq s' n with
    | false => rw [hb] at h; cases h
    | true =>
      rw [hb] at h
      simp only [cond_true] at h
      have hb := (beq_iff _ _).1 hb
      subst hb
      split at h
      · rename_i h1 h2
        cases h
        cases hc : cap with
        | none => rw [hc] at h2; cases h2
        | some ce => rw [hc] at h2; exact .inl ⟨rfl, .inr ⟨b, off, len, ce, rfl, h1, h2⟩⟩
      · cases h1 : hget hp b with
        | none => rw [h1] at h; cases h
        | some ob =>
          rw [h1] at h
          cases h2 : litN off with
          | none => rw [h2] at h; cases ob <;> cases h
          | some o =>
            rw [h2] at h
            cases ob with
            | cells cs =>
              cases h3 : litN len with
              | none => rw [h3] at h; cases cap <;> cases h
              | some l =>
                rw [h3] at h
                cases cap with
                | some c =>
                  cases hc : litN c with
                  | none => simp only [hc] at h; cases h
                  | some c' =>
                    simp only [hc, Option.some.injEq] at h
                    exact .inr (.inl ⟨b, o, l, c', cs, off, len, c, h.symm, rfl, h2, h3, hc, h1⟩)
                | none =>
                  cases o with
                  | succ o => cases h
                  | zero =>
                    simp only at h
                    cases hq : Nat.beq (l * s') cs.length with
                    | false => rw [hq] at h; cases h
                    | true =>
                      rw [hq] at h
                      simp only [cond_true, Option.some.injEq] at h
                      exact .inr (.inr (.inl ⟨b, l, cs, off, len, h.symm, rfl, h2, h3, h1, (beq_iff _ _).1 hq⟩))
            | rows ks e =>
              cases o with
              | succ o => cases litN len <;> cases cap <;> cases h
              | zero =>
                have h : (bif Nat.beq ks.length s' then some (DK.rows b ks e len) else none) = some d := by
                  cases hl : litN len <;> cases cap <;> simpa [hl] using h
                cases hq : Nat.beq ks.length s' with
                | false => rw [hq] at h; cases h
                | true =>
                  rw [hq] at h
                  simp only [cond_true, Option.some.injEq] at h
                  exact .inr (.inr (.inr ⟨b, ks, e, len, off, cap, h.symm, rfl, h2, h1, (beq_iff _ _).1 hq⟩))
            | ro ks e => cases h
            | map es => cases h
  · cases h
/-- A slice that holds nothing and has no room. -/
theorem zero_dest {n : Nat} {hp : List (Nat × Ob)} {s : AV} {u : Value} (h : destK hp n s = some .zero) (hs : VR ρ G s u) : ∃ a, u = .slice a 0 0 := by
  rcases destK_inv h with ⟨_, rfl | ⟨b, off, len, cap, rfl, h1, h2⟩⟩ | ⟨_, _, _, _, _, _, _, _, h, _⟩ | ⟨_, _, _, _, _, h, _⟩ | ⟨_, _, _, _, _, _, h, _⟩
  · cases hs; exact ⟨none, rfl⟩
  · obtain ⟨g, a, m, c, hg, rfl, hlen, hoff, hmc, hcap, ha, hbd⟩ := hs.sl_inv
    have e1 := litN_i h1 ρ
    have e2 := litN_i h2 ρ
    have e3 := hcap cap rfl
    have : m = 0 := by omega
    have : c = 0 := by omega
    subst_vars
    exact ⟨a, rfl⟩
  · cases h
  · cases h
  · cases h
theorem append_same {t xt e e2 : TypeId} {ty : TypeId} {inf : TypeInfo} {w : World} {u : Value} {a : Option Addr} {n c : Nat} (ht : P.underlying t = some (.slice e)) (hx : P.underlying xt = some (.slice e2)) (hi : P.info? e = some inf) (hs : Src P w inf.size u 0 []) (hnc : n ≤ c) :
    (Builtin.append_ #[t, xt] ty #[.slice a n c, u]).run P w = .ok (.slice a n c) w := by
  have hl := hs.len w
  have hf := hs.first w rfl
  cases a <;> simp [Builtin.append_, run_underlying ht, run_underlying hx, sizeOf, typeInfo, hi, hl, hnc, hf, storeCells]
theorem chunk_flat (n : Nat) (hn : 0 < n) : ∀ (f : Nat) (cs : List AV), cs.length ≤ f → (chunk n f cs).flatten = cs
  | 0, cs, h => by have : cs = [] := List.eq_nil_of_length_eq_zero (by omega); subst this; rfl
  | f + 1, [], h => rfl
  | f + 1, c :: r, h => by
    show ((c :: r).take n :: chunk n f ((c :: r).drop n)).flatten = _
    rw [List.flatten_cons, chunk_flat n hn f _ (by rw [List.length_drop]; simp at h ⊢; omega), List.take_append_drop]
/-- A list of cells of plain data, as rows. -/
theorem rowsOf_ok {ks : List CK} {n : Nat} (hn : 0 < n) (hk : ks.length = n) : ∀ (f : Nat) (cs : List AV) (vs : List Value), cs.length ≤ f → allData ks n f cs = true → VRs ρ G cs vs.toArray →
    ∃ l : List DV, (((chunk n f cs).foldr (fun r e => SE.bin .cons (rowE r) e) .nil).den ρ) = .list l ∧ vs = rowVals ks l ∧ l = (chunk n f cs).map (fun r => (rowE r).den ρ)
  | 0, cs, vs, h, ha, hv => by
    have : cs = [] := List.eq_nil_of_length_eq_zero (by omega)
    subst this
    have : vs = [] := List.eq_nil_of_length_eq_zero (by have := hv.1; simpa using this)
    subst this
    exact ⟨[], rfl, rfl, rfl⟩
  | f + 1, [], vs, h, ha, hv => by
    have : vs = [] := List.eq_nil_of_length_eq_zero (by have := hv.1; simpa using this)
    subst this
    exact ⟨[], rfl, rfl, rfl⟩
  | f + 1, c :: r, vs, h, ha, hv => by
    unfold allData at ha
    simp only [Bool.and_eq_true, decide_eq_true_eq] at ha
    obtain ⟨h1, h2⟩ := ha
    have hvl : vs.length = (c :: r).length := by have := hv.1; simpa using this
    have hfirst : VRs ρ G ((c :: r).take n) (vs.take n).toArray := by
      refine ⟨by simp [hvl], fun i a v x y => ?_⟩
      rw [List.getElem?_toArray] at y
      rw [List.getElem?_take] at x y
      split at x
      · rename_i hin; rw [if_pos hin] at y; exact hv.2 i a v x (by simpa using y)
      · cases x
    have hrest : VRs ρ G ((c :: r).drop n) (vs.drop n).toArray := by
      refine ⟨by simp [hvl], fun i a v x y => ?_⟩
      rw [List.getElem?_toArray] at y
      rw [List.getElem?_drop] at x y
      exact hv.2 _ a v x (by simpa using y)
    obtain ⟨l, hl, hvs, hmap⟩ := rowsOf_ok hn hk f ((c :: r).drop n) (vs.drop n) (by rw [List.length_drop]; simp at h ⊢; omega) h2 hrest
    have hrow := rowE_ok h1 hfirst
    have hlen : ((c :: r).take n).length = n := by rw [(mapM_get h1).1, hk]
    have htake : vs.take n = rowVals ks [(rowE ((c :: r).take n)).den ρ] := by
      apply List.ext_getElem?
      intro j
      by_cases hj : j < n
      · have := hrow j _ (List.getElem?_eq_getElem (by omega))
        rw [List.getElem?_toArray] at this
        rw [this]
        have := rowVals_get ks [(rowE ((c :: r).take n)).den ρ] 0 j _ _ rfl (List.getElem?_eq_getElem (by omega : j < ks.length))
        rw [Nat.zero_mul, Nat.zero_add] at this
        exact this.symm
      · rw [List.getElem?_eq_none (by rw [List.length_take]; omega), List.getElem?_eq_none (by rw [rowVals_length]; simp; omega)]
    refine ⟨(rowE ((c :: r).take n)).den ρ :: l, ?_, ?_, ?_⟩
    · show evB .cons _ _ = _
      show DV.list ((rowE ((c :: r).take n)).den ρ :: ((((chunk n f ((c :: r).drop n)).foldr (fun r e => SE.bin .cons (rowE r) e) .nil).den ρ)).l) = _
      rw [hl]; rfl
    · rw [← List.take_append_drop n vs, htake, hvs]
      rw [show (rowE ((c :: r).take n)).den ρ :: l = [(rowE ((c :: r).take n)).den ρ] ++ l from rfl, rowVals_append]
    · show _ = (rowE ((c :: r).take n)).den ρ :: (chunk n f ((c :: r).drop n)).map (fun r => (rowE r).den ρ)
      rw [hmap]
end
end Go.Proofs.Ytbnbljeegghgiaa
