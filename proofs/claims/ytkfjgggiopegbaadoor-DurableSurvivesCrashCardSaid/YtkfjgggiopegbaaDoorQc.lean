/- Part 3 of a proof: the executor, its soundness, contracts of functions. No condition. -/
import Derived.Below
import Derived.Recover
import Derived.Laws.BytesString
import Derived.Orders
import Derived.RangeFuncIn
import Derived.Scope
import Derived.LoopNIn
import Derived.OrdersIn
import Derived.RangeFuncLeaves
import Derived.Laws.IdiomStrings
import Derived.Sort.LoopGhostIn
import Derived.RangeFuncRecord
import Derived.Test.YtkfjgggiopegbaaDoorQb
section
set_option linter.unusedVariables false
set_option linter.unusedSimpArgs false
namespace Go.Proofs.YtkfjgggiopegbaaDoor
open Go.RowKit
def rdAt (w : World) (g : GI) (ks : List CK) (l : List DV) : Prop := ∀ (i j : Nat) (x : DV) (k : CK), l[i]? = some x → ks[j]? = some k → w.cell? ⟨g.blk, g.off + i * ks.length + j, none⟩ = some (k.val (cellD ks x j))
def Cl.rdg (w : World) (c : Cl) (v : Value) (d : DV) (g : GI) : Prop :=
  match c with
  | .pl k => v = k.val d
  | .rows _ ks => ks ≠ [] ∧ rdAt w g ks d.l ∧ ∃ (ad : Option Addr) (n cp : Nat), v = .slice ad n cp ∧ d.l.length = n ∧ n ≤ cp ∧ (0 < cp → ad = some ⟨g.blk, g.off, none⟩) ∧ cp * ks.length ≤ g.sz
  | .nst ns => ns ≠ [] ∧ NAt w g ns d.l ∧ (∃ (ad : Option Addr) (n cp : Nat), v = .slice ad n cp ∧ d.l.length = n ∧ n ≤ cp ∧ (0 < cp → ad = some ⟨g.blk, g.off, none⟩) ∧ cp * ns.length ≤ g.sz) ∧ ∀ q a n c, g.hd q = some (.slice (some a) n c) → 0 < n → a.block < w.heap.size
def hdk (g : GI) (k : Nat) : Prop := ∃ q a n c, g.hd q = some (.slice (some a) n c) ∧ 0 < n ∧ a.block = k
def Cl.told : Cl → DV → GI → Nat → Prop
  | .rows true _, d, h, k => h.sz ≠ 0 ∧ h.blk = k
  | .rows false _, d, h, k => d.l ≠ [] ∧ h.blk = k
  | .nst _, d, h, k => (d.l ≠ [] ∧ h.blk = k) ∨ hdk h k
  | .pl _, _, _, _ => False
def gOf (ρ : Env) (G : Gh) : AV → Option GI
  | .sl b s off _ _ => (G b).map fun g => ⟨g.blk, g.off + (off.den ρ).i.toNat * s, g.sz - (off.den ρ).i.toNat * s, g.lp⟩
  | _ => some ⟨0, 0, 0, default⟩
section
variable {P : Program} {ρ : Env} {G : Gh}
theorem isEmpty_ne {α : Type} {l : List α} (h : l.isEmpty = false) : l ≠ [] := by intro e; subst e; cases h
theorem ne_pos {ks : List CK} (h : ks ≠ []) : 0 < ks.length := by cases ks with | nil => exact absurd rfl h | cons _ _ => simp
theorem chunk_ne {n : Nat} {cs : List AV} (h : cs ≠ []) : chunk n cs.length cs ≠ [] := by
  cases cs with
  | nil => exact absurd rfl h
  | cons c r => simp [chunk]
theorem srcRows_sl {hp : List (Nat × Ob)} {n : Nat} {x : AV} {r : List CK × SE × SE × List SE} (h : srcRows hp n x = some r) : ∃ b s off len cap, x = .sl b s off len cap := by
  unfold srcRows at h
  split at h
  · exact ⟨_, _, _, _, _, rfl⟩
  · cases h
theorem rowX {M : Me} {w : World} {o : Bool} {ks : List CK} {a : AV} {e : SE} {cs : List SE} (hM : ObR ρ G M w) (h : cellX M.hp (.rows o ks) a = some (e, cs)) (hg : ∀ b s off len cap, a = .sl b s off len cap → (G b).isSome = true) :
    ks ≠ [] ∧ ∃ g, gOf ρ G a = some g ∧ rdAt w g ks (e.den ρ).l ∧ ((e.den ρ).l ≠ [] → Known ρ G M g.blk ∧ ∀ b s off len cap, a = .sl b s off len cap → ∃ ob g', hget M.hp b = some ob ∧ G b = some g' ∧ Solid ρ g' ob ∧ g'.blk = g.blk ∧ (match ob with | .rows _ e | .ro _ e => (e.den ρ).l ≠ [] | .cells cs => cs ≠ [] | _ => False)) := by
  unfold cellX at h
  simp only at h
  cases hke : ks.isEmpty with
  | true => rw [hke] at h; cases h
  | false =>
    rw [hke] at h
    simp only [cond_false] at h
    have hkn := isEmpty_ne hke
    refine ⟨hkn, ?_⟩
    split at h
    · rename_i ks' e' L cs' hsr
      split at h
      · rename_i hk
        cases h
        subst hk
        obtain ⟨b, s, off, len, cap, rfl⟩ := srcRows_sl hsr
        obtain ⟨g, hgb⟩ := Option.isSome_iff_exists.1 (hg b s off len cap rfl)
        unfold srcRows at hsr
        simp only at hsr
        have main : ∀ (k2 : List CK) (e2 : SE) (ob : Ob), hget M.hp b = some ob → (ob = .rows k2 e2 ∨ ob = .ro k2 e2) → (bif Nat.beq s k2.length && Nat.beq s ks'.length then
            (if off = .int 0 ∧ (len = .un .len e2 ∨ (len = lenE e2 ∨ len = lenL e2)) then some (k2, e2, len, []) else some (k2, mkB .take (mkB .drop e2 off) len, len, [mkB .le (.int 0) len, mkB .le (mkB .add off len) (mkU .len e2)])) else none) = some (ks', e, L, cs) →
            ∃ g, gOf ρ G (.sl b s off len cap) = some g ∧ rdAt w g ks' (e.den ρ).l ∧ ((e.den ρ).l ≠ [] → Known ρ G M g.blk ∧ ∀ b' s' off' len' cap', AV.sl b s off len cap = .sl b' s' off' len' cap' → ∃ ob g', hget M.hp b' = some ob ∧ G b' = some g' ∧ Solid ρ g' ob ∧ g'.blk = g.blk ∧ (match ob with | .rows _ e | .ro _ e => (e.den ρ).l ≠ [] | .cells cs => cs ≠ [] | _ => False)) := by
          intro k2 e2 ob hob hor hsr
          have hrow : hget M.hp b = some (.rows k2 e2) ∨ hget M.hp b = some (.ro k2 e2) := by rcases hor with h | h <;> subst h <;> simp [hob]
          have hrn := row_at hM hgb hrow
          cases hb : (Nat.beq s k2.length && Nat.beq s ks'.length) with
          | false => rw [hb] at hsr; cases hsr
          | true =>
            rw [hb] at hsr
            simp only [cond_true] at hsr
            simp only [Bool.and_eq_true, beq_iff] at hb
            obtain ⟨hs1, hs2⟩ := hb
            refine ⟨⟨g.blk, g.off + (off.den ρ).i.toNat * s, g.sz - (off.den ρ).i.toNat * s, g.lp⟩, by simp [gOf, hgb], ?_⟩
            have known : (e2.den ρ).l ≠ [] → Known ρ G M g.blk ∧ ∀ b' s' off' len' cap', AV.sl b s off len cap = .sl b' s' off' len' cap' → ∃ ob g', hget M.hp b' = some ob ∧ G b' = some g' ∧ Solid ρ g' ob ∧ g'.blk = g.blk ∧ (match ob with | .rows _ e | .ro _ e => (e.den ρ).l ≠ [] | .cells cs => cs ≠ [] | _ => False) := by
              intro hne
              have hsol : Solid ρ g ob := by
                rcases hor with h | h
                · subst h
                  intro hz
                  obtain ⟨g', hg', h0, h1, h2, h3⟩ := hM b _ hob
                  rw [hgb] at hg'; cases hg'
                  exact hne (h2 hz)
                · subst h; exact hne
              refine ⟨⟨b, ob, g, hob, hgb, .inl ⟨hsol, rfl⟩⟩, fun b' s' off' len' cap' heq => ?_⟩
              cases heq
              refine ⟨ob, g, hob, hgb, hsol, rfl, ?_⟩
              rcases hor with h | h <;> subst h <;> exact hne
            split at hsr
            · rename_i hwhole
              cases hsr
              obtain ⟨h1, h2⟩ := hwhole
              subst h1
              refine ⟨fun i j x k hi hj => ?_, known⟩
              have := hrn i j x k hi hj
              simpa [SE.den, DV.i] using this
            · cases hsr
              have hl : ((mkB .take (mkB .drop e2 off) L).den ρ).l = ((e2.den ρ).l.drop (off.den ρ).i.toNat).take (L.den ρ).i.toNat := by rw [mkB_den, mkB_den]; rfl
              rw [hl]
              refine ⟨fun i j x k hi hj => ?_, fun hne => known fun hnil => hne (by rw [hnil]; simp)⟩
              rw [List.getElem?_take] at hi
              split at hi
              · rw [List.getElem?_drop] at hi
                have := hrn _ j x k hi hj
                rw [← this]
                congr 2
                simp only [Nat.add_mul, hs1]
                omega
              · cases hi
        split at hsr
        · rename_i k2 e2 hob; exact main k2 e2 _ hob (.inl rfl) hsr
        · rename_i k2 e2 hob; exact main k2 e2 _ hob (.inr rfl) hsr
        · cases hsr
      · cases h
    · rename_i hno
      split at h
      · rename_i xs hxs
        cases had : allData ks ks.length xs.length xs with
        | false => rw [had] at h; cases h
        | true =>
          rw [had] at h
          simp only [cond_true, Option.some.injEq, Prod.mk.injEq] at h
          obtain ⟨rfl, rfl⟩ := h
          unfold srcCells at hxs
          split at hxs
          · cases hxs
            exact ⟨⟨0, 0, 0, default⟩, rfl, fun i j x k hi hj => by simp [rowsOf, chunk, SE.den, DV.l] at hi, fun hne => absurd (by simp [rowsOf, chunk, SE.den, DV.l]) hne⟩
          · rename_i b s off len cap
            split at hxs
            · rename_i cs' o' l' hob ho hl
              cases hb : (Nat.beq s ks.length && Nat.ble ((o' + l') * s) cs'.length) with
              | false => rw [hb] at hxs; cases hxs
              | true =>
                rw [hb] at hxs
                simp only [cond_true, Option.some.injEq] at hxs
                simp only [Bool.and_eq_true, beq_iff, Nat.ble_eq] at hb
                obtain ⟨hs, hle⟩ := hb
                subst hs
                obtain ⟨g, hgb, hgo, arr, ty, hheap, hsize, hlen', hvr⟩ := hM _ _ hob
                have e1 : (off.den ρ).i = o' := litN_i ho ρ
                have hvs : VRs ρ G xs ((arr.toList.drop (o' * ks.length)).take (l' * ks.length)).toArray := by
                  rw [Nat.add_mul] at hle
                  refine ⟨?_, fun i a' v h1 h2 => ?_⟩
                  · rw [← hxs]
                    simp only [List.size_toArray, List.length_take, List.length_drop, Array.length_toList]
                    omega
                  · rw [← hxs] at h1
                    rw [List.getElem?_toArray] at h2
                    rw [List.getElem?_take] at h1 h2
                    split at h1
                    · rename_i hin
                      rw [if_pos hin] at h2
                      rw [List.getElem?_drop] at h1 h2
                      rw [Array.getElem?_toList] at h2
                      exact hvr _ a' v h1 h2
                    · cases h1
                obtain ⟨l, h1, h2, h3⟩ := rowsOf_ok (ne_pos hkn) rfl xs.length xs _ (Nat.le_refl _) had hvs
                have hden : ((rowsOf ks.length xs).den ρ).l = l := by unfold rowsOf; rw [h1]; rfl
                rw [hden]
                refine ⟨⟨g.blk, g.off + (off.den ρ).i.toNat * ks.length, g.sz - (off.den ρ).i.toNat * ks.length, g.lp⟩, by simp [gOf, hgb], fun i j x k hi hj => ?_, fun hne => ?_⟩
                · have := rowVals_get ks l i j x k hi hj
                  rw [← h2, List.getElem?_take] at this
                  split at this
                  · rw [List.getElem?_drop, Array.getElem?_toList] at this
                    rw [cell_of_heap hheap, ← this, hgo, e1, Int.toNat_natCast]
                    congr 1
                    show 0 + o' * ks.length + i * ks.length + j = _
                    omega
                  · cases this
                · refine ⟨⟨b, _, g, hob, hgb, .inl ⟨trivial, rfl⟩⟩, fun b' s' off' len' cap' heq => ?_⟩
                  cases heq
                  refine ⟨_, g, hob, hgb, trivial, rfl, ?_⟩
                  intro hnil
                  subst hnil
                  have hx0 : xs = [] := by rw [← hxs]; simp
                  rw [h3, hx0] at hne
                  exact hne rfl
            · cases hxs
          · cases hxs
      · cases h
theorem valX {M : Me} {w : World} {o : Bool} {ks : List CK} {a : AV} {e : SE} {cs : List SE} {v : Value} (hM : ObR ρ G M w) (h : cellX M.hp (.rows o ks) a = some (e, cs)) (hcs : ∀ c ∈ cs, (c.den ρ).b = true) (hv : VR ρ G a v) {g : GI} (hgo : gOf ρ G a = some g) :
    ∃ (ad : Option Addr) (n cp : Nat), v = .slice ad n cp ∧ (e.den ρ).l.length = n ∧ n ≤ cp ∧ (0 < cp → ad = some ⟨g.blk, g.off, none⟩) ∧ cp * ks.length ≤ g.sz := by
  unfold cellX at h
  simp only at h
  cases hke : ks.isEmpty with
  | true => rw [hke] at h; cases h
  | false =>
    rw [hke] at h
    simp only [cond_false] at h
    have hkn := isEmpty_ne hke
    have bnd : ∀ {b s : Nat} {off len : SE} {cap : Option SE} {g0 : GI} {m c : Nat}, G b = some g0 → gOf ρ G (.sl b s off len cap) = some g → s = ks.length → ((off.den ρ).i.toNat + c) * s ≤ g0.sz → (0 < c → ∀ ad, ad = some (⟨g0.blk, g0.off + (off.den ρ).i.toNat * s, none⟩ : Addr) → ad = some ⟨g.blk, g.off, none⟩) ∧ c * ks.length ≤ g.sz := by
      intro b s off len cap g0 m c h1 h2 h3 h4
      simp only [gOf, h1, Option.map_some, Option.some.injEq] at h2
      subst h2
      subst h3
      rw [Nat.add_mul] at h4
      exact ⟨fun _ ad had => had, by simp only; omega⟩
    split at h
    · rename_i ks' e' L cs' hsr
      split at h
      · rename_i hk
        cases h
        subst hk
        obtain ⟨b, s, off, len, cap, rfl⟩ := srcRows_sl hsr
        obtain ⟨g0, ad, m, c, hg, rfl, hlen, hoff, hmc, hcap, ha, hbd⟩ := hv.sl_inv
        unfold srcRows at hsr
        simp only at hsr
        have main : ∀ (k2 : List CK) (e2 : SE), (bif Nat.beq s k2.length && Nat.beq s ks'.length then
            (if off = .int 0 ∧ (len = .un .len e2 ∨ (len = lenE e2 ∨ len = lenL e2)) then some (k2, e2, len, []) else some (k2, mkB .take (mkB .drop e2 off) len, len, [mkB .le (.int 0) len, mkB .le (mkB .add off len) (mkU .len e2)])) else none) = some (ks', e, L, cs) →
            ∃ (ad' : Option Addr) (n cp : Nat), Value.slice ad m c = .slice ad' n cp ∧ (e.den ρ).l.length = n ∧ n ≤ cp ∧ (0 < cp → ad' = some ⟨g.blk, g.off, none⟩) ∧ cp * ks'.length ≤ g.sz := by
          intro k2 e2 hsr
          cases hb : (Nat.beq s k2.length && Nat.beq s ks'.length) with
          | false => rw [hb] at hsr; cases hsr
          | true =>
            rw [hb] at hsr
            simp only [cond_true] at hsr
            simp only [Bool.and_eq_true, beq_iff] at hb
            obtain ⟨hs1, hs2⟩ := hb
            obtain ⟨q1, q2⟩ := bnd (m := m) hg hgo hs2 hbd
            refine ⟨ad, m, c, rfl, ?_, hmc, fun hc => q1 hc ad (ha hc), q2⟩
            split at hsr
            · rename_i hwhole
              cases hsr
              rcases hwhole.2 with h2 | h2 | h2
              · rw [h2] at hlen; have : ((SE.un UO.len e).den ρ).i = (e.den ρ).l.length := rfl; omega
              · have := lenE_den ρ e; rw [h2] at hlen; omega
              · rw [h2, lenL_den] at hlen; simp only [DV.i] at hlen; omega
            · cases hsr
              have c1 := hcs (mkB .le (.int 0) L) (by simp)
              have c2 := hcs (mkB .le (mkB .add off L) (mkU .len e2)) (by simp)
              rw [le_b] at c1 c2
              rw [int_i] at c1
              rw [len_den, mkB_den] at c2
              have c1 := of_decide_eq_true c1
              have c2 : (off.den ρ).i + (L.den ρ).i ≤ (e2.den ρ).l.length := of_decide_eq_true c2
              have hl : ((mkB .take (mkB .drop e2 off) L).den ρ).l = ((e2.den ρ).l.drop (off.den ρ).i.toNat).take (L.den ρ).i.toNat := by rw [mkB_den, mkB_den]; rfl
              rw [hl, List.length_take, List.length_drop]
              omega
        split at hsr
        · rename_i k2 e2 hob; exact main k2 e2 hsr
        · rename_i k2 e2 hob; exact main k2 e2 hsr
        · cases hsr
      · cases h
    · rename_i hno
      split at h
      · rename_i xs hxs
        cases had : allData ks ks.length xs.length xs with
        | false => rw [had] at h; cases h
        | true =>
          rw [had] at h
          simp only [cond_true, Option.some.injEq, Prod.mk.injEq] at h
          obtain ⟨rfl, rfl⟩ := h
          obtain ⟨news, hsrc, hvs⟩ := srcCells_ok (P := default) hM hxs hv (ne_pos hkn)
          obtain ⟨l, h1, h2, h3⟩ := rowsOf_ok (ne_pos hkn) rfl xs.length xs _ (Nat.le_refl _) had hvs
          have hden : ((rowsOf ks.length xs).den ρ).l = l := by unfold rowsOf; rw [h1]; rfl
          rw [hden]
          have hll : l.length * ks.length = xs.length := by
            rw [← rowVals_length ks l, ← h2]
            have := hvs.1
            simpa using this
          unfold srcCells at hxs
          split at hxs
          · cases hxs
            cases hv
            have hl0 : l.length = 0 := by
              have := ne_pos hkn
              rcases Nat.mul_eq_zero.1 hll with h | h <;> omega
            exact ⟨_, _, _, rfl, hl0, Nat.le_refl _, fun h => absurd h (by omega), by omega⟩
          · rename_i b s off len cap
            split at hxs
            · rename_i cs' o' l' hob ho hl
              cases hb : (Nat.beq s ks.length && Nat.ble ((o' + l') * s) cs'.length) with
              | false => rw [hb] at hxs; cases hxs
              | true =>
                rw [hb] at hxs
                simp only [cond_true, Option.some.injEq] at hxs
                simp only [Bool.and_eq_true, beq_iff, Nat.ble_eq] at hb
                obtain ⟨hs, hle⟩ := hb
                obtain ⟨g0, ad, m, c, hg, rfl, hlen, hoff, hmc, hcap, ha, hbd⟩ := hv.sl_inv
                obtain ⟨q1, q2⟩ := bnd (m := m) hg hgo hs hbd
                have e2 : m = l' := by have := litN_i hl ρ; omega
                refine ⟨ad, m, c, rfl, ?_, hmc, fun hc => q1 hc ad (ha hc), q2⟩
                have hxl : xs.length = m * ks.length := by
                  rw [← hxs, List.length_take, List.length_drop, hs]
                  rw [hs, Nat.add_mul] at hle
                  subst e2
                  omega
                rw [hxl] at hll
                exact Nat.eq_of_mul_eq_mul_right (ne_pos hkn) hll
            · cases hxs
          · cases hxs
      · cases h
theorem nst_inv {hp : List (Nat × Ob)} {ns : List NK} {a : AV} {e : SE} {cs : List SE} (h : cellX hp (.nst ns) a = some (e, cs)) : (a = .nils ∧ e = .nil) ∨ ∃ b len cap ob e', a = .sl b ns.length (.int 0) len cap ∧ hget hp b = some ob ∧ (ob = .nrows ns e' ∨ ob = .nro ns e') ∧ ∀ ρ : Env, (e.den ρ).l ≠ [] → (e'.den ρ).l ≠ [] := by
  unfold cellX at h
  simp only at h
  cases hke : ns.isEmpty with
  | true => rw [hke] at h; cases h
  | false =>
    rw [hke] at h
    simp only [cond_false] at h
    split at h
    · cases h; exact .inl ⟨rfl, rfl⟩
    · rename_i b s off len cap
      have main : ∀ (ob : Ob) (ns' : List NK) (e' : SE), hget hp b = some ob → (ob = .nrows ns' e' ∨ ob = .nro ns' e') → (bif Nat.beq s ns.length && decide (ns' = ns) then
          (if off = .int 0 then (if len = .un .len e' ∨ (len = lenE e' ∨ len = lenL e') then some (e', []) else some (mkB .take e' len, [mkB .le (.int 0) len, mkB .le len (mkU .len e')])) else none) else none) = some (e, cs) →
          ∃ b' len' cap' ob e', AV.sl b s off len cap = .sl b' ns.length (.int 0) len' cap' ∧ hget hp b' = some ob ∧ (ob = .nrows ns e' ∨ ob = .nro ns e') ∧ ∀ ρ : Env, (e.den ρ).l ≠ [] → (e'.den ρ).l ≠ [] := by
        clear h
        intro ob ns' e' hob hor h
        cases hb : (Nat.beq s ns.length && decide (ns' = ns)) with
        | false => rw [hb] at h; cases h
        | true =>
          rw [hb] at h
          simp only [cond_true] at h
          simp only [Bool.and_eq_true, beq_iff, decide_eq_true_eq] at hb
          obtain ⟨rfl, rfl⟩ := hb
          split at h
          · rename_i ho
            subst ho
            refine ⟨b, len, cap, ob, e', rfl, hob, hor, ?_⟩
            split at h
            · cases h; exact fun ρ h => h
            · cases h
              intro ρ hn he
              have hl : ((mkB .take e' len).den ρ).l = (e'.den ρ).l.take (len.den ρ).i.toNat := by rw [mkB_den]; rfl
              exact hn (by rw [hl, he]; simp)
          · cases h
      split at h
      · rename_i ns' e' hob; exact .inr (main _ ns' e' hob (.inl rfl) h)
      · rename_i ns' e' hob; exact .inr (main _ ns' e' hob (.inr rfl) h)
      · cases h
    · cases h
theorem nstX {M : Me} {w : World} {ns : List NK} {a : AV} {e : SE} {cs : List SE} {v : Value} (hM : ObR ρ G M w) (h : cellX M.hp (.nst ns) a = some (e, cs)) (hv : VR ρ G a v) :
    ns ≠ [] ∧ ∃ g, gOf ρ G a = some g ∧ NAt w g ns (e.den ρ).l ∧ ((∀ c ∈ cs, (c.den ρ).b = true) → ∃ (ad : Option Addr) (n cp : Nat), v = .slice ad n cp ∧ (e.den ρ).l.length = n ∧ n ≤ cp ∧ (0 < cp → ad = some ⟨g.blk, g.off, none⟩) ∧ cp * ns.length ≤ g.sz) ∧
      ∀ k, Cl.told (.nst ns) (e.den ρ) g k → ∃ b s off len cap ob, a = .sl b s off len cap ∧ hget M.hp b = some ob ∧ G b = some g ∧ ((Solid ρ g ob ∧ g.blk = k) ∨ ob.also g k) := by
  unfold cellX at h
  simp only at h
  cases hke : ns.isEmpty with
  | true => rw [hke] at h; cases h
  | false =>
    rw [hke] at h
    simp only [cond_false] at h
    have hkn : ns ≠ [] := fun e => by rw [e] at hke; cases hke
    refine ⟨hkn, ?_⟩
    split at h
    · cases h
      cases hv
      refine ⟨⟨0, 0, 0, default⟩, rfl, fun i j d k hi => by simp [SE.den, DV.l] at hi, fun _ => ⟨_, _, _, rfl, rfl, Nat.le_refl _, fun h => absurd h (by omega), by omega⟩, fun k hk => ?_⟩
      rcases hk with ⟨hk, _⟩ | ⟨q, a, n, c, hk, _⟩
      · exact absurd rfl hk
      · rw [hd_def] at hk; cases hk
    · rename_i b s off len cap
      obtain ⟨g, ad, n, c, hg, rfl, hlen, hoff, hnc, hcap, had, hsz⟩ := hv.sl_inv
      have main : ∀ (ob : Ob) (ns' : List NK) (e' : SE), hget M.hp b = some ob → (ob = .nrows ns' e' ∨ ob = .nro ns' e') → (bif Nat.beq s ns.length && decide (ns' = ns) then
          (if off = .int 0 then (if len = .un .len e' ∨ (len = lenE e' ∨ len = lenL e') then some (e', []) else some (mkB .take e' len, [mkB .le (.int 0) len, mkB .le len (mkU .len e')])) else none) else none) = some (e, cs) →
          ∃ g, gOf ρ G (.sl b s off len cap) = some g ∧ NAt w g ns (e.den ρ).l ∧ ((∀ c ∈ cs, (c.den ρ).b = true) → ∃ (ad' : Option Addr) (n' cp : Nat), Value.slice ad n c = .slice ad' n' cp ∧ (e.den ρ).l.length = n' ∧ n' ≤ cp ∧ (0 < cp → ad' = some ⟨g.blk, g.off, none⟩) ∧ cp * ns.length ≤ g.sz) ∧
            ∀ k, Cl.told (.nst ns) (e.den ρ) g k → ∃ b' s' off' len' cap' ob, AV.sl b s off len cap = .sl b' s' off' len' cap' ∧ hget M.hp b' = some ob ∧ G b' = some g ∧ ((Solid ρ g ob ∧ g.blk = k) ∨ ob.also g k) := by
        clear h
        intro ob ns' e' hob hor h
        cases hb : (Nat.beq s ns.length && decide (ns' = ns)) with
        | false => rw [hb] at h; cases h
        | true =>
          rw [hb] at h
          simp only [cond_true] at h
          simp only [Bool.and_eq_true, beq_iff, decide_eq_true_eq] at hb
          obtain ⟨rfl, rfl⟩ := hb
          split at h
          · rename_i ho
            subst ho
            have hat : NAt w g ns' (e'.den ρ).l := nest_at hM hg (by rcases hor with h | h <;> subst h; exact .inl hob; exact .inr hob)
            have hgo : gOf ρ G (.sl b ns'.length (.int 0) len cap) = some g := by
              simp only [gOf, hg, Option.map_some, SE.den, DV.i, Int.toNat_zero, Nat.zero_mul, Nat.sub_zero, Nat.add_zero]
            have had' : 0 < c → ad = some ⟨g.blk, g.off, none⟩ := fun hc => by rw [had hc]; simp [SE.den, DV.i]
            have hsz' : c * ns'.length ≤ g.sz := by simpa [SE.den, DV.i] using hsz
            have told : ∀ l : List DV, (l ≠ [] → (e'.den ρ).l ≠ []) → ∀ k, ((l ≠ [] ∧ g.blk = k) ∨ hdk g k) → ∃ b' s' off' len' cap' ob, AV.sl b ns'.length (.int 0) len cap = .sl b' s' off' len' cap' ∧ hget M.hp b' = some ob ∧ G b' = some g ∧ ((Solid ρ g ob ∧ g.blk = k) ∨ ob.also g k) := by
              intro l hl k hk
              refine ⟨b, _, _, len, cap, ob, rfl, hob, hg, ?_⟩
              rcases hk with ⟨hk, hb⟩ | hk
              · refine .inl ⟨?_, hb⟩
                rcases hor with h | h
                · subst h
                  intro hz
                  obtain ⟨g', hg', _, _, hz', _⟩ := hM b _ hob
                  rw [hg] at hg'; cases hg'
                  exact hl hk (hz' hz)
                · subst h; exact hl hk
              · refine .inr ?_
                rcases hor with h | h <;> subst h <;> exact hk
            split at h
            · rename_i hwhole
              cases h
              refine ⟨g, hgo, hat, fun _ => ⟨ad, n, c, rfl, ?_, hnc, had', hsz'⟩, fun k hk => told _ (fun h => h) k hk⟩
              rcases hwhole with h2 | h2 | h2
              · rw [h2] at hlen; have : ((SE.un UO.len e).den ρ).i = (e.den ρ).l.length := rfl; omega
              · have := lenE_den ρ e; rw [h2] at hlen; omega
              · rw [h2, lenL_den] at hlen; simp only [DV.i] at hlen; omega
            · cases h
              have hl : ((mkB .take e' len).den ρ).l = (e'.den ρ).l.take (len.den ρ).i.toNat := by rw [mkB_den]; rfl
              refine ⟨g, hgo, fun i j d k hi hj => ?_, fun hcs => ⟨ad, n, c, rfl, ?_, hnc, had', hsz'⟩, fun k hk => told _ (fun h hn => h (by rw [hl, hn]; simp)) k hk⟩
              rotate_left
              · have c1 := hcs (mkB .le (.int 0) len) (by simp)
                have c2 := hcs (mkB .le len (mkU .len e')) (by simp)
                rw [le_b] at c1 c2
                rw [int_i] at c1
                rw [len_den] at c2
                have c1 := of_decide_eq_true c1
                have c2 : (len.den ρ).i ≤ (e'.den ρ).l.length := of_decide_eq_true c2
                rw [hl, List.length_take]
                omega
              rw [hl] at hi
              rw [List.getElem?_take] at hi
              split at hi
              · exact hat i j d k hi hj
              · cases hi
          · cases h
      split at h
      · rename_i ns' e' hob; exact main _ ns' e' hob (.inl rfl) h
      · rename_i ns' e' hob; exact main _ ns' e' hob (.inr rfl) h
      · cases h
    · cases h
theorem cell_rd {M : Me} {w : World} {c : Cl} {a : AV} {e : SE} {cs : List SE} {v : Value} (hM : ObR ρ G M w) (hal : ∀ c p h k, hget M.hp c = some p → G c = some h → p.also h k → k < w.heap.size) (h : cellX M.hp c a = some (e, cs)) (hcs : ∀ c ∈ cs, (c.den ρ).b = true) (hv : VR ρ G a v) :
    ∃ g, c.rdg w v (e.den ρ) g ∧ gOf ρ G a = some g ∧ ∀ o ks, c = .rows o ks → (e.den ρ).l ≠ [] → Known ρ G M g.blk := by
  cases c with
  | pl k =>
    unfold cellX at h
    simp only at h
    split at h
    · rename_i k' hk
      split at h
      · rename_i hkk
        cases h
        subst hkk
        have hrd : Cl.rdg w (.pl k') v ((seOf a).den ρ) ⟨0, 0, 0, default⟩ := ckOf_val hk hv
        have : gOf ρ G a = some ⟨0, 0, 0, default⟩ := by
          cases a <;> first | rfl | (simp [ckOf] at hk)
        exact ⟨_, hrd, this, fun o ks he => by cases he⟩
      · cases h
    · cases h
  | rows o ks =>
    have hsome : ∀ b s off len cap, a = .sl b s off len cap → (G b).isSome = true := by
      intro b s off len cap ha
      subst ha
      obtain ⟨g0, ad, m, c, hg, _⟩ := hv.sl_inv
      rw [hg]; rfl
    obtain ⟨h1, g, h2, h3, h4⟩ := rowX hM h hsome
    exact ⟨g, ⟨h1, h3, valX hM h hcs hv h2⟩, h2, fun o' ks' he hne => (h4 hne).1⟩
  | nst ns =>
    obtain ⟨h1, g, h2, h3, h4, h5⟩ := nstX hM h hv
    refine ⟨g, ⟨h1, h3, h4 hcs, fun q a n c hq hn => ?_⟩, h2, fun o' ks' he => by cases he⟩
    obtain ⟨b, s, off, len, cap, ob, _, k1, k2, k3⟩ := h5 a.block (.inr ⟨q, a, n, c, hq, hn, rfl⟩)
    rcases k3 with ⟨k3, k4⟩ | k3
    · obtain ⟨g', hg', hor⟩ := hM b ob k1
      rw [k2] at hg'; cases hg'
      rw [← k4]
      exact hor.blk_lt k3
    · exact hal b ob g _ k1 k2 k3
end
end Go.Proofs.YtkfjgggiopegbaaDoor
namespace Go.Proofs.YtkfjgggiopegbaaDoor
open Go.RowKit
section
variable {P : Program} {ρ : Env} {G : Gh}
theorem part_vals {ks : List CK} {l l' : List DV} {arr : Array Value} {o q : Nat} (hq : l'.length = q) (hoq : o + q ≤ l.length) (hfit : l.length * ks.length ≤ arr.size) (hv : ∀ (i j : Nat) (d : DV) (k : CK), l[i]? = some d → ks[j]? = some k → arr[i * ks.length + j]? = some (k.val (cellD ks d j))) :
    ∀ n, n < (l.take o ++ (l' ++ l.drop (o + q))).length * ks.length → (setManyV arr (o * ks.length) (rowVals ks l'))[n]? = (rowVals ks (l.take o ++ (l' ++ l.drop (o + q))))[n]? := by
  intro n hn
  have hnl : (rowVals ks l').length = q * ks.length := by rw [rowVals_length, hq]
  have hlen : (l.take o ++ (l' ++ l.drop (o + q))).length = l.length := by simp [hq]; omega
  rw [hlen] at hn
  have hmul : (o + q) * ks.length ≤ l.length * ks.length := Nat.mul_le_mul_right _ hoq
  rw [Nat.add_mul] at hmul
  have pfx : ∀ m v, (rowVals ks l)[m]? = some v → arr[m]? = some v := fun m v hm => by
    obtain ⟨i, j, d, k, rfl, h1, h2, rfl⟩ := rowVals_inv ks l m v hm
    exact hv i j d k h1 h2
  have pf : ∀ m, m < l.length * ks.length → arr[m]? = (rowVals ks l)[m]? := fun m hm => by
    have : m < (rowVals ks l).length := by rw [rowVals_length]; exact hm
    rw [List.getElem?_eq_getElem this]
    exact pfx m _ (List.getElem?_eq_getElem this)
  rw [setManyV_get _ _ _ _ (by rw [hnl]; omega), hnl, rowVals_append, rowVals_append]
  have hA : (rowVals ks (l.take o)).length = o * ks.length := by rw [rowVals_length, List.length_take, Nat.min_eq_left (by omega)]
  have e1 : rowVals ks l = rowVals ks (l.take o) ++ rowVals ks (l.drop o) := by rw [← rowVals_append, List.take_append_drop]
  have e2 : rowVals ks l = rowVals ks (l.take (o + q)) ++ rowVals ks (l.drop (o + q)) := by rw [← rowVals_append, List.take_append_drop]
  have hB : (rowVals ks (l.take (o + q))).length = o * ks.length + q * ks.length := by rw [rowVals_length, List.length_take, Nat.min_eq_left hoq, Nat.add_mul]
  by_cases h1 : n < o * ks.length
  · rw [if_neg (by omega), pf n hn, e1, List.getElem?_append_left (by omega), List.getElem?_append_left (by omega)]
  · by_cases h2 : n < o * ks.length + q * ks.length
    · rw [if_pos ⟨by omega, h2⟩, List.getElem?_append_right (by omega), hA, List.getElem?_append_left (by omega)]
    · rw [if_neg (by omega), pf n hn, e2, List.getElem?_append_right (by omega), hB, List.getElem?_append_right (by omega), hA, List.getElem?_append_right (by omega), hnl]
      congr 1
      omega
theorem copyX_ok {t xt : TypeId} {ty : TypeId} {M M' : Me} {w : World} {d x r : AV} {cs : List SE} {u v : Value} (hM : MR ρ G M w) (h : copyX P t M d x = some (r, M', cs)) (hcs : ∀ c ∈ cs, (c.den ρ).b = true) (hd : VR ρ G d u) (hx : VR ρ G x v) :
    Does P ρ G M w (Builtin.copy_ #[t, xt] ty #[u, v]) r M' := by
  unfold copyX at h
  split at h
  · rename_i r' hr
    cases h
    exact copy_ok hM hr hcs hd hx
  unfold copyB at h
  split at h
  · rename_i el b s off len cap hu hno
    split at h
    · rename_i n hsz
      cases hb : Nat.beq s (n + 1) with
      | false => rw [hb] at h; cases h
      | true =>
        rw [hb] at h
        simp only [cond_true] at h
        have hb := (beq_iff _ _).1 hb
        subst hb
        split at h
        · rename_i ks e hob
          cases hk : Nat.beq ks.length (n + 1) with
          | false => rw [hk] at h; cases h
          | true =>
            rw [hk] at h
            simp only [cond_true] at h
            have hk := (beq_iff _ _).1 hk
            split at h
            · rename_i e' cs' hce
              cases h
              have c0 := hcs (mkB .le (mkB .add off len) (mkU .len e)) (by simp)
              rw [le_b, len_den, mkB_den] at c0
              have c0 : (off.den ρ).i + (len.den ρ).i ≤ (e.den ρ).l.length := of_decide_eq_true c0
              have hsome : ∀ b s off len cap, x = .sl b s off len cap → (G b).isSome = true := fun b s off len cap hxe => by
                subst hxe
                obtain ⟨g, _, _, _, hg, _⟩ := hx.sl_inv
                rw [hg]; rfl
              obtain ⟨hkn, g', hgo', hat, _⟩ := rowX hM.ob hce hsome
              obtain ⟨ad, n', cp', rfl, hl', hncp, had, _⟩ := valX hM.ob hce (fun c hc => hcs c (by simp [hc])) hx hgo'
              obtain ⟨g, a, m0, c, hg, rfl, hlen, hoff, hmc, hcap, ha, hbd⟩ := hd.sl_inv
              obtain ⟨g2, hg2, hgo, hks2, hvirt, hreal⟩ := hM.ob _ _ hob
              rw [hg] at hg2; cases hg2
              have hm : ((mkT .ite (mkB .le len (lenE e')) len (lenE e')).den ρ).i = (Nat.min n' m0 : Nat) := by
                rw [mkT_den, mkB_den, lenE_dv]
                show (if decide ((len.den ρ).i ≤ ((e'.den ρ).l.length : Int)) then len.den ρ else DV.int ((e'.den ρ).l.length : Int)).i = _
                rw [hlen, hl']
                by_cases hle : (m0 : Int) ≤ n'
                · simp only [hle, decide_true, if_true, hlen]
                  rw [show Nat.min n' m0 = min n' m0 from rfl]; omega
                · simp only [hle, decide_false]
                  show (n' : Int) = _
                  rw [show Nat.min n' m0 = min n' m0 from rfl]; omega
              generalize hqq : Nat.min n' m0 = q at hm
              have hq1 : q ≤ n' := by rw [← hqq]; exact Nat.min_le_left _ _
              have hq2 : q ≤ m0 := by rw [← hqq]; exact Nat.min_le_right _ _
              generalize mkT .ite (mkB .le len (lenE e')) len (lenE e') = mm at hm
              have ho := Int.toNat_of_nonneg hoff
              generalize hoN : (off.den ρ).i.toNat = o at ho ha hbd
              have hden : ((mkB .app (mkB .take e off) (mkB .app (mkB .take e' mm) (mkB .drop e (mkB .add off mm)))).den ρ).l = (e.den ρ).l.take o ++ ((e'.den ρ).l.take q ++ (e.den ρ).l.drop (o + q)) := by
                rw [mkB_den, mkB_den, mkB_den, mkB_den, mkB_den, mkB_den]
                show (e.den ρ).l.take (off.den ρ).i.toNat ++ ((e'.den ρ).l.take (mm.den ρ).i.toNat ++ (e.den ρ).l.drop ((off.den ρ).i + (mm.den ρ).i).toNat) = _
                rw [hm, hoN, show ((off.den ρ).i + (q : Int)).toNat = o + q by omega]
                rfl
              have hoq : o + q ≤ (e.den ρ).l.length := by omega
              have htl : ((e'.den ρ).l.take q).length = q := by rw [List.length_take]; omega
              have hnl : (rowVals ks ((e'.den ρ).l.take q)).length = q * (n + 1) := by rw [rowVals_length, htl, hk]
              have hsrc : Src P w (n + 1) (.slice ad q cp') q (rowVals ks ((e'.den ρ).l.take q)) := src_slice hnl fun j v hj => by
                obtain ⟨i, j', dd, k, rfl, h1, h2, rfl⟩ := rowVals_inv ks _ j v hj
                have hi : i < q := by rw [← htl]; exact (List.getElem?_eq_some_iff.1 h1).1
                rw [List.getElem?_take, if_pos hi] at h1
                refine ⟨g'.blk, g'.off, had (by omega), ?_⟩
                have := hat i j' dd k h1 h2
                rw [← Nat.add_assoc]
                exact this
              have hrf : (Builtin.firstCells (n + 1) q (.slice ad n' cp')).run P w = .ok (rowVals ks ((e'.den ρ).l.take q)).toArray w := by
                have := hsrc.first w rfl
                cases ad <;> exact this
              have hrl : (Builtin.lenOf (.slice ad n' cp')).run P w = .ok n' w := rfl
              have hone := rowVals_one ks ((e'.den ρ).l.take q)
              by_cases hq0 : q = 0
              · subst hq0
                have hsame : ((mkB .app (mkB .take e off) (mkB .app (mkB .take e' mm) (mkB .drop e (mkB .add off mm)))).den ρ).l = (e.den ρ).l := by
                  rw [hden, List.take_zero, List.nil_append, Nat.add_zero, List.take_append_drop]
                obtain ⟨k1, k2⟩ := hM.sameRow hob hsame
                have hnil : (rowVals ks ((e'.den ρ).l.take 0)) = [] := by rw [List.take_zero]; rfl
                rw [hnil] at hrf
                refine ⟨goInt (0 : Nat), w, G, ?_, k1, k2, goInt_ok _ _ hm⟩
                cases a <;> simp [Builtin.copy_, run_underlying hu, Sem.run_bind, hrl, size_ok hsz w, hrf, storeCells, hqq]
              · have hz0 : g.sz ≠ 0 := fun h => by
                  rw [h] at hbd
                  rcases Nat.mul_eq_zero.1 (Nat.le_zero.1 hbd) with h | h <;> omega
                obtain ⟨arr, tt, hheap, hasz, hfit, hvr⟩ := hreal hz0
                rw [ha (by omega), hgo, Nat.zero_add]
                have hbd2 : o * (n + 1) + q * (n + 1) ≤ arr.size := by
                  rw [hasz]
                  refine Nat.le_trans ?_ hbd
                  rw [← Nat.add_mul]
                  exact Nat.mul_le_mul_right _ (by omega)
                have hst := storeCells_ok (P := P) hheap hasz (rowVals ks ((e'.den ρ).l.take q)) (o := o * (n + 1)) (by rw [hnl]; exact hbd2) hone
                obtain ⟨k1, k2, k3, k4, k5, k6⟩ := setCells_heap g.blk (rowVals ks ((e'.den ρ).l.take q)) (o * (n + 1)) w
                have hpart := part_vals (ks := ks) (l := (e.den ρ).l) (l' := (e'.den ρ).l.take q) (arr := arr) (o := o) htl hoq hfit hvr
                obtain ⟨h1, h2⟩ := hM.turn (w' := w.setCells g.blk (o * (n + 1)) (rowVals ks ((e'.den ρ).l.take q))) (.rows ks (mkB .app (mkB .take e off) (mkB .app (mkB .take e' mm) (mkB .drop e (mkB .add off mm))))) hob hg rfl rfl hz0 k2 k3 k4 (Nat.le_of_eq k1.symm) (fun k _ hk => k5 k hk)
                  ⟨hgo, hks2, fun h => absurd h hz0, fun _ => ⟨_, tt, k6 arr _ _ hheap, by rw [setManyV_size]; exact hasz, by rw [setManyV_size, hden]; refine Nat.le_trans (Nat.mul_le_mul_right _ ?_) hfit; simp; omega, by rw [hden, ← hk]; exact row_prefix hpart⟩⟩
                refine ⟨goInt q, _, G, ?_, h1, h2, goInt_ok _ _ hm⟩
                simp [Builtin.copy_, run_underlying hu, Sem.run_bind, hrl, size_ok hsz w, hrf, hst, hqq]
            · cases h
        · cases h
    · cases h
  · cases h
end
end Go.Proofs.YtkfjgggiopegbaaDoor
namespace Go.Proofs.YtkfjgggiopegbaaDoor
open Go.RowKit
def rounds (f : List DV → (List DV → Prop) → Prop) : Nat → List DV → List DV → Prop
  | 0, x, z => x = z
  | n + 1, x, z => f x fun y => rounds f n y z
def Over (ρ ρ' : Env) (nv : Nat) (x : List DV) : Prop := Agree nv ρ ρ' ∧ ∀ (j : Nat) (d : DV), x[j]? = some d → ρ' (nv + j) = d
def T.sat (t : T) (Q : Lf → Prop) (ρ : Env) : Prop :=
  match t with
  | .ret l => Q l
  | .br c t e => ((c.den ρ).b = true → t.sat Q ρ) ∧ ((c.den ρ).b = false → e.sat Q ρ)
  | .asrt c t => (c.den ρ).b = true ∧ t.sat Q ρ
  | .both t e => t.sat Q ρ ∧ e.sat Q ρ
  | .fail _ => False
  | .loop nv x0 body rest => (∃ n, rounds (fun x K => ∃ ρ', Over ρ ρ' nv x ∧ body.sat (fun l => ∃ xs, l = .nxt xs ∧ K (xs.map (·.den ρ'))) ρ') n (x0.map (·.den ρ)) ((List.range x0.length).map fun j => ρ (nv + j))) ∧ rest.sat Q ρ
section
variable {P : Program} {ρ : Env} {G G' : Gh} {Q : Lf → Prop}
theorem Tr.get_lf (m : Nat) : Tr.lf.get m = none := Tr.get_lf0 m
theorem Tr.get_set : ∀ (f : Nat) (t t' : Tr) (n : Nat) (x : AV), Tr.set f t n x = some t' → ∀ m, t'.get m = if m = n then some x else t.get m
  | 0, t, t', n, x, h => by cases h
  | f + 1, .lf, t', n, x, h => by
    intro m
    unfold Tr.set at h
    cases n with
    | zero =>
      cases h
      cases m with
      | zero => rfl
      | succ m => simp [Tr.get_s, Tr.get_lf0]
    | succ n =>
      simp only at h
      cases hp : Nat.beq (n % 2) 0 with
      | true =>
        rw [hp] at h
        simp only [cond_true] at h
        split at h
        · rename_i l hl
          cases h
          have ih := Tr.get_set f .lf l (n / 2) x hl
          cases m with
          | zero => simp [Tr.get_0, Tr.get_lf0]
          | succ m =>
            simp only [Tr.get_s, Tr.get_lf0]
            cases hq : Nat.beq (m % 2) 0 with
            | true =>
              simp only [cond_true]
              rw [ih, Tr.get_lf]
              have e1 := (beq_iff _ _).1 hp
              have e2 := (beq_iff _ _).1 hq
              by_cases hmn : m = n
              · subst hmn; simp
              · rw [if_neg (by omega), if_neg (by omega)]
            | false =>
              simp only [cond_false]
              rw [if_neg]
              intro e
              have : m = n := by omega
              subst this
              rw [hp] at hq; cases hq
        · cases h
      | false =>
        rw [hp] at h
        simp only [cond_false] at h
        split at h
        · rename_i l hl
          cases h
          have ih := Tr.get_set f .lf l (n / 2) x hl
          cases m with
          | zero => simp [Tr.get_0, Tr.get_lf0]
          | succ m =>
            simp only [Tr.get_s, Tr.get_lf0]
            cases hq : Nat.beq (m % 2) 0 with
            | false =>
              simp only [cond_false]
              rw [ih, Tr.get_lf]
              have e1 : n % 2 ≠ 0 := fun e => by rw [e] at hp; cases hp
              have e2 : m % 2 ≠ 0 := fun e => by rw [e] at hq; cases hq
              by_cases hmn : m = n
              · subst hmn; simp
              · rw [if_neg (by omega), if_neg (by omega)]
            | true =>
              simp only [cond_true]
              rw [if_neg]
              intro e
              have : m = n := by omega
              subst this
              rw [hp] at hq; cases hq
        · cases h
  | f + 1, .nd v l r, t', n, x, h => by
    intro m
    unfold Tr.set at h
    cases n with
    | zero =>
      cases h
      cases m with
      | zero => simp [Tr.get_0]
      | succ m => simp [Tr.get_s]
    | succ n =>
      simp only at h
      cases hp : Nat.beq (n % 2) 0 with
      | true =>
        rw [hp] at h
        simp only [cond_true] at h
        split at h
        · rename_i l' hl
          cases h
          have ih := Tr.get_set f l l' (n / 2) x hl
          cases m with
          | zero => simp [Tr.get_0]
          | succ m =>
            simp only [Tr.get_s]
            cases hq : Nat.beq (m % 2) 0 with
            | true =>
              simp only [cond_true]
              rw [ih]
              have e1 := (beq_iff _ _).1 hp
              have e2 := (beq_iff _ _).1 hq
              by_cases hmn : m = n
              · subst hmn; simp
              · rw [if_neg (by omega), if_neg (by omega)]
            | false =>
              simp only [cond_false]
              rw [if_neg]
              intro e
              have : m = n := by omega
              subst this
              rw [hp] at hq; cases hq
        · cases h
      | false =>
        rw [hp] at h
        simp only [cond_false] at h
        split at h
        · rename_i r' hl
          cases h
          have ih := Tr.get_set f r r' (n / 2) x hl
          cases m with
          | zero => simp [Tr.get_0]
          | succ m =>
            simp only [Tr.get_s]
            cases hq : Nat.beq (m % 2) 0 with
            | false =>
              simp only [cond_false]
              rw [ih]
              have e1 : n % 2 ≠ 0 := fun e => by rw [e] at hp; cases hp
              have e2 : m % 2 ≠ 0 := fun e => by rw [e] at hq; cases hq
              by_cases hmn : m = n
              · subst hmn; simp
              · rw [if_neg (by omega), if_neg (by omega)]
            | true =>
              simp only [cond_true]
              rw [if_neg]
              intro e
              have : m = n := by omega
              subst this
              rw [hp] at hq; cases hq
        · cases h
theorem Tr.get_put : ∀ (t t' : Tr) (n : Nat) (x : AV), Tr.put t n x = some t' → ∀ m, t'.get m = if m = n then some x else t.get m
  | .lf, t', n, x, h => Tr.get_set 20 .lf t' n x (by rw [← Tr.put_lf]; exact h)
  | .nd v l r, t', n, x, h => by
    intro m
    rw [Tr.put_eq] at h
    cases n with
    | zero =>
      cases h
      cases m with
      | zero => simp [Tr.get_0]
      | succ m => simp [Tr.get_s]
    | succ n =>
      simp only at h
      cases hp : Nat.beq (n % 2) 0 with
      | true =>
        rw [hp] at h
        simp only [cond_true] at h
        split at h
        · rename_i l' hl
          cases h
          have ih := Tr.get_put l l' (n / 2) x hl
          cases m with
          | zero => simp [Tr.get_0]
          | succ m =>
            simp only [Tr.get_s]
            cases hq : Nat.beq (m % 2) 0 with
            | true =>
              simp only [cond_true]
              rw [ih]
              have e1 := (beq_iff _ _).1 hp
              have e2 := (beq_iff _ _).1 hq
              by_cases hmn : m = n
              · subst hmn; simp
              · rw [if_neg (by omega), if_neg (by omega)]
            | false =>
              simp only [cond_false]
              rw [if_neg]
              intro e
              have : m = n := by omega
              subst this
              rw [hp] at hq; cases hq
        · cases h
      | false =>
        rw [hp] at h
        simp only [cond_false] at h
        split at h
        · rename_i r' hl
          cases h
          have ih := Tr.get_put r r' (n / 2) x hl
          cases m with
          | zero => simp [Tr.get_0]
          | succ m =>
            simp only [Tr.get_s]
            cases hq : Nat.beq (m % 2) 0 with
            | false =>
              simp only [cond_false]
              rw [ih]
              have e1 : n % 2 ≠ 0 := fun e => by rw [e] at hp; cases hp
              have e2 : m % 2 ≠ 0 := fun e => by rw [e] at hq; cases hq
              by_cases hmn : m = n
              · subst hmn; simp
              · rw [if_neg (by omega), if_neg (by omega)]
            | true =>
              simp only [cond_true]
              rw [if_neg]
              intro e
              have : m = n := by omega
              subst this
              rw [hp] at hq; cases hq
        · cases h
def DfR1 (ρ : Env) (G : Gh) (f : AV) (as : List AV) (d : Deferred) : Prop :=
  (∃ fn first cap vf vc va, f = .func fn first cap ∧ VRs ρ G first vf ∧ VRs ρ G cap vc ∧ VRs ρ G as va ∧ d = { target := .fn fn vc, args := vf ++ va }) ∨
  (∃ b g, f = .yld b ∧ G b = some g ∧ d = { target := .collected g.blk, args := #[] })
def DfR (ρ : Env) (G : Gh) : List (AV × List AV) → List Deferred → Prop
  | [], [] => True
  | (f, as) :: r, d :: ds => DfR1 ρ G f as d ∧ DfR ρ G r ds
  | _, _ => False
theorem DfR1.mono {G G' : Gh} (hG : G.le G') {f : AV} {as : List AV} {d : Deferred} : DfR1 ρ G f as d → DfR1 ρ G' f as d
  | .inl ⟨fn, first, cap, vf, vc, va, h1, h2, h3, h4, h5⟩ => .inl ⟨fn, first, cap, vf, vc, va, h1, h2.mono hG, h3.mono hG, h4.mono hG, h5⟩
  | .inr ⟨b, g, h1, h2, h3⟩ => .inr ⟨b, g, h1, hG _ _ h2, h3⟩
theorem DfR.mono {G G' : Gh} (hG : G.le G') : ∀ {l : List (AV × List AV)} {ds : List Deferred}, DfR ρ G l ds → DfR ρ G' l ds
  | [], [], _ => trivial
  | (f, as) :: r, d :: ds, ⟨h1, h⟩ => ⟨h1.mono hG, DfR.mono hG h⟩
structure FR (ρ : Env) (G : Gh) (F : Fr) (a : Act) : Prop where
  n : a.tmps.size = F.n
  tm : ∀ t v, F.tm.get t = some v → VR ρ G v (a.tmps.getD t undef)
  df : DfR ρ G F.df a.defers
theorem FR.mono {F : Fr} {a : Act} (h : FR ρ G F a) (hG : G.le G') : FR ρ G' F a := ⟨h.n, fun t v ht => (h.tm t v ht).mono hG, DfR.mono hG h.df⟩
theorem FR.ev {F : Fr} {a : Act} (h : FR ρ G F a) (x : Operand) : VR ρ G (ev F x) (a.eval x) := by
  cases x with
  | tmp t =>
    show VR ρ G ((F.tm.get t).getD .any) _
    cases ht : F.tm.get t with
    | none => exact .any _
    | some v => exact h.tm t v ht
  | const v => exact litV_ok v
  | global g => exact .any _
  | func f => exact .func _ _ _ _ _ rfl rfl (fun i a v h => by simp at h) (fun i a v h => by simp at h)
theorem FR.slot {F : Fr} {a : Act} (h : FR ρ G F a) (t : Nat) : VR ρ G ((F.tm.get t).getD .any) (a.tmps.getD t undef) := h.ev (.tmp t)
end
end Go.Proofs.YtkfjgggiopegbaaDoor
namespace Go.Proofs.YtkfjgggiopegbaaDoor
open Go.RowKit
theorem same_list {f : Nat} (ih : ∀ x y, AV.same f x y = true → x = y) : ∀ (a b : List AV), (Nat.beq a.length b.length && (a.zip b).all fun p => AV.same f p.1 p.2) = true → a = b
  | [], [], _ => rfl
  | [], y :: b, h => by simp at h
  | x :: a, [], h => by simp at h
  | x :: a, y :: b, h => by
    simp only [List.zip_cons_cons, List.all_cons, Bool.and_eq_true, beq_iff, List.length_cons] at h
    rw [ih x y h.2.1, same_list ih a b (by simp only [Bool.and_eq_true, beq_iff]; exact ⟨by omega, h.2.2⟩)]
theorem same_eq : ∀ (f : Nat) (x y : AV), AV.same f x y = true → x = y
  | 0, x, y, h => by cases h
  | f + 1, x, y, h => by
    have ih := same_eq f
    have hl := same_list ih
    unfold AV.same at h
    simp only at h
    split at h <;> simp only [Bool.and_eq_true, decide_eq_true_eq, beq_iff] at h hl
    all_goals first
      | cases h; done
      | rfl
      | (obtain ⟨h1, h2⟩ := h; subst h1; subst h2; rfl)
      | (subst h; rfl)
      | (obtain ⟨⟨⟨h1, h2⟩, h3⟩, h4⟩ := h; subst h1; subst h2; subst h3; subst h4; rfl)
      | (obtain ⟨⟨⟨⟨h1, h2⟩, h3⟩, h4⟩, h5⟩ := h; subst h1; subst h2; subst h3; subst h4; subst h5; rfl)
      | (obtain ⟨⟨h1, h2⟩, h3⟩ := h; rw [h1, hl _ _ h2, hl _ _ h3])
      | (obtain ⟨h1, h2⟩ := h; rw [h1, ih _ _ h2])
      | (rw [hl _ _ h])
      | (obtain ⟨h1, h2, h3, h4, h5, h6⟩ := h; subst h1; subst h2; subst h3; subst h4; subst h5; subst h6; rfl)
      | (obtain ⟨h1, h2, h3, h4, h5, h6, h7⟩ := h; subst h1; subst h2; subst h3; subst h4; subst h5; subst h6; subst h7; rfl)
section
variable {P : Program} {ρ : Env} {G G' : Gh} {Q : Lf → Prop}
theorem opV_congr {o : Oper} {f g : Operand → AV} (h : ∀ x ∈ o.op.operands, f x = g x) : opV P o f = opV P o g := by
  obtain ⟨dst, op, type, pos, after, guard⟩ := o
  have pairs : ∀ ps : Array (Nat × Operand), (∀ x ∈ ps.map (·.2), f x = g x) → (ps.toList.map fun p => (p.1, f p.2)) = (ps.toList.map fun p => (p.1, g p.2)) := fun ps hp =>
    List.map_congr_left fun p hm => by rw [hp p.2 (Array.mem_map.2 ⟨p, Array.mem_toList_iff.1 hm, rfl⟩)]
  have lst : ∀ ps : Array Operand, (∀ x ∈ ps, f x = g x) → ps.toList.map f = ps.toList.map g := fun ps hp => List.map_congr_left fun x hx => hp x (Array.mem_toList_iff.1 hx)
  cases op <;> simp only [Op.operands] at h <;> simp only [opV]
  case build t ps => rw [pairs ps fun x hx => h x (by simpa using hx)]
  case makeFunc fn first captured => rw [lst first fun x hx => h x (by simp [hx]), lst captured fun x hx => h x (by simp [hx])]
  case slice t x lo hi mx => cases lo <;> cases hi <;> cases mx <;> simp_all
  case call c =>
    obtain ⟨callee, args, at'⟩ := c
    cases callee with
    | builtin b => simp only; rw [lst args fun x hx => h x (by simp [Call.operands, hx])]
    | _ => rfl
  all_goals (first | rfl | (simp_all; done))
theorem opA_congr {o : Oper} {f g : Operand → AV} (h : ∀ x ∈ o.op.operands, f x = g x) : opA P o f = opA P o g := by
  obtain ⟨dst, op, type, pos, after, guard⟩ := o
  have pairs : ∀ ps : Array (Nat × Operand), (∀ x ∈ ps.map (·.2), f x = g x) → (ps.toList.map fun p => (p.1, f p.2)) = (ps.toList.map fun p => (p.1, g p.2)) := fun ps hp =>
    List.map_congr_left fun p hm => by rw [hp p.2 (Array.mem_map.2 ⟨p, Array.mem_toList_iff.1 hm, rfl⟩)]
  cases op <;> simp only [Op.operands] at h <;> simp only [opA]
  case buildSlice t n ps => rw [pairs ps fun x hx => h x (by simpa using hx)]
  case makeMap t r => cases r <;> rfl
  all_goals (first | rfl | (simp_all; done))
theorem test_pc {M : Me} {c : SE} {k : Bool → Me → T} (h : (test M c k).sat Q ρ) (hpc : holdsAll ρ M.pc) : ∃ p, (k (c.den ρ).b { M with pc := p }).sat Q ρ ∧ holdsAll ρ p := by
  unfold test at h
  split at h
  · rename_i b hb
    rw [known_den hpc hb]
    exact ⟨M.pc, h, hpc⟩
  · cases hc : (c.den ρ).b with
    | true => exact ⟨_, h.1 hc, lay_holds hpc hc⟩
    | false => exact ⟨_, h.2 hc, lay_holds hpc hc⟩
theorem needs_pc : ∀ (cs : List SE) {M : Me} {k : Me → T}, (needs M cs k).sat Q ρ → holdsAll ρ M.pc → (∀ c ∈ cs, (c.den ρ).b = true) ∧ ∃ p, (k { M with pc := p }).sat Q ρ ∧ holdsAll ρ p
  | [], M, k, h, hM => ⟨fun c hc => by simp at hc, M.pc, h, hM⟩
  | c :: r, M, k, h, hM => by
    have h1 : (c.den ρ).b = true ∧ ∃ p, (needs { M with pc := p } r k).sat Q ρ ∧ holdsAll ρ p := by
      unfold needs need at h
      split at h
      · rename_i hb; exact ⟨known_den hM hb, M.pc, h, hM⟩
      · exact h.elim
      · exact ⟨h.1, _, h.2, lay_holds hM h.1⟩
    obtain ⟨h1, p, h2, h3⟩ := h1
    obtain ⟨h4, p', h5, h6⟩ := needs_pc r h2 h3
    exact ⟨fun d hd => by rcases List.mem_cons.1 hd with rfl | hd; exact h1; exact h4 d hd, p', h5, h6⟩
theorem MR.pcs {M : Me} {w : World} (h : MR ρ G M w) {p : PC} (hp : holdsAll ρ p) : MR ρ G { M with pc := p } w := ⟨hp, h.fresh, h.ob, h.apart, h.sub⟩
def Knows (ρ : Env) (G : Gh) (F : Fr) (a : Act) (ops : Array Oper) (o : Oper) : Prop := ∀ t ∈ tmpsOf ops o, VR ρ G ((F.tm.get t).getD .any) (a.tmps.getD t undef)
theorem FR.knows {F : Fr} {a : Act} (h : FR ρ G F a) (ops : Array Oper) (o : Oper) : Knows ρ G F a ops o := fun t _ => h.slot t
theorem ev_ok {F : Fr} {a : Act} (x : Operand) (h : ∀ t, x = .tmp t → VR ρ G ((F.tm.get t).getD .any) (a.tmps.getD t undef)) : VR ρ G (ev F x) (a.eval x) := by
  cases x with
  | tmp t => exact h t rfl
  | const v => exact litV_ok v
  | global g => exact .any _
  | func f => exact .func _ _ _ _ _ rfl rfl (fun i a v h => by simp at h) (fun i a v h => by simp at h)
theorem Knows.ops {F : Fr} {a : Act} {ops : Array Oper} {o : Oper} (h : Knows ρ G F a ops o) : ∀ x ∈ o.op.operands, VR ρ G (ev F x) (a.eval x) := fun x hx => ev_ok x fun t ht => h t (by
  subst ht
  exact List.mem_append_right _ (List.mem_filterMap.2 ⟨.tmp t, Array.mem_toList_iff.2 hx, rfl⟩))
def Guards (ρ : Env) (ops : Array Oper) (F : Fr) (o : Oper) (b : Bool) : Prop := ∀ G a, Knows ρ G F a ops o → Region.wanted o (yielded ops a.tmps) = b
theorem guard_sat {ops : Array Oper} {F : Fr} {o : Oper} {M : Me} {yes no : Me → T} (h : (guardA ops F o M yes no).sat Q ρ) (hpc : holdsAll ρ M.pc) :
    ∃ p, holdsAll ρ p ∧ (((yes { M with pc := p }).sat Q ρ ∧ Guards ρ ops F o true) ∨ ((no { M with pc := p }).sat Q ρ ∧ Guards ρ ops F o false)) := by
  unfold guardA at h
  split at h
  · rename_i hg
    exact ⟨M.pc, hpc, .inl ⟨h, fun G a _ => by simp [Region.wanted, hg]⟩⟩
  · rename_i j want hg
    split at h
    · rename_i d hd
      have hmem : d ∈ tmpsOf ops o := List.mem_append_left _ (by rw [hg]; simp only [hd, Option.toList_some, List.mem_singleton])
      have hy : ∀ (a : Act) (v : Value), a.tmps.getD d undef = v → yielded ops a.tmps j = (match v with | .bool b => if d < a.tmps.size then some b else none | _ => none) := by
        intro a v hv
        unfold yielded
        rw [hd]
        simp only [Option.bind_some]
        rw [← hv, Array.getD_eq_getD_getElem?]
        by_cases hlt : d < a.tmps.size
        · rw [Array.getElem?_eq_getElem hlt]
          simp only [Option.getD_some, if_pos hlt]
          generalize a.tmps[d] = x
          cases x <;> rfl
        · rw [Array.getElem?_eq_none (Nat.le_of_not_lt hlt)]
          rfl
      split at h
      · rename_i e he
        obtain ⟨p, h1, h2⟩ := test_pc h hpc
        have key : ∀ G a, Knows ρ G F a ops o → Region.wanted o (yielded ops a.tmps) = decide ((e.den ρ).b = want) := by
          intro G a hk
          have := hk d hmem
          rw [he] at this
          have hv := this.bool_inv
          have hlt : d < a.tmps.size := by
            rcases Nat.lt_or_ge d a.tmps.size with h | h
            · exact h
            · rw [Array.getD_eq_getD_getElem?, Array.getElem?_eq_none h] at hv; cases hv
          unfold Region.wanted
          rw [hg]
          simp only
          rw [hy a _ hv]
          simp only [if_pos hlt]
          cases (e.den ρ).b <;> cases want <;> rfl
        refine ⟨p, h2, ?_⟩
        by_cases hw : (e.den ρ).b = want
        · rw [if_pos hw] at h1; exact .inl ⟨h1, fun G a hk => by rw [key G a hk]; simp [hw]⟩
        · rw [if_neg hw] at h1; exact .inr ⟨h1, fun G a hk => by rw [key G a hk]; simp [hw]⟩
      · rename_i he
        refine ⟨M.pc, hpc, .inr ⟨h, fun G a hk => ?_⟩⟩
        have := hk d hmem
        rw [he] at this
        obtain ⟨vs, hv, hs⟩ := this.tup_inv
        unfold Region.wanted
        rw [hg]
        simp only
        rw [hy a _ hv]
        rfl
      · exact h.elim
    · exact h.elim
def Lit (P : Program) (ρ : Env) (F : Fr) (hp : List (Nat × Ob)) (o : Oper) (q : Nat) (v : AV) (ob : Option Ob) : Prop :=
  ∀ (G : Gh) (a : Act) (w : World), (∀ x ∈ o.op.operands, VR ρ G (ev F x) (a.eval x)) → (∀ b o g, hget hp b = some o → G b = some g → OR ρ G w g o) →
    match ob with
    | none => ∃ z, (execOp a.eval o).run P w = .ok (.value z) w ∧ VR ρ G v z
    | some ob => ∃ f, v = f q ∧ Lays P ρ G (execOp a.eval o) w ob f
theorem Lit.mono {F : Fr} {hp hp' : List (Nat × Ob)} {o : Oper} {q : Nat} {v : AV} {ob : Option Ob} (h : Lit P ρ F hp o q v ob) (hs : ∀ b x, hget hp b = some x → hget hp' b = some x) : Lit P ρ F hp' o q v ob := fun G a w hx hm => h G a w hx fun b x g hb hg => hm b x g (hs b x hb) hg
def hpOf (o : Oper) (hp : List (Nat × Ob)) : List (Nat × Ob) := if kindOf o = .l then hp else []
theorem hpOf_sub (o : Oper) (hp : List (Nat × Ob)) : ∀ b x, hget (hpOf o hp) b = some x → hget hp b = some x := fun b x h => by
  unfold hpOf at h
  split at h
  · exact h
  · simp [hget_nil] at h
theorem only_hp (G : Gh) (hp : List (Nat × Ob)) : ∃ hp', ∀ b, hget hp' b = if (G b).isSome then hget hp b else none := by
  refine ⟨hp.filter fun p => (G p.1).isSome, fun b => ?_⟩
  induction hp with
  | nil => simp [hget_nil]
  | cons p r ih =>
    obtain ⟨c, o⟩ := p
    simp only [List.filter_cons]
    by_cases hc : (G c).isSome = true
    · rw [if_pos hc]
      simp only [hget_cons]
      by_cases hcb : c = b
      · subst hcb; rw [if_pos rfl, if_pos hc, if_pos rfl]
      · rw [if_neg hcb, if_neg hcb, ih]
    · rw [if_neg hc]
      simp only [hget_cons]
      by_cases hcb : c = b
      · subst hcb; rw [ih, if_neg hc, if_neg hc]
      · rw [if_neg hcb, ih]
theorem readA_hp {hp hp' : List (Nat × Ob)} {t : TypeId} {a : AV} {u : Value} (hb : ∀ b g, G b = some g → hget hp' b = hget hp b) (ha : VR ρ G a u) : readA P hp' t a = readA P hp t a := by
  unfold readA
  cases ha with
  | ptr b o g u hg => simp only [hb b g hg]
  | elt b s i j g u h1 h2 => simp only [hb b g h1]
  | nelt b s i j ks x q g blk off n c h1 h2 => simp only [hb b g h1]
  | _ => rfl
theorem cellX_hp {hp hp' : List (Nat × Ob)} {o : Bool} {ks : List CK} {a : AV} {u : Value} (hb : ∀ b g, G b = some g → hget hp' b = hget hp b) (ha : VR ρ G a u) : cellX hp' (.rows o ks) a = cellX hp (.rows o ks) a := by
  unfold cellX
  cases ha with
  | sl b s off len cap g a n c hg => simp only [srcRows, srcCells, hb b g hg]
  | _ => rfl
theorem fold_bytes (l : List DV) : ∀ s : List UInt8, (l.map DV.i).foldl (fun r n => r.push (UInt8.ofNat n.toNat)) (bytesOf s) = bytesOf (s ++ l.map fun d => UInt8.ofNat d.i.toNat) := by
  induction l with
  | nil => intro s; simp
  | cons d r ih =>
    intro s
    simp only [List.map_cons, List.foldl_cons]
    have : (bytesOf s).push (UInt8.ofNat d.i.toNat) = bytesOf (s ++ [UInt8.ofNat d.i.toNat]) := by
      show ByteArray.mk (s.toArray.push _) = ByteArray.mk _
      simp
    rw [this, ih, List.append_assoc]
    rfl
theorem bytes_ok {M : Me} {w : World} {x : AV} {e : SE} {cs : List SE} {u : Value} {s d el : TypeId} (hs : P.underlying s = some (.slice el)) (he : P.underlying el = some (.int .u8)) (hd : P.underlying d = some .string) (hM : ObR ρ G M w) (h : cellX M.hp (.rows true [.int .u8]) x = some (e, cs))
    (hcs : ∀ c ∈ cs, (c.den ρ).b = true) (hx : VR ρ G x u) : ∃ z, (convert s d u).run P w = .ok z w ∧ VR ρ G (.str (mkU .str8 e)) z := by
  have hsome : ∀ b s off len cap, x = .sl b s off len cap → (G b).isSome = true := fun b s off len cap hxe => by
    subst hxe
    obtain ⟨g, _, _, _, hg, _⟩ := hx.sl_inv
    rw [hg]; rfl
  obtain ⟨hkn, g, hgo, hat, _⟩ := rowX hM h hsome
  obtain ⟨ad, n, cp, rfl, hl, hncp, had, hsz⟩ := valX hM h hcs hx hgo
  refine ⟨.string (bytesOf ((e.den ρ).l.map fun d => UInt8.ofNat d.i.toNat)), ?_, .str _ _ (by rw [mkU_den]; rfl)⟩
  rw [run_convert_bytes_string w s d el _ n cp hs he hd]
  cases ad with
  | none =>
    have hn : n = 0 := by
      rcases Nat.eq_zero_or_pos cp with h | h
      · omega
      · have := had h; cases this
    have hnil : (e.den ρ).l = [] := List.eq_nil_of_length_eq_zero (by omega)
    rw [hnil]
    rfl
  | some a =>
    have hload : (loadCells a n).run P w = .ok (((e.den ρ).l.map DV.i).map (Value.int .u8)).toArray w := by
      have hlen : (((e.den ρ).l.map DV.i).map (Value.int .u8)).length = n := by simp [hl]
      have := run_loadCells_list (P := P) w a (((e.den ρ).l.map DV.i).map (Value.int .u8)) (fun j v hj => by
        rw [List.getElem?_map, List.getElem?_map] at hj
        cases hxe : (e.den ρ).l[j]? with
        | none => rw [hxe] at hj; cases hj
        | some d =>
          rw [hxe] at hj
          cases hj
          have hjn : j < n := by rw [← hl]; exact (List.getElem?_eq_some_iff.1 hxe).1
          have ha := had (by omega)
          cases ha
          have := hat j 0 d (.int .u8) hxe rfl
          simpa [addr_add, cellD, CK.val] using this)
      rw [hlen] at this
      exact this
    rw [run_bytesToString w a n cp _ hload]
    have := fold_bytes (e.den ρ).l []
    rw [List.nil_append] at this
    rw [← this]
    rfl
theorem lit_ops {F : Fr} {a : Act} {o : Oper} (h : ∀ x ∈ o.op.operands, VR ρ G (ev F x) (a.eval x)) : ∃ f : Operand → AV, (∀ x ∈ o.op.operands, ev F x = f x) ∧ ∀ x, VR ρ G (f x) (a.eval x) := by
  classical
  refine ⟨fun x => if x ∈ o.op.operands then ev F x else .any, fun x hx => by simp [hx], fun x => ?_⟩
  by_cases hx : x ∈ o.op.operands
  · simp only [hx, if_true]; exact h x hx
  · simp only [hx, if_false]; exact .any _
theorem light_sat {F : Fr} {o : Oper} {q : Nat} {M : Me} {k : AV → Option Ob → Me → T} (h : (lightA P F o q M k).sat Q ρ) (hpc : holdsAll ρ M.pc) :
    ∃ v ob p, (k v ob { M with pc := p }).sat Q ρ ∧ holdsAll ρ p ∧ Lit P ρ F (hpOf o M.hp) o q v ob ∧ (kindOf o = .l → ob = none) := by
  unfold lightA at h
  split at h
  · rename_i hkd
    rw [hpOf, if_neg (by rw [hkd]; simp)]
    split at h
    · rename_i c a b hop
      split at h
      · rename_i e he
        obtain ⟨p, h1, h2⟩ := test_pc h hpc
        refine ⟨_, _, p, h1, h2, fun G act w hx hm => ?_, fun _ => rfl⟩
        have hc := hx c (by rw [hop]; simp [Op.operands])
        rw [he] at hc
        have hca := hx a (by rw [hop]; simp [Op.operands])
        have hcb := hx b (by rw [hop]; simp [Op.operands])
        unfold execOp
        rw [hop]
        simp only [hc.bool_inv]
        cases (e.den ρ).b
        · exact ⟨_, rfl, hcb⟩
        · exact ⟨_, rfl, hca⟩
      · exact h.elim
    · split at h
      · rename_i v cs hv
        obtain ⟨hcs, p, h1, h2⟩ := needs_pc cs h hpc
        refine ⟨_, _, p, h1, h2, fun G act w hx hm => ?_, fun _ => rfl⟩
        obtain ⟨f, hf, hfx⟩ := lit_ops hx
        rw [opVf_eq, opV_congr hf] at hv
        exact opV_ok w hfx hv hcs
      · exact h.elim
  · rename_i hkd
    rw [hpOf, if_pos hkd]
    split at h
    · rename_i v cs hv
      obtain ⟨hcs, p, h1, h2⟩ := needs_pc cs h hpc
      refine ⟨_, _, p, h1, h2, fun G act w hx hm => ?_, fun _ => rfl⟩
      unfold opLx at hv
      split at hv
      · rename_i s d x hop
        have hxx := hx x (by rw [hop]; simp [Op.operands])
        split at hv
        · rename_i el hs hd
          split at hv
          · rename_i he
            split at hv
            · rename_i e cs' hce
              cases hv
              obtain ⟨hp', hhp⟩ := only_hp G M.hp
              rw [← cellX_hp (hp' := hp') (fun b g hg => by rw [hhp, hg]; rfl) hxx] at hce
              obtain ⟨z, hz, hr⟩ := bytes_ok (M := { M with hp := hp' }) (w := w) hs he hd (fun b o hb => by
                simp only at hb
                rw [hhp] at hb
                cases hg : G b with
                | none => rw [hg] at hb; simp at hb
                | some g => rw [hg] at hb; exact ⟨g, rfl, hm b o g hb hg⟩) hce hcs hxx
              refine ⟨z, ?_, hr⟩
              unfold execOp
              rw [hop]
              simp only
              exact lift_ok hz
            · cases hv
          · cases hv
        · obtain ⟨f, hf, hfx⟩ := lit_ops hx
          rw [opVf_eq, opV_congr hf] at hv
          exact opV_ok w hfx hv hcs
      unfold opL at hv
      split at hv
      · rename_i t x hop
        have hxx := hx x (by rw [hop]; simp [Op.operands])
        obtain ⟨hp', hhp⟩ := only_hp G M.hp
        rw [← readA_hp (hp' := hp') (fun b g hg => by rw [hhp, hg]; rfl) hxx] at hv
        obtain ⟨z, hz, hr⟩ := read_ok (M := { M with hp := hp' }) (w := w) (fun b o hb => by
          simp only at hb
          rw [hhp] at hb
          cases hg : G b with
          | none => rw [hg] at hb; simp at hb
          | some g => rw [hg] at hb; exact ⟨g, rfl, hm b o g hb hg⟩) hv hcs hxx
        refine ⟨z, ?_, hr⟩
        unfold execOp
        rw [hop]
        simp only
        exact lift_ok hz
      · cases hv
    · exact h.elim
  · rename_i hkd
    rw [hpOf, if_neg (by rw [hkd]; simp)]
    split at h
    · rename_i ob f cs hv
      obtain ⟨hcs, p, h1, h2⟩ := needs_pc cs h hpc
      refine ⟨_, _, p, h1, h2, fun G act w hx hm => ?_, fun hk => by rw [hkd] at hk; cases hk⟩
      obtain ⟨f', hf, hfx⟩ := lit_ops hx
      rw [opA_congr hf] at hv
      exact ⟨f, rfl, opA_ok w hfx hv hcs⟩
    · exact h.elim
  · exact h.elim
end
end Go.Proofs.YtkfjgggiopegbaaDoor
namespace Go.Proofs.YtkfjgggiopegbaaDoor
abbrev Fx (E : Bool) (P : Program) (rd : Option Nat) : Fence := { fn := fun f => E = true → ∃ fn, P.funcs[f]? = some fn, depth := none, alive := false, round := rd }
theorem room_x (E : Bool) (P : Program) (rd : Option Nat) (k : Nat) : (Fx E P rd).room k := fun _ h => by cases h
theorem callsIn_down {E : Bool} {P : Program} {f : FuncId} {args : Array Value} {w : World} {R : Ending → World → Prop} (h : CallsIn (Fx E P none) 0 P f args w R) : Calls P f args w R := h.calls fun k => room_x _ _ _ k
theorem about_no {P : Program} {o : Oper} {w : World} {ρ : Operand → Value} (h : ∀ c, o.op = .call c → ∃ b, c.callee = .builtin b) : o.about P w ρ = none := by
  unfold Oper.about
  split
  · rename_i c hc
    obtain ⟨b, hb⟩ := h c hc
    unfold resolve
    rw [hb]
    simp only [Sem.run_pure]
    rfl
  · rfl
section
variable {F : Fence} {n : Nat} {P : Program} {b : Frame} {a : Act} {k : List Item} {cs : List Frame} {w : World} {Q : Exit → Act → World → Prop}
theorem stepR_scope {c : Code} : step P (Go.lone (b.atR a (.code (.scope c) :: k)) cs w) = .next (Go.lone (b.atR a (.code c :: .inScope c :: k)) cs w) :=
  step_lone_go (by simp [stepG, stepG.exec, Frame.atR])
theorem stepR_inScope {c : Code} : step P (Go.lone (b.atR a (.inScope c :: k)) cs w) = .next (Go.lone (b.atR a k) cs w) :=
  step_lone_go (by simp [stepG, stepG.exec, Frame.atR])
theorem wpIn_scope_straight {c : Code} (h : c.wpIn F n P (Exit.noGoto Q) a w) : (Code.scope c).wpIn F n P Q a w := by
  intro b k cs hro hb hr
  have h0 : (Go.lone (b.atR a (.code (.scope c) :: k)) cs w).fenced P F := fenced_calm hb hr rfl
  obtain ⟨e, a₁, w₁, hq, harr⟩ := h b (.inScope c :: k) cs hro hb hr
  cases e with
  | normal => exact ⟨.normal, a₁, w₁, hq, .head h0 stepR_scope (StepsIn.trans harr (.one (fenced_calm hb hr rfl) stepR_inScope))⟩
  | exit id =>
    have hx : exitTo id (.inScope c :: k) = exitTo id k := by simp [exitTo]
    exact ⟨.exit id, a₁, w₁, hq, fun k' hk => .head h0 stepR_scope (harr.1 k' (by rw [hx]; exact hk)),
      fun hr' hk => let ⟨k₁, h1, h2⟩ := harr.2 hr' (by rw [hx]; exact hk); ⟨k₁, h1, .head h0 stepR_scope h2⟩⟩
  | goto l => exact hq.elim
  | ret => exact ⟨_, a₁, w₁, hq, .of_steps (.one h0 stepR_scope) harr⟩
  | panic ch => exact ⟨_, a₁, w₁, hq, .of_steps (.one h0 stepR_scope) harr⟩
  | outgrown => exact ⟨_, a₁, w₁, hq, .of_steps (.one h0 stepR_scope) harr⟩
end
def roundPostP (P : Program) (l : Nat) (R : Ending → World → Prop) : Exit → Act → World → Prop
  | .panic chain, a, w => a.defers = [] ∧ R (.panicked chain) w
  | e, a, w => roundPost P l R e a w
theorem roundIn_of_wpInP {F : Fence} {n : Nat} {P : Program} {l : Nat} {f : FuncId} {fn : Func} {tmps : Array Value} {assign body : Code} {w : World} {R : Ending → World → Prop} (hF : F.fn f) (hfn : P.funcs[f]? = some fn)
    (h : assign.wpIn (F.inRound l) n P (Exit.then (fun a₁ w₁ => ∃ w₂, (Instr.beginRound l).run P w₁ = .ok () w₂ ∧ body.wpIn (F.inRound l) n P (roundPostP P l R) a₁ w₂) (fun _ _ _ => False))
      { tmps := tmps, defers := [] } w) :
    RoundIn F n P l f tmps assign body w R := by
  refine ⟨hF, fun c cs hr => ?_⟩
  let b : Frame := { (default : Frame) with fn := f, kind := .normal, roundOf := some l }
  have hb0 : Frame.round l f tmps assign body .normal = b.atR { tmps := tmps, defers := [] } [.code assign, .beginRound, .code body] := by
    simp [Frame.round, Frame.atR, b]
  have hr' : (F.inRound l).room ((c :: cs).length + 1 + n) := hr
  have hF' : (F.inRound l).fn b.fn := hF
  obtain ⟨e, a₁, w₁, hq, harr⟩ := h b [.beginRound, .code body] (c :: cs) rfl hF' hr'
  rw [← hb0] at harr
  cases e with
  | normal =>
    obtain ⟨w₂, hbr, hbody⟩ := hq
    have s1 : StepsIn (Machine.fenced P (F.inRound l)) P (Go.lone (b.atR a₁ [.beginRound, .code body]) (c :: cs) w₁) (Go.lone (b.atR a₁ [.code body]) (c :: cs) w₂) :=
      .one (fenced_calm (fr := b.atR a₁ [.beginRound, .code body]) hF' hr' rfl) (stepR_beginRound rfl hbr)
    obtain ⟨e₂, a₂, w₃, hq₂, harr₂⟩ := hbody b [] (c :: cs) rfl hF' hr'
    cases e₂ with
    | normal =>
      obtain ⟨v, w₄, hend, hR⟩ := hq₂
      exact ⟨.returned v, w₄, hR, (StepsIn.trans harr s1).trans (StepsIn.trans harr₂ (.one (fenced_calm (fr := b.atR a₂ []) hF' hr' rfl) (stepR_round_end rfl rfl hend)))⟩
    | ret =>
      obtain ⟨v, w₄, hend, hR⟩ := hq₂
      obtain ⟨k₁, hs⟩ := harr₂.2 rfl
      exact ⟨.returned v, w₄, hR, (StepsIn.trans harr s1).trans (StepsIn.trans hs (.one (fenced_calm (fr := b.atR a₂ (.code .ret :: k₁)) hF' hr' rfl) (stepR_round_ret rfl rfl hend)))⟩
    | exit id =>
      obtain ⟨v, w₄, hend, hR⟩ := hq₂
      obtain ⟨k₁, hk, hs⟩ := harr₂.2 rfl rfl
      exact ⟨.returned v, w₄, hR, (StepsIn.trans harr s1).trans (StepsIn.trans hs (.one (fenced_calm (fr := b.atR a₂ (.code (.exit id) :: k₁)) hF' hr' rfl) (stepR_round_exit rfl rfl hk hend)))⟩
    | goto t =>
      obtain ⟨v, w₄, hend, hR⟩ := hq₂
      obtain ⟨k₁, hk, hs⟩ := harr₂.2 rfl rfl
      exact ⟨.returned v, w₄, hR, (StepsIn.trans harr s1).trans (StepsIn.trans hs (.one (fenced_calm (fr := b.atR a₂ (.code (.goto t) :: k₁)) hF' hr' rfl) (stepR_round_goto rfl rfl hk hend)))⟩
    | panic chain =>
      obtain ⟨hd, hR⟩ := hq₂
      obtain ⟨todo, hs⟩ := harr₂
      have hleave : ({ b.atR a₂ todo with mode := .panicking chain } : Frame).leaving P w₃ (.panicked chain) := ⟨rfl, hd, fn, hfn⟩
      exact ⟨.panicked chain, w₃, hR, (StepsIn.trans harr s1).trans (StepsIn.trans hs (.one (fenced_leaving hF' hr' hleave) (step_leave_panicked hleave)))⟩
    | outgrown => exact hq₂.elim
  | exit id => exact hq.elim
  | goto t => exact hq.elim
  | ret => exact hq.elim
  | panic chain => exact hq.elim
  | outgrown => exact hq.elim
end Go.Proofs.YtkfjgggiopegbaaDoor
namespace Go.Proofs.YtkfjgggiopegbaaDoor
open Go.RowKit
section
variable {P : Program} {ρ : Env} {G G' : Gh} {Q : Lf → Prop}
theorem put_get {F : Fr} {d : Option Tmp} {v : AV} {k : Fr → T} (h : (F.put d v k).sat Q ρ) : ∃ F2, (k F2).sat Q ρ ∧ F2.n = F.n ∧ F2.df = F.df ∧ (∀ t, F2.tm.get t = if d = some t then some v else F.tm.get t) ∧ ∀ t, d = some t → t < F.n := by
  unfold Fr.put at h
  cases d with
  | none => exact ⟨F, h, rfl, rfl, fun t => by rw [if_neg (by simp)], fun t ht => by cases ht⟩
  | some d =>
    simp only at h
    cases hb : Nat.blt d F.n with
    | false => rw [hb] at h; exact h.elim
    | true =>
      rw [hb] at h
      simp only [cond_true] at h
      have hlt : d < F.n := Nat.le_of_ble_eq_true hb
      split at h
      · rename_i tm htm
        refine ⟨_, h, rfl, rfl, fun t => ?_, fun t ht => by cases ht; exact hlt⟩
        rw [Tr.get_put _ _ _ _ htm]
        by_cases e : t = d
        · rw [if_pos e, if_pos (by rw [e])]
        · rw [if_neg e, if_neg (fun h => e (by cases h; rfl))]
      · exact h.elim
theorem put_getD {a : Act} {d : Option Tmp} {u : Value} {t : Nat} (h : d ≠ some t) : (a.put d u).tmps.getD t undef = a.tmps.getD t undef := by
  cases d with
  | none => rfl
  | some d =>
    simp only [Act.put, Array.getD_eq_getD_getElem?]
    rw [Array.getElem?_setIfInBounds, if_neg (fun e => h (by rw [e]))]
theorem put_self {a : Act} {d : Nat} {u : Value} (h : d < a.tmps.size) : (a.put (some d) u).tmps.getD d undef = u := by
  simp only [Act.put, Array.getD_eq_getD_getElem?]
  rw [Array.getElem?_setIfInBounds, if_pos rfl, if_pos h]
  rfl
theorem put_size (a : Act) (d : Option Tmp) (u : Value) : (a.put d u).tmps.size = a.tmps.size := by cases d <;> simp [Act.put]
theorem put_defers (a : Act) (d : Option Tmp) (u : Value) : (a.put d u).defers = a.defers := by cases d <;> rfl
theorem undef_ok : VR ρ G undefA undef := .tup _ _ rfl (fun i a v h => by simp at h)
theorem findA_sat {kk k0 : IntKind} {e : SE} : ∀ (es : List (AV × AV)) (en : List MapEntry) (i : Nat) {M : Me} {yes : AV → Me → T} {no : Me → T}, (findA M e es yes no).sat Q ρ → holdsAll ρ M.pc →
    es.all (keyIs kk) = true → en.length = es.length →
    (∀ (j : Nat) (p : AV × AV) (m : MapEntry), es[j]? = some p → en[j]? = some m → VR ρ G p.1 m.key ∧ VR ρ G p.2 m.val) →
    ∃ p, holdsAll ρ p ∧ ((∃ v j u, (yes v { M with pc := p }).sat Q ρ ∧ Instr.findNow (.int k0) (.int kk (e.den ρ).i) en i = some (some (j, u)) ∧ VR ρ G v u) ∨ ((no { M with pc := p }).sat Q ρ ∧ Instr.findNow (.int k0) (.int kk (e.den ρ).i) en i = some none))
  | [], en, i, M, yes, no, h, hpc, _, hl, _ => by
    cases en with
    | nil => exact ⟨M.pc, hpc, .inr ⟨h, rfl⟩⟩
    | cons m r => simp at hl
  | (x, v) :: es, en, i, M, yes, no, h, hpc, hall, hl, hv => by
    cases en with
    | nil => simp at hl
    | cons m r =>
      simp only [List.all_cons, Bool.and_eq_true] at hall
      obtain ⟨hx, hall⟩ := hall
      unfold keyIs at hx
      obtain ⟨hk, hval⟩ := hv 0 _ m rfl rfl
      cases x with
      | int kk' q =>
        simp only [decide_eq_true_eq] at hx
        subst hx
        have hk := hk.int_inv
        unfold findA at h
        obtain ⟨p, h1, h2⟩ := test_pc h hpc
        rw [eq_b] at h1
        by_cases he : (e.den ρ).i = (q.den ρ).i
        · rw [if_pos (by simpa using he)] at h1
          refine ⟨p, h2, .inl ⟨v, i, m.val, h1, ?_, hval⟩⟩
          unfold Instr.findNow
          rw [hk]
          have : Instr.sameNow (.int k0) (.int kk (e.den ρ).i) (.int kk (q.den ρ).i) = some true := by simp [Instr.sameNow, he]
          rw [this]
        · rw [if_neg (by simpa using he)] at h1
          obtain ⟨p', h3, h4⟩ := findA_sat (kk := kk) (k0 := k0) es r (i + 1) h1 h2 hall (by simpa using hl) (fun j p m' hp hm => hv (j + 1) p m' hp hm)
          refine ⟨p', h3, ?_⟩
          have : Instr.sameNow (.int k0) (.int kk (e.den ρ).i) (.int kk (q.den ρ).i) = some false := by simp [Instr.sameNow, he]
          unfold Instr.findNow
          rw [hk, this]
          exact h4
      | _ => exact absurd hx (by simp)
def resV (tmps : Array Value) : ResultVar → Sem Value
  | .tmp t => pure (tmps.getD t undef)
  | .cell a t => do loadVar t (← asAddr (tmps.getD a undef))
theorem results_sat {F : Fr} {tmps : Array Value} {w : World} : ∀ (rs : List ResultVar) {M : Me} {k : List AV → Me → T}, (resultsA P F M rs k).sat Q ρ → MR ρ G M w → (∀ t, VR ρ G ((F.tm.get t).getD .any) (tmps.getD t undef)) →
    ∃ (vs : List AV) (us : List Value) (p : PC), (k vs { M with pc := p }).sat Q ρ ∧ holdsAll ρ p ∧ VRs ρ G vs us.toArray ∧ (rs.mapM (resV tmps)).run P w = .ok us w
  | [], M, k, h, hM, ht => ⟨[], [], M.pc, h, hM.pc, ⟨rfl, fun i a v h => by simp at h⟩, rfl⟩
  | .tmp t :: r, M, k, h, hM, ht => by
    obtain ⟨vs, us, p, h1, h2, h3, h4⟩ := results_sat r h hM ht
    refine ⟨_, tmps.getD t undef :: us, p, h1, h2, ?_, ?_⟩
    · refine ⟨by simpa using h3.1, fun i a v ha hv => ?_⟩
      cases i with
      | zero => simp only [List.getElem?_cons_zero, Option.some.injEq] at ha; simp at hv; subst ha; subst hv; simpa using ht t
      | succ i => exact h3.2 i a v (by simpa using ha) (by simpa using hv)
    · rw [List.mapM_cons]
      simp only [resV, Sem.run_bind, Sem.run_pure, Result.andThen_ok, h4]
  | .cell x t :: r, M, k, h, hM, ht => by
    unfold resultsA at h
    split at h
    · rename_i v cs hv
      obtain ⟨hcs, p, h1, h2⟩ := needs_pc cs h hM.pc
      obtain ⟨vs, us, p', h3, h4, h5, h6⟩ := results_sat r h1 (hM.pcs h2) ht
      obtain ⟨z, hz, hzr⟩ := read_ok (w := w) hM.ob hv hcs (ht x)
      refine ⟨_, z :: us, p', h3, h4, ?_, ?_⟩
      · refine ⟨by simpa using h5.1, fun i a v ha hv => ?_⟩
        cases i with
        | zero => simp at ha; simp at hv; subst ha; subst hv; exact hzr
        | succ i => exact h5.2 i a v (by simpa using ha) (by simpa using hv)
      · have hp : ∃ a, tmps.getD x undef = .pointer (some a) := by
          have hx := ht x
          revert hv
          generalize (F.tm.get x).getD .any = y at hx
          generalize tmps.getD x undef = u at hx
          intro hv
          unfold readA at hv
          cases hx with
          | ptr b o g a hg ha => exact ⟨a, rfl⟩
          | elt b s i j g a hg ha => exact ⟨a, rfl⟩
          | nelt b s i j ks x q g blk off n c hg hh => exact ⟨_, rfl⟩
          | _ => split at hv <;> cases hv
        obtain ⟨a, ha⟩ := hp
        rw [List.mapM_cons]
        rw [ha] at hz
        have hz' : (loadVar t a).run P w = .ok z w := hz
        simp only [resV, Sem.run_bind, Sem.run_pure, Result.andThen_ok, h6, ha, asAddr, hz']
    · exact h.elim
theorem argsTm_get : ∀ (f i : Nat) (t t' : Tr) (l : List AV), argsTm f i t l = some t' → ∀ m, t'.get m = if i ≤ m ∧ m < i + l.length then l[m - i]? else t.get m
  | f, i, t, t', [], h, m => by
    have : t' = t := by cases f <;> (unfold argsTm at h; cases h; rfl)
    subst this
    rw [if_neg (by simp)]
  | 0, i, t, t', v :: r, h, m => by unfold argsTm at h; cases h
  | f + 1, i, t, t', v :: r, h, m => by
    unfold argsTm at h
    split at h
    · rename_i t1 h1
      rw [argsTm_get f (i + 1) t1 t' r h m]
      by_cases hm : m = i
      · subst hm
        rw [if_neg (by omega), Tr.get_put _ _ _ _ h1, if_pos rfl, if_pos (by simp)]
        simp
      · by_cases hr : i + 1 ≤ m ∧ m < i + 1 + r.length
        · rw [if_pos hr, if_pos (by simp; omega)]
          obtain ⟨j, rfl⟩ : ∃ j, m = i + 1 + j := ⟨m - (i + 1), by omega⟩
          rw [show i + 1 + j - (i + 1) = j by omega, show i + 1 + j - i = j + 1 by omega]
          simp
        · rw [if_neg hr, if_neg (by simp; omega), Tr.get_put _ _ _ _ h1, if_neg hm]
    · cases h
theorem fullTr_get : ∀ (d : Nat) {n : Nat} {v : AV}, (fullTr d).get n = some v → v = undefA
  | 0, n, v, h => by unfold fullTr at h; rw [Tr.get_lf] at h; cases h
  | d + 1, n, v, h => by
    unfold fullTr at h
    rw [Tr.get_eq] at h
    cases n with
    | zero => cases h; rfl
    | succ m =>
      simp only at h
      cases hb : Nat.beq (m % 2) 0 with
      | true => rw [hb] at h; exact fullTr_get d h
      | false => rw [hb] at h; exact fullTr_get d h
theorem enter_ok {as : List AV} {us : Array Value} {n : Nat} {t0 tm : Tr} (h0 : undefTm n = some t0) (h1 : argsTm 200 0 t0 as = some tm) (hn : as.length ≤ n) (hv : VRs ρ G as us) :
    FR ρ G ⟨tm, n, []⟩ { tmps := us ++ Array.replicate (n - us.size) undef, defers := [] } := by
  refine ⟨by simp; have := hv.1; omega, fun t v ht => ?_, trivial⟩
  rw [argsTm_get _ _ _ _ _ h1] at ht
  have hs := hv.1
  rw [Array.getD_eq_getD_getElem?]
  split at ht
  · rename_i hlt
    simp only [Nat.sub_zero] at ht
    have hlt' : t < us.size := by omega
    rw [Array.getElem?_append, if_pos hlt', Array.getElem?_eq_getElem hlt']
    exact hv.2 t v _ ht (Array.getElem?_eq_getElem hlt')
  · rename_i hge
    cases h0
    rw [fullTr_get _ ht, Array.getElem?_append, if_neg (by omega), Array.getElem?_replicate]
    split <;> exact undef_ok
def XR (ρ : Env) (G : Gh) : XK → Exit → Prop
  | .norm, .normal => True
  | .exit i, .exit j => i = j
  | .goto i, .goto j => i = j
  | .ret, .ret => True
  | .panic v, .panic ch => ∃ u, ch = [{ v := u, recovered := false }] ∧ VR ρ G v u
  | _, _ => False
def Reach (ρ : Env) (Q : Lf → Prop) (k : Lf → T) (G : Gh) (M : Me) (w : World) (e : Exit) (a' : Act) (w' : World) : Prop :=
  ∃ x F' G' M', XR ρ G' x e ∧ FR ρ G' F' a' ∧ MR ρ G' M' w' ∧ Stp ρ G M w G' M' w' ∧ (k (.code x F' M')).sat Q ρ
theorem Reach.from {k : Lf → T} {G1 : Gh} {M M1 : Me} {w w1 : World} {e : Exit} {a' : Act} {w' : World} (h : Reach ρ Q k G1 M1 w1 e a' w') (s : Stp ρ G M w G1 M1 w1) : Reach ρ Q k G M w e a' w' := by
  obtain ⟨x, F', G', M', h1, h2, h3, h4, h5⟩ := h
  exact ⟨x, F', G', M', h1, h2, h3, s.trans h4, h5⟩
def CReach (ρ : Env) (Q : Lf → Prop) (k : Lf → T) (G : Gh) (M : Me) (w : World) (e : Ending) (w' : World) : Prop :=
  ∃ G' M', MR ρ G' M' w' ∧ Stp ρ G M w G' M' w' ∧ match e with
    | .returned u => ∃ v, VR ρ G' v u ∧ (k (.val v M')).sat Q ρ
    | .panicked ch => ∃ v u, ch = [{ v := u, recovered := false }] ∧ VR ρ G' v u ∧ (k (.pan v M')).sat Q ρ
    | .outgrown => False
end
section
variable (X : Cx) (ρ : Env) (Q : Lf → Prop) (n : Nat)
def SCode : Prop := ∀ (rd : Option Nat) (c : Code) (F : Fr) (M : Me) (k : Lf → T) (G : Gh) (a : Act) (w : World) (R : Exit → Act → World → Prop), (rd = none ∨ plainC c = true) → (run n X (.code c) F M k).sat Q ρ → MR ρ G M w → FR ρ G F a → (∀ e a' w', Reach ρ Q k G M w e a' w' → R e a' w') → c.wpIn (Fx X.E X.P rd) 0 X.P R a w
def SLoop : Prop := ∀ (rd : Option Nat) (c : Code) (F : Fr) (M : Me) (k : Lf → T) (G : Gh) (a : Act) (w : World) (R : Exit → Act → World → Prop), (rd = none ∨ plainC c = true) → (run n X (.loop c) F M k).sat Q ρ → MR ρ G M w → FR ρ G F a → (∀ e a' w', Reach ρ Q k G M w e a' w' → R e a' w') → Code.roundsIn (Fx X.E X.P rd) 0 X.P c R n a w
def SOps : Prop := ∀ (rd : Option Nat) (ops : Array Oper) (l : List Oper) (F : Fr) (M : Me) (k : Lf → T) (G : Gh) (a : Act) (w : World) (R : Exit → Act → World → Prop), (rd = none ∨ l.all plainO = true) → (run n X (.ops ops l) F M k).sat Q ρ → MR ρ G M w → FR ρ G F a →
  (∀ e a' w', Reach ρ Q k G M w e a' w' → (∀ d, (∀ o ∈ l, o.dst ≠ some d) → a'.tmps.getD d undef = a.tmps.getD d undef) → R e a' w') → wpListIn (Fx X.E X.P rd) 0 X.P ops R l a w
def SCall : Prop := ∀ (fid : FuncId) (first cap args : List AV) (F : Fr) (M : Me) (k : Lf → T) (G : Gh) (w : World) (vf vc va : Array Value) (R : Ending → World → Prop), (run n X (.call (.func (.func fid) first cap) args) F M k).sat Q ρ → MR ρ G M w → VRs ρ G first vf → VRs ρ G cap vc → VRs ρ G args va →
  (∀ e w', CReach ρ Q k G M w e w' → R e w') → (∃ fn, X.P.funcs[fid]? = some fn ∧ fn.body.isNone = false) ∧ CallsIn (Fx X.E X.P none) 0 X.P fid (vf ++ va ++ vc) w R
def SDefers : Prop := ∀ (fn : Func) (ds : List (AV × List AV)) (pn : Option AV) (F : Fr) (M : Me) (k : Lf → T) (G : Gh) (w : World) (tmps : Array Value) (cs : List Deferred) (u : FrameMode) (R : Ending → World → Prop), (run n X (.defers fn ds pn) F M k).sat Q ρ → MR ρ G M w →
  (∀ t, VR ρ G ((F.tm.get t).getD .any) (tmps.getD t undef)) → DfR ρ G ds cs → (match pn with | none => u = .returning | some v => ∃ x, u = .panicking [{ v := x, recovered := false }] ∧ VR ρ G v x) → (∀ e w', CReach ρ Q k G M w e w' → R e w') → LeavesInM (Fx X.E X.P none) 0 X.P fn tmps R cs u w
def SYield : Prop := ∀ (b : Nat) (args : List AV) (F : Fr) (M : Me) (k : Lf → T) (G : Gh) (w : World) (va : Array Value) (R : Ending → World → Prop), (run n X (.call (.yld b) args) F M k).sat Q ρ → MR ρ G M w → VRs ρ G args va →
  (∀ e w', CReach ρ Q k G M w e w' → R e w') → ∀ g, G b = some g → ∃ (f : FuncId) (tmps : Array Value) (asg body : Code), (Instr.yield g.blk va).run X.P w = .ok (.round g.blk f tmps asg body) w ∧ ∀ rd, RoundIn (Fx X.E X.P rd) 0 X.P g.blk f tmps asg body w R
def SDraw : Prop := ∀ (rd : Option Nat) (id : Nat) (ops : Array Oper) (l : List Nat) (F : Fr) (M : Me) (k : Lf → T) (G : Gh) (a : Act) (w : World) (R : Exit → Act → World → Prop), (rd = none ∨ ops.toList.all plainO = true) → tidy ops (Region.before ops) = true → validB ops (Region.before ops) (2 ^ ops.size - 1) l = true →
  (run n X (.draw ⟨ops, Region.before ops, M.nb⟩ l) F { M with nb := M.nb + ops.size } k).sat Q ρ → MR ρ G M w → FR ρ G F a → (∀ e a' w', Reach ρ Q k G M w e a' w' → R e a' w') → (Code.region id ops true).wpIn (Fx X.E X.P rd) 0 X.P R a w
end
end Go.Proofs.YtkfjgggiopegbaaDoor
namespace Go.Proofs.YtkfjgggiopegbaaDoor
open Go.RowKit
def Grp : List Sh → List Value → List Value → Prop
  | [], va, vs => va = [] ∧ vs = []
  | .one _ :: r, va, vs => ∃ v va' vs', va = v :: va' ∧ vs = v :: vs' ∧ Grp r va' vs'
  | .agg cs :: r, va, vs => ∃ us va' vs', va = .agg us :: va' ∧ us.size = cs.length ∧ vs = us.toList ++ vs' ∧ Grp r va' vs'
def Reads (w : World) : List Cl → List Value → List DV → List GI → Prop
  | [], vs, ds, gs => vs = [] ∧ ds = [] ∧ gs = []
  | c :: cs, vs, ds, gs => ∃ v vs' d ds' g gs', vs = v :: vs' ∧ ds = d :: ds' ∧ gs = g :: gs' ∧ c.rdg w v d g ∧ Reads w cs vs' ds' gs'
structure Outs (w w' : World) (ics : List Cl) (ids : List DV) (igs : List GI) (ocs : List Cl) (us : List Value) (D : Nat → DV) (hs : List GI) : Prop where
  lu : us.length = ocs.length
  lh : hs.length = ocs.length
  rd : ∀ (i : Nat) c v h, ocs[i]? = some c → us[i]? = some v → hs[i]? = some h → c.rdg w' v (D i) h
  own : ∀ (i : Nat) ks h, ocs[i]? = some (.rows true ks) → hs[i]? = some h → h.off = 0 ∧ (h.sz ≠ 0 → w.heap.size ≤ h.blk ∧ ∃ arr, ∃ t : Tz h.sz, w'.heap[h.blk]? = some (.cells arr t.ty t.fz) ∧ arr.size = h.sz)
  shr : ∀ (i : Nat) c h k, ocs[i]? = some c → c.shares = true → hs[i]? = some h → c.told (D i) h k → w.heap.size ≤ k ∨ ∃ (j : Nat) (o : Bool) (ks' : List CK) (d : DV) (g : GI), ics[j]? = some (.rows o ks') ∧ ids[j]? = some d ∧ igs[j]? = some g ∧ d.l ≠ [] ∧ g.blk = k
  sep : ∀ (i j : Nat) ks c hi hj k, i ≠ j → ocs[i]? = some (.rows true ks) → ocs[j]? = some c → hs[i]? = some hi → hs[j]? = some hj → hi.sz ≠ 0 → c.told (D j) hj k → hi.blk ≠ k
def packU (us : List Value) : Value := match us with | [u] => u | us => .tuple us.toArray
def PureE (E : Bool) (P : Program) (f : FuncId) (ins outs : List Sh) (pre : List DV → Prop) (F : List DV → List DV) : Prop :=
  (∃ fn, P.funcs[f]? = some fn ∧ fn.body.isNone = false) ∧ ∀ (w : World) (va vs : List Value) (ds : List DV) (gs : List GI), Grp ins va vs → Reads w (clsOf ins) vs ds gs → pre ds →
    CallsIn (Fx E P none) 0 P f va.toArray w fun e w' => ∃ (ub us : List Value) (hs : List GI), e = .returned (packU ub) ∧ ub.length = outs.length ∧ Grp outs ub us ∧ Below w.heap.size w w' ∧ Outs w w' (clsOf ins) ds gs (clsOf outs) us (fun i => ((F ds)[i]?).getD (.int 0)) hs
section
variable {P : Program} {ρ : Env} {G : Gh}
theorem vrs_cons {a : AV} {v : Value} {cs : List AV} {vs : List Value} (h : VR ρ G a v) (k : VRs ρ G cs vs.toArray) : VRs ρ G (a :: cs) (v :: vs).toArray := by
  refine ⟨by have := k.1; simpa using this, fun i a' v' h1 h2 => ?_⟩
  cases i with
  | zero => simp at h1 h2; subst h1 h2; exact h
  | succ i => exact k.2 i a' v' (by simpa using h1) (by simpa using h2)
theorem vrs_cons_inv {a : AV} {cs : List AV} {vs : List Value} (h : VRs ρ G (a :: cs) vs.toArray) : ∃ v vs', vs = v :: vs' ∧ VR ρ G a v ∧ VRs ρ G cs vs'.toArray := by
  cases vs with
  | nil => have := h.1; simp at this
  | cons v vs =>
    refine ⟨v, vs, rfl, h.2 0 a v rfl (by simp), by have := h.1; simpa using this, fun i a' v' h1 h2 => h.2 (i + 1) a' v' (by simpa using h1) (by simpa using h2)⟩
theorem vrs_app {xs ys : List AV} {us vs : List Value} (h : VRs ρ G xs us.toArray) (k : VRs ρ G ys vs.toArray) : VRs ρ G (xs ++ ys) (us ++ vs).toArray := by
  have := h.append k
  simpa using this
theorem vrs_take {xs : List AV} {us : List Value} (n : Nat) (h : VRs ρ G xs us.toArray) : VRs ρ G (xs.take n) (us.take n).toArray := by
  have hl : us.length = xs.length := by have := h.1; simpa using this
  refine ⟨by simp [hl], fun i a v h1 h2 => ?_⟩
  rw [List.getElem?_toArray] at h2
  rw [List.getElem?_take] at h1 h2
  split at h1
  · rename_i hi; rw [if_pos hi] at h2; exact h.2 i a v h1 (by simpa using h2)
  · cases h1
theorem vrs_drop {xs : List AV} {us : List Value} (n : Nat) (h : VRs ρ G xs us.toArray) : VRs ρ G (xs.drop n) (us.drop n).toArray := by
  have hl : us.length = xs.length := by have := h.1; simpa using this
  refine ⟨by simp [hl], fun i a v h1 h2 => ?_⟩
  rw [List.getElem?_toArray] at h2
  rw [List.getElem?_drop] at h1 h2
  exact h.2 _ a v h1 (by simpa using h2)
theorem vrs_nil' : VRs ρ G [] ([] : List Value).toArray := ⟨rfl, fun i a v h => by simp at h⟩
theorem vrs_nil_inv {vs : List Value} (h : VRs ρ G [] vs.toArray) : vs = [] := by
  have := h.1
  exact List.eq_nil_of_length_eq_zero (by simpa using this)
theorem flat_ok : ∀ (shs : List Sh) (as fl : List AV) (va : List Value), flatA shs as = some fl → VRs ρ G as va.toArray → ∃ vs, Grp shs va vs ∧ VRs ρ G fl vs.toArray ∧ fl.length = (clsOf shs).length
  | [], as, fl, va, h, hv => by
    unfold flatA at h
    cases as with
    | nil => cases h; exact ⟨[], ⟨vrs_nil_inv hv, rfl⟩, vrs_nil', rfl⟩
    | cons a l => cases h
  | .one c :: r, as, fl, va, h, hv => by
    unfold flatA at h
    cases as with
    | nil => cases h
    | cons a l =>
      simp only at h
      obtain ⟨v, vs', rfl, h1, h2⟩ := vrs_cons_inv hv
      cases hf : flatA r l with
      | none => rw [hf] at h; cases h
      | some x =>
        rw [hf] at h
        cases h
        obtain ⟨vs, h3, h4, h5⟩ := flat_ok r l x vs' hf h2
        exact ⟨v :: vs, ⟨v, vs', vs, rfl, rfl, h3⟩, vrs_cons h1 h4, by simp [clsOf, Sh.cls, h5, Nat.add_comm]⟩
  | .agg cs :: r, as, fl, va, h, hv => by
    unfold flatA at h
    split at h
    · rename_i us l
      cases hb : Nat.beq us.length cs.length with
      | false => rw [hb] at h; cases h
      | true =>
        rw [hb] at h
        simp only [cond_true] at h
        have hb := (beq_iff _ _).1 hb
        obtain ⟨v, vs', rfl, h1, h2⟩ := vrs_cons_inv hv
        cases hf : flatA r l with
        | none => rw [hf] at h; cases h
        | some x =>
          rw [hf] at h
          cases h
          obtain ⟨vs, h3, h4, h5⟩ := flat_ok r l x vs' hf h2
          obtain ⟨uv, rfl, h6⟩ := h1.agg_inv
          exact ⟨uv.toList ++ vs, ⟨uv, vs', vs, rfl, by rw [h6.1, hb], rfl, h3⟩, vrs_app (by simpa using h6) h4, by simp [clsOf, Sh.cls, h5, hb]⟩
    · cases h
theorem pack_ok : ∀ (shs : List Sh) (fl : List AV) (va vs : List Value), Grp shs va vs → VRs ρ G fl vs.toArray → VRs ρ G (packA shs fl) va.toArray
  | [], fl, va, vs, h, hv => by obtain ⟨rfl, rfl⟩ := h; exact vrs_nil'
  | .one c :: r, fl, va, vs, h, hv => by
    obtain ⟨v, va', vs', rfl, rfl, h⟩ := h
    cases fl with
    | nil => have := hv.1; simp at this
    | cons a l =>
      obtain ⟨v', vs2, he, h1, h2⟩ := vrs_cons_inv hv
      cases he
      exact vrs_cons h1 (pack_ok r l va' vs' h h2)
  | .agg cs :: r, fl, va, vs, h, hv => by
    obtain ⟨us, va', vs', rfl, hs, rfl, h⟩ := h
    have h1 := vrs_take cs.length hv
    have h2 := vrs_drop cs.length hv
    have hl : us.toList.length = cs.length := by simpa using hs
    rw [List.take_left' hl] at h1
    rw [List.drop_left' hl] at h2
    exact vrs_cons (.agg _ _ (by have := h1.1; simpa using this) (fun i a v x y => h1.2 i a v x (by simpa using y))) (pack_ok r _ va' vs' h h2)
theorem cells_rd {M : Me} {w : World} (hM : MR ρ G M w) : ∀ (cs : List Cl) (fl : List AV) (vs : List Value) (es qs : List SE), cellsX M.hp cs fl = some (es, qs) → (∀ c ∈ qs, (c.den ρ).b = true) → VRs ρ G fl vs.toArray →
    ∃ gs, Reads w cs vs (es.map (·.den ρ)) gs ∧ gs.length = cs.length ∧ es.length = cs.length ∧ ∀ (j : Nat) c a e g, cs[j]? = some c → fl[j]? = some a → es[j]? = some e → gs[j]? = some g → gOf ρ G a = some g ∧ ∃ q, cellX M.hp c a = some (e, q)
  | [], fl, vs, es, qs, h, hq, hv => by
    cases fl with
    | nil => unfold cellsX at h; cases h; exact ⟨[], ⟨vrs_nil_inv hv, rfl, rfl⟩, rfl, rfl, fun j c a e g h => by simp at h⟩
    | cons a l => unfold cellsX at h; cases h
  | c :: cs, fl, vs, es, qs, h, hq, hv => by
    cases fl with
    | nil => unfold cellsX at h; cases h
    | cons a l =>
      unfold cellsX at h
      split at h
      · rename_i e q he
        split at h
        · rename_i es' qs' hes
          cases h
          obtain ⟨v, vs', rfl, h1, h2⟩ := vrs_cons_inv hv
          obtain ⟨g, h3, h4, _⟩ := cell_rd hM.ob (fun c p h k a b d => (hM.sub c p h k a b d).1) he (fun c hc => hq c (List.mem_append_left _ hc)) h1
          obtain ⟨gs, h5, h6, h7, h8⟩ := cells_rd hM cs l vs' es' qs' hes (fun c hc => hq c (List.mem_append_right _ hc)) h2
          refine ⟨g :: gs, ⟨v, vs', _, _, g, gs, rfl, rfl, rfl, h3, h5⟩, by simp [h6], by simp [h7], fun j c' a' e' g' k1 k2 k3 k4 => ?_⟩
          cases j with
          | zero => simp at k1 k2 k3 k4; subst k1 k2 k3 k4; exact ⟨h4, q, he⟩
          | succ j => exact h8 j c' a' e' g' (by simpa using k1) (by simpa using k2) (by simpa using k3) (by simpa using k4)
        · cases h
      · cases h
theorem lst_den (es : List SE) : (lstE es).den ρ = .list (es.map (·.den ρ)) := by
  induction es with
  | nil => rfl
  | cons e r ih => show evB .cons _ _ = _; rw [ih]; rfl
theorem MR.frz {M : Me} {w : World} {b : Nat} {ob : Ob} {g : GI} {ks : List CK} {e : SE} (h : MR ρ G M w) (hb : hget M.hp b = some ob) (hg : G b = some g) (hor : OR ρ G w g (.ro ks e)) (hsol : Solid ρ g (.ro ks e) → Solid ρ g ob) :
    MR ρ G { M with hp := hset M.hp b (.ro ks e) } w ∧ (∀ k, Mine ρ G { M with hp := hset M.hp b (.ro ks e) } k → Mine ρ G M k) ∧ (∀ k, Known ρ G { M with hp := hset M.hp b (.ro ks e) } k → Known ρ G M k) := by
  have hmine : ∀ k, Mine ρ G { M with hp := hset M.hp b (.ro ks e) } k → Mine ρ G M k := fun k ⟨c, p, x, h1, h2, h3, h4, h5⟩ => by
    rw [hget_hset] at h1
    split at h1
    · cases h1; cases h2
    · exact ⟨c, p, x, h1, h2, h3, h4, h5⟩
  refine ⟨⟨h.pc, h.fresh, fun c p hc => ?_, fun c p d q x y hc hd hp hne hx hy s1 s2 => ?_, fun c p y k hc hy hk => ?_⟩, hmine, fun k ⟨c, p, x, h1, h3, h4⟩ => ?_⟩
  · rw [hget_hset] at hc
    split at hc
    · rename_i e1; subst e1; cases hc; exact ⟨g, hg, hor⟩
    · exact h.ob c p hc
  · rw [hget_hset] at hc hd
    split at hc
    · cases hc; cases hp
    · split at hd
      · rename_i e1; subst e1; cases hd
        rw [hg] at hy; cases hy
        exact h.apart c p d ob x g hc hb hp hne hx hg s1 (hsol s2)
      · exact h.apart c p d q x y hc hd hp hne hx hy s1 s2
  · rw [hget_hset] at hc
    split at hc
    · cases hc; exact hk.elim
    · exact ⟨(h.sub c p y k hc hy hk).1, fun hm => (h.sub c p y k hc hy hk).2 (hmine k hm)⟩
  · rw [hget_hset] at h1
    split at h1
    · rename_i e1; subst e1; cases h1
      rw [hg] at h3; cases h3
      rcases h4 with ⟨h4, h5⟩ | h4
      · exact ⟨c, ob, g, hb, hg, .inl ⟨hsol h4, h5⟩⟩
      · exact h4.elim
    · exact ⟨c, p, x, h1, h3, h4⟩
theorem rows_ro {w : World} {g : GI} {ks : List CK} {e : SE} (h : OR ρ G w g (.rows ks e)) : OR ρ G w g (.ro ks e) := by
  obtain ⟨h0, h1, h2, h3⟩ := h
  refine ⟨h1, fun i j d k hi hj => ?_⟩
  by_cases hz : g.sz = 0
  · rw [h2 hz] at hi; simp at hi
  · obtain ⟨arr, t, hh, _, _, hx⟩ := h3 hz
    rw [cell_of_heap hh, h0, Nat.zero_add]
    exact hx i j d k hi hj
theorem cells_rows {w : World} {g : GI} {ks : List CK} {cs : List AV} (h : OR ρ G w g (.cells cs)) (hk : ks ≠ []) (ha : allData ks ks.length cs.length cs = true) :
    ∃ l arr, ∃ t : Tz g.sz, ((rowsOf ks.length cs).den ρ).l = l ∧ g.off = 0 ∧ w.heap[g.blk]? = some (.cells arr t.ty t.fz) ∧ arr.size = g.sz ∧ l.length * ks.length ≤ arr.size ∧ (cs ≠ [] → l ≠ []) ∧ ∀ (i j : Nat) (d : DV) (k : CK), l[i]? = some d → ks[j]? = some k → arr[i * ks.length + j]? = some (k.val (cellD ks d j)) := by
  obtain ⟨h0, arr, t, hh, hs, hl, hx⟩ := h
  have hvs : VRs ρ G cs ((arr.toList.take cs.length)).toArray := by
    refine ⟨by simp; omega, fun i a v h1 h2 => ?_⟩
    have hi := (List.getElem?_eq_some_iff.1 h1).1
    rw [List.getElem?_toArray, List.getElem?_take, if_pos hi, Array.getElem?_toList] at h2
    exact hx i a v h1 h2
  obtain ⟨l, h1, h2, h3⟩ := rowsOf_ok (ne_pos hk) rfl cs.length cs _ (Nat.le_refl _) ha hvs
  have hlen : (arr.toList.take cs.length).length = l.length * ks.length := by rw [h2, rowVals_length]
  refine ⟨l, arr, t, by unfold rowsOf; rw [h1]; rfl, h0, hh, hs, ?_, fun hne => ?_, fun i j d k hi hj => ?_⟩
  · rw [← hlen]; simp; omega
  · intro hl0
    rw [h3] at hl0
    exact chunk_ne (n := ks.length) hne (List.map_eq_nil_iff.1 hl0)
  · have := rowVals_get ks l i j d k hi hj
    rw [← h2, List.getElem?_take] at this
    split at this
    · rw [Array.getElem?_toList] at this; exact this
    · cases this
theorem cells_ro {w : World} {g : GI} {ks : List CK} {cs : List AV} (h : OR ρ G w g (.cells cs)) (hk : ks ≠ []) (ha : allData ks ks.length cs.length cs = true) : OR ρ G w g (.ro ks (rowsOf ks.length cs)) := by
  obtain ⟨l, arr, t, h1, h2, h3, h4, h5, _, h6⟩ := cells_rows h hk ha
  refine ⟨hk, fun i j d k hi hj => ?_⟩
  rw [h1] at hi
  rw [cell_of_heap h3, h2, Nat.zero_add]
  exact h6 i j d k hi hj
theorem frz_ok {w : World} : ∀ (cs : List Cl) (as : List AV) (M : Me) (hp : List (Nat × Ob)), frz M.hp cs as = some hp → MR ρ G M w →
    MR ρ G { M with hp } w ∧ (∀ k, Mine ρ G { M with hp } k → Mine ρ G M k) ∧ (∀ k, Known ρ G { M with hp } k → Known ρ G M k) ∧
    (∀ b ks e, hget M.hp b = some (.ro ks e) → hget hp b = some (.ro ks e)) ∧
    ∀ (j : Nat) o ks b s off len cap, cs[j]? = some (.rows o ks) → as[j]? = some (.sl b s off len cap) → ∀ ob, hget M.hp b = some ob → ∃ ks' e', hget hp b = some (.ro ks' e') ∧ ((match ob with | .rows _ e | .ro _ e => (e.den ρ).l ≠ [] | .cells cs => cs ≠ [] | _ => False) → (e'.den ρ).l ≠ [])
  | [], as, M, hp, h, hM => by
    have : frz M.hp [] as = some M.hp := by unfold frz; rfl
    rw [this] at h; cases h
    exact ⟨hM, fun k h => h, fun k h => h, fun b ks e h => h, fun j o ks b s off len cap h => by simp at h⟩
  | c :: cs, [], M, hp, h, hM => by
    have : frz M.hp (c :: cs) [] = some M.hp := by unfold frz; rfl
    rw [this] at h; cases h
    exact ⟨hM, fun k h => h, fun k h => h, fun b ks e h => h, fun j o ks b s off len cap _ h => by simp at h⟩
  | c :: cs, a :: as, M, hp, h, hM => by
    unfold frz at h
    cases h1 : frz1 M.hp c a with
    | none => rw [h1] at h; cases h
    | some hp1 =>
      rw [h1] at h
      simp only at h
      have step : MR ρ G { M with hp := hp1 } w ∧ (∀ k, Mine ρ G { M with hp := hp1 } k → Mine ρ G M k) ∧ (∀ k, Known ρ G { M with hp := hp1 } k → Known ρ G M k) ∧ (∀ b ks e, hget M.hp b = some (.ro ks e) → hget hp1 b = some (.ro ks e)) ∧
          (∀ b ob, hget M.hp b = some ob → ∃ ob', hget hp1 b = some ob' ∧ ((match ob with | .rows _ e | .ro _ e => (e.den ρ).l ≠ [] | .cells cs => cs ≠ [] | _ => False) → (match ob' with | .rows _ e | .ro _ e => (e.den ρ).l ≠ [] | .cells cs => cs ≠ [] | _ => False))) ∧
          (∀ o ks b s off len cap, c = .rows o ks → a = .sl b s off len cap → ∀ ob, hget M.hp b = some ob → ∃ ks' e', hget hp1 b = some (.ro ks' e') ∧ ((match ob with | .rows _ e | .ro _ e => (e.den ρ).l ≠ [] | .cells cs => cs ≠ [] | _ => False) → (e'.den ρ).l ≠ [])) := by
        have triv : hp1 = M.hp → (∀ o ks b s off len cap, c = .rows o ks → a = .sl b s off len cap → ∃ ks' e', hget M.hp b = some (.ro ks' e')) → MR ρ G { M with hp := hp1 } w ∧ (∀ k, Mine ρ G { M with hp := hp1 } k → Mine ρ G M k) ∧ (∀ k, Known ρ G { M with hp := hp1 } k → Known ρ G M k) ∧ (∀ b ks e, hget M.hp b = some (.ro ks e) → hget hp1 b = some (.ro ks e)) ∧
          (∀ b ob, hget M.hp b = some ob → ∃ ob', hget hp1 b = some ob' ∧ ((match ob with | .rows _ e | .ro _ e => (e.den ρ).l ≠ [] | .cells cs => cs ≠ [] | _ => False) → (match ob' with | .rows _ e | .ro _ e => (e.den ρ).l ≠ [] | .cells cs => cs ≠ [] | _ => False))) ∧
          (∀ o ks b s off len cap, c = .rows o ks → a = .sl b s off len cap → ∀ ob, hget M.hp b = some ob → ∃ ks' e', hget hp1 b = some (.ro ks' e') ∧ ((match ob with | .rows _ e | .ro _ e => (e.den ρ).l ≠ [] | .cells cs => cs ≠ [] | _ => False) → (e'.den ρ).l ≠ [])) := by
          intro e hro
          subst e
          refine ⟨hM, fun k h => h, fun k h => h, fun b ks e h => h, fun b ob h => ⟨ob, h, fun h => h⟩, fun o ks b s off len cap hc ha ob hob => ?_⟩
          obtain ⟨ks', e', h2⟩ := hro o ks b s off len cap hc ha
          rw [h2] at hob; cases hob
          exact ⟨ks', e', h2, fun h => h⟩
        have turn : ∀ (b : Nat) (ob : Ob) (ks : List CK) (e : SE) (g : GI), hget M.hp b = some ob → G b = some g → hp1 = hset M.hp b (.ro ks e) → OR ρ G w g (.ro ks e) → (Solid ρ g (.ro ks e) → Solid ρ g ob) → (∀ ks' e', ob ≠ .ro ks' e') → ((match ob with | .rows _ e | .ro _ e => (e.den ρ).l ≠ [] | .cells cs => cs ≠ [] | _ => False) → (e.den ρ).l ≠ []) → (∀ s off len cap, ∃ b', a = .sl b s off len cap ∨ a ≠ .sl b' s off len cap) → (∀ b' s off len cap, a = .sl b' s off len cap → b' = b) →
          MR ρ G { M with hp := hp1 } w ∧ (∀ k, Mine ρ G { M with hp := hp1 } k → Mine ρ G M k) ∧ (∀ k, Known ρ G { M with hp := hp1 } k → Known ρ G M k) ∧ (∀ b ks e, hget M.hp b = some (.ro ks e) → hget hp1 b = some (.ro ks e)) ∧
          (∀ b ob, hget M.hp b = some ob → ∃ ob', hget hp1 b = some ob' ∧ ((match ob with | .rows _ e | .ro _ e => (e.den ρ).l ≠ [] | .cells cs => cs ≠ [] | _ => False) → (match ob' with | .rows _ e | .ro _ e => (e.den ρ).l ≠ [] | .cells cs => cs ≠ [] | _ => False))) ∧
          (∀ o ks b s off len cap, c = .rows o ks → a = .sl b s off len cap → ∀ ob, hget M.hp b = some ob → ∃ ks' e', hget hp1 b = some (.ro ks' e') ∧ ((match ob with | .rows _ e | .ro _ e => (e.den ρ).l ≠ [] | .cells cs => cs ≠ [] | _ => False) → (e'.den ρ).l ≠ [])) := by
          intro b ob ks e g hob hg he hor hsol hnro hne _ hab
          subst he
          obtain ⟨k1, k2, k3⟩ := hM.frz hob hg hor hsol
          refine ⟨k1, k2, k3, fun b' ks' e' hx => ?_, fun b' ob' hx => ?_, fun o' ks' b' s off len cap hc ha ob' hob' => ?_⟩
          · rw [hget_hset]
            split
            · rename_i e1; subst e1; rw [hob] at hx; cases hx; exact absurd rfl (hnro ks' e')
            · exact hx
          · rw [hget_hset]
            split
            · rename_i e1; subst e1; rw [hob] at hx; cases hx; exact ⟨_, rfl, hne⟩
            · exact ⟨ob', hx, fun h => h⟩
          · have := hab b' s off len cap ha
            subst this
            rw [hob] at hob'; cases hob'
            exact ⟨ks, e, by rw [hget_hset, if_pos rfl], hne⟩
        unfold frz1 at h1
        split at h1
        · rename_i o ks b s off len cap
          have hab : ∀ b' s' off' len' cap', AV.sl b s off len cap = .sl b' s' off' len' cap' → b' = b := fun b' s' off' len' cap' e => by cases e; rfl
          split at h1
          · rename_i ks' e' hob
            cases h1
            obtain ⟨g, hg, hor⟩ := hM.ob _ _ hob
            refine turn b _ ks' e' g hob hg rfl (rows_ro hor) (fun hs hz => hs (hor.2.2.1 hz)) (fun _ _ h => by cases h) (fun h => h) (fun s off len cap => ⟨b + 1, .inr fun h => ?_⟩) hab
            cases h
          · rename_i cs' hob
            cases hb : (!ks.isEmpty && allData ks ks.length cs'.length cs') with
            | false => rw [hb] at h1; cases h1
            | true =>
              rw [hb] at h1
              simp only [cond_true, Option.some.injEq] at h1
              simp only [Bool.and_eq_true, Bool.not_eq_true'] at hb
              obtain ⟨g, hg, hor⟩ := hM.ob _ _ hob
              have hkn := isEmpty_ne hb.1
              obtain ⟨l, arr, t, q1, q2, q3, q4, q5, q6, q7⟩ := cells_rows hor hkn hb.2
              refine turn b _ ks (rowsOf ks.length cs') g hob hg h1.symm (cells_ro hor hkn hb.2) (fun _ => trivial) (fun _ _ h => by cases h) (fun h => by rw [q1]; exact q6 h) (fun s off len cap => ⟨b + 1, .inr fun h => ?_⟩) hab
              cases h
          · rename_i ks' e' hob
            cases h1
            exact triv rfl fun o2 ks2 b2 s2 off2 len2 cap2 hc ha => by cases ha; exact ⟨ks', e', hob⟩
          · cases h1
        · rename_i hno
          cases h1
          exact triv rfl fun o2 ks2 b2 s2 off2 len2 cap2 hc ha => absurd ha (hno _ _ _ _ _ _ _ hc)
      obtain ⟨s1, s2, s3, s4, s5, s6⟩ := step
      obtain ⟨i1, i2, i3, i4, i5⟩ := frz_ok cs as { M with hp := hp1 } hp h s1
      refine ⟨i1, fun k h => s2 k (i2 k h), fun k h => s3 k (i3 k h), fun b ks e h => i4 b ks e (s4 b ks e h), fun j o ks b s off len cap hc ha ob hob => ?_⟩
      cases j with
      | zero =>
        simp at hc ha
        obtain ⟨ks', e', h2, h3⟩ := s6 o ks b s off len cap hc ha ob hob
        exact ⟨ks', e', i4 b ks' e' h2, h3⟩
      | succ j =>
        obtain ⟨ob', h2, h3⟩ := s5 b ob hob
        obtain ⟨ks', e', h4, h5⟩ := i5 j o ks b s off len cap (by simpa using hc) (by simpa using ha) ob' h2
        exact ⟨ks', e', h4, fun h => h5 (h3 h)⟩
theorem MR.put {M : Me} {w : World} {ob : Ob} {g : GI} (h : MR ρ G M w) (hor : OR ρ (G.add M.nb g) w g ob) (h1 : ob.own = true → Solid ρ g ob → ∀ k, Known ρ G M k → k ≠ g.blk) (h2 : ob.own = false → Solid ρ g ob → ∀ k, Mine ρ G M k → k ≠ g.blk) (hal : ∀ k, ob.also g k → ob.own = false ∧ k < w.heap.size ∧ ¬ Mine ρ G M k := by intro k h; exact h.elim) :
    MR ρ (G.add M.nb g) { M with hp := hset M.hp M.nb ob, nb := M.nb + 1 } w ∧ (∀ k, Mine ρ (G.add M.nb g) { M with hp := hset M.hp M.nb ob, nb := M.nb + 1 } k → Mine ρ G M k ∨ (ob.own = true ∧ Solid ρ g ob ∧ g.blk = k)) ∧
      (∀ k, Known ρ (G.add M.nb g) { M with hp := hset M.hp M.nb ob, nb := M.nb + 1 } k → Known ρ G M k ∨ (Solid ρ g ob ∧ g.blk = k) ∨ ob.also g k) := by
  have hn := h.no
  have hle := Gh.le_add (g := g) hn
  have hadd : ∀ c x, c ≠ M.nb → (G.add M.nb g) c = some x → G c = some x := fun c x hc hx => by unfold Gh.add at hx; rwa [if_neg hc] at hx
  have hself : ∀ x, (G.add M.nb g) M.nb = some x → x = g := fun x hx => by simp [Gh.add] at hx; exact hx.symm
  have hmine : ∀ k, Mine ρ (G.add M.nb g) { M with hp := hset M.hp M.nb ob, nb := M.nb + 1 } k → Mine ρ G M k ∨ (ob.own = true ∧ Solid ρ g ob ∧ g.blk = k) := fun k ⟨c, p, x, k1, k2, k3, k4, k5⟩ => by
    rw [hget_hset] at k1
    split at k1
    · rename_i e1; subst e1; cases k1
      have := hself x k3; subst this
      exact .inr ⟨k2, k4, k5⟩
    · rename_i hcn
      exact .inl ⟨c, p, x, k1, k2, hadd c x hcn k3, k4, k5⟩
  refine ⟨⟨h.pc, fun c x hx => ?_, fun c p hc => ?_, fun c p d q x y hc hd hp hne hx hy s1 s2 => ?_, fun c p y k hc hy hk => ?_⟩, hmine, fun k ⟨c, p, x, k1, k3, k4⟩ => ?_⟩
  · show c < M.nb + 1
    by_cases hcn : c = M.nb
    · omega
    · have := h.fresh c x (hadd c x hcn hx); omega
  · rw [hget_hset] at hc
    split at hc
    · rename_i e1; subst e1; cases hc; exact ⟨g, by simp [Gh.add], hor⟩
    · obtain ⟨x, hx, hox⟩ := h.ob c p hc
      exact ⟨x, hle _ _ hx, hox.same hle (fun _ => rfl) fun _ _ => rfl⟩
  · rw [hget_hset] at hc hd
    split at hc
    · rename_i e1; subst e1; cases hc
      rw [if_neg (Ne.symm hne)] at hd
      have := hself x hx; subst this
      exact Ne.symm (h1 hp s1 y.blk ⟨d, q, y, hd, hadd d y (Ne.symm hne) hy, .inl ⟨s2, rfl⟩⟩)
    · rename_i hcn
      split at hd
      · rename_i e1; subst e1; cases hd
        have := hself y hy; subst this
        cases ho : ob.own with
        | true => exact h1 ho s2 x.blk ⟨c, p, x, hc, hadd c x hcn hx, .inl ⟨s1, rfl⟩⟩
        | false => exact h2 ho s2 x.blk ⟨c, p, x, hc, hp, hadd c x hcn hx, s1, rfl⟩
      · rename_i hdn
        exact h.apart c p d q x y hc hd hp hne (hadd c x hcn hx) (hadd d y hdn hy) s1 s2
  · rw [hget_hset] at hc
    split at hc
    · rename_i e1; subst e1; cases hc
      have := hself y hy; subst this
      obtain ⟨q1, q2, q3⟩ := hal k hk
      refine ⟨q2, fun hm => (hmine k hm).elim q3 fun q => ?_⟩
      rw [q1] at q
      cases q.1
    · rename_i hcn
      have hy' := hadd c y hcn hy
      refine ⟨(h.sub c p y k hc hy' hk).1, fun hm => (hmine k hm).elim (h.sub c p y k hc hy' hk).2 fun q => ?_⟩
      exact h1 q.1 q.2.1 k ⟨c, p, y, hc, hy', .inr hk⟩ q.2.2.symm
  · rw [hget_hset] at k1
    split at k1
    · rename_i e1; subst e1; cases k1
      have := hself x k3; subst this
      exact .inr k4
    · rename_i hcn
      exact .inl ⟨c, p, x, k1, hadd c x hcn k3, k4⟩
theorem outX_ok {D : Nat → SE} {w : World} : ∀ (cs : List Cl) (i : Nat) (M : Me) (G : Gh) (us : List Value) (hs : List GI), us.length = cs.length → hs.length = cs.length → MR ρ G M w →
    (∀ (n : Nat) c v h, cs[n]? = some c → us[n]? = some v → hs[n]? = some h → c.rdg w v ((D (i + n)).den ρ) h) →
    (∀ (n : Nat) ks h, cs[n]? = some (.rows true ks) → hs[n]? = some h → h.off = 0 ∧ (h.sz ≠ 0 → (∃ arr, ∃ t : Tz h.sz, w.heap[h.blk]? = some (.cells arr t.ty t.fz) ∧ arr.size = h.sz) ∧ ∀ k, Known ρ G M k → k ≠ h.blk)) →
    (∀ (n : Nat) c h k, cs[n]? = some c → c.shares = true → hs[n]? = some h → c.told ((D (i + n)).den ρ) h k → ¬ Mine ρ G M k) →
    (∀ (n m : Nat) ks c hn hm k, n ≠ m → cs[n]? = some (.rows true ks) → cs[m]? = some c → hs[n]? = some hn → hs[m]? = some hm → hn.sz ≠ 0 → c.told ((D (i + m)).den ρ) hm k → hn.blk ≠ k) →
    ∃ G', MR ρ G' (outX D cs i M).2 w ∧ G.le G' ∧ VRs ρ G' (outX D cs i M).1 us.toArray ∧
      (∀ k, Mine ρ G' (outX D cs i M).2 k → Mine ρ G M k ∨ ∃ (n : Nat) (ks : List CK) (h : GI), cs[n]? = some (.rows true ks) ∧ hs[n]? = some h ∧ h.sz ≠ 0 ∧ h.blk = k) ∧
      (∀ k, Known ρ G' (outX D cs i M).2 k → Known ρ G M k ∨ ∃ (n : Nat) (c : Cl) (h : GI), cs[n]? = some c ∧ hs[n]? = some h ∧ c.told ((D (i + n)).den ρ) h k) ∧
      (∀ b g, G' b = some g → G b = some g ∨ M.nb ≤ b) ∧ M.nb ≤ (outX D cs i M).2.nb ∧ (outX D cs i M).2.pc = M.pc
  | [], i, M, G, us, hs, lu, lh, hM, hrd, hown, hshr, hsep => by
    have : us = [] := List.eq_nil_of_length_eq_zero lu
    subst this
    exact ⟨G, hM, G.le_refl, vrs_nil', fun k h => .inl h, fun k h => .inl h, fun b g h => .inl h, Nat.le_refl _, rfl⟩
  | .pl k :: cs, i, M, G, us, hs, lu, lh, hM, hrd, hown, hshr, hsep => by
    cases us with
    | nil => simp at lu
    | cons v us =>
      cases hs with
      | nil => simp at lh
      | cons h hs =>
        have e1 : ∀ n : Nat, i + 1 + n = i + (n + 1) := fun n => by omega
        obtain ⟨G', j1, j2, j3, j4, j5, j6, j7, j8⟩ := outX_ok cs (i + 1) M G us hs (by simpa using lu) (by simpa using lh) hM (fun n c v h a b d => by rw [e1]; exact hrd (n + 1) c v h (by simpa using a) (by simpa using b) (by simpa using d))
          (fun n ks h a b => hown (n + 1) ks h (by simpa using a) (by simpa using b)) (fun n c h k a b d e => by rw [e1] at e; exact hshr (n + 1) c h k (by simpa using a) b (by simpa using d) e)
          (fun n m ks c hn hm k hne a b d e f g => by rw [e1] at g; exact hsep (n + 1) (m + 1) ks c hn hm k (by omega) (by simpa using a) (by simpa using b) (by simpa using d) (by simpa using e) f g)
        refine ⟨G', j1, j2, ?_, fun k hk => ?_, fun k hk => ?_, j6, j7, j8⟩
        · refine vrs_cons ?_ j3
          have := hrd 0 (.pl k) v h rfl rfl rfl
          have hv : v = k.val ((D (i + 0)).den ρ) := this
          rw [hv]
          exact ck_ok k _ _ rfl
        · rcases j4 k hk with h | ⟨n, ks, h, a, b, c, d⟩
          · exact .inl h
          · exact .inr ⟨n + 1, ks, h, by simpa using a, by simpa using b, c, d⟩
        · rcases j5 k hk with h | ⟨n, ks, h, a, b, c⟩
          · exact .inl h
          · exact .inr ⟨n + 1, ks, h, by simpa using a, by simpa using b, by rw [← e1]; exact c⟩
  | .rows own ks :: cs, i, M, G, us, hs, lu, lh, hM, hrd, hown, hshr, hsep => by
    cases us with
    | nil => simp at lu
    | cons v us =>
      cases hs with
      | nil => simp at lh
      | cons h hs =>
        have e1 : ∀ n : Nat, i + 1 + n = i + (n + 1) := fun n => by omega
        obtain ⟨hkn, hat, ad, n0, cp, rfl, hlen, hncp, had, hsz⟩ := hrd 0 (.rows own ks) v h rfl rfl rfl
        have hat' : rdAt w h ks ((D i).den ρ).l := hat
        have hlen' : ((D i).den ρ).l.length = n0 := hlen
        let ob : Ob := bif own then .rows ks (D i) else .ro ks (D i)
        have hsolid : Solid ρ h ob → Cl.told (.rows own ks) ((D i).den ρ) h h.blk := fun hs => by cases own <;> exact ⟨hs, rfl⟩
        have hor : ∀ G2, OR ρ G2 w h ob := by
          intro G2
          cases own with
          | false => exact ⟨hkn, hat'⟩
          | true =>
            obtain ⟨q1, q2⟩ := hown 0 ks h rfl rfl
            have hz : h.sz = 0 → ((D i).den ρ).l = [] := fun hz => by
              rw [hz] at hsz
              have := ne_pos hkn
              rcases Nat.mul_eq_zero.1 (Nat.le_zero.1 hsz) with h | h
              · exact List.eq_nil_of_length_eq_zero (by omega)
              · omega
            refine ⟨q1, hkn, hz, fun hnz => ?_⟩
            obtain ⟨⟨arr, t, q3, q4⟩, _⟩ := q2 hnz
            refine ⟨arr, t, q3, q4, ?_, fun a b d k ha hb => ?_⟩
            · rw [q4, hlen']
              exact Nat.le_trans (Nat.mul_le_mul_right _ hncp) hsz
            · have := hat' a b d k ha hb
              rw [cell_of_heap q3, q1, Nat.zero_add] at this
              exact this
        have hal : ∀ k, ¬ ob.also h k := fun k hk => by cases own <;> exact hk.elim
        obtain ⟨p1, p2, p3⟩ := hM.put (ob := ob) (g := h) (hor _) (hal := fun k hk => absurd hk (hal k)) (fun ho hs k hk => by
            have hw : own = true := by cases own <;> first | rfl | cases ho
            subst hw
            exact (hown 0 ks h rfl rfl).2 hs |>.2 k hk) (fun ho hs k hk => by
            have hw : own = false := by cases own <;> first | rfl | cases ho
            subst hw
            exact fun e => hshr 0 (.rows false ks) h k rfl rfl rfl ⟨hs, e.symm⟩ hk)
        obtain ⟨G', j1, j2, j3, j4, j5, j6, j7, j8⟩ := outX_ok cs (i + 1) { M with hp := hset M.hp M.nb ob, nb := M.nb + 1 } (G.add M.nb h) us hs (by simpa using lu) (by simpa using lh) p1 (fun n c v h a b d => by rw [e1]; exact hrd (n + 1) c v h (by simpa using a) (by simpa using b) (by simpa using d))
          (fun n ks' h' a b => by
            obtain ⟨q1, q2⟩ := hown (n + 1) ks' h' (by simpa using a) (by simpa using b)
            refine ⟨q1, fun hz => ⟨(q2 hz).1, fun k hk => ?_⟩⟩
            rcases p3 k hk with hk | ⟨hs, rfl⟩ | hk
            · exact (q2 hz).2 k hk
            · exact Ne.symm (hsep (n + 1) 0 ks' (.rows own ks) h' h _ (by omega) (by simpa using a) rfl (by simpa using b) rfl hz (hsolid hs))
            · exact absurd hk (hal k))
          (fun n c h' k a b d e hk => by
            rw [e1] at e
            rcases p2 k hk with hk | ⟨ho, hs, rfl⟩
            · exact hshr (n + 1) c h' k (by simpa using a) b (by simpa using d) e hk
            · have hw : own = true := by cases own <;> first | rfl | cases ho
              subst hw
              exact hsep 0 (n + 1) ks c h h' _ (by omega) rfl (by simpa using a) rfl (by simpa using d) hs e rfl)
          (fun n m ks c hn hm k hne a b d e f g => by rw [e1] at g; exact hsep (n + 1) (m + 1) ks c hn hm k (by omega) (by simpa using a) (by simpa using b) (by simpa using d) (by simpa using e) f g)
        refine ⟨G', j1, Gh.le_trans (Gh.le_add hM.no) j2, ?_, fun k hk => ?_, fun k hk => ?_, fun b g hb => ?_, Nat.le_trans (Nat.le_succ _) j7, j8⟩
        · refine vrs_cons ?_ j3
          exact .sl _ _ _ _ _ h _ _ _ (j2 _ _ (by simp [Gh.add])) (by rw [lenL_den]; show (((D i).den ρ).l.length : Int) = n0; rw [hlen']) (Int.le_refl 0) hncp (fun e he => by cases he) (fun hc => by rw [had hc]; simp [SE.den, DV.i]) (by simp [SE.den, DV.i]; exact hsz)
        · rcases j4 k hk with hk | ⟨n, ks, h, a, b, c, d⟩
          · rcases p2 k hk with hk | ⟨ho, hs, he⟩
            · exact .inl hk
            · have hw : own = true := by cases own <;> first | rfl | cases ho
              subst hw
              exact .inr ⟨0, ks, h, rfl, rfl, hs, he⟩
          · exact .inr ⟨n + 1, ks, h, by simpa using a, by simpa using b, c, d⟩
        · rcases j5 k hk with hk | ⟨n, ks, h, a, b, c⟩
          · rcases p3 k hk with hk | ⟨hs, he⟩ | hk
            · exact .inl hk
            · exact .inr ⟨0, _, h, rfl, rfl, he ▸ hsolid hs⟩
            · exact absurd hk (hal k)
          · exact .inr ⟨n + 1, ks, h, by simpa using a, by simpa using b, by rw [← e1]; exact c⟩
        · rcases j6 b g hb with hb | hb
          · unfold Gh.add at hb
            split at hb
            · rename_i e; exact .inr (Nat.le_of_eq e.symm)
            · exact .inl hb
          · exact .inr (Nat.le_of_succ_le hb)
  | .nst ns :: cs, i, M, G, us, hs, lu, lh, hM, hrd, hown, hshr, hsep => by
    cases us with
    | nil => simp at lu
    | cons v us =>
      cases hs with
      | nil => simp at lh
      | cons h hs =>
        have e1 : ∀ n : Nat, i + 1 + n = i + (n + 1) := fun n => by omega
        obtain ⟨hkn, hat, ⟨ad, n0, cp, rfl, hlen, hncp, had, hsz⟩, hlt⟩ := hrd 0 (.nst ns) v h rfl rfl rfl
        have hat' : NAt w h ns ((D i).den ρ).l := hat
        have hlen' : ((D i).den ρ).l.length = n0 := hlen
        have tell : ∀ k, ((((D i).den ρ).l ≠ [] ∧ h.blk = k) ∨ hdk h k) → ¬ Mine ρ G M k := fun k hk => hshr 0 (.nst ns) h k rfl rfl rfl hk
        obtain ⟨p1, p2, p3⟩ := hM.put (ob := .nro ns (D i)) (g := h) ⟨hkn, hat'⟩ (fun ho => by cases ho) (fun _ hs k hk e => tell k (.inl ⟨hs, e.symm⟩) hk) (fun k hk => ⟨rfl, by obtain ⟨q, a, n, c, k1, k2, rfl⟩ := hk; exact hlt q a n c k1 k2, tell k (.inr hk)⟩)
        have p3' : ∀ k, Known ρ (G.add M.nb h) { M with hp := hset M.hp M.nb (.nro ns (D i)), nb := M.nb + 1 } k → Known ρ G M k ∨ Cl.told (.nst ns) ((D (i + 0)).den ρ) h k := fun k hk => by
          rcases p3 k hk with hk | hk | hk
          · exact .inl hk
          · exact .inr (.inl hk)
          · exact .inr (.inr hk)
        obtain ⟨G', j1, j2, j3, j4, j5, j6, j7, j8⟩ := outX_ok cs (i + 1) { M with hp := hset M.hp M.nb (.nro ns (D i)), nb := M.nb + 1 } (G.add M.nb h) us hs (by simpa using lu) (by simpa using lh) p1 (fun n c v h a b d => by rw [e1]; exact hrd (n + 1) c v h (by simpa using a) (by simpa using b) (by simpa using d))
          (fun n ks' h' a b => by
            obtain ⟨q1, q2⟩ := hown (n + 1) ks' h' (by simpa using a) (by simpa using b)
            refine ⟨q1, fun hz => ⟨(q2 hz).1, fun k hk => ?_⟩⟩
            rcases p3' k hk with hk | hk
            · exact (q2 hz).2 k hk
            · exact Ne.symm (hsep (n + 1) 0 ks' (.nst ns) h' h _ (by omega) (by simpa using a) rfl (by simpa using b) rfl hz hk))
          (fun n c h' k a b d e hk => by
            rw [e1] at e
            rcases p2 k hk with hk | ⟨ho, hs, rfl⟩
            · exact hshr (n + 1) c h' k (by simpa using a) b (by simpa using d) e hk
            · cases ho)
          (fun n m ks c hn hm k hne a b d e f g => by rw [e1] at g; exact hsep (n + 1) (m + 1) ks c hn hm k (by omega) (by simpa using a) (by simpa using b) (by simpa using d) (by simpa using e) f g)
        refine ⟨G', j1, Gh.le_trans (Gh.le_add hM.no) j2, ?_, fun k hk => ?_, fun k hk => ?_, fun b g hb => ?_, Nat.le_trans (Nat.le_succ _) j7, j8⟩
        · refine vrs_cons ?_ j3
          exact .sl _ _ _ _ _ h _ _ _ (j2 _ _ (by simp [Gh.add])) (by rw [lenL_den]; show (((D i).den ρ).l.length : Int) = n0; rw [hlen']) (Int.le_refl 0) hncp (fun e he => by cases he) (fun hc => by rw [had hc]; simp [SE.den, DV.i]) (by simp [SE.den, DV.i]; exact hsz)
        · rcases j4 k hk with hk | ⟨n, ks, h, a, b, c, d⟩
          · rcases p2 k hk with hk | ⟨ho, hs, he⟩
            · exact .inl hk
            · cases ho
          · exact .inr ⟨n + 1, ks, h, by simpa using a, by simpa using b, c, d⟩
        · rcases j5 k hk with hk | ⟨n, ks, h, a, b, c⟩
          · rcases p3' k hk with hk | hk
            · exact .inl hk
            · exact .inr ⟨0, _, h, rfl, rfl, hk⟩
          · exact .inr ⟨n + 1, ks, h, by simpa using a, by simpa using b, by rw [← e1]; exact c⟩
        · rcases j6 b g hb with hb | hb
          · unfold Gh.add at hb
            split at hb
            · rename_i e; exact .inr (Nat.le_of_eq e.symm)
            · exact .inl hb
          · exact .inr (Nat.le_of_succ_le hb)
end
def SmyOk (E : Bool) (P : Program) (φ : Fs) (l : List (Nat × Smy)) : Prop :=
  ∀ fid sm, getS fid l = some sm → ∃ (pre : List DV → Prop) (F : List DV → List DV), PureE E P fid sm.ins sm.outs pre F ∧ (∀ (ρ : Env) (es : List SE), ρ.f = φ → (∀ c ∈ sm.pre es, (c.den ρ).b = true) → pre (es.map (·.den ρ))) ∧ (∀ ds, (φ sm.sym (.list ds)).l = F ds) ∧ ∀ g, sm.ev = some g → g = F
theorem reads_at {w : World} : ∀ {cs : List Cl} {vs : List Value} {ds : List DV} {gs : List GI}, Reads w cs vs ds gs → ∀ (i : Nat) c v d g, cs[i]? = some c → vs[i]? = some v → ds[i]? = some d → gs[i]? = some g → c.rdg w v d g
  | [], vs, ds, gs, h, i, c, v, d, g, h1, _, _, _ => by simp at h1
  | c :: cs, vs, ds, gs, h, i, c', v', d', g', k1, k2, k3, k4 => by
    obtain ⟨v, vs', d, ds', g, gs', rfl, rfl, rfl, h1, h2⟩ := h
    cases i with
    | zero => simp at k1 k2 k3 k4; subst k1 k2 k3 k4; exact h1
    | succ i => exact reads_at h2 i c' v' d' g' (by simpa using k1) (by simpa using k2) (by simpa using k3) (by simpa using k4)
theorem use_ok {E : Bool} {P : Program} {ρ : Env} {G : Gh} {Q : Lf → Prop} {k : Lf → T} {l : List (Nat × Smy)} (hS : SmyOk E P ρ.f l) {fid : FuncId} {sm : Smy} (hs : getS fid l = some sm) {M M' : Me} {w : World} {args : List AV} {va : Array Value} {v : AV} {cs : List SE} {R : Ending → World → Prop}
    (hu : useA sm M args = some (v, M', cs)) (hcs : ∀ c ∈ cs, (c.den ρ).b = true) {p : PC} (hk : (k (.val v { M' with pc := p })).sat Q ρ) (hp : holdsAll ρ p) (hM : MR ρ G M w) (hv : VRs ρ G args va) (hR : ∀ e w', CReach ρ Q k G M w e w' → R e w') : (∃ fn, P.funcs[fid]? = some fn ∧ fn.body.isNone = false) ∧ CallsIn (Fx E P none) 0 P fid va w R := by
  obtain ⟨pre, F, ⟨hbody, hcall⟩, hpre, hF, hev⟩ := hS fid sm hs
  refine ⟨hbody, ?_⟩
  unfold useA at hu
  split at hu
  · cases hu
  · rename_i fl hfl
    split at hu
    · cases hu
    · rename_i es qs hes
      split at hu
      · cases hu
      · rename_i hp' hhp
        cases hu
        obtain ⟨vs, hgrp, hvs, hll⟩ := flat_ok sm.ins args fl va.toList hfl (by simpa using hv)
        obtain ⟨gs, hrd, hgl, hel, hat⟩ := cells_rd hM (clsOf sm.ins) fl vs es qs hes (fun c hc => hcs c (List.mem_append_left _ hc)) hvs
        have hprep := hpre ρ es rfl (fun c hc => hcs c (List.mem_append_right _ hc))
        have hc := hcall w va.toList vs (es.map (·.den ρ)) gs hgrp hrd hprep
        simp only [Array.toArray_toList] at hc
        refine CallsIn.mono hc ?_
        rintro e w' ⟨ub, us, hs', rfl, hub, hgu, hbelow, ho⟩
        have hfz : MR ρ G { M with hp := hp' } w ∧ (∀ k, Mine ρ G { M with hp := hp' } k → Mine ρ G M k) ∧ (∀ k, Known ρ G { M with hp := hp' } k → Known ρ G M k) ∧
            ((clsOf sm.outs).any Cl.shares = true → ∀ (j : Nat) o ks b s off len cap, (clsOf sm.ins)[j]? = some (.rows o ks) → fl[j]? = some (.sl b s off len cap) → ∀ ob, hget M.hp b = some ob → ∃ ks' e', hget hp' b = some (.ro ks' e') ∧ ((match ob with | .rows _ e | .ro _ e => (e.den ρ).l ≠ [] | .cells cs => cs ≠ [] | _ => False) → (e'.den ρ).l ≠ [])) := by
          cases hany : (clsOf sm.outs).any Cl.shares with
          | false => rw [hany] at hhp; cases hhp; exact ⟨hM, fun _ h => h, fun _ h => h, fun h => by cases h⟩
          | true =>
            rw [hany] at hhp
            obtain ⟨f1, f2, f3, f4, f5⟩ := frz_ok (clsOf sm.ins) fl M hp' hhp hM
            exact ⟨f1, f2, f3, fun _ => f5⟩
        obtain ⟨f1, f2, f3, f4⟩ := hfz
        have f1' : MR ρ G { M with hp := hp' } w' := f1.more fun k hk => hbelow.block k hk
        have hD : ∀ n : Nat, (resE sm es n).den ρ = ((F (es.map (·.den ρ)))[n]?).getD (.int 0) := fun n => by
          have sym : (SE.bin .idx (.fn sm.sym (lstE es)) (.int n)).den ρ = ((F (es.map (·.den ρ)))[n]?).getD (.int 0) := by
            show ((ρ.f sm.sym ((lstE es).den ρ)).l[(n : Int).toNat]?).getD (.int 0) = _
            rw [lst_den, hF]; simp
          unfold resE
          cases hg : sm.ev with
          | none => exact sym
          | some g =>
            simp only
            cases hl : lvs es with
            | none => exact sym
            | some ds => simp only; rw [DV.se_den, lvs_den ρ hl, hev g hg]
        have hD0 : ∀ n : Nat, (resE sm es (0 + n)).den ρ = ((F (es.map (·.den ρ)))[n]?).getD (.int 0) := fun n => by rw [Nat.zero_add]; exact hD n
        have klt : ∀ k, Known ρ G { M with hp := hp' } k → k < w.heap.size := fun k ⟨b, o, g, k1, k2, k3⟩ => by
          rcases k3 with ⟨k3, k4⟩ | k3
          · rw [← k4]; exact f1.solid_lt k1 k2 k3
          · exact (f1.sub b o g k k1 k2 k3).1
        obtain ⟨G', j1, j2, j3, j4, j5, j6, j7, j8⟩ := outX_ok (ρ := ρ) (D := resE sm es) (w := w') (clsOf sm.outs) 0 { M with hp := hp' } G us hs' ho.lu ho.lh f1' (fun n c v h a b d => by rw [hD0]; exact ho.rd n c v h a b d)
          (fun n ks h a b => by
            obtain ⟨q1, q2⟩ := ho.own n ks h a b
            refine ⟨q1, fun hz => ⟨(q2 hz).2, fun k hk => ?_⟩⟩
            have := klt k hk
            have := (q2 hz).1
            omega)
          (fun n c h k a hsh b d hk => by
            rw [hD0] at d
            have hkl : k < w.heap.size := by obtain ⟨b1, o1, g1, k1, _, k2, k3, k4⟩ := hk; exact klt k ⟨b1, o1, g1, k1, k2, .inl ⟨k3, k4⟩⟩
            rcases ho.shr n c h k a hsh b d with hge | ⟨j, o, ks', dj, g, i1, i2, i3, i4, i5⟩
            · omega
            · 
              obtain ⟨b1, o1, g1, k1, k2, k3, k4, k5⟩ := hk
              have hjl : j < (clsOf sm.ins).length := (List.getElem?_eq_some_iff.1 i1).1
              obtain ⟨aj, haj⟩ : ∃ aj, fl[j]? = some aj := ⟨_, List.getElem?_eq_getElem (by omega)⟩
              obtain ⟨ej, hej⟩ : ∃ ej, es[j]? = some ej := ⟨_, List.getElem?_eq_getElem (by omega)⟩
              obtain ⟨hgo, q, hcx⟩ := hat j _ aj ej g i1 haj hej i3
              have hdj : ej.den ρ = dj := by rw [List.getElem?_map, hej] at i2; simpa using i2
              have hsome : ∀ b s off len cap, aj = .sl b s off len cap → (G b).isSome = true := fun b s off len cap ha => by
                obtain ⟨vj, hvj⟩ : ∃ vj, vs[j]? = some vj := ⟨_, List.getElem?_eq_getElem (by have := hvs.1; simp at this; omega)⟩
                have := hvs.2 j aj vj haj (by simpa using hvj)
                rw [ha] at this
                obtain ⟨g0, _, _, _, hg0, _⟩ := this.sl_inv
                rw [hg0]; rfl
              obtain ⟨_, g2, hg2, _, hk2⟩ := rowX hM.ob hcx hsome
              rw [hgo] at hg2; cases hg2
              obtain ⟨_, hsl⟩ := hk2 (by rw [hdj]; exact i4)
              have hslj : ∃ b s off len cap, aj = .sl b s off len cap := by
                obtain ⟨vj, hvj⟩ : ∃ vj, vs[j]? = some vj := ⟨_, List.getElem?_eq_getElem (by have := hvs.1; simp at this; omega)⟩
                cases aj with
                | sl b s off len cap => exact ⟨b, s, off, len, cap, rfl⟩
                | nils =>
                  exfalso
                  apply i4
                  unfold cellX at hcx
                  simp only at hcx
                  cases hke : ks'.isEmpty with
                  | true => rw [hke] at hcx; cases hcx
                  | false =>
                    rw [hke] at hcx
                    simp only [cond_false, srcRows, srcCells, allData, List.length_nil] at hcx
                    cases hcx
                    rw [← hdj]; rfl
                | _ =>
                  unfold cellX at hcx
                  simp only at hcx
                  cases hke : ks'.isEmpty with
                  | true => rw [hke] at hcx; cases hcx
                  | false => rw [hke] at hcx; simp only [cond_false, srcRows, srcCells] at hcx; cases hcx
              obtain ⟨bj, sj, offj, lenj, capj, rfl⟩ := hslj
              obtain ⟨obj, gj, m1, m2, m3, m4, m5⟩ := hsl bj sj offj lenj capj rfl
              have hany : (clsOf sm.outs).any Cl.shares = true := List.any_eq_true.2 ⟨_, List.mem_of_getElem? a, hsh⟩
              obtain ⟨ks2, e2, n1, n2⟩ := f4 hany j o ks' bj sj offj lenj capj i1 haj obj m1
              have hne : b1 ≠ bj := fun e => by
                subst e
                have k1' : hget hp' b1 = some o1 := k1
                rw [n1] at k1'; cases k1'; cases k2
              have := f1.apart b1 o1 bj _ g1 gj k1 n1 k2 hne k3 m2 k4 (n2 m5)
              omega)
          (fun n m ks c hn hm k hne a b d e f g => by rw [hD0] at g; exact ho.sep n m ks c hn hm k hne a b d e f g)
        refine hR _ _ ⟨G', _, j1.pcs hp, ⟨j2, hbelow.os, hbelow.tape, hbelow.output, hbelow.size, fun k hk _ => hbelow.block k hk, fun k hk hlt => ?_, j7, j6, fun k hk hlt => ?_⟩, ?_⟩
        · rcases j4 k hk with hk | ⟨n, ks, h, a, b, c, d⟩
          · exact f2 k hk
          · have := ((ho.own n ks h a b).2 c).1
            omega
        · rcases j5 k hk with hk | ⟨n, c, h, a, b, c'⟩
          · exact f3 k hk
          · have hcase : (∃ ks, c = .rows true ks) ∨ c.shares = true := by
              cases c with
              | pl k => exact c'.elim
              | rows o ks => cases o with
                | true => exact .inl ⟨ks, rfl⟩
                | false => exact .inr rfl
              | nst ns => exact .inr rfl
            rcases hcase with ⟨ks, rfl⟩ | hsh
            · have := ((ho.own n ks h a b).2 c'.1).1; have := c'.2; omega
            · 
                rw [hD0] at c'
                rcases ho.shr n c h k a hsh b c' with hge | ⟨j, o, ks', dj, g, i1, i2, i3, i4, i5⟩
                · omega
                · have hjl : j < (clsOf sm.ins).length := (List.getElem?_eq_some_iff.1 i1).1
                  obtain ⟨aj, haj⟩ : ∃ aj, fl[j]? = some aj := ⟨_, List.getElem?_eq_getElem (by omega)⟩
                  obtain ⟨ej, hej⟩ : ∃ ej, es[j]? = some ej := ⟨_, List.getElem?_eq_getElem (by omega)⟩
                  obtain ⟨hgo, q, hcx⟩ := hat j _ aj ej g i1 haj hej i3
                  have hdj : ej.den ρ = dj := by rw [List.getElem?_map, hej] at i2; simpa using i2
                  have hsome : ∀ b s off len cap, aj = .sl b s off len cap → (G b).isSome = true := fun b s off len cap ha => by
                    obtain ⟨vj, hvj⟩ : ∃ vj, vs[j]? = some vj := ⟨_, List.getElem?_eq_getElem (by have := hvs.1; simp at this; omega)⟩
                    have := hvs.2 j aj vj haj (by simpa using hvj)
                    rw [ha] at this
                    obtain ⟨g0, _, _, _, hg0, _⟩ := this.sl_inv
                    rw [hg0]; rfl
                  obtain ⟨_, g2, hg2, _, hk2⟩ := rowX hM.ob hcx hsome
                  rw [hgo] at hg2; cases hg2
                  have := (hk2 (by rw [hdj]; exact i4)).1
                  rw [i5] at this
                  exact this
        · refine ⟨packR (packA sm.outs (outX (resE sm es) (clsOf sm.outs) 0 { M with hp := hp' }).1), ?_, ?_⟩
          · have hpk := pack_ok sm.outs _ ub us hgu j3
            have hl := hpk.1
            unfold packR packU
            generalize packA sm.outs (outX (resE sm es) (clsOf sm.outs) 0 { M with hp := hp' }).1 = pa at hpk hl
            match pa, ub with
            | [a], [u] => exact hpk.2 0 a u rfl (by simp)
            | [], [] => exact .tup _ _ rfl (fun i a v h => by simp at h)
            | a :: a2 :: pa, u :: u2 :: ub => exact .tup _ _ hpk.1 hpk.2
            | [], u :: ub => simp at hl
            | [a], [] => simp at hl
            | [a], u :: u2 :: ub => simp at hl
            | a :: a2 :: pa, [] => simp at hl
            | a :: a2 :: pa, [u] => simp at hl
          · have e : ({ (outX (resE sm es) (clsOf sm.outs) 0 { M with hp := hp' }).2 with pc := p } : Me) = { (outX (resE sm es) (clsOf sm.outs) 0 { M with hp := hp' }).2 with pc := p } := rfl
            exact hk
end Go.Proofs.YtkfjgggiopegbaaDoor
namespace Go.Proofs.YtkfjgggiopegbaaDoor
open Go.RowKit
section
variable {P : Program} {ρ : Env} {G : Gh}
theorem cellX_slN {hp : List (Nat × Ob)} {ks : List CK} {a : AV} {e : SE} {q : List SE} (h : cellX hp (NK.cl (.sub ks)) a = some (e, q)) : (a = .nils ∧ e = .nil) ∨ ∃ b s off len cap, a = .sl b s off len cap := by
  unfold NK.cl cellX at h
  simp only at h
  cases hke : ks.isEmpty with
  | true => rw [hke] at h; cases h
  | false =>
    rw [hke] at h
    simp only [cond_false] at h
    cases a with
    | sl b s off len cap => exact .inr ⟨b, s, off, len, cap, rfl⟩
    | nils =>
      simp only [srcRows, srcCells, allData, List.length_nil] at h
      cases h
      exact .inl ⟨rfl, rfl⟩
    | _ => simp only [srcRows, srcCells] at h; cases h
def hdG (a : Option Addr) (z : Nat) : GI := match a with | some ad => ⟨ad.block, ad.off, z, default⟩ | none => ⟨0, 0, z, default⟩
theorem rev_ok {M M1 : Me} {w : World} {a a' : AV} {cs : List SE} {v : Value} (hM : MR ρ G M w) (h : revA M a = (a', M1, cs)) (hcs : ∀ c ∈ cs, (c.den ρ).b = true) (hv : VR ρ G a v) :
    ∃ G1, MR ρ G1 M1 w ∧ Stp ρ G M w G1 M1 w ∧ VR ρ G1 a' v ∧ M1.pc = M.pc := by
  unfold revA at h
  split at h
  · rename_i b s i j ks len
    have main : ∀ (ns : List NK) (e : SE), (hget M.hp b = some (.nrows ns e) ∨ hget M.hp b = some (.nro ns e)) → (bif Nat.beq s ns.length && decide (ns[j]? = some (.sub ks)) then
        (AV.sl M.nb ks.length (.int 0) (lenL (mkB .idx (mkB .idx e i) (.int j))) none, { M with hp := hset M.hp M.nb (.ro ks (mkB .idx (mkB .idx e i) (.int j))), nb := M.nb + 1 }, [mkB .le (.int 0) i, ltE i (mkU .len e)]) else (AV.nsl b s i j ks len, M, [])) = (a', M1, cs) →
        ∃ G1, MR ρ G1 M1 w ∧ Stp ρ G M w G1 M1 w ∧ VR ρ G1 a' v ∧ M1.pc = M.pc := by
      intro ns e hob h
      cases hb : (Nat.beq s ns.length && decide (ns[j]? = some (.sub ks))) with
      | false => rw [hb] at h; cases h; exact ⟨G, hM, Stp.refl _ _ _ _, hv, rfl⟩
      | true =>
        rw [hb] at h
        simp only [cond_true, Prod.mk.injEq] at h
        obtain ⟨rfl, rfl, rfl⟩ := h
        simp only [Bool.and_eq_true, beq_iff, decide_eq_true_eq] at hb
        obtain ⟨rfl, hj⟩ := hb
        have h0 := hcs (mkB .le (.int 0) i) (by simp)
        have h1 := hcs (ltE i (mkU .len e)) (by simp)
        rw [le_b, int_i] at h0
        rw [lt_b, len_den] at h1
        have h0 := of_decide_eq_true h0
        have h1 := of_decide_eq_true h1
        obtain ⟨g, ad, n, c, hg, rfl, hh, hlen, hnc, hadr⟩ := hv.nsl_inv
        have hat := nest_at hM.ob hg hob
        have hml : (i.den ρ).i.toNat < (e.den ρ).l.length := by omega
        have hd : (e.den ρ).l[(i.den ρ).i.toNat]? = some ((e.den ρ).l[(i.den ρ).i.toNat]?.getD (.int 0)) := by rw [List.getElem?_eq_getElem hml]; rfl
        have hre : (mkB .idx e i).den ρ = (e.den ρ).l[(i.den ρ).i.toNat]?.getD (.int 0) := by rw [mkB_den]; rfl
        have hl : (mkB .idx (mkB .idx e i) (.int j)).den ρ = cellN ((e.den ρ).l[(i.den ρ).i.toNat]?.getD (.int 0)) j := by rw [mkB_den, hre]; rfl
        obtain ⟨v', _, k1, hks, ad', n', c', rfl, k2, k3, k4, k5⟩ := hat _ j _ _ hd hj
        rw [hh] at k1; cases k1
        rw [← hl] at k2 k5
        have hobj : ∃ o, hget M.hp b = some o ∧ ∀ k, (∃ q a n c, g.hd q = some (.slice (some a) n c) ∧ 0 < n ∧ a.block = k) → o.also g k := by
          rcases hob with h | h
          · exact ⟨_, h, fun k hk => hk⟩
          · exact ⟨_, h, fun k hk => hk⟩
        obtain ⟨o, ho, halso⟩ := hobj
        have hsol : ((mkB .idx (mkB .idx e i) (.int j)).den ρ).l ≠ [] → o.also g (hdG ad (c * ks.length)).blk := by
          intro hne
          have hn : 0 < n := by
            rcases Nat.eq_zero_or_pos n with h | h
            · rw [h] at k2; exact absurd (List.eq_nil_of_length_eq_zero k2) hne
            · exact h
          obtain ⟨blk, off, rfl⟩ := hadr (by omega)
          exact halso _ ⟨_, _, n, c, hh, hn, rfl⟩
        obtain ⟨m1, m2, m3⟩ := hM.put (ob := .ro ks (mkB .idx (mkB .idx e i) (.int j))) (g := hdG ad (c * ks.length)) ⟨hks, fun i' j' d k hi' hj' => by
            obtain ⟨blk, off, rfl, hcell⟩ := k5 i' j' d k hi' hj'
            exact hcell⟩ (fun h => by cases h) (fun _ hs k hk e => (hM.sub b o g k ho hg (e ▸ hsol hs)).2 hk)
        refine ⟨_, m1, ⟨Gh.le_add hM.no, rfl, rfl, rfl, Nat.le_refl _, fun _ _ _ => rfl, fun k hk _ => ?_, Nat.le_succ _, fun b' g' hb' => ?_, fun k hk _ => ?_⟩, ?_, rfl⟩
        · rcases m2 k hk with h | h
          · exact h
          · cases h.1
        · unfold Gh.add at hb'
          split at hb'
          · rename_i e; exact .inr (Nat.le_of_eq e.symm)
          · exact .inl hb'
        · rcases m3 k hk with h | ⟨hs, rfl⟩ | h
          · exact h
          · exact ⟨b, o, g, ho, hg, .inr (hsol hs)⟩
          · exact h.elim
        · refine .sl _ _ _ _ _ (hdG ad (c * ks.length)) _ _ _ (by simp [Gh.add]) (by rw [lenL_den]; show ((((mkB .idx (mkB .idx e i) (.int j)).den ρ).l.length : Nat) : Int) = n; rw [k2]) (Int.le_refl 0) hnc (fun e he => by cases he) (fun hc => ?_) ?_
          · obtain ⟨blk, off, rfl⟩ := hadr hc
            simp [hdG, SE.den, DV.i]
          · cases ad <;> simp [hdG, SE.den, DV.i]
    split at h
    · rename_i ns e hob; exact main ns e (.inl hob) h
    · rename_i ns e hob; exact main ns e (.inr hob) h
    · cases h; exact ⟨G, hM, Stp.refl _ _ _ _, hv, rfl⟩
  · cases h; exact ⟨G, hM, Stp.refl _ _ _ _, hv, rfl⟩
theorem revC_ok {w : World} : ∀ (l : List AV) {G : Gh} {M M1 : Me} {l' : List AV} {cs : List SE} {vs : List Value}, MR ρ G M w → revC M l = (l', M1, cs) → (∀ c ∈ cs, (c.den ρ).b = true) → VRs ρ G l vs.toArray →
    ∃ G1, MR ρ G1 M1 w ∧ Stp ρ G M w G1 M1 w ∧ VRs ρ G1 l' vs.toArray ∧ l'.length = l.length ∧ M1.pc = M.pc
  | [], G, M, M1, l', cs, vs, hM, h, hcs, hv => by unfold revC at h; cases h; exact ⟨G, hM, Stp.refl _ _ _ _, hv, rfl, rfl⟩
  | a :: r, G, M, M1, l', cs, vs, hM, h, hcs, hv => by
    unfold revC at h
    generalize h1 : revA M a = x at h
    obtain ⟨a', Ma, c1⟩ := x
    simp only at h
    generalize h2 : revC Ma r = y at h
    obtain ⟨r', Mb, c2⟩ := y
    simp only [Prod.mk.injEq] at h
    obtain ⟨rfl, rfl, rfl⟩ := h
    obtain ⟨v, vs', rfl, k1, k2⟩ := vrs_cons_inv hv
    obtain ⟨G1, m1, m2, m3, m4⟩ := rev_ok hM h1 (fun c hc => hcs c (List.mem_append_left _ hc)) k1
    obtain ⟨G2, n1, n2, n3, n4, n5⟩ := revC_ok r m1 h2 (fun c hc => hcs c (List.mem_append_right _ hc)) (k2.mono m2.gh)
    exact ⟨G2, n1, m2.trans n2, vrs_cons (m3.mono n2.gh) n3, by simp [n4], n5.trans m4⟩
theorem revL_ok {w : World} : ∀ (l : List AV) {G : Gh} {M M1 : Me} {l' : List AV} {cs : List SE} {vs : List Value}, MR ρ G M w → revL M l = (l', M1, cs) → (∀ c ∈ cs, (c.den ρ).b = true) → VRs ρ G l vs.toArray →
    ∃ G1, MR ρ G1 M1 w ∧ Stp ρ G M w G1 M1 w ∧ VRs ρ G1 l' vs.toArray ∧ M1.pc = M.pc
  | [], G, M, M1, l', cs, vs, hM, h, hcs, hv => by unfold revL at h; cases h; exact ⟨G, hM, Stp.refl _ _ _ _, hv, rfl⟩
  | a :: r, G, M, M1, l', cs, vs, hM, h, hcs, hv => by
    obtain ⟨v, vs', rfl, k1, k2⟩ := vrs_cons_inv hv
    have main : ∀ (a' : AV) (Ma : Me) (c1 : List SE) (r' : List AV) (Mb : Me) (c2 : List SE), ((∀ c ∈ c1, (c.den ρ).b = true) → ∃ G1, MR ρ G1 Ma w ∧ Stp ρ G M w G1 Ma w ∧ VR ρ G1 a' v ∧ Ma.pc = M.pc) → revL Ma r = (r', Mb, c2) → (a' :: r', Mb, c1 ++ c2) = (l', M1, cs) →
        ∃ G1, MR ρ G1 M1 w ∧ Stp ρ G M w G1 M1 w ∧ VRs ρ G1 l' (v :: vs').toArray ∧ M1.pc = M.pc := by
      intro a' Ma c1 r' Mb c2 h1 h2 h
      simp only [Prod.mk.injEq] at h
      obtain ⟨rfl, rfl, rfl⟩ := h
      obtain ⟨G1, m1, m2, m3, m4⟩ := h1 (fun c hc => hcs c (List.mem_append_left _ hc))
      obtain ⟨G2, n1, n2, n3, n4⟩ := revL_ok r m1 h2 (fun c hc => hcs c (List.mem_append_right _ hc)) (k2.mono m2.gh)
      exact ⟨G2, n1, m2.trans n2, vrs_cons (m3.mono n2.gh) n3, n4.trans m4⟩
    unfold revL at h
    split at h
    · rename_i heq; cases heq
    · rename_i ds r0 heq
      cases heq
      generalize h1 : revC M ds = x at h
      obtain ⟨ds', Ma, c1⟩ := x
      simp only at h
      generalize h2 : revL Ma r = y at h
      obtain ⟨r', Mb, c2⟩ := y
      obtain ⟨us, rfl, hus⟩ := k1.agg_inv
      refine main (.agg ds') Ma c1 r' Mb c2 (fun hc => ?_) h2 h
      obtain ⟨G1, m1, m2, m3, m4, m5⟩ := revC_ok ds (vs := us.toList) hM h1 hc (by simpa using hus)
      exact ⟨G1, m1, m2, .agg _ _ (by have := m3.1; simpa using this) (fun i a v x y => m3.2 i a v x (by simpa using y)), m5⟩
    · rename_i a0 r0 hno heq
      cases heq
      generalize h1 : revA M a = x at h
      obtain ⟨a', Ma, c1⟩ := x
      simp only at h
      generalize h2 : revL Ma r = y at h
      obtain ⟨r', Mb, c2⟩ := y
      exact main a' Ma c1 r' Mb c2 (fun hc => rev_ok hM h1 hc k1) h2 h
theorem useX_ok {E : Bool} {Q : Lf → Prop} {k : Lf → T} {l : List (Nat × Smy)} (hS : SmyOk E P ρ.f l) {fid : FuncId} {sm : Smy} (hs : getS fid l = some sm) {M M' : Me} {w : World} {args : List AV} {va : Array Value} {v : AV} {cs : List SE} {R : Ending → World → Prop}
    (hu : useX sm M args = some (v, M', cs)) (h : (needs M cs fun M => k (.val v { M' with pc := M.pc })).sat Q ρ) (hM : MR ρ G M w) (hv : VRs ρ G args va) (hR : ∀ e w', CReach ρ Q k G M w e w' → R e w') : (∃ fn, P.funcs[fid]? = some fn ∧ fn.body.isNone = false) ∧ CallsIn (Fx E P none) 0 P fid va w R := by
  obtain ⟨hcs, p, hk, hp⟩ := needs_pc cs h hM.pc
  unfold useX at hu
  generalize h1 : revL M args = x at hu
  obtain ⟨args', M1, c1⟩ := x
  simp only at hu
  split at hu
  · rename_i v' M2 c2 h2
    cases hu
    obtain ⟨G1, m1, m2, m3, _⟩ := revL_ok args (vs := va.toList) hM h1 (fun c hc => hcs c (List.mem_append_left _ hc)) (by simpa using hv)
    refine use_ok hS hs h2 (fun c hc => hcs c (List.mem_append_right _ hc)) hk hp m1 (by simpa using m3) fun e w' ⟨G', M3, q1, q2, q3⟩ => hR e w' ⟨G', M3, q1, m2.trans q2, q3⟩
  · cases hu
end
end Go.Proofs.YtkfjgggiopegbaaDoor
namespace Go.Proofs.YtkfjgggiopegbaaDoor
open Go.RowKit
section
variable {P : Program} {ρ : Env} {G : Gh}
theorem listAt {α : Type} {l : List α} {i : Nat} (h : i < l.length) : ∃ x, l[i]? = some x := ⟨_, List.getElem?_eq_getElem h⟩
def lpOf (l : List Value) : Loop := { (default : Loop) with tmps := l.toArray }
theorem hd_lp (b o z : Nat) (l : List Value) (q : Nat) : GI.hd ⟨b, o, z, lpOf l⟩ q = l[q]? := by
  show (l.toArray)[q]? = _
  simp
def NVs (w : World) (ns : List NK) (l : List DV) (vs : List Value) : Prop :=
  vs.length = l.length * ns.length ∧ ∀ (i j : Nat) (d : DV) (k : NK), l[i]? = some d → ns[j]? = some k → ∃ v, vs[i * ns.length + j]? = some v ∧ (match k with | .pl k => v = k.val (cellN d j) | .sub ks => SubAt w ks (cellN d j).l v)
theorem NVs.app {w : World} {ns : List NK} {l l2 : List DV} {vs vs2 : List Value} (h : NVs w ns l vs) (h2 : NVs w ns l2 vs2) : NVs w ns (l ++ l2) (vs ++ vs2) := by
  refine ⟨by rw [List.length_append, List.length_append, h.1, h2.1, Nat.add_mul], fun i j d k hi hj => ?_⟩
  have hjl := (List.getElem?_eq_some_iff.1 hj).1
  rw [List.getElem?_append] at hi
  split at hi
  · rename_i hlt
    obtain ⟨v, hv, hk⟩ := h.2 i j d k hi hj
    exact ⟨v, by rw [List.getElem?_append_left (List.getElem?_eq_some_iff.1 hv).1]; exact hv, hk⟩
  · rename_i hge
    obtain ⟨v, hv, hk⟩ := h2.2 _ j d k hi hj
    refine ⟨v, ?_, hk⟩
    have e : i * ns.length + j = l.length * ns.length + ((i - l.length) * ns.length + j) := by
      rw [Nat.sub_mul]
      have := Nat.mul_le_mul_right ns.length (Nat.le_of_not_lt hge)
      omega
    rw [e, ← h.1, List.getElem?_append_right (Nat.le_add_right _ _), Nat.add_sub_cancel_left]
    exact hv
theorem NVs.same {w w' : World} {ns : List NK} {l : List DV} {vs : List Value} (h : NVs w ns l vs) (hb : ∀ (q : Nat) a n c, vs[q]? = some (.slice (some a) n c) → 0 < n → w'.heap[a.block]? = w.heap[a.block]?) : NVs w' ns l vs := by
  refine ⟨h.1, fun i j d k hi hj => ?_⟩
  obtain ⟨v, hv, hk⟩ := h.2 i j d k hi hj
  refine ⟨v, hv, ?_⟩
  cases k with
  | pl k => exact hk
  | sub ks => exact hk.same fun a n c e hn => hb _ a n c (e ▸ hv) hn
theorem NVs.at {w : World} {ns : List NK} {l : List DV} {vs : List Value} (h : NVs w ns l vs) {b z : Nat} (hc : ∀ q v, vs[q]? = some v → w.cell? ⟨b, q, none⟩ = some v) : NAt w ⟨b, 0, z, lpOf vs⟩ ns l := by
  intro i j d k hi hj
  obtain ⟨v, hv, hk⟩ := h.2 i j d k hi hj
  refine ⟨v, by rw [Nat.zero_add]; exact hc _ _ hv, ?_⟩
  cases k with
  | pl k => exact hk
  | sub ks => exact ⟨by rw [hd_lp]; exact hv, hk⟩
def Safe (ρ : Env) (G : Gh) (M : Me) (w : World) (vs : List Value) : Prop := ∀ (q : Nat) (a : Addr) (n c : Nat), vs[q]? = some (.slice (some a) n c) → 0 < n → a.block < w.heap.size ∧ ¬ Mine ρ G M a.block ∧ Known ρ G M a.block
theorem Safe.app {M : Me} {w : World} {vs vs2 : List Value} (h : Safe ρ G M w vs) (h2 : Safe ρ G M w vs2) : Safe ρ G M w (vs ++ vs2) := by
  intro q a n c hq hn
  rw [List.getElem?_append] at hq
  split at hq
  · exact h q a n c hq hn
  · exact h2 _ a n c hq hn
theorem safe_also {M : Me} {w : World} {vs : List Value} (h : Safe ρ G M w vs) {b z : Nat} {ns : List NK} {e : SE} : ∀ k, (Ob.nrows ns e).also ⟨b, 0, z, lpOf vs⟩ k → k < w.heap.size ∧ ¬ Mine ρ G M k ∧ Known ρ G M k := by
  rintro k ⟨q, a, n, c, hq, hn, rfl⟩
  rw [hd_lp] at hq
  exact h q a n c hq hn
theorem grown_nest {M : Me} {w : World} (hM : MR ρ G M w) {ns : List NK} {E L : SE} {olds news : List Value} (hns : ns ≠ []) (hv : NVs w ns (E.den ρ).l (olds ++ news)) (hsafe : Safe ρ G M w (olds ++ news)) {q len : Nat} (z : Array Value) (hz : z.size = ns.length) (e : TypeId) (hlen : (E.den ρ).l.length = len) (hL : (L.den ρ).i = len) :
    ∃ G', MR ρ G' { M with hp := hset M.hp M.nb (.nrows ns E), nb := M.nb + 1 } (w.drew.alloc (.cells (olds.toArray ++ news.toArray ++ Builtin.zeroCells z q) e)) ∧ Stp ρ G M w G' { M with hp := hset M.hp M.nb (.nrows ns E), nb := M.nb + 1 } (w.drew.alloc (.cells (olds.toArray ++ news.toArray ++ Builtin.zeroCells z q) e)) ∧
      VR ρ G' (.sl M.nb ns.length (.int 0) L none) (.slice (some ⟨w.heap.size, 0, none⟩) len (len + q)) := by
  have hn0 : 0 < ns.length := by cases ns with | nil => exact absurd rfl hns | cons _ _ => simp
  have hvl := hv.1
  rw [hlen, List.length_append] at hvl
  have hsz : (olds.toArray ++ news.toArray ++ Builtin.zeroCells z q).size = (len + q) * ns.length := by
    simp only [Array.size_append, List.size_toArray, zeroCells_size, hz]
    rw [Nat.add_mul]
    omega
  have hsame : ∀ k, k < w.heap.size → (w.drew.alloc (.cells (olds.toArray ++ news.toArray ++ Builtin.zeroCells z q) e)).heap[k]? = w.heap[k]? := alloc_more w.drew _
  have hv' : NVs (w.drew.alloc (.cells (olds.toArray ++ news.toArray ++ Builtin.zeroCells z q) e)) ns (E.den ρ).l (olds ++ news) := hv.same fun q' a n c h hn => hsame _ (hsafe q' a n c h hn).1
  have hcell : ∀ q' v, (olds ++ news)[q']? = some v → (w.drew.alloc (.cells (olds.toArray ++ news.toArray ++ Builtin.zeroCells z q) e)).cell? ⟨w.heap.size, q', none⟩ = some v := fun q' v h => by
    rw [cell_of_heap (b := w.heap.size) (alloc_new w.drew _)]
    rw [Array.getElem?_append, if_pos (by have := (List.getElem?_eq_some_iff.1 h).1; simpa using this)]
    simpa using h
  obtain ⟨h1, h2⟩ := hM.drew.new (w' := w.drew.alloc (.cells (olds.toArray ++ news.toArray ++ Builtin.zeroCells z q) e)) (.nrows ns E) ⟨w.heap.size, 0, (len + q) * ns.length, lpOf (olds ++ news)⟩ (Nat.le_refl _)
    ⟨rfl, hns, fun h => by
      rcases Nat.mul_eq_zero.1 h with h | h
      · exact List.eq_nil_of_length_eq_zero (by omega)
      · omega, fun _ => ⟨_, e, alloc_new w.drew _, hsz, by rw [hsz, hlen]; exact Nat.mul_le_mul_right _ (by omega)⟩, hv'.at hcell⟩ rfl rfl rfl (by simp) (alloc_more w.drew _) rfl (safe_also hsafe)
  exact ⟨_, h1, stp_drew_new h2, .sl _ _ _ _ _ _ _ _ _ (by simp [Gh.add]; rfl) (by rw [hL]) (Int.le_refl _) (by omega) (fun e he => by cases he) (fun _ => by simp [int_i]) (by simp [int_i])⟩
theorem row_nest {M : Me} {w : World} (hM : MR ρ G M w) {ns : List NK} {xs : List AV} {news : List Value} {es qs : List SE} {hp1 : List (Nat × Ob)} (hl : xs.length = ns.length) (hc : cellsX M.hp (ns.map NK.cl) xs = some (es, qs)) (hf : frz M.hp (ns.map NK.cl) xs = some hp1) (hq : ∀ c ∈ qs, (c.den ρ).b = true) (hv : VRs ρ G xs news.toArray) :
    NVs w ns [(lstE es).den ρ] news ∧ Safe ρ G { M with hp := hp1 } w news ∧ MR ρ G { M with hp := hp1 } w ∧ Stp ρ G M w G { M with hp := hp1 } w := by
  obtain ⟨gs, hrd, hgl, hel, hat⟩ := cells_rd hM (ns.map NK.cl) xs news es qs hc hq hv
  obtain ⟨f1, f2, f3, f4, f5⟩ := frz_ok (ns.map NK.cl) xs M hp1 hf hM
  have hnl : news.length = ns.length := by have := hv.1; simp at this; omega
  rw [List.length_map] at hgl hel
  have cell : ∀ (j : Nat) (k : NK), ns[j]? = some k → ∃ a v e g, xs[j]? = some a ∧ news[j]? = some v ∧ es[j]? = some e ∧ gs[j]? = some g ∧ k.cl.rdg w v (e.den ρ) g ∧ gOf ρ G a = some g ∧ VR ρ G a v ∧ ∃ q, cellX M.hp k.cl a = some (e, q) := by
    intro j k hk
    have hj := (List.getElem?_eq_some_iff.1 hk).1
    obtain ⟨a, ha⟩ := listAt (l := xs) (i := j) (by omega)
    obtain ⟨v, hv'⟩ := listAt (l := news) (i := j) (by omega)
    obtain ⟨e, he⟩ := listAt (l := es) (i := j) (by omega)
    obtain ⟨g, hg⟩ := listAt (l := gs) (i := j) (by omega)
    have hc : (ns.map NK.cl)[j]? = some k.cl := by rw [List.getElem?_map, hk]; rfl
    have hr := reads_at hrd j k.cl v (e.den ρ) g hc hv' (by rw [List.getElem?_map, he]; rfl) hg
    obtain ⟨h1, h2⟩ := hat j k.cl a e g hc ha he hg
    exact ⟨a, v, e, g, ha, hv', he, hg, hr, h1, hv.2 j a v ha (by simpa using hv'), h2⟩
  have hden : ((lstE es).den ρ).l = es.map (·.den ρ) := by rw [lst_den]; rfl
  refine ⟨⟨by simp [hnl], fun i j d k hi hj => ?_⟩, fun q ad n c hq hn => ?_, f1, ⟨G.le_refl, rfl, rfl, rfl, Nat.le_refl _, fun _ _ _ => rfl, fun k hk _ => f2 k hk, Nat.le_refl _, fun _ _ h => .inl h, fun k hk _ => f3 k hk⟩⟩
  · cases i with
    | succ i => simp at hi
    | zero =>
      simp at hi
      subst hi
      obtain ⟨a, v, e, g, ha, hv', he, hg, hr, h1, hva, q, hx⟩ := cell j k hj
      refine ⟨v, by rw [Nat.zero_mul, Nat.zero_add]; exact hv', ?_⟩
      have hcd : cellN ((lstE es).den ρ) j = e.den ρ := by unfold cellN; rw [hden, List.getElem?_map, he]; rfl
      cases k with
      | pl k => rw [hcd]; exact hr
      | sub ks =>
        obtain ⟨hks, hrow, ad, n, cp, rfl, k1, k2, k3, k4⟩ := hr
        rw [hcd]
        refine ⟨hks, ad, n, cp, rfl, k1, k2, fun hc => ⟨_, _, k3 hc⟩, fun i' j' x k' hi' hj' => ?_⟩
        have hil := (List.getElem?_eq_some_iff.1 hi').1
        exact ⟨g.blk, g.off, k3 (by omega), hrow i' j' x k' hi' hj'⟩
  · have hqn : q < ns.length := by have := (List.getElem?_eq_some_iff.1 hq).1; omega
    obtain ⟨a, v, e, g, ha, hv', he, hg, hr, h1, hva, q', hx⟩ := cell q _ (List.getElem?_eq_getElem hqn)
    rw [hq] at hv'; cases hv'
    generalize hk : ns[q] = k at hr hx
    have hcl : (ns.map NK.cl)[q]? = some k.cl := by rw [List.getElem?_map, List.getElem?_eq_getElem hqn, hk]; rfl
    cases k with
    | pl k =>
      have hr : Value.slice (some ad) n c = k.val (e.den ρ) := hr
      cases k <;> cases hr
    | sub ks =>
      obtain ⟨hks, hrow, ad', n', cp, heq, k1, k2, k3, k4⟩ := hr
      cases heq
      have hne : (e.den ρ).l ≠ [] := fun h => by rw [h] at k1; simp at k1; omega
      have hb := k3 (by omega)
      cases hb
      have hsl : ∃ b s off len cap, a = .sl b s off len cap := by
        rcases cellX_slN hx with h | h
        · exact absurd (by rw [h.2]; rfl) hne
        · exact h
      obtain ⟨b, s, off, len, cap, rfl⟩ := hsl
      obtain ⟨_, g2, hg2, _, hkw⟩ := rowX hM.ob hx (fun b' s' off' len' cap' he => by
        cases he
        obtain ⟨g0, _, _, _, hg0, _⟩ := hva.sl_inv
        rw [hg0]; rfl)
      rw [h1] at hg2; cases hg2
      obtain ⟨kn, hob⟩ := hkw hne
      obtain ⟨ob, g', m1, m2, m3, m4, m5⟩ := hob b s off len cap rfl
      obtain ⟨ks2, e2, n1, n2⟩ := f5 q false ks b s off len cap hcl ha ob m1
      have hsol2 : Solid ρ g' (.ro ks2 e2) := n2 m5
      have hlt : g'.blk < w.heap.size := f1.solid_lt n1 m2 hsol2
      refine ⟨by rw [← m4]; exact hlt, fun ⟨c1, o1, g1, q1, q2, q3, q4, q5⟩ => ?_, ⟨b, _, g', n1, m2, .inl ⟨hsol2, m4⟩⟩⟩
      have hcb : c1 ≠ b := fun e => by subst e; rw [n1] at q1; cases q1; cases q2
      exact f1.apart c1 o1 b _ g1 g' q1 n1 q2 hcb q3 m2 q4 hsol2 (q5.trans m4.symm)
theorem old_nest {M : Me} {w : World} {b : Nat} {ns : List NK} {e : SE} {g : GI} (hM : MR ρ G M w) (hob : hget M.hp b = some (.nrows ns e)) (hg : G b = some g) :
    ∃ olds, NVs w ns (e.den ρ).l olds ∧ Safe ρ G M w olds ∧ ∀ q v, olds[q]? = some v → w.cell? ⟨g.blk, q, none⟩ = some v := by
  obtain ⟨g', hg', hgo, hns, hvirt, hreal, hnat⟩ := hM.ob _ _ hob
  rw [hg] at hg'; cases hg'
  have hn0 : 0 < ns.length := by cases ns with | nil => exact absurd rfl hns | cons _ _ => simp
  by_cases hz : g.sz = 0
  · have hl := hvirt hz
    rw [hl]
    exact ⟨[], ⟨by simp, fun i j d k hi => by simp at hi⟩, fun q a n c h => by simp at h, fun q v h => by simp at h⟩
  · obtain ⟨arr, tt, hheap, hasz, hfit⟩ := hreal hz
    have hcell : ∀ q v, w.cell? ⟨g.blk, q, none⟩ = some v ↔ arr[q]? = some v := fun q v => by rw [cell_of_heap hheap]
    have hol : (arr.toList.take ((e.den ρ).l.length * ns.length)).length = (e.den ρ).l.length * ns.length := by
      rw [List.length_take, Array.length_toList]
      exact Nat.min_eq_left hfit
    have hget : ∀ q v, (arr.toList.take ((e.den ρ).l.length * ns.length))[q]? = some v ↔ q < (e.den ρ).l.length * ns.length ∧ arr[q]? = some v := fun q v => by
      rw [List.getElem?_take]
      split
      · rename_i h; rw [Array.getElem?_toList]; exact ⟨fun hv => ⟨h, hv⟩, fun hv => hv.2⟩
      · rename_i h; exact ⟨(fun hv => by cases hv), fun hv => absurd hv.1 h⟩
    refine ⟨arr.toList.take ((e.den ρ).l.length * ns.length), ⟨hol, fun i j d k hi hj => ?_⟩, fun q a n c hq hn => ?_, fun q v hq => (hcell q v).2 ((hget q v).1 hq).2⟩
    · obtain ⟨v, hv, hk⟩ := hnat i j d k hi hj
      have hil := (List.getElem?_eq_some_iff.1 hi).1
      have hjl := (List.getElem?_eq_some_iff.1 hj).1
      rw [hgo, Nat.zero_add] at hv
      refine ⟨v, (hget _ v).2 ⟨?_, (hcell _ v).1 hv⟩, ?_⟩
      · have := Nat.mul_le_mul_right ns.length (show i + 1 ≤ (e.den ρ).l.length from hil)
        rw [Nat.add_mul, Nat.one_mul] at this
        omega
      · cases k with
        | pl k => exact hk
        | sub ks => exact hk.2
    · obtain ⟨hqN, hqa⟩ := (hget q _).1 hq
      have hi : q / ns.length < (e.den ρ).l.length := Nat.div_lt_of_lt_mul (by rw [Nat.mul_comm]; exact hqN)
      have hj : q % ns.length < ns.length := Nat.mod_lt _ hn0
      obtain ⟨v, hv, hk⟩ := hnat (q / ns.length) (q % ns.length) _ _ (List.getElem?_eq_getElem hi) (List.getElem?_eq_getElem hj)
      have hqe : q / ns.length * ns.length + q % ns.length = q := by rw [Nat.mul_comm]; exact Nat.div_add_mod _ _
      rw [hgo, Nat.zero_add, hqe, hcell] at hv
      rw [hqe] at hk
      rw [hqa] at hv; cases hv
      generalize ns[q % ns.length] = k at hk
      cases k with
      | pl k =>
        have hk : Value.slice (some a) n c = k.val (cellN _ _) := hk
        cases k <;> cases hk
      | sub ks =>
        have ha : (Ob.nrows ns e).also g a.block := ⟨q, a, n, c, hk.1, hn, rfl⟩
        obtain ⟨q1, q2⟩ := hM.sub b _ g _ hob hg ha
        exact ⟨q1, q2, b, _, g, hob, hg, .inr ha⟩
set_option maxHeartbeats 1000000 in
theorem appendN_ok {t xt : TypeId} {ty : TypeId} {M M' : Me} {w : World} {s x r : AV} {cs : List SE} {u v : Value} (hM : MR ρ G M w) (h : appendN P t xt M s x = some (r, M', cs)) (hcs : ∀ c ∈ cs, (c.den ρ).b = true) (hs : VR ρ G s u) (hx : VR ρ G x v) :
    Does P ρ G M w (Builtin.append_ #[t, xt] ty #[u, v]) r M' := by
  unfold appendN at h
  split at h
  · rename_i el el2 hu hu2
    split at h
    · cases h
    · rename_i ns hns
      split at h
      · rename_i n inf zc hsz hinf hzc
        have hsize : inf.size = n + 1 := by unfold sizeB at hsz; rw [hinf] at hsz; simpa using hsz
        cases hb : (Nat.ble inf.bytes 10000 && (Nat.beq zc.length (n + 1) && Nat.beq ns.length (n + 1))) with
        | false => rw [hb] at h; cases h
        | true =>
          rw [hb] at h
          simp only [cond_true] at h
          simp only [Bool.and_eq_true, beq_iff, Nat.ble_eq] at hb
          obtain ⟨hbytes, hzl, hnl⟩ := hb
          obtain ⟨z, hz, hzs⟩ := zero_cells hinf hzc
          rw [hzl, ← hnl] at hzs
          have hnsne : ns ≠ [] := fun e => by rw [e] at hnl; simp at hnl
          split at h
          · rename_i xs0 hxs
            obtain ⟨news, hsrc0, hnv⟩ := srcCells_ok (P := P) hM.ob hxs hx (Nat.succ_pos n)
            cases hb : (Nat.beq xs0.length (n + 1) && xs0.all AV.one) with
            | false => rw [hb] at h; cases h
            | true =>
              rw [hb] at h
              simp only [cond_true] at h
              simp only [Bool.and_eq_true, beq_iff] at hb
              obtain ⟨hxl, hone⟩ := hb
              have hsrc : Src P w inf.size v 1 news := by rw [hxl, Nat.div_self (Nat.succ_pos n)] at hsrc0; rw [hsize]; exact hsrc0
              have hnone : ∀ q ∈ news, q.oneCell' = true := by have := all_one hnv hone; simpa using this
              generalize hrev : revC M xs0 = X at h
              obtain ⟨xs, M1, c1⟩ := X
              simp only at h
              split at h
              · rename_i es qs hp1 hce hfz
                have body : (∀ c ∈ c1 ++ qs, (c.den ρ).b = true) → ∃ G1, Stp ρ G M w G1 { M1 with hp := hp1 } w ∧ NVs w ns [(lstE es).den ρ] news ∧ Safe ρ G1 { M1 with hp := hp1 } w news ∧ MR ρ G1 { M1 with hp := hp1 } w := by
                  intro hc
                  obtain ⟨G1, m1, m2, m3, m4, m5⟩ := revC_ok xs0 hM hrev (fun c h => hc c (List.mem_append_left _ h)) hnv
                  obtain ⟨v1, v2, v3, v4⟩ := row_nest m1 (by rw [m4, hxl, hnl]) hce hfz (fun c h => hc c (List.mem_append_right _ h)) m3
                  exact ⟨G1, m2.trans v4, v1, v2, v3⟩
                split at h
                · cases h
                  obtain ⟨G1, st, v1, v2, v3⟩ := body hcs
                  cases hs
                  obtain ⟨q, hrun⟩ := append_grow (ty := ty) hu hu2 hinf hz hsrc (a := none) (sLen := 0) (sCap := 0) (olds := []) (src_slice (by simp) (fun j v h => by simp at h)) (by omega) (by omega) hbytes
                  have hE : ((SE.bin .cons (lstE es) .nil).den ρ).l = [(lstE es).den ρ] := rfl
                  obtain ⟨G2, g1, g2, g3⟩ := grown_nest v3 (E := .bin .cons (lstE es) .nil) (L := .int 1) (olds := []) (news := news) hnsne (by rw [hE]; exact v1) v2 (q := q) (len := 1) z.cells hzs el rfl rfl
                  rw [hnl] at g3
                  exact ⟨_, _, G2, hrun, g1, st.trans g2, g3⟩
                · rename_i b s' off len cap
                  split at h
                  · rename_i ns' e hob ho
                    cases hb : (Nat.beq s' (n + 1) && decide (ns' = ns)) with
                    | false => rw [hb] at h; cases h
                    | true =>
                      rw [hb] at h
                      simp only [cond_true] at h
                      simp only [Bool.and_eq_true, beq_iff, decide_eq_true_eq] at hb
                      obtain ⟨rfl, rfl⟩ := hb
                      cases h
                      have k0 := hcs (mkB .eq len (mkU .len e)) (by simp)
                      have k1 := hcs (mkB .le (mkB .add len (.int 1)) (.int 4294967296)) (by simp)
                      rw [eq_b, len_den] at k0
                      have k0 := of_decide_eq_true k0
                      have k1 := le32 k1
                      have hL : ((mkB .add len (.int 1)).den ρ).i = (len.den ρ).i + 1 := by rw [mkB_den]; rfl
                      rw [hL] at k1
                      obtain ⟨G1, st, v1, v2, v3⟩ := body (fun c h => hcs c (by simp at h ⊢; rcases h with h | h <;> simp [h]))
                      obtain ⟨g, a, m', c', hg, rfl, hlen', hoff, hmc, hcap, ha, hbd⟩ := (hs.mono st.gh).sl_inv
                      have hml : m' = (e.den ρ).l.length := by omega
                      subst hml
                      have e0 : (off.den ρ).i.toNat = 0 := by rw [litN_i ho ρ]; rfl
                      obtain ⟨olds, o1, o2, o3⟩ := old_nest v3 hob hg
                      obtain ⟨g', hg', hgo, _, hvirt, hreal, hnat⟩ := v3.ob _ _ hob
                      rw [hg] at hg'; cases hg'
                      rw [e0, Nat.zero_mul, hgo] at ha
                      rw [e0, Nat.zero_add] at hbd
                      have hE : ((mkB .snoc e (lstE es)).den ρ).l = (e.den ρ).l ++ [(lstE es).den ρ] := by rw [mkB_den]; rfl
                      have hvs := o1.app v1
                      rw [← hE] at hvs
                      have hsf := o2.app v2
                      have hel : ((mkB .snoc e (lstE es)).den ρ).l.length = (e.den ρ).l.length + 1 := by rw [hE]; simp
                      have hol := o1.1
                      rw [hnl] at hol
                      by_cases hr : (e.den ρ).l.length + 1 ≤ c'
                      · have hz0 : g.sz ≠ 0 := fun h => by
                          rw [h] at hbd
                          rcases Nat.mul_eq_zero.1 (Nat.le_zero.1 hbd) with h | h <;> omega
                        obtain ⟨arr, tt, hheap, hasz, hfit⟩ := hreal hz0
                        rw [ha (by omega)]
                        have hnwl := hsrc.size
                        rw [hsize, Nat.one_mul] at hnwl
                        have hfit2 : ((e.den ρ).l.length + 1) * (n + 1) ≤ arr.size := by rw [hasz]; exact Nat.le_trans (Nat.mul_le_mul_right _ hr) hbd
                        rw [Nat.add_mul, Nat.one_mul] at hfit2
                        have hrun := append_room (ty := ty) hu hu2 hinf hsrc hheap hasz (o := 0 + 0) (sLen := (e.den ρ).l.length) (sCap := c') hr (by rw [hnwl, hsize]; omega) hnone
                        rw [hsize] at hrun
                        simp only [Nat.add_zero, Nat.zero_add] at hrun ⊢
                        obtain ⟨j1, j2, j3, j4, j5, j6⟩ := setCells_heap g.blk news ((e.den ρ).l.length * (n + 1)) w
                        have hmine : Mine ρ G1 { M1 with hp := hp1 } g.blk := ⟨b, _, g, hob, rfl, hg, hz0, rfl⟩
                        have hsame : NVs (w.setCells g.blk ((e.den ρ).l.length * (n + 1)) news) ns' ((mkB .snoc e (lstE es)).den ρ).l (olds ++ news) := hvs.same fun q a n c h hn => j5 _ fun he => (hsf q a n c h hn).2.1 (he ▸ hmine)
                        have hcell : ∀ q v, (olds ++ news)[q]? = some v → (w.setCells g.blk ((e.den ρ).l.length * (n + 1)) news).cell? ⟨g.blk, q, none⟩ = some v := fun q v hq => by
                          rw [cell_of_heap (j6 arr _ _ hheap), setManyV_get _ _ _ _ (by rw [hnwl]; omega)]
                          rw [List.getElem?_append] at hq
                          split at hq
                          · rename_i hlt
                            rw [if_neg (by omega)]
                            have := o3 q v hq
                            rwa [cell_of_heap hheap] at this
                          · rename_i hge
                            have hlt := (List.getElem?_eq_some_iff.1 hq).1
                            rw [if_pos ⟨by omega, by omega⟩, ← hol]
                            exact hq
                        obtain ⟨h1, h2⟩ := v3.move (w' := w.setCells g.blk ((e.den ρ).l.length * (n + 1)) news) (g2 := ⟨g.blk, 0, g.sz, lpOf (olds ++ news)⟩) (.nrows ns' (mkB .snoc e (lstE es))) hob hg rfl hz0 rfl j2 j3 j4 (Nat.le_of_eq j1.symm) (fun k _ hk => j5 k hk)
                          ⟨rfl, hnsne, fun h => absurd h hz0, fun _ => ⟨_, tt, j6 arr _ _ hheap, by rw [setManyV_size]; exact hasz, by rw [setManyV_size, hel, hnl, Nat.add_mul, Nat.one_mul]; exact hfit2⟩, hsame.at hcell⟩ rfl (safe_also hsf)
                        exact ⟨_, _, _, hrun, h1, st.trans h2, .sl _ _ _ _ _ ⟨g.blk, 0, g.sz, lpOf (olds ++ news)⟩ _ _ _ (by simp [Gh.add]) (by rw [hL]; omega) (Int.le_refl _) hr (fun e he => by cases he) (fun _ => by simp [int_i]) (by rw [int_i]; simpa using hbd)⟩
                      · have os : Src P w inf.size (.slice a (e.den ρ).l.length c') (e.den ρ).l.length olds := by
                          refine src_slice (by rw [hol, hsize]) fun q v hq => ?_
                          have hql := (List.getElem?_eq_some_iff.1 hq).1
                          have hpos : 0 < (e.den ρ).l.length := by
                            rcases Nat.eq_zero_or_pos (e.den ρ).l.length with h | h
                            · rw [h, Nat.zero_mul] at hol; omega
                            · exact h
                          exact ⟨_, _, ha (by omega), by simpa using o3 q v hq⟩
                        obtain ⟨q, hrun⟩ := append_grow (ty := ty) hu hu2 hinf hz hsrc os (by omega) (by omega) hbytes
                        obtain ⟨G2, g1, g2, g3⟩ := grown_nest v3 (E := mkB .snoc e (lstE es)) (L := mkB .add len (.int 1)) (olds := olds) (news := news) hnsne hvs hsf (q := q) (len := (e.den ρ).l.length + 1) z.cells hzs el hel (by rw [hL]; omega)
                        rw [hnl] at g3
                        have hbn : b ≠ M1.nb := fun e => by have := v3.fresh b g hg; simp only at this; omega
                        obtain ⟨d1, d2⟩ := g1.drop (hset (hdel hp1 b) M1.nb (.nrows ns' (mkB .snoc e (lstE es)))) (fun c o hc => by
                          rw [hget_hset] at hc ⊢
                          split at hc
                          · rename_i e; rw [if_pos e]; exact hc
                          · rename_i hne
                            rw [if_neg hne]
                            exact hdel_sub c o hc)
                        exact ⟨_, _, G2, hrun, d1, (st.trans g2).trans d2, g3⟩
                  · cases h
                · cases h
              · cases h
          · cases h
      · cases h
  · cases h
theorem appendX_ok {t xt : TypeId} {ty : TypeId} {M M' : Me} {w : World} {s x r : AV} {cs : List SE} {u v : Value} (hM : MR ρ G M w) (h : appendX P t xt M s x = some (r, M', cs)) (hcs : ∀ c ∈ cs, (c.den ρ).b = true) (hs : VR ρ G s u) (hx : VR ρ G x v) :
    Does P ρ G M w (Builtin.append_ #[t, xt] ty #[u, v]) r M' := by
  unfold appendX at h
  split at h
  · rename_i y hy
    cases h
    exact appendN_ok hM hy hcs hs hx
  · exact append_ok hM h hcs hs hx
end
end Go.Proofs.YtkfjgggiopegbaaDoor
namespace Go.Proofs.YtkfjgggiopegbaaDoor
open Go.RowKit
section
variable {P : Program} {ρ : Env} {G : Gh}
theorem ptrElt_ok {M : Me} {a : AV} {u : Value} (hx : VR ρ G a u) : VR ρ G (ptrElt M.hp a) u := by
  unfold ptrElt
  split
  · rename_i b o
    split
    · rename_i ks e hob
      cases hb : Nat.beq (o / ks.length * ks.length) o with
      | false => exact hx
      | true =>
        have hb := (beq_iff _ _).1 hb
        obtain ⟨g, hg, rfl⟩ := hx.ptr_inv
        refine .elt _ _ _ _ g _ hg ?_
        have : ((SE.int (o / ks.length : Nat)).den ρ).i.toNat = o / ks.length := rfl
        rw [this, Nat.add_zero, hb]
    · exact hx
  · exact hx
theorem storeX_ok {M : Me} {w : World} {t : TypeId} {a v : AV} {b : Nat} {ob : Ob} {cs : List SE} {u x : Value} (hM : MR ρ G M w) (h : storeX P M.hp t a v = some (b, ob, cs)) (hcs : ∀ c ∈ cs, (c.den ρ).b = true) (hu : VR ρ G a u) (hv : VR ρ G v x) :
    ∃ w', (Instr.storeAt t u x).run P w = .ok () w' ∧ MR ρ G { M with hp := hset M.hp b ob } w' ∧ Stp ρ G M w G { M with hp := hset M.hp b ob } w' :=
  store_ok hM h hcs (ptrElt_ok hu) hv
theorem rows_u8 (l : List Int) : rowVals [.int .u8] (l.map DV.int) = l.map (Value.int .u8) := by
  unfold rowVals
  induction l with
  | nil => rfl
  | cons n r ih => simp only [List.map_cons, List.flatMap_cons, ih]; rfl
theorem str_first (s : List UInt8) (q : Nat) (w : World) : (Builtin.firstCells 1 q (.string (bytesOf s))).run P w = .ok (rowVals [.int .u8] (((bytesN s).map DV.int).take q)).toArray w := by
  show Result.ok (((bytesOf s).extract 0 q).data.map fun b => Value.int .u8 b.toNat) w = _
  rw [bytes_extract, List.drop_zero, ← List.map_take, rows_u8]
  congr 1
  apply Array.ext'
  simp [bytesOf, bytesN, List.map_take, List.map_map]
  rfl
theorem rowify_ok {M : Me} {w : World} {d : AV} {hp : List (Nat × Ob)} (hM : MR ρ G M w) (h : rowify M.hp d = some hp) : MR ρ G { M with hp } w ∧ Stp ρ G M w G { M with hp } w := by
  unfold rowify at h
  split at h
  · rename_i b _ _ _ _
    split at h
    · rename_i cs hob
      cases hb : allData [.int .u8] 1 cs.length cs with
      | false => rw [hb] at h; cases h
      | true =>
        rw [hb] at h
        cases h
        obtain ⟨g, hg, hor⟩ := hM.ob _ _ hob
        obtain ⟨l, arr, t, h1, h2, h3, h4, h5, _, h6⟩ := cells_rows hor (ks := [.int .u8]) (by simp) hb
        refine hM.turn (.rows [.int .u8] (rowsOf 1 cs)) hob hg rfl rfl trivial rfl rfl rfl (Nat.le_refl _) (fun _ _ _ => rfl) ⟨h2, by simp, fun hz => ?_, fun _ => ⟨arr, t, h3, h4, ?_, fun i j d k hi hj => ?_⟩⟩
        · show ((rowsOf [CK.int .u8].length cs).den ρ).l = []
          rw [h1]
          rw [h4, hz] at h5
          exact List.eq_nil_of_length_eq_zero (by simpa using h5)
        · show ((rowsOf [CK.int .u8].length cs).den ρ).l.length * _ ≤ _
          rw [h1]; exact h5
        · have hi : ((rowsOf [CK.int .u8].length cs).den ρ).l[i]? = some d := hi
          rw [h1] at hi
          exact h6 i j d k hi hj
    · cases h
      exact ⟨hM, Stp.refl _ _ _ _⟩
    · cases h
  · cases h
theorem copyS_ok {t xt : TypeId} {ty : TypeId} {M0 M' : Me} {w : World} {d r : AV} {x : SE} {cs : List SE} {u v : Value} (hM0 : MR ρ G M0 w) (h : copyS P t M0 d x = some (r, M', cs)) (hcs : ∀ c ∈ cs, (c.den ρ).b = true) (hd : VR ρ G d u) (hx : VR ρ G (.str x) v) :
    Does P ρ G M0 w (Builtin.copy_ #[t, xt] ty #[u, v]) r M' := by
  unfold copyS at h
  split at h
  · rename_i el b s off len cap hp hu hrow
    obtain ⟨hM, hS⟩ := rowify_ok hM0 hrow
    split at h
    · rename_i hsz
      cases hb : Nat.beq s 1 with
      | false => rw [hb] at h; cases h
      | true =>
        rw [hb] at h
        simp only [cond_true] at h
        have hb := (beq_iff _ _).1 hb
        subst hb
        split at h
        · rename_i ks e hob
          split at h
          · rename_i hks
            subst hks
            generalize hee : mkU .bytes x = e' at h
            have he' : (e'.den ρ).l = (bytesN (x.den ρ).s).map DV.int := by rw [← hee, mkU_den]; rfl
            cases h
            have c0 := hcs (mkB .le (mkB .add off len) (mkU .len e)) (by simp)
            rw [le_b, len_den, mkB_den] at c0
            have c0 : (off.den ρ).i + (len.den ρ).i ≤ (e.den ρ).l.length := of_decide_eq_true c0
            obtain rfl := hx.str_inv
            have hl' : (e'.den ρ).l.length = (x.den ρ).s.length := by rw [he', List.length_map, bytesN, List.length_map]
            generalize hn' : (x.den ρ).s.length = n' at hl'
            obtain ⟨g, a, m0, c, hg, rfl, hlen, hoff, hmc, hcap, ha, hbd⟩ := hd.sl_inv
            obtain ⟨g2, hg2, hgo, hks2, hvirt, hreal⟩ := hM.ob _ _ hob
            rw [hg] at hg2; cases hg2
            have hk : [CK.int .u8].length = 1 := rfl
            suffices hD : Does P ρ G { M0 with hp } w (Builtin.copy_ #[t, xt] ty #[.slice a m0 c, .string (bytesOf (x.den ρ).s)]) (i64 (mkT .ite (mkB .le len (lenE e')) len (lenE e'))) { M0 with hp := hset hp b (.rows [.int .u8] (mkB .app (mkB .take e off) (mkB .app (mkB .take e' (mkT .ite (mkB .le len (lenE e')) len (lenE e'))) (mkB .drop e (mkB .add off (mkT .ite (mkB .le len (lenE e')) len (lenE e'))))))) } by
              obtain ⟨z, w', G', k1, k2, k3, k4⟩ := hD
              exact ⟨z, w', G', k1, k2, hS.trans k3, k4⟩
            generalize hks : [CK.int .u8] = ks at *
            have hm : ((mkT .ite (mkB .le len (lenE e')) len (lenE e')).den ρ).i = (Nat.min n' m0 : Nat) := by
              rw [mkT_den, mkB_den, lenE_dv]
              show (if decide ((len.den ρ).i ≤ ((e'.den ρ).l.length : Int)) then len.den ρ else DV.int ((e'.den ρ).l.length : Int)).i = _
              rw [hlen, hl']
              by_cases hle : (m0 : Int) ≤ n'
              · simp only [hle, decide_true, if_true, hlen]
                rw [show Nat.min n' m0 = min n' m0 from rfl]; omega
              · simp only [hle, decide_false]
                show (n' : Int) = _
                rw [show Nat.min n' m0 = min n' m0 from rfl]; omega
            generalize hqq : Nat.min n' m0 = q at hm
            have hq1 : q ≤ n' := by rw [← hqq]; exact Nat.min_le_left _ _
            have hq2 : q ≤ m0 := by rw [← hqq]; exact Nat.min_le_right _ _
            generalize mkT .ite (mkB .le len (lenE e')) len (lenE e') = mm at hm
            have ho := Int.toNat_of_nonneg hoff
            generalize hoN : (off.den ρ).i.toNat = o at ho ha hbd
            have hden : ((mkB .app (mkB .take e off) (mkB .app (mkB .take e' mm) (mkB .drop e (mkB .add off mm)))).den ρ).l = (e.den ρ).l.take o ++ ((e'.den ρ).l.take q ++ (e.den ρ).l.drop (o + q)) := by
              rw [mkB_den, mkB_den, mkB_den, mkB_den, mkB_den, mkB_den]
              show (e.den ρ).l.take (off.den ρ).i.toNat ++ ((e'.den ρ).l.take (mm.den ρ).i.toNat ++ (e.den ρ).l.drop ((off.den ρ).i + (mm.den ρ).i).toNat) = _
              rw [hm, hoN, show ((off.den ρ).i + (q : Int)).toNat = o + q by omega]
              rfl
            have hoq : o + q ≤ (e.den ρ).l.length := by omega
            have htl : ((e'.den ρ).l.take q).length = q := by rw [List.length_take]; omega
            have hnl : (rowVals ks ((e'.den ρ).l.take q)).length = q * 1 := by rw [rowVals_length, htl, hk]
            have hrf : (Builtin.firstCells 1 q (.string (bytesOf (x.den ρ).s))).run P w = .ok (rowVals ks ((e'.den ρ).l.take q)).toArray w := by rw [he', ← hks]; exact str_first _ _ _
            have hrl : (Builtin.lenOf (.string (bytesOf (x.den ρ).s))).run P w = .ok n' w := by rw [← hn']; rfl
            have hone := rowVals_one ks ((e'.den ρ).l.take q)
            by_cases hq0 : q = 0
            · subst hq0
              have hsame : ((mkB .app (mkB .take e off) (mkB .app (mkB .take e' mm) (mkB .drop e (mkB .add off mm)))).den ρ).l = (e.den ρ).l := by
                rw [hden, List.take_zero, List.nil_append, Nat.add_zero, List.take_append_drop]
              obtain ⟨k1, k2⟩ := hM.sameRow hob hsame
              have hnil : (rowVals ks ((e'.den ρ).l.take 0)) = [] := by rw [List.take_zero]; rfl
              rw [hnil] at hrf
              refine ⟨goInt (0 : Nat), w, G, ?_, k1, k2, goInt_ok _ _ hm⟩
              cases a <;> simp [Builtin.copy_, run_underlying hu, Sem.run_bind, hrl, size_ok hsz w, hrf, storeCells, hqq]
            · have hz0 : g.sz ≠ 0 := fun h => by
                rw [h] at hbd
                rcases Nat.mul_eq_zero.1 (Nat.le_zero.1 hbd) with h | h <;> omega
              obtain ⟨arr, tt, hheap, hasz, hfit, hvr⟩ := hreal hz0
              rw [ha (by omega), hgo, Nat.zero_add]
              have hbd2 : o * 1 + q * 1 ≤ arr.size := by
                rw [hasz]
                refine Nat.le_trans ?_ hbd
                rw [← Nat.add_mul]
                exact Nat.mul_le_mul_right _ (by omega)
              have hst := storeCells_ok (P := P) hheap hasz (rowVals ks ((e'.den ρ).l.take q)) (o := o * 1) (by rw [hnl]; exact hbd2) hone
              obtain ⟨k1, k2, k3, k4, k5, k6⟩ := setCells_heap g.blk (rowVals ks ((e'.den ρ).l.take q)) (o * 1) w
              have hpart := part_vals (ks := ks) (l := (e.den ρ).l) (l' := (e'.den ρ).l.take q) (arr := arr) (o := o) htl hoq hfit hvr
              obtain ⟨h1, h2⟩ := hM.turn (w' := w.setCells g.blk (o * 1) (rowVals ks ((e'.den ρ).l.take q))) (.rows ks (mkB .app (mkB .take e off) (mkB .app (mkB .take e' mm) (mkB .drop e (mkB .add off mm))))) hob hg rfl rfl hz0 k2 k3 k4 (Nat.le_of_eq k1.symm) (fun k _ hk => k5 k hk)
                ⟨hgo, hks2, fun h => absurd h hz0, fun _ => ⟨_, tt, k6 arr _ _ hheap, by rw [setManyV_size]; exact hasz, by rw [setManyV_size, hden]; refine Nat.le_trans (Nat.mul_le_mul_right _ ?_) hfit; simp; omega, by rw [hden, ← hk]; exact row_prefix hpart⟩⟩
              refine ⟨goInt q, _, G, ?_, h1, h2, goInt_ok _ _ hm⟩
              rw [Nat.mul_one] at hst
              simp [Builtin.copy_, run_underlying hu, Sem.run_bind, hrl, size_ok hsz w, hrf, hst, hqq]
          · cases h
        · cases h
    · cases h
  · cases h
theorem copyZ_ok {t xt : TypeId} {ty : TypeId} {M M' : Me} {w : World} {d x r : AV} {cs : List SE} {u v : Value} (hM : MR ρ G M w) (h : copyZ P t M d x = some (r, M', cs)) (hcs : ∀ c ∈ cs, (c.den ρ).b = true) (hd : VR ρ G d u) (hx : VR ρ G x v) :
    Does P ρ G M w (Builtin.copy_ #[t, xt] ty #[u, v]) r M' := by
  unfold copyZ at h
  split at h
  · exact copyS_ok hM h hcs hd hx
  · exact copyX_ok hM h hcs hd hx
theorem aux_ok {o : Oper} {ev : Operand → AV} {ec : Operand → Value} {M M' : Me} {w : World} {r : AV} {cs : List SE} (hM : MR ρ G M w) (hev : ∀ x, VR ρ G (ev x) (ec x)) (h : auxA P o ev M = some (r, M', cs)) (hcs : ∀ c ∈ cs, (c.den ρ).b = true) :
    ∃ z w' G', (execOp ec o).run P w = .ok (.value z) w' ∧ MR ρ G' M' w' ∧ Stp ρ G M w G' M' w' ∧ VR ρ G' r z := by
  have lift : ∀ {s : Sem Value} {u : Value} {w' : World}, s.run P w = .ok u w' → (do pure (.value (← s)) : Sem Next).run P w = .ok (.value u) w' := fun h => by rw [Sem.run_bind, h]; rfl
  obtain ⟨dst, op, ty, pos, after, guard⟩ := o
  unfold auxA at h
  unfold execOp
  simp only at h ⊢
  split at h
  · rename_i s d x
    split at h
    · rename_i el e hs hd hxe
      split at h
      · rename_i he
        cases h
        have hx := hev x
        rw [hxe] at hx
        simp only
        rw [hx.str_inv]
        have hrun := run_bytes_of_string (P := P) w s d el (bytesOf (e.den ρ).s) hs hd he
        have hge := grownCap_ge w (bytesOf (e.den ρ).s).size 0 el
        rw [size_bytesOf] at hrun hge
        generalize grownCap w (e.den ρ).s.length 0 el = cap at hrun hge
        have hbl : ((mkU .bytes e).den ρ).l = (bytesN (e.den ρ).s).map DV.int := by rw [mkU_den]; rfl
        have hsz : (bytesRow (bytesOf (e.den ρ).s) cap).size = cap := by
          unfold bytesRow
          rw [Array.size_append, Array.size_map, Array.size_replicate, size_bytesOf]
          show (e.den ρ).s.length + _ = _
          omega
        have hno := hM.no
        obtain ⟨m1, m2⟩ := hM.new (w' := w.drew.alloc (.cells (bytesRow (bytesOf (e.den ρ).s) cap) el (cap, cap + 1))) (.rows [.int .u8] (mkU .bytes e)) ⟨w.heap.size, 0, cap, default⟩ (Nat.le_refl _)
          ⟨rfl, by simp, fun hz => by
            have hz : cap = 0 := hz
            rw [hbl, bytesN]
            have : (e.den ρ).s = [] := List.eq_nil_of_length_eq_zero (by omega)
            rw [this]; rfl, fun _ => ⟨_, ⟨el, (cap, cap + 1), fun i hi h => by have hi : i < cap := hi; have := h.1; simp only at this; omega⟩, alloc_new w.drew _, hsz, by rw [hbl, hsz, List.length_map, bytesN, List.length_map]; simpa using hge, fun i j d k hi hj => by
              have hj0 : j = 0 := by have := (List.getElem?_eq_some_iff.1 hj).1; simp at this; exact this
              subst hj0
              cases hj
              rw [hbl, List.getElem?_map] at hi
              cases hb : (bytesN (e.den ρ).s)[i]? with
              | none => rw [hb] at hi; cases hi
              | some n =>
                rw [hb] at hi
                cases hi
                have hil := (List.getElem?_eq_some_iff.1 hb).1
                unfold bytesN at hb hil
                rw [List.length_map] at hil
                unfold bytesRow
                rw [show i * [CK.int .u8].length + 0 = i by simp, Array.getElem?_append_left (by rw [Array.size_map]; exact hil), Array.getElem?_map]
                rw [List.getElem?_map] at hb
                show Option.map _ ((e.den ρ).s.toArray[i]?) = _
                rw [List.getElem?_toArray]
                cases hc : (e.den ρ).s[i]? with
                | none => rw [hc] at hb; cases hb
                | some c => rw [hc] at hb; cases hb; rfl⟩⟩ rfl rfl rfl (by show w.heap.size ≤ (w.heap.push _).size; simp) (fun k hk => alloc_more w.drew _ k hk)
        rw [hsz] at hrun
        refine ⟨_, _, _, lift hrun, m1, m2, .sl _ _ _ _ _ ⟨w.heap.size, 0, cap, default⟩ _ _ _ (by simp [Gh.add]) ?_ (Int.le_refl _) hge (fun e he => by cases he) (fun _ => by simp [int_i]) (by simp [int_i])⟩
        rw [lenE_den, hbl, List.length_map, bytesN, List.length_map]
      · cases h
    · cases h
  · rename_i t x lo hi
    split at h
    · rename_i n el b q hu hxe
      split at h
      · rename_i s hs
        cases hb : Nat.beq (q / (s + 1) * (s + 1)) q with
        | false => rw [hb] at h; cases h
        | true =>
          rw [hb] at h
          simp only [cond_true] at h
          have hb := (beq_iff _ _).1 hb
          split at h
          · rename_i c0 hc0
            split at h
            · rename_i hh c1 hb1
              split at h
              · rename_i l c2 hb2
                cases h
                have hx := hev x
                rw [hxe] at hx
                obtain ⟨g, hg, hadr⟩ := hx.ptr_inv
                simp only
                rw [hadr]
                have k0 : ∀ c ∈ c0, (c.den ρ).b = true := fun c hc => hcs c (by simp [hc])
                have k1 : ∀ c ∈ c1, (c.den ρ).b = true := fun c hc => hcs c (by simp [hc])
                have k2 : ∀ c ∈ c2, (c.den ρ).b = true := fun c hc => hcs c (by simp [hc])
                have hfit : (q / (s + 1) + n) * (s + 1) ≤ g.sz := by
                  split at hc0
                  · rename_i cs hob
                    cases hble : Nat.ble ((q / (s + 1) + n) * (s + 1)) cs.length with
                    | false => rw [hble] at hc0; cases hc0
                    | true =>
                      obtain ⟨g', hg', _, arr, tz, _, q1, q2, _⟩ := hM.ob _ _ hob
                      rw [hg] at hg'; cases hg'
                      have := Nat.le_of_ble_eq_true hble
                      omega
                  · rename_i ks e hob
                    cases hbl : Nat.beq ks.length (s + 1) with
                    | false => rw [hbl] at hc0; cases hc0
                    | true =>
                      rw [hbl] at hc0
                      cases hc0
                      have hkl := (beq_iff _ _).1 hbl
                      have := k0 (mkB .le (.int (q / (s + 1) + n : Nat)) (mkU .len e)) (by simp)
                      rw [le_b, len_den, int_i] at this
                      have this : ((q / (s + 1) + n : Nat) : Int) ≤ (e.den ρ).l.length := of_decide_eq_true this
                      have this : q / (s + 1) + n ≤ (e.den ρ).l.length := Int.ofNat_le.1 this
                      obtain ⟨g', hg', _, hks, hz, hr⟩ := hM.ob _ _ hob
                      rw [hg] at hg'; cases hg'
                      by_cases hsz : g.sz = 0
                      · rw [hz hsz] at this
                        have : q / (s + 1) + n = 0 := Nat.le_zero.1 this
                        rw [this, Nat.zero_mul]; exact Nat.zero_le _
                      · obtain ⟨arr, tz, _, q1, q2, _⟩ := hr hsz
                        rw [hkl] at q2
                        rw [← q1]
                        exact Nat.le_trans (Nat.mul_le_mul_right _ this) q2
                  · cases hc0
                obtain ⟨b0, b1, b2, b3⟩ := bounds_ok (P := P) (isS := false) (len := n) (cap := n) w hb1 hb2 k1 k2 (optMap hev hi) (optMap hev lo) (by rw [int_i]) (by rw [int_i]; exact Int.le_refl _) (Nat.le_refl _)
                generalize q / (s + 1) = q0 at *
                have hl := Int.toNat_of_nonneg b0
                have hhn := Int.toNat_of_nonneg (Int.le_trans b0 b1)
                have hsum : ((mkB .add (.int (q0 : Nat)) l).den ρ).i = (q0 : Nat) + (l.den ρ).i := by rw [mkB_den]; rfl
                have hsub : ((mkB .sub hh l).den ρ).i = (hh.den ρ).i - (l.den ρ).i := by rw [mkB_den]; rfl
                have hsubn : ((mkB .sub (.int n) l).den ρ).i = (n : Int) - (l.den ρ).i := by rw [mkB_den]; rfl
                refine ⟨.slice (some (if n = (l.den ρ).i.toNat then ⟨g.blk, g.off + q, none⟩ else Addr.add ⟨g.blk, g.off + q, none⟩ ((l.den ρ).i.toNat * (s + 1)))) ((hh.den ρ).i.toNat - (l.den ρ).i.toNat) (n - (l.den ρ).i.toNat), w, G, lift ?_, hM, Stp.refl _ _ _ _, .sl _ _ _ _ _ g _ _ _ hg ?_ ?_ ?_ ?_ ?_ ?_⟩
                · unfold Instr.sliceAt
                  rw [Sem.run_bind, run_underlying hu w, Result.andThen_ok]
                  simp only [Option.map_none, Instr.sureAddr, Sem.run_bind, Sem.run_pure, Result.andThen_ok, b3, size_ok hs w]
                · rw [hsub]; omega
                · rw [hsum]; omega
                · omega
                · intro e hee
                  cases hee
                  rw [hsubn]
                  omega
                · intro hpos
                  rw [if_neg (by omega), hsum]
                  have : (((q0 : Nat) : Int) + (l.den ρ).i).toNat = q0 + (l.den ρ).i.toNat := by omega
                  rw [this, addr_add, Nat.add_mul, hb, Nat.add_assoc]
                · rw [hsum]
                  have : (((q0 : Nat) : Int) + (l.den ρ).i).toNat + (n - (l.den ρ).i.toNat) ≤ q0 + n := by omega
                  exact Nat.le_trans (Nat.mul_le_mul_right _ this) hfit
              · cases h
            · cases h
          · cases h
      · cases h
    · cases h
  · cases h
end
end Go.Proofs.YtkfjgggiopegbaaDoor
namespace Go.Proofs.YtkfjgggiopegbaaDoor
open Go.RowKit
section
variable {ρ ρ1 ρ2 : Env} {G G1 G2 : Gh}
theorem lst_sc {f nv nb : Nat} (ih : ∀ (a : AV) (v : Value), AV.sc nv nb f a = true → VR ρ1 G1 a v → VR ρ2 G2 a v) {cs : List AV} {vs : Array Value} (h : cs.all (AV.sc nv nb f) = true) (hv : VRs ρ1 G1 cs vs) : VRs ρ2 G2 cs vs :=
  ⟨hv.1, fun i a v h1 h2 => ih a v (List.all_eq_true.1 h a (List.mem_of_getElem? h1)) (hv.2 i a v h1 h2)⟩
theorem sc_ok {nv nb : Nat} (hA : Agree nv ρ1 ρ2) (hG : ∀ b, b < nb → G2 b = G1 b) : ∀ (f : Nat) (a : AV) (v : Value), AV.sc nv nb f a = true → VR ρ1 G1 a v → VR ρ2 G2 a v
  | 0, a, v, h, hv => by unfold AV.sc at h; cases h
  | f + 1, a, v, h, hv => by
    have ih := sc_ok hA hG f
    unfold AV.sc at h
    cases a with
    | any => exact .any _
    | int k e => rw [hv.int_inv]; exact .int _ _ _ (by rw [SE.sc_den hA h])
    | bool e => rw [hv.bool_inv]; exact .bool _ _ (by rw [SE.sc_den hA h])
    | str e => rw [hv.str_inv]; exact .str _ _ (by rw [SE.sc_den hA h])
    | nilp => cases hv; exact .nilp
    | ptr b o => obtain ⟨g, hg, rfl⟩ := hv.ptr_inv; exact .ptr _ _ g _ (by rw [hG b (Nat.le_of_ble_eq_true h)]; exact hg) rfl
    | elt b s i j =>
      simp only [Bool.and_eq_true] at h
      obtain ⟨g, hg, rfl⟩ := hv.elt_inv
      exact .elt _ _ _ _ g _ (by rw [hG b (Nat.le_of_ble_eq_true h.1)]; exact hg) (by rw [SE.sc_den hA h.2])
    | nils => cases hv; exact .nils
    | sl b s off len cap =>
      simp only [Bool.and_eq_true] at h
      obtain ⟨h1, h2, h3, h4⟩ := h
      obtain ⟨g, a, n, c, hg, rfl, k1, k2, k3, k4, k5, k6⟩ := hv.sl_inv
      refine .sl _ _ _ _ _ g _ _ _ (by rw [hG b (Nat.le_of_ble_eq_true h1)]; exact hg) (by rw [SE.sc_den hA h3]; exact k1) (by rw [SE.sc_den hA h2]; exact k2) k3 (fun e he => ?_) (by rw [SE.sc_den hA h2]; exact k5) (by rw [SE.sc_den hA h2]; exact k6)
      subst he
      simp only at h4
      rw [SE.sc_den hA h4]
      exact k4 e rfl
    | func fn x y =>
      simp only [Bool.and_eq_true] at h
      obtain ⟨vf, vc, rfl, h1, h2⟩ := hv.func_inv
      have h1 := lst_sc ih h.1 h1
      have h2 := lst_sc ih h.2 h2
      exact .func _ _ _ _ _ h1.1 h2.1 h1.2 h2.2
    | nilf => cases hv; exact .nilf
    | iface t x => obtain ⟨u, rfl, hu⟩ := hv.iface_inv; exact .iface _ _ _ (ih _ _ h hu)
    | nili => cases hv; exact .nili
    | agg l => obtain ⟨vs, rfl, hl⟩ := hv.agg_inv; have := lst_sc ih h hl; exact .agg _ _ this.1 this.2
    | tup l => obtain ⟨vs, rfl, hl⟩ := hv.tup_inv; have := lst_sc ih h hl; exact .tup _ _ this.1 this.2
    | map b => cases hv with | map _ g hg => exact .map _ g (by rw [hG b (Nat.le_of_ble_eq_true h)]; exact hg)
    | nilm => cases hv; exact .nilm
    | boolu c => obtain ⟨b, rfl, hb⟩ := hv.boolu_inv; exact .boolu _ _ (fun e => by rw [SE.sc_den hA h]; exact hb e)
    | yld b => obtain ⟨g, hg, rfl⟩ := hv.yld_inv; exact .yld _ g (by rw [hG b (Nat.le_of_ble_eq_true h)]; exact hg)
    | nsl b s i j ks len =>
      simp only [Bool.and_eq_true] at h
      obtain ⟨h1, h2, h3⟩ := h
      obtain ⟨g, a, n, c, hg, rfl, k1, k2, k3, k4⟩ := hv.nsl_inv
      exact .nsl _ _ _ _ _ _ g _ _ _ (by rw [hG b (Nat.le_of_ble_eq_true h1)]; exact hg) (by rw [SE.sc_den hA h2]; exact k1) (by rw [SE.sc_den hA h3]; exact k2) k3 k4
    | nelt b s i j ks x q =>
      simp only [Bool.and_eq_true] at h
      obtain ⟨h1, h2, h3⟩ := h
      obtain ⟨g, blk, off, n, c, hg, k1, rfl⟩ := hv.nelt_inv
      rw [← SE.sc_den hA h3]
      exact .nelt _ _ _ _ _ _ _ g blk off n c (by rw [hG b (Nat.le_of_ble_eq_true h1)]; exact hg) (by rw [SE.sc_den hA h2]; exact k1)
theorem newV_den {nv : Nat} {xs : List SE} {e x : SE} {j : Nat} (h : newV nv e = some j) (hs : seIs xs j x = true) (hO : Over ρ1 ρ2 nv (xs.map (·.den ρ1))) : e.den ρ2 = x.den ρ1 := by
  unfold newV at h
  split at h
  · rename_i i
    cases hb : Nat.ble nv i with
    | false => rw [hb] at h; cases h
    | true =>
      rw [hb] at h
      simp only [cond_true, Option.some.injEq] at h
      have hb := Nat.le_of_ble_eq_true hb
      unfold seIs at hs
      split at hs
      · rename_i y hy
        have hs := of_decide_eq_true hs
        subst hs
        have := hO.2 j (y.den ρ1) (by simp [hy])
        rw [show nv + j = i by omega] at this
        exact this
      · cases hs
  · cases h
theorem hget_mem {hp : List (Nat × Ob)} {b : Nat} {o : Ob} (h : hget hp b = some o) : (b, o) ∈ hp := by
  induction hp with
  | nil => cases h
  | cons p r ih =>
    obtain ⟨c, q⟩ := p
    rw [hget_cons] at h
    split at h
    · rename_i e; cases h; rw [e]; exact List.mem_cons_self ..
    · exact List.mem_cons_of_mem _ (ih h)
theorem Tr.all_ok : ∀ {t : Tr} {p : Nat → AV → Bool}, t.all p = true → ∀ n a, t.get n = some a → p n a = true
  | .lf, p, h, n, a, ha => by rw [Tr.get_lf] at ha; cases ha
  | .nd v l r, p, h, n, a, ha => by
    unfold Tr.all at h
    simp only [Bool.and_eq_true] at h
    obtain ⟨h1, h2, h3⟩ := h
    rw [Tr.get_eq] at ha
    cases n with
    | zero => simp only at ha; subst ha; exact h1
    | succ m =>
      simp only at ha
      cases hb : Nat.beq (m % 2) 0 with
      | true =>
        rw [hb] at ha
        have := Tr.all_ok h2 _ a ha
        have e := (beq_iff _ _).1 hb
        rwa [show 2 * (m / 2) + 1 = m + 1 by omega] at this
      | false =>
        rw [hb] at ha
        have := Tr.all_ok h3 _ a ha
        have e : m % 2 ≠ 0 := fun e => by rw [(beq_iff _ _).2 e] at hb; cases hb
        rwa [show 2 * (m / 2) + 2 = m + 1 by omega] at this
structure Inst (nv nb : Nat) (xs : List SE) (β : List (Nat × AV)) (Fg : Fr) (Mg : Me) (F : Fr) (M : Me) (cs : List SE) : Prop where
  n : Fg.n = F.n
  dg : Fg.df = []
  d : F.df = []
  tm : ∀ t g, Fg.tm.get t = some g → chkV nv nb xs β 50 g ((F.tm.get t).getD .any) = true ∧ patOk nv nb Mg.hp 50 g = true
  hp : ∀ b o, hget Mg.hp b = some o → chkO nv nb xs β M.hp b o = true ∧ b < Mg.nb ∧ ∀ gs, o = .cells gs → ∀ g ∈ gs, patOk nv nb Mg.hp 50 g = true
  lone : lone nb β Mg.hp = true
  cs : ∀ b o, hget Mg.hp b = some o → ∀ c ∈ condB nb β M.hp b o, c ∈ cs
theorem inst_inv {la : LA} {nv nb : Nat} {Fg F : Fr} {Mg M : Me} {xs cs : List SE} (h : instA la nv nb Fg Mg F M = some (xs, cs)) : ∃ β, xs.length = la.k ∧ (∀ p ∈ la.blks, p.2.isLp = false) ∧ Inst nv nb xs β Fg Mg F M cs := by
  unfold instA at h
  split at h
  · rename_i β xs' _
    cases hb : (Nat.beq xs'.length la.k && (headOk nv nb xs' β Fg Mg F M && la.blks.all fun p => !p.2.isLp)) with
    | false => rw [hb] at h; cases h
    | true =>
      rw [hb] at h
      simp only [cond_true, Option.some.injEq, Prod.mk.injEq] at h
      obtain ⟨rfl, rfl⟩ := h
      unfold headOk at hb
      simp only [Bool.and_eq_true, beq_iff, List.isEmpty_iff] at hb
      obtain ⟨h0, ⟨⟨h1, h2, h3⟩, h4, h5, h6⟩, h7⟩ := hb
      refine ⟨β, h0, fun p hp => by simpa using List.all_eq_true.1 h7 p hp, h1, h2, h3, fun t g ht => ?_, fun b o hbo => ?_, h6, fun b o hbo c hc => ?_⟩
      · have := Tr.all_ok h4 t g ht
        simpa only [Bool.and_eq_true] using this
      · have := List.all_eq_true.1 h5 (b, o) (hget_mem hbo)
        simp only [Bool.and_eq_true] at this
        obtain ⟨k1, k2, k3⟩ := this
        refine ⟨k1, Nat.le_of_ble_eq_true k2, fun gs hgs g hg => ?_⟩
        subst hgs
        exact List.all_eq_true.1 k3 g hg
      · have : ∀ l : List (Nat × Ob), (b, o) ∈ l → c ∈ l.foldr (fun p r => condB nb β M.hp p.1 p.2 ++ r) [] := by
          intro l
          induction l with
          | nil => intro h; simp at h
          | cons p r ih =>
            intro h
            rw [List.foldr_cons]
            rcases List.mem_cons.1 h with h | h
            · subst h; exact List.mem_append_left _ hc
            · exact List.mem_append_right _ (ih h)
        exact this _ (hget_mem hbo)
  · cases h
section
variable {nv nb : Nat} {xs cs : List SE} {β : List (Nat × AV)} {Fg F : Fr} {Mg M : Me} {w : World} {a : Act}
def headG (nb mb : Nat) (β : List (Nat × AV)) (ρ : Env) (G : Gh) : Gh := fun b => if b < nb then G b else if b < mb then (match bgetA β b with | some a => gOf ρ G a | none => none) else none
theorem headG_old {b mb : Nat} (h : b < nb) : headG nb mb β ρ G b = G b := by unfold headG; rw [if_pos h]
theorem listGet {α : Type} {l : List α} {i : Nat} (h : i < l.length) : ∃ x, l[i]? = some x := ⟨_, List.getElem?_eq_getElem h⟩
theorem zip_all {p : AV × AV → Bool} {gs as : List AV} (hl : gs.length = as.length) (h : (gs.zip as).all p = true) : ∀ (i : Nat) (g a : AV), gs[i]? = some g → as[i]? = some a → p (g, a) = true := fun i g a h1 h2 =>
  List.all_eq_true.1 h (g, a) (List.mem_of_getElem? (List.getElem?_zip_eq_some.2 ⟨h1, h2⟩))
theorem new_sl (hI : Inst nv nb xs β Fg Mg F M cs) (hcs : ∀ c ∈ cs, (c.den ρ1).b = true) (hM : MR ρ1 G1 M w) (hO : Over ρ1 ρ2 nv (xs.map (·.den ρ1))) {b : Nat} {o : Ob} {a' : AV} {e : SE} (hb : nb ≤ b) (hbo : hget Mg.hp b = some o) (ho : (∃ ks, o = .rows ks e ∨ o = .ro ks e) ∨ ∃ ns, o = .nrows ns e ∨ o = .nro ns e) (hβ : bgetA β b = some a') :
    ∃ e' q, cellX M.hp (clO o) a' = some (e', q) ∧ e.den ρ2 = e'.den ρ1 ∧ ∀ c ∈ q, (c.den ρ1).b = true := by
  obtain ⟨h1, h2, h3⟩ := hI.hp b o hbo
  have hlt : Nat.blt b nb = false := by
    cases h : Nat.blt b nb with
    | false => rfl
    | true => have := Nat.le_of_ble_eq_true h; omega
  have hq : ∀ e' q, cellX M.hp (clO o) a' = some (e', q) → ∀ c ∈ q, (c.den ρ1).b = true := fun e' q hx c hc => hcs c (hI.cs b o hbo c (by
    unfold condB
    rw [hlt, hβ]
    simp only [cond_false, hx]
    exact hc))
  unfold chkO at h1
  rw [hlt, hβ] at h1
  simp only [cond_false] at h1
  rcases ho with ⟨ks, h | h⟩ | ⟨ns, h | h⟩
  · subst h
    simp only at h1
    split at h1
    · rename_i j e' q hj hx
      simp only [Bool.and_eq_true] at h1
      exact ⟨e', q, hx, newV_den hj h1.1 hO, hq e' q hx⟩
    · cases h1
  · subst h
    simp only at h1
    split at h1
    · rename_i j e' q hj hx
      exact ⟨e', q, hx, newV_den hj h1 hO, hq e' q hx⟩
    · cases h1
  · subst h
    simp only at h1
    split at h1
    · rename_i j e' q hj hx
      simp only [Bool.and_eq_true] at h1
      exact ⟨e', q, hx, newV_den hj h1.1 hO, hq e' q hx⟩
    · cases h1
  · subst h
    simp only at h1
    split at h1
    · rename_i j e' q hj hx
      exact ⟨e', q, hx, newV_den hj h1 hO, hq e' q hx⟩
    · cases h1
theorem chk_ok (hI : Inst nv nb xs β Fg Mg F M cs) (hcs : ∀ c ∈ cs, (c.den ρ1).b = true) (hM : MR ρ1 G1 M w) (hO : Over ρ1 ρ2 nv (xs.map (·.den ρ1))) : ∀ (f : Nat) (g a : AV) (v : Value), chkV nv nb xs β f g a = true → (∃ f', patOk nv nb Mg.hp f' g = true) → VR ρ1 G1 a v → VR ρ2 (headG nb Mg.nb β ρ1 G1) g v
  | 0, g, a, v, h, hp, hv => by unfold chkV at h; cases h
  | f + 1, g, a, v, h, ⟨f', hp⟩, hv => by
    have ih := chk_ok hI hcs hM hO f
    have oth : (AV.same 50 g a && AV.sc nv nb 50 g) = true → VR ρ2 (headG nb Mg.nb β ρ1 G1) g v := by
      intro h
      simp only [Bool.and_eq_true] at h
      have := same_eq _ _ _ h.1
      subst this
      exact sc_ok hO.1 (fun b hb => headG_old hb) 50 g v h.2 hv
    unfold chkV at h
    simp only at h
    split at h
    · exact .any _
    · rename_i k e
      split at h
      · rename_i j hj
        split at h
        · rename_i k' e'
          simp only [Bool.and_eq_true, decide_eq_true_eq] at h
          obtain ⟨rfl, h⟩ := h
          rw [hv.int_inv]
          exact .int _ _ _ (by rw [newV_den hj h hO])
        · cases h
      · exact oth h
    · rename_i e
      split at h
      · rename_i j hj
        split at h
        · rename_i e'
          rw [hv.bool_inv]
          exact .bool _ _ (by rw [newV_den hj h hO])
        · cases h
      · exact oth h
    · rename_i e
      split at h
      · rename_i j hj
        split at h
        · rename_i e'
          rw [hv.str_inv]
          exact .str _ _ (by rw [newV_den hj h hO])
        · cases h
      · exact oth h
    · rename_i b s off len cap
      cases hb : Nat.ble nb b with
      | false => rw [hb] at h; exact oth h
      | true =>
        rw [hb] at h
        simp only [cond_true] at h
        have hnb := Nat.le_of_ble_eq_true hb
        split at h
        · rename_i i a' hβ
          have := same_eq _ _ _ h
          subst this
          cases f' with
          | zero => unfold patOk at hp; cases hp
          | succ f' =>
            unfold patOk at hp
            simp only at hp
            rw [hb] at hp
            simp only [cond_true] at hp
            have main : ∀ (o : Ob) (ks : List CK) (e : SE), hget Mg.hp b = some o → (o = .rows ks e ∨ o = .ro ks e) → (Nat.beq s ks.length && decide (SE.un .len (.var i) = .un .len e)) = true → VR ρ2 (headG nb Mg.nb β ρ1 G1) (.sl b s (.int 0) (.un .len (.var i)) none) v := by
              intro o ks e hbo ho hp
              simp only [Bool.and_eq_true, beq_iff, decide_eq_true_eq] at hp
              obtain ⟨hs, he⟩ := hp
              obtain ⟨e', q, hx, hd, hq⟩ := new_sl hI hcs hM hO hnb hbo (.inl ⟨ks, ho⟩) hβ
              rw [show clO o = .rows true ks by rcases ho with h | h <;> subst h <;> rfl] at hx
              have hsome : ∀ b s off len cap, a = .sl b s off len cap → (G1 b).isSome = true := fun b s off len cap ha => by
                subst ha
                obtain ⟨g0, _, _, _, hg0, _⟩ := hv.sl_inv
                rw [hg0]; rfl
              obtain ⟨hkn, g, hg, _, _⟩ := rowX hM.ob hx hsome
              obtain ⟨ad, n, cp, rfl, k1, k2, k3, k4⟩ := valX hM.ob hx hq hv hg
              have hG : headG nb Mg.nb β ρ1 G1 b = some g := by
                unfold headG
                rw [if_neg (by omega), if_pos (hI.hp b o hbo).2.1, hβ]
                exact hg
              cases he
              refine .sl _ _ _ _ _ g _ _ _ hG ?_ (Int.le_refl 0) k2 (fun e he => by cases he) (fun hc => by rw [k3 hc]; simp [SE.den, DV.i]) (by rw [hs]; simp [SE.den, DV.i]; exact k4)
              show (((SE.var i).den ρ2).l.length : Int) = n
              rw [hd, k1]
            have mainN : ∀ (o : Ob) (ns : List NK) (e : SE), hget Mg.hp b = some o → (o = .nrows ns e ∨ o = .nro ns e) → (Nat.beq s ns.length && decide (SE.un .len (.var i) = .un .len e)) = true → VR ρ2 (headG nb Mg.nb β ρ1 G1) (.sl b s (.int 0) (.un .len (.var i)) none) v := by
              intro o ns e hbo ho hp
              simp only [Bool.and_eq_true, beq_iff, decide_eq_true_eq] at hp
              obtain ⟨hs, he⟩ := hp
              obtain ⟨e', q, hx, hd, hq⟩ := new_sl hI hcs hM hO hnb hbo (.inr ⟨ns, ho⟩) hβ
              rw [show clO o = .nst ns by rcases ho with h | h <;> subst h <;> rfl] at hx
              obtain ⟨hkn, g, hg, _, hsl, _⟩ := nstX hM.ob hx hv
              obtain ⟨ad, n, cp, rfl, k1, k2, k3, k4⟩ := hsl hq
              have hG : headG nb Mg.nb β ρ1 G1 b = some g := by
                unfold headG
                rw [if_neg (by omega), if_pos (hI.hp b o hbo).2.1, hβ]
                exact hg
              cases he
              refine .sl _ _ _ _ _ g _ _ _ hG ?_ (Int.le_refl 0) k2 (fun e he => by cases he) (fun hc => by rw [k3 hc]; simp [SE.den, DV.i]) (by rw [hs]; simp [SE.den, DV.i]; exact k4)
              show (((SE.var i).den ρ2).l.length : Int) = n
              rw [hd, k1]
            split at hp
            · rename_i ks e hbo; exact main _ ks e hbo (.inl rfl) hp
            · rename_i ks e hbo; exact main _ ks e hbo (.inr rfl) hp
            · rename_i ns e hbo; exact mainN _ ns e hbo (.inl rfl) hp
            · rename_i ns e hbo; exact mainN _ ns e hbo (.inr rfl) hp
            · cases hp
        · cases h
    · rename_i gs
      split at h
      · rename_i as
        simp only [Bool.and_eq_true, beq_iff] at h
        obtain ⟨hl, h⟩ := h
        obtain ⟨vs, rfl, hvs⟩ := hv.agg_inv
        have hz := zip_all hl h
        cases f' with
        | zero => unfold patOk at hp; cases hp
        | succ f' =>
          unfold patOk at hp
          simp only at hp
          refine .agg _ _ (by rw [hvs.1, hl]) fun i g' v' h1 h2 => ?_
          obtain ⟨a', ha'⟩ := listGet (l := as) (i := i) (by rw [← hl]; exact (List.getElem?_eq_some_iff.1 h1).1)
          exact ih g' a' v' (hz i g' a' h1 ha') ⟨f', List.all_eq_true.1 hp g' (List.mem_of_getElem? h1)⟩ (hvs.2 i a' v' ha' h2)
      · exact oth h
    · exact oth h
theorem rows_congr {g : GI} {ks : List CK} {e e' : SE} (hd : e.den ρ2 = e'.den ρ1) (h : OR ρ1 G1 w g (.rows ks e')) : OR ρ2 G2 w g (.rows ks e) := by
  obtain ⟨h1, h2, h3, h4⟩ := h
  exact ⟨h1, h2, by rw [hd]; exact h3, by rw [hd]; exact h4⟩
theorem ro_congr {g : GI} {ks : List CK} {e e' : SE} (hd : e.den ρ2 = e'.den ρ1) (h : OR ρ1 G1 w g (.ro ks e')) : OR ρ2 G2 w g (.ro ks e) := by
  obtain ⟨h1, h2⟩ := h
  exact ⟨h1, by rw [hd]; exact h2⟩
theorem src_ok (hL : ∀ b st j R, hget Mg.hp b = some (.lp st j R) → (R.tm.all fun _ a => AV.sc nv nb 50 a) = true → ∀ g, G1 b = some g → LR ρ2 (headG nb Mg.nb β ρ1 G1) R g.lp) (hI : Inst nv nb xs β Fg Mg F M cs) (hcs : ∀ c ∈ cs, (c.den ρ1).b = true) (hM : MR ρ1 G1 M w) (hO : Over ρ1 ρ2 nv (xs.map (·.den ρ1))) {b : Nat} {o : Ob} (hbo : hget Mg.hp b = some o) :
    ∃ g, headG nb Mg.nb β ρ1 G1 b = some g ∧ OR ρ2 (headG nb Mg.nb β ρ1 G1) w g o ∧ (Solid ρ2 g o → ∃ s ob g1, srcOf nb β b = some s ∧ hget M.hp s = some ob ∧ G1 s = some g1 ∧ Solid ρ1 g1 ob ∧ g1.blk = g.blk ∧ (o.own = true → ob.own = true)) ∧ (∀ k, o.also g k → ∃ s ob g1, hget M.hp s = some ob ∧ G1 s = some g1 ∧ ob.also g1 k) := by
  obtain ⟨h1, h2, h3⟩ := hI.hp b o hbo
  cases hlt : Nat.blt b nb with
  | true =>
    have hbn := Nat.le_of_ble_eq_true hlt
    unfold chkO at h1
    rw [hlt] at h1
    simp only [cond_true] at h1
    have hsrc : srcOf nb β b = some b := by unfold srcOf; rw [hlt]; rfl
    split at h1
    · rename_i gs as hob
      simp only [Bool.and_eq_true, beq_iff] at h1
      obtain ⟨hl, h1⟩ := h1
      have hz := zip_all hl h1
      obtain ⟨g, hg, h0, arr, t, k1, k2, k3, k4⟩ := hM.ob b _ hob
      refine ⟨g, by rw [headG_old hbn]; exact hg, ⟨h0, arr, t, k1, k2, by omega, fun i g' v' q1 q2 => ?_⟩, fun _ => ⟨b, _, g, hsrc, hob, hg, trivial, rfl, fun _ => rfl⟩, fun k hk => hk.elim⟩
      obtain ⟨a', ha'⟩ := listGet (l := as) (i := i) (by rw [← hl]; exact (List.getElem?_eq_some_iff.1 q1).1)
      exact chk_ok hI hcs hM hO 50 g' a' v' (hz i g' a' q1 ha') ⟨50, h3 gs rfl g' (List.mem_of_getElem? q1)⟩ (k4 i a' v' ha' q2)
    · rename_i ks e ks' e' hob
      simp only [Bool.and_eq_true, decide_eq_true_eq] at h1
      obtain ⟨rfl, h1⟩ := h1
      have hd : e.den ρ2 = e'.den ρ1 := by
        split at h1
        · rename_i j hj; exact newV_den hj h1 hO
        · simp only [Bool.and_eq_true, decide_eq_true_eq] at h1
          obtain ⟨rfl, h1⟩ := h1
          exact SE.sc_den hO.1 h1
      obtain ⟨g, hg, hor⟩ := hM.ob b _ hob
      refine ⟨g, by rw [headG_old hbn]; exact hg, rows_congr hd hor, fun hs => ⟨b, _, g, hsrc, hob, hg, hs, rfl, fun _ => rfl⟩, fun k hk => hk.elim⟩
    · rename_i ks e ks' e' hob
      simp only [Bool.and_eq_true, decide_eq_true_eq] at h1
      obtain ⟨rfl, rfl, h1⟩ := h1
      have hd : e.den ρ2 = e.den ρ1 := SE.sc_den hO.1 h1
      obtain ⟨g, hg, hor⟩ := hM.ob b _ hob
      refine ⟨g, by rw [headG_old hbn]; exact hg, ro_congr hd hor, fun hs => ⟨b, _, g, hsrc, hob, hg, fun hn => hs (by rw [hd]; exact hn), rfl, fun h => h⟩, fun k hk => hk.elim⟩
    · rename_i gs as hob
      simp only [Bool.and_eq_true, beq_iff] at h1
      obtain ⟨hl, h1⟩ := h1
      have hz := zip_all hl h1
      obtain ⟨g, hg, hor⟩ := hM.ob b _ hob
      refine ⟨g, by rw [headG_old hbn]; exact hg, fun i a hi => ?_, fun hs => ⟨b, _, g, hsrc, hob, hg, fun hn => hs (by rw [hn] at hl; exact List.eq_nil_of_length_eq_zero hl), rfl, fun h => h⟩, fun k hk => hk.elim⟩
      obtain ⟨a', ha'⟩ := listGet (l := as) (i := i) (by rw [← hl]; exact (List.getElem?_eq_some_iff.1 hi).1)
      have hz := hz i a a' hi ha'
      simp only [Bool.and_eq_true] at hz
      obtain ⟨v, hv, hr⟩ := hor i a' ha'
      exact ⟨v, hv, by rw [← same_eq _ _ _ hz.1] at hr; exact sc_ok hO.1 (fun b hb => headG_old hb) 50 a v hz.2 hr⟩
    · rename_i st j R st' j' R' hob
      simp only [Bool.and_eq_true, decide_eq_true_eq] at h1
      obtain ⟨rfl, rfl, h1⟩ := h1
      obtain ⟨g, hg, hor⟩ := hM.ob b _ hob
      exact ⟨g, by rw [headG_old hbn]; exact hg, ⟨hor.1, hL b _ _ R hbo h1 g hg⟩, fun _ => ⟨b, _, g, hsrc, hob, hg, trivial, rfl, fun _ => rfl⟩, fun k hk => hk.elim⟩
    · rename_i hob
      obtain ⟨g, hg, hor⟩ := hM.ob b _ hob
      exact ⟨g, by rw [headG_old hbn]; exact hg, hor, fun _ => ⟨b, _, g, hsrc, hob, hg, trivial, rfl, fun _ => rfl⟩, fun k hk => hk.elim⟩
    · rename_i ns e ns' e' hob
      simp only [Bool.and_eq_true, decide_eq_true_eq] at h1
      obtain ⟨rfl, rfl, h1⟩ := h1
      have hd : e.den ρ2 = e.den ρ1 := SE.sc_den hO.1 h1
      obtain ⟨g, hg, hor⟩ := hM.ob b _ hob
      refine ⟨g, by rw [headG_old hbn]; exact hg, ⟨hor.1, by rw [hd]; exact hor.2⟩, fun hs => ⟨b, _, g, hsrc, hob, hg, fun hn => hs (by rw [hd]; exact hn), rfl, fun h => h⟩, fun k hk => ⟨b, _, g, hob, hg, hk⟩⟩
    · rename_i ns e ns' e' hob
      simp only [Bool.and_eq_true, decide_eq_true_eq] at h1
      obtain ⟨rfl, rfl, h1⟩ := h1
      have hd : e.den ρ2 = e.den ρ1 := SE.sc_den hO.1 h1
      obtain ⟨g, hg, hor⟩ := hM.ob b _ hob
      obtain ⟨k1, k2, k3, k4, k5⟩ := hor
      refine ⟨g, by rw [headG_old hbn]; exact hg, ⟨k1, k2, by rw [hd]; exact k3, by rw [hd]; exact k4, by rw [hd]; exact k5⟩, fun hs => ⟨b, _, g, hsrc, hob, hg, hs, rfl, fun h => h⟩, fun k hk => ⟨b, _, g, hob, hg, hk⟩⟩
    · cases h1
  | false =>
    have hbn : nb ≤ b := by
      rcases Nat.lt_or_ge b nb with h | h
      · have : Nat.blt b nb = true := Nat.ble_eq_true_of_le h
        rw [this] at hlt; cases hlt
      · exact h
    have h1' := h1
    unfold chkO at h1
    rw [hlt] at h1
    simp only [cond_false] at h1
    have key : ∀ (ks : List CK) (e : SE) (a : AV) (j : Nat) (e' : SE) (q : List SE), (o = .rows ks e ∨ o = .ro ks e) → bgetA β b = some a → newV nv e = some j → cellX M.hp (.rows true ks) a = some (e', q) → seIs xs j e' = true →
        (a = .nils ∨ ∃ b' s off len cap, a = .sl b' s off len cap ∧ (G1 b').isSome = true) := by
      intro ks e a j e' q ho hβ hj hx hs
      unfold cellX at hx
      simp only at hx
      cases hke : ks.isEmpty with
      | true => rw [hke] at hx; cases hx
      | false =>
        rw [hke] at hx
        simp only [cond_false] at hx
        cases a with
        | nils => exact .inl rfl
        | sl b' s off len cap =>
          refine .inr ⟨b', s, off, len, cap, rfl, ?_⟩
          cases hh : hget M.hp b' with
          | none => simp only [srcRows, srcCells, hh] at hx; cases hx
          | some ob => obtain ⟨g, hg, _⟩ := hM.ob b' ob hh; rw [hg]; rfl
        | _ => simp only [srcRows, srcCells] at hx; cases hx
    have fin : ∀ (ks : List CK) (e : SE) (a : AV) (j : Nat) (e' : SE) (q : List SE), (o = .rows ks e ∨ o = .ro ks e) → bgetA β b = some a → newV nv e = some j → cellX M.hp (.rows true ks) a = some (e', q) → seIs xs j e' = true →
        (o = .rows ks e → (match a with
        | .nils => true
        | .sl b' _ off _ _ => decide (off = .int 0) && (match hget M.hp b' with | some (.rows _ _) | some (.cells _) => true | _ => false)
        | _ => false) = true) → ∃ g, headG nb Mg.nb β ρ1 G1 b = some g ∧ OR ρ2 (headG nb Mg.nb β ρ1 G1) w g o ∧ (Solid ρ2 g o → ∃ s ob g1, srcOf nb β b = some s ∧ hget M.hp s = some ob ∧ G1 s = some g1 ∧ Solid ρ1 g1 ob ∧ g1.blk = g.blk ∧ (o.own = true → ob.own = true)) ∧ (∀ k, o.also g k → ∃ s ob g1, hget M.hp s = some ob ∧ G1 s = some g1 ∧ ob.also g1 k) := by
      intro ks e a j e' q ho hβ hj hx hs hown
      have hd : e.den ρ2 = e'.den ρ1 := newV_den hj hs hO
      have hcase := key ks e a j e' q ho hβ hj hx hs
      have hsome : ∀ b s off len cap, a = .sl b s off len cap → (G1 b).isSome = true := by
        intro b2 s2 off2 len2 cap2 ha
        rcases hcase with h | ⟨b', s, off, len, cap, h, hi⟩
        · rw [h] at ha; cases ha
        · rw [h] at ha; cases ha; exact hi
      obtain ⟨hkn, g, hg, hat, hkw⟩ := rowX hM.ob hx hsome
      have hG : headG nb Mg.nb β ρ1 G1 b = some g := by
        unfold headG
        rw [if_neg (by omega), if_pos h2, hβ]
        exact hg
      refine ⟨g, hG, ?_, fun hsol => ?_, fun k hk => by rcases ho with h | h <;> subst h <;> exact hk.elim⟩
      · rcases ho with h | h
        · subst h
          replace hown := hown rfl
          have hz : g.sz = 0 → (e'.den ρ1).l = [] := by
            intro hz
            by_cases hne : (e'.den ρ1).l = []
            · exact hne
            · exfalso
              obtain ⟨_, hsl⟩ := hkw hne
              rcases hcase with h | ⟨b', s, off, len, cap, h, hi⟩
              · subst h
                unfold cellX at hx
                simp only at hx
                cases hke : ks.isEmpty with
                | true => rw [hke] at hx; cases hx
                | false =>
                  rw [hke] at hx
                  simp only [cond_false, srcRows, srcCells, allData, List.length_nil] at hx
                  cases hx
                  exact hne rfl
              · obtain ⟨ob, g', m1, m2, m3, m4, m5⟩ := hsl b' s off len cap h
                subst h
                simp only [Bool.and_eq_true, decide_eq_true_eq] at hown
                obtain ⟨ho0, hown⟩ := hown
                subst ho0
                simp only [gOf, m2, Option.map_some, Option.some.injEq] at hg
                rw [← hg] at hz
                simp only [SE.den, DV.i, Int.toNat_zero, Nat.zero_mul, Nat.sub_zero] at hz
                rw [m1] at hown
                cases ob with
                | rows ks2 e2 => exact m3 hz
                | cells cs2 =>
                  obtain ⟨g3, hg3, _, arr, t, _, q2, q3, _⟩ := hM.ob b' _ m1
                  rw [m2] at hg3; cases hg3
                  rw [hz] at q2
                  exact m5 (List.eq_nil_of_length_eq_zero (by omega))
                | _ => cases hown
          have hoff : g.off = 0 := by
            rcases hcase with h | ⟨b', s, off, len, cap, h, hi⟩
            · subst h; simp only [gOf, Option.some.injEq] at hg; rw [← hg]
            · subst h
              simp only [Bool.and_eq_true, decide_eq_true_eq] at hown
              obtain ⟨ho0, hown⟩ := hown
              subst ho0
              obtain ⟨g0, hg0⟩ := Option.isSome_iff_exists.1 hi
              simp only [gOf, hg0, Option.map_some, Option.some.injEq] at hg
              rw [← hg]
              simp only [SE.den, DV.i, Int.toNat_zero, Nat.zero_mul, Nat.add_zero]
              split at hown
              · rename_i hob; obtain ⟨g3, hg3, hor⟩ := hM.ob b' _ hob; rw [hg0] at hg3; cases hg3; exact hor.1
              · rename_i hob; obtain ⟨g3, hg3, hor⟩ := hM.ob b' _ hob; rw [hg0] at hg3; cases hg3; exact hor.1
              · cases hown
          refine ⟨hoff, hkn, fun h => by rw [hd]; exact hz h, fun hnz => ?_⟩
          have hheap : ∃ arr, ∃ t : Tz g.sz, w.heap[g.blk]? = some (.cells arr t.ty t.fz) ∧ arr.size = g.sz := by
            rcases hcase with h | ⟨b', s, off, len, cap, h, hi⟩
            · subst h; simp only [gOf, Option.some.injEq] at hg; rw [← hg] at hnz; exact absurd rfl hnz
            · subst h
              simp only [Bool.and_eq_true, decide_eq_true_eq] at hown
              obtain ⟨ho0, hown⟩ := hown
              subst ho0
              obtain ⟨g0, hg0⟩ := Option.isSome_iff_exists.1 hi
              simp only [gOf, hg0, Option.map_some, Option.some.injEq] at hg
              rw [← hg] at hnz ⊢
              simp only [SE.den, DV.i, Int.toNat_zero, Nat.zero_mul, Nat.sub_zero] at hnz ⊢
              split at hown
              · rename_i hob
                obtain ⟨g3, hg3, _, _, _, hor⟩ := hM.ob b' _ hob
                rw [hg0] at hg3; cases hg3
                obtain ⟨arr, t, q1, q2, _⟩ := hor hnz
                exact ⟨arr, ⟨t.ty, t.fz, fun i hi => t.ok i (Nat.lt_of_lt_of_le hi (Nat.sub_le _ _))⟩, q1, q2⟩
              · rename_i hob
                obtain ⟨g3, hg3, _, arr, t, q1, q2, _⟩ := hM.ob b' _ hob
                rw [hg0] at hg3; cases hg3
                exact ⟨arr, ⟨t.ty, t.fz, fun i hi => t.ok i (Nat.lt_of_lt_of_le hi (Nat.sub_le _ _))⟩, q1, q2⟩
              · cases hown
          obtain ⟨arr, t, q1, q2⟩ := hheap
          have hrow : ∀ (i j : Nat) (d : DV) (k : CK), (e.den ρ2).l[i]? = some d → ks[j]? = some k → arr[i * ks.length + j]? = some (k.val (cellD ks d j)) := by
            intro i j d k hi hj
            rw [hd] at hi
            have := hat i j d k hi hj
            rw [cell_of_heap q1, hoff, Nat.zero_add] at this
            exact this
          refine ⟨arr, t, q1, q2, ?_, hrow⟩
          rcases Nat.eq_zero_or_pos (e.den ρ2).l.length with hl | hl
          · rw [hl]; simp
          · have hkp := ne_pos hkn
            have h1 := hrow ((e.den ρ2).l.length - 1) (ks.length - 1) _ _ (List.getElem?_eq_getElem (by omega)) (List.getElem?_eq_getElem (by omega))
            have := (Array.getElem?_eq_some_iff.1 h1).1
            have e1 : (e.den ρ2).l.length * ks.length = ((e.den ρ2).l.length - 1) * ks.length + ks.length := by
              rw [← Nat.succ_mul]; congr 1; omega
            omega
        · subst h
          refine ⟨hkn, fun i j d k hi hj => ?_⟩
          rw [hd] at hi
          exact hat i j d k hi hj
      · rcases hcase with h | ⟨b', s, off, len, cap, h, hi⟩
        · exfalso
          subst h
          simp only [gOf, Option.some.injEq] at hg
          rcases ho with h | h
          · subst h; rw [← hg] at hsol; exact hsol rfl
          · subst h
            have hsol : (e.den ρ2).l ≠ [] := hsol
            rw [hd] at hsol
            unfold cellX at hx
            simp only at hx
            cases hke : ks.isEmpty with
            | true => rw [hke] at hx; cases hx
            | false =>
              rw [hke] at hx
              simp only [cond_false, srcRows, srcCells, allData, List.length_nil] at hx
              cases hx
              exact hsol rfl
        · have hsrc : srcOf nb β b = some b' := by unfold srcOf; rw [hlt, hβ, h]; rfl
          rcases ho with ho | ho
          · subst ho
            replace hown := hown rfl
            subst h
            simp only [Bool.and_eq_true, decide_eq_true_eq] at hown
            obtain ⟨ho0, hown⟩ := hown
            subst ho0
            obtain ⟨g0, hg0⟩ := Option.isSome_iff_exists.1 hi
            simp only [gOf, hg0, Option.map_some, Option.some.injEq] at hg
            have hsol : g.sz ≠ 0 := hsol
            rw [← hg] at hsol ⊢
            simp only [SE.den, DV.i, Int.toNat_zero, Nat.zero_mul, Nat.sub_zero] at hsol
            split at hown
            · rename_i hob; exact ⟨b', _, g0, hsrc, hob, hg0, hsol, rfl, fun _ => rfl⟩
            · rename_i hob; exact ⟨b', _, g0, hsrc, hob, hg0, trivial, rfl, fun _ => rfl⟩
            · cases hown
          · subst ho
            have hsol : (e.den ρ2).l ≠ [] := hsol
            rw [hd] at hsol
            obtain ⟨_, hsl⟩ := hkw hsol
            obtain ⟨ob, g', m1, m2, m3, m4, m5⟩ := hsl b' s off len cap h
            exact ⟨b', ob, g', hsrc, m1, m2, m3, m4, fun h => by cases h⟩
    have finN : ∀ (ns : List NK) (e : SE) (a : AV) (j : Nat) (e' : SE) (q : List SE), (o = .nrows ns e ∨ o = .nro ns e) → bgetA β b = some a → newV nv e = some j → cellX M.hp (.nst ns) a = some (e', q) → seIs xs j e' = true →
        (o = .nrows ns e → (match a with
        | .nils => true
        | .sl b' _ _ _ _ => (match hget M.hp b' with | some (.nrows _ _) => true | _ => false)
        | _ => false) = true) → ∃ g, headG nb Mg.nb β ρ1 G1 b = some g ∧ OR ρ2 (headG nb Mg.nb β ρ1 G1) w g o ∧ (Solid ρ2 g o → ∃ s ob g1, srcOf nb β b = some s ∧ hget M.hp s = some ob ∧ G1 s = some g1 ∧ Solid ρ1 g1 ob ∧ g1.blk = g.blk ∧ (o.own = true → ob.own = true)) ∧ (∀ k, o.also g k → ∃ s ob g1, hget M.hp s = some ob ∧ G1 s = some g1 ∧ ob.also g1 k) := by
      intro ns e a j e' q ho hβ hj hx hs hown
      have hd : e.den ρ2 = e'.den ρ1 := newV_den hj hs hO
      have hnn : ns ≠ [] := by
        intro hn
        unfold cellX at hx
        simp only [hn, List.isEmpty_nil, cond_true] at hx
        cases hx
      have hGb : ∀ g, gOf ρ1 G1 a = some g → headG nb Mg.nb β ρ1 G1 b = some g := fun g hg => by
        unfold headG
        rw [if_neg (by omega), if_pos h2, hβ]
        exact hg
      rcases nst_inv hx with ⟨rfl, rfl⟩ | ⟨b', len, cap, ob, e0, rfl, hob, hor, hne⟩
      · have hl : (e.den ρ2).l = [] := by rw [hd]; rfl
        refine ⟨⟨0, 0, 0, default⟩, hGb _ rfl, ?_, fun hsol => ?_, fun k hk => absurd hk also_def⟩
        · rcases ho with h | h
          · subst h
            exact ⟨rfl, hnn, fun _ => hl, fun h => absurd rfl h, fun i j d k hi => by rw [hl] at hi; simp at hi⟩
          · subst h
            exact ⟨hnn, fun i j d k hi => by rw [hl] at hi; simp at hi⟩
        · rcases ho with h | h
          · subst h; exact absurd rfl hsol
          · subst h; exact absurd hl hsol
      · obtain ⟨g, hg, hog⟩ := hM.ob b' ob hob
        have hgo : gOf ρ1 G1 (.sl b' ns.length (.int 0) len cap) = some g := by
          simp only [gOf, hg, Option.map_some, SE.den, DV.i, Int.toNat_zero, Nat.zero_mul, Nat.sub_zero, Nat.add_zero]
        have hat0 : NAt w g ns (e0.den ρ1).l := nest_at hM.ob hg (by rcases hor with h | h <;> subst h; exact .inl hob; exact .inr hob)
        have hpre : ∃ n : Nat, (e'.den ρ1).l = (e0.den ρ1).l.take n := by
          unfold cellX at hx
          simp only at hx
          cases hke : ns.isEmpty with
          | true => rw [hke] at hx; cases hx
          | false =>
            rw [hke] at hx
            simp only [cond_false, hob] at hx
            have fin2 : (bif Nat.beq ns.length ns.length && decide (ns = ns) then
                (if SE.int 0 = .int 0 then (if len = .un .len e0 ∨ (len = lenE e0 ∨ len = lenL e0) then some (e0, []) else some (mkB .take e0 len, [mkB .le (.int 0) len, mkB .le len (mkU .len e0)])) else none) else none) = some (e', q) → ∃ n : Nat, (e'.den ρ1).l = (e0.den ρ1).l.take n := by
              intro hx
              rw [(beq_iff _ _).2 rfl, decide_eq_true rfl, if_pos rfl] at hx
              simp only [Bool.and_self, cond_true] at hx
              split at hx
              · cases hx; exact ⟨(e'.den ρ1).l.length, by simp⟩
              · cases hx
                exact ⟨(len.den ρ1).i.toNat, by rw [mkB_den]; rfl⟩
            rcases hor with h | h <;> subst h <;> exact fin2 hx
        obtain ⟨n0, hpre⟩ := hpre
        have hat : NAt w g ns (e.den ρ2).l := by
          rw [hd, hpre]
          intro i j d k hi hj
          rw [List.getElem?_take] at hi
          split at hi
          · exact hat0 i j d k hi hj
          · cases hi
        have hsrc : srcOf nb β b = some b' := by unfold srcOf; rw [hlt, hβ]; rfl
        have hal : ∀ k, hdk g k → ∃ s ob g1, hget M.hp s = some ob ∧ G1 s = some g1 ∧ ob.also g1 k := fun k hk => ⟨b', ob, g, hob, hg, by rcases hor with h | h <;> subst h <;> exact hk⟩
        refine ⟨g, hGb g hgo, ?_, fun hsol => ?_, fun k hk => by rcases ho with h | h <;> subst h <;> exact hal k hk⟩
        · rcases ho with h | h
          · subst h
            have hobn : ∃ e1, ob = .nrows ns e1 := by
              have := hown rfl
              simp only [hob] at this
              rcases hor with h | h <;> subst h
              · exact ⟨_, rfl⟩
              · cases this
            obtain ⟨e1, rfl⟩ := hobn
            have he1 : e1 = e0 := by rcases hor with h | h <;> cases h; rfl
            subst he1
            obtain ⟨q1, q2, q3, q4, q5⟩ := hog
            refine ⟨q1, q2, fun hz => ?_, fun hz => ?_, hat⟩
            · rw [hd, hpre, q3 hz]; simp
            · obtain ⟨arr, t, x1, x2, x3⟩ := q4 hz
              refine ⟨arr, t, x1, x2, Nat.le_trans (Nat.mul_le_mul_right _ ?_) x3⟩
              rw [hd, hpre, List.length_take]
              exact Nat.min_le_right _ _
          · subst h; exact ⟨hnn, hat⟩
        · rcases ho with h | h
          · subst h
            have hobn : ∃ e1, ob = .nrows ns e1 := by
              have := hown rfl
              simp only [hob] at this
              rcases hor with h | h <;> subst h
              · exact ⟨_, rfl⟩
              · cases this
            obtain ⟨e1, rfl⟩ := hobn
            exact ⟨b', _, g, hsrc, hob, hg, hsol, rfl, fun _ => rfl⟩
          · subst h
            have hsol : (e.den ρ2).l ≠ [] := hsol
            rw [hd] at hsol
            have hn0 := hne ρ1 hsol
            refine ⟨b', ob, g, hsrc, hob, hg, ?_, rfl, fun h => by cases h⟩
            rcases hor with h | h
            · subst h
              intro hz
              exact hn0 (hog.2.2.1 hz)
            · subst h; exact hn0
    split at h1
    · rename_i ks e a hβ
      split at h1
      · rename_i j e' q hj hx
        simp only [Bool.and_eq_true] at h1
        exact fin ks e a j e' q (.inl rfl) hβ hj hx h1.1 (fun _ => h1.2)
      · cases h1
    · rename_i ks e a hβ
      split at h1
      · rename_i j e' q hj hx
        exact fin ks e a j e' q (.inr rfl) hβ hj hx h1 (fun h => by cases h)
      · cases h1
    · rename_i ns e a hβ
      split at h1
      · rename_i j e' q hj hx
        simp only [Bool.and_eq_true] at h1
        exact finN ns e a j e' q (.inl rfl) hβ hj hx h1.1 (fun _ => h1.2)
      · cases h1
    · rename_i ns e a hβ
      split at h1
      · rename_i j e' q hj hx
        exact finN ns e a j e' q (.inr rfl) hβ hj hx h1 (fun h => by cases h)
      · cases h1
    · cases h1
theorem inst_ok (hL : ∀ b st j R, hget Mg.hp b = some (.lp st j R) → (R.tm.all fun _ a => AV.sc nv nb 50 a) = true → ∀ g, G1 b = some g → LR ρ2 (headG nb Mg.nb β ρ1 G1) R g.lp) (hI : Inst nv nb xs β Fg Mg F M cs) (hcs : ∀ c ∈ cs, (c.den ρ1).b = true) (hM : MR ρ1 G1 M w) (hF : FR ρ1 G1 F a) (hnb : nb ≤ Mg.nb) (hO : Over ρ1 ρ2 nv (xs.map (·.den ρ1))) (hpc : holdsAll ρ2 Mg.pc) :
    FR ρ2 (headG nb Mg.nb β ρ1 G1) Fg a ∧ MR ρ2 (headG nb Mg.nb β ρ1 G1) Mg w ∧ (∀ k, Mine ρ2 (headG nb Mg.nb β ρ1 G1) Mg k → Mine ρ1 G1 M k) ∧ (∀ k, Known ρ2 (headG nb Mg.nb β ρ1 G1) Mg k → Known ρ1 G1 M k) := by
  have hmine : ∀ k, Mine ρ2 (headG nb Mg.nb β ρ1 G1) Mg k → Mine ρ1 G1 M k := fun k ⟨b, o, g, h1, h2, h3, h4, h5⟩ => by
    obtain ⟨g', hg', _, hs, _⟩ := src_ok hL hI hcs hM hO h1
    rw [h3] at hg'; cases hg'
    obtain ⟨s, ob, g1, a1, a2, a3, a4, a5, a6⟩ := hs h4
    exact ⟨s, ob, g1, a2, a6 h2, a3, a4, a5.trans h5⟩
  refine ⟨⟨by rw [hI.n]; exact hF.n, fun t g ht => ?_, ?_⟩, ⟨hpc, fun b g hb => ?_, fun b o hb => ?_, fun b o c p g y hb hc ho hne hg hy s1 s2 => ?_, fun c p y k hc hy hk => ?_⟩, hmine, fun k ⟨b, o, g, h1, h3, h4⟩ => ?_⟩
  · obtain ⟨h1, h2⟩ := hI.tm t g ht
    exact chk_ok hI hcs hM hO 50 g _ _ h1 ⟨50, h2⟩ (hF.slot t)
  · rw [hI.dg]
    have := hF.df
    rw [hI.d] at this
    cases hd : a.defers with
    | nil => trivial
    | cons d r => rw [hd] at this; exact this.elim
  · unfold headG at hb
    split at hb
    · omega
    · split at hb
      · assumption
      · cases hb
  · obtain ⟨g, h1, h2, _⟩ := src_ok hL hI hcs hM hO hb
    exact ⟨g, h1, h2⟩
  · obtain ⟨g', hg', _, h1, _⟩ := src_ok hL hI hcs hM hO hb
    obtain ⟨y', hy', _, h2, _⟩ := src_ok hL hI hcs hM hO hc
    rw [hg] at hg'; cases hg'
    rw [hy] at hy'; cases hy'
    obtain ⟨s, ob, g1, a1, a2, a3, a4, a5, a6⟩ := h1 s1
    obtain ⟨s', ob', y1, b1, b2, b3, b4, b5, b6⟩ := h2 s2
    have hl := hI.lone
    unfold Go.Proofs.YtkfjgggiopegbaaDoor.lone at hl
    have := List.all_eq_true.1 hl (b, o) (hget_mem hb)
    simp only [ho, Bool.not_true, Bool.false_or, a1] at this
    have := List.all_eq_true.1 this (c, p) (hget_mem hc)
    simp only [b1, Bool.or_eq_true, beq_iff, Bool.not_eq_true'] at this
    have hss : s ≠ s' := by
      rcases this with h | h
      · exact absurd h.symm hne
      · intro e; rw [(beq_iff _ _).2 e] at h; cases h
    rw [← a5, ← b5]
    exact hM.apart s ob s' ob' g1 y1 a2 b2 (a6 ho) hss a3 b3 a4 b4
  · obtain ⟨y', hy', _, _, ha⟩ := src_ok hL hI hcs hM hO hc
    rw [hy] at hy'; cases hy'
    obtain ⟨s, ob, g1, a2, a3, a4⟩ := ha k hk
    exact ⟨(hM.sub s ob g1 k a2 a3 a4).1, fun hm => (hM.sub s ob g1 k a2 a3 a4).2 (hmine k hm)⟩
  · obtain ⟨g', hg', _, hs, ha⟩ := src_ok hL hI hcs hM hO h1
    rw [h3] at hg'; cases hg'
    rcases h4 with ⟨h4, h5⟩ | h4
    · obtain ⟨s, ob, g1, a1, a2, a3, a4, a5, a6⟩ := hs h4
      exact ⟨s, ob, g1, a2, a3, .inl ⟨a4, a5.trans h5⟩⟩
    · obtain ⟨s, ob, g1, a2, a3, a4⟩ := ha k h4
      exact ⟨s, ob, g1, a2, a3, .inr a4⟩
end
theorem sumT_sc {nv : Nat} {ρ ρ' : Env} (h : Agree nv ρ ρ') : ∀ ts : List (SE × Int), (ts.all fun p => p.1.sc nv) = true → sumT ρ' ts = sumT ρ ts
  | [], _ => rfl
  | (a, k) :: r, ha => by
    simp only [List.all_cons, Bool.and_eq_true] at ha
    simp only [sumT, SE.sc_den h ha.1, sumT_sc h r ha.2]
theorem cut_ok {nv : Nat} {ρ ρ' : Env} {pc : PC} (h : Agree nv ρ ρ') (hp : holdsAll ρ pc) : holdsAll ρ' (pc.cut nv) := by
  refine ⟨fun p hm => ?_, fun f hm => ?_⟩
  · obtain ⟨h1, h2⟩ := List.mem_filter.1 hm
    rw [SE.sc_den h h2]
    exact hp.1 p h1
  · obtain ⟨h1, h2⟩ := List.mem_filter.1 hm
    have := hp.2 f h1
    unfold LF.val at this ⊢
    rw [sumT_sc h _ h2]
    exact this
theorem hsets_get : ∀ (l : List (Nat × Ob)) {H : List (Nat × Ob)} {b : Nat} {o : Ob}, hget (l.foldl (fun hp p => hset hp p.1 p.2) H) b = some o → (∃ p ∈ l, p.2 = o) ∨ hget H b = some o
  | [], H, b, o, h => .inr h
  | p :: r, H, b, o, h => by
    rw [List.foldl_cons] at h
    rcases hsets_get r h with ⟨q, hq, he⟩ | h
    · exact .inl ⟨q, List.mem_cons_of_mem _ hq, he⟩
    · rw [hget_hset] at h
      split at h
      · cases h; exact .inl ⟨p, List.mem_cons_self .., rfl⟩
      · exact .inr h
theorem hdels_get : ∀ (l : List Nat) {H : List (Nat × Ob)} {b : Nat} {o : Ob}, hget (l.foldl hdel H) b = some o → hget H b = some o
  | [], H, b, o, h => h
  | p :: r, H, b, o, h => by
    rw [List.foldl_cons] at h
    have h := hdels_get r h
    rw [hget_hdel] at h
    split at h
    · cases h
    · exact h
theorem genM_lp {la : LA} (hlp : ∀ p ∈ la.blks, p.2.isLp = false) {M : Me} {b : Nat} {st : LoopState} {j : JK} {R : Rl} (h : hget (genM M la).hp b = some (.lp st j R)) : hget M.hp b = some (.lp st j R) := by
  rcases hsets_get la.blks h with ⟨p, hp, he⟩ | h
  · have := hlp p hp
    rw [he] at this
    cases this
  · exact hdels_get la.drop h
theorem head_loop {rd : Option Nat} {X : Cx} {ρ : Env} {Q : Lf → Prop} {n : Nat} (icode : ∀ ρ' Q, ρ'.f = ρ.f → SCode X ρ' Q n) {la : LA} {c : Code} {F Fg : Fr} {M : Me} {k : Lf → T} {G : Gh} {a : Act} {w : World} {R : Exit → Act → World → Prop} {xs cs : List SE}
    (hinst : instA la M.nv M.nb Fg (genM M la) F M = some (xs, cs)) (h : (needs M cs fun _ => T.loop M.nv xs (run n X (.code c) Fg (genM M la) (loopB la M.nv M.nb Fg (genM M la))) (run n X (.code c) Fg (genM M la) (loopR k))).sat Q ρ)
    (hrd : rd = none ∨ plainC c = true) (hM : MR ρ G M w) (hF : FR ρ G F a) (hR : ∀ e a' w', Reach ρ Q k G M w e a' w' → R e a' w') : (Code.loop c).wpIn (Fx X.E X.P rd) 0 X.P R a w := by
  obtain ⟨hcs, p, ⟨⟨m, hrounds⟩, hrest⟩, hp⟩ := needs_pc cs h hM.pc
  obtain ⟨β, hxl, hlp, hI⟩ := inst_inv hinst
  have hL : ∀ (ρ1 ρ2 : Env) (G1 : Gh) (β : List (Nat × AV)), Agree M.nv ρ ρ2 → G.le G1 → (∀ b g, G1 b = some g → G b = some g ∨ M.nb ≤ b) → ∀ b st j R, hget (genM M la).hp b = some (.lp st j R) → (R.tm.all fun _ a => AV.sc M.nv M.nb 50 a) = true → ∀ g, G1 b = some g → LR ρ2 (headG M.nb (genM M la).nb β ρ1 G1) R g.lp := by
    intro ρ1 ρ2 G1 β hA hle hold b st j R hb hsc g hg
    obtain ⟨g0, hg0, _, hlr⟩ := hM.ob b _ (genM_lp hlp hb)
    rw [hle b g0 hg0] at hg
    cases hg
    refine ⟨hlr.ps, hlr.asg, hlr.body, by rw [hA.2]; exact hlr.fn, hlr.n, fun t v ht => sc_ok (nb := M.nb) hA (fun c hc => ?_) 50 v _ (Tr.all_ok hsc t v ht) (hlr.tm t v ht)⟩
    rw [headG_old hc]
    cases h1 : G1 c with
    | none => cases h0 : G c with
      | none => rfl
      | some x => rw [hle c x h0] at h1; cases h1
    | some x => rcases hold c x h1 with h | h
                · rw [h]
                · omega
  have hMgnb : (genM M la).nb = M.nb + la.nb := rfl
  have hpc : ∀ ρ', Agree M.nv ρ ρ' → holdsAll ρ' (genM M la).pc := fun ρ' hA => cut_ok hA hM.pc
  let z : List DV := (List.range xs.length).map fun j => ρ (M.nv + j)
  let f : List DV → (List DV → Prop) → Prop := fun x K => ∃ ρ', Over ρ ρ' M.nv x ∧ (run n X (.code c) Fg (genM M la) (loopB la M.nv M.nb Fg (genM M la))).sat (fun l => ∃ xs, l = .nxt xs ∧ K (xs.map (·.den ρ'))) ρ'
  let I : Nat → Act → World → Prop := fun j a1 w1 => ∃ x G1, rounds f j x z ∧ G.le G1 ∧ (∀ b g, G1 b = some g → G b = some g ∨ M.nb ≤ b) ∧ w1.os = w.os ∧ w1.tape = w.tape ∧ w1.output = w.output ∧ w.heap.size ≤ w1.heap.size ∧ (∀ k, k < w.heap.size → ¬ Mine ρ G M k → w1.heap[k]? = w.heap[k]?) ∧
    ∀ ρ', Over ρ ρ' M.nv x → FR ρ' G1 Fg a1 ∧ MR ρ' G1 (genM M la) w1 ∧ (∀ k, Mine ρ' G1 (genM M la) k → k < w.heap.size → Mine ρ G M k) ∧ (∀ k, Known ρ' G1 (genM M la) k → k < w.heap.size → Known ρ G M k)
  have leG : ∀ {ρ1 : Env} {G1 : Gh} {β : List (Nat × AV)}, G.le G1 → G.le (headG M.nb (genM M la).nb β ρ1 G1) := fun hle b g hb => by
    rw [headG_old (hM.fresh b g hb)]
    exact hle b g hb
  refine wpIn_loop_ghost I m ⟨xs.map (·.den ρ), headG M.nb (genM M la).nb β ρ G, hrounds, leG G.le_refl, fun b g hb => ?_, rfl, rfl, rfl, Nat.le_refl _, fun _ _ _ => rfl, fun ρ' hO => ?_⟩ ?_
  · by_cases hlt : b < M.nb
    · rw [headG_old hlt] at hb; exact .inl hb
    · exact .inr (by omega)
  · obtain ⟨h1, h2, h3, h4⟩ := inst_ok (hL ρ ρ' G β hO.1 G.le_refl fun b g h => .inl h) hI hcs hM hF (by rw [hMgnb]; omega) hO (hpc ρ' hO.1)
    exact ⟨h1, h2, fun k hk _ => h3 k hk, fun k hk _ => h4 k hk⟩
  · rintro j a1 w1 ⟨x, G1, hr, hle, hold, hos, htape, hout, hsize, hkeep, hst⟩
    cases j with
    | zero =>
      have hx : x = z := hr
      have hO : Over ρ ρ M.nv x := ⟨Agree.refl _ _, fun j d hj => by
        rw [hx] at hj
        simp only [z, List.getElem?_map] at hj
        cases hq : (List.range xs.length)[j]? with
        | none => rw [hq] at hj; cases hj
        | some i =>
          rw [hq] at hj
          have := (List.getElem?_eq_some_iff.1 hq).2
          simp at this
          subst this
          simpa using hj⟩
      obtain ⟨h1, h2, h3, h4⟩ := hst ρ hO
      refine icode ρ Q rfl rd c Fg (genM M la) (loopR k) G1 a1 w1 _ hrd hrest h2 h1 fun e a' w' hreach => ?_
      obtain ⟨y, F', G', M', r1, r2, r3, r4, r5⟩ := hreach
      have stp : Stp ρ G M w G1 (genM M la) w1 := ⟨hle, hos, htape, hout, hsize, hkeep, h3, by rw [hMgnb]; omega, hold, h4⟩
      have fin : (k (.code y F' M')).sat Q ρ → R e a' w' := fun r5 => hR _ _ _ ⟨y, F', G', M', r1, r2, r3, stp.trans r4, r5⟩
      cases y with
      | norm => exact r5.elim
      | exit i => cases e with
        | exit i' => exact fin r5
        | _ => exact r1.elim
      | goto i => cases e with
        | goto i' => exact fin r5
        | _ => exact r1.elim
      | ret => cases e with
        | ret => exact fin r5
        | _ => exact r1.elim
      | panic v => cases e with
        | panic ch => exact fin r5
        | _ => exact r1.elim
    | succ j =>
      obtain ⟨ρ', hO, hbody⟩ := hr
      obtain ⟨h1, h2, h3, h4⟩ := hst ρ' hO
      refine icode ρ' _ hO.1.2 rd c Fg (genM M la) (loopB la M.nv M.nb Fg (genM M la)) G1 a1 w1 _ hrd hbody h2 h1 fun e a' w' hreach => ?_
      obtain ⟨y, F', G', M', r1, r2, r3, r4, r5⟩ := hreach
      have out : (T.ret .out).sat (fun l => ∃ xs, l = .nxt xs ∧ rounds f j (xs.map (·.den ρ')) z) ρ' → False := fun ⟨ys, h, _⟩ => by cases h
      cases y with
      | norm =>
        cases e with
        | normal =>
          unfold loopB at r5
          simp only at r5
          split at r5
          · exact r5.elim
          · rename_i ys cs2 hin
            obtain ⟨hcs2, p2, ⟨ys', hys, hrr⟩, hp2⟩ := needs_pc cs2 r5 r3.pc
            cases hys
            obtain ⟨β2, hyl, _, hI2⟩ := inst_inv hin
            have hold' : ∀ b g, G' b = some g → G b = some g ∨ M.nb ≤ b := fun b g hb => (r4.old b g hb).elim (hold b g) fun h => .inr (by rw [hMgnb] at h; omega)
            refine ⟨j, Nat.lt_succ_self j, ys.map (·.den ρ'), headG M.nb (genM M la).nb β2 ρ' G', hrr, leG (Gh.le_trans hle r4.gh), fun b g hb => ?_, r4.os.trans hos, r4.tape.trans htape, r4.output.trans hout, Nat.le_trans hsize r4.size, fun k hk hn => ?_, fun ρ2 hO2 => ?_⟩
            · by_cases hlt : b < M.nb
              · rw [headG_old hlt] at hb
                rcases r4.old b g hb with hb | hb
                · exact hold b g hb
                · rw [hMgnb] at hb; omega
              · exact .inr (by omega)
            · rw [r4.keep k (Nat.lt_of_lt_of_le hk hsize) (fun hm => hn (h3 k hm hk))]
              exact hkeep k hk hn
            · have hO' : Over ρ' ρ2 M.nv (ys.map (·.den ρ')) := ⟨hO.1.symm.trans hO2.1, hO2.2⟩
              obtain ⟨k1, k2, k3, k4⟩ := inst_ok (hL ρ' ρ2 G' β2 hO2.1 (Gh.le_trans hle r4.gh) hold') hI2 hcs2 r3 r2 (by rw [hMgnb]; omega) hO' (hpc ρ2 hO2.1)
              exact ⟨k1, k2, fun k hk hlt => h3 k (r4.mine k (k3 k hk) (Nat.lt_of_lt_of_le hlt hsize)) hlt, fun k hk hlt => h4 k (r4.seen k (k4 k hk) (Nat.lt_of_lt_of_le hlt hsize)) hlt⟩
        | _ => exact r1.elim
      | exit i => exact (out r5).elim
      | goto i => exact (out r5).elim
      | ret => exact (out r5).elim
      | panic v => exact (out r5).elim
end
end Go.Proofs.YtkfjgggiopegbaaDoor
namespace Go.Proofs.YtkfjgggiopegbaaDoor
open Go.RowKit
section
variable {X : Cx} {ρ : Env} {Q : Lf → Prop} {n : Nat}
theorem FR.putS {G : Gh} {F F2 : Fr} {a : Act} {d : Option Tmp} {v : AV} {u : Value} (hF : FR ρ G F a) (hv : VR ρ G v u) (h1 : F2.n = F.n) (h2 : F2.df = F.df) (h3 : ∀ t, F2.tm.get t = if d = some t then some v else F.tm.get t) (h4 : ∀ t, d = some t → t < F.n) : FR ρ G F2 (a.put d u) := by
  refine ⟨by rw [put_size, hF.n, h1], fun t x ht => ?_, by rw [h2, put_defers]; exact hF.df⟩
  rw [h3] at ht
  split at ht
  · rename_i e
    subst e
    cases ht
    rw [put_self (by rw [hF.n]; exact h4 t rfl)]
    exact hv
  · rename_i e
    rw [put_getD e]
    exact hF.tm t x ht
theorem run_unit {P : Program} {s : Sem Unit} {w w' : World} (h : s.run P w = .ok () w') : (do s; pure .skip : Sem Next).run P w = .ok .skip w' := by
  rw [Sem.run_bind, h]; rfl
theorem lift_to {P : Program} {s : Sem Value} {u : Value} {w w' : World} (h : s.run P w = .ok u w') : (do pure (.value (← s)) : Sem Next).run P w = .ok (.value u) w' := by
  rw [Sem.run_bind, h]; rfl
theorem put_tmps (a : Act) (ds : List Deferred) (d : Option Tmp) (u : Value) : ((Act.mk a.tmps ds).put d u).tmps = (a.put d u).tmps := by cases d <;> rfl
theorem call_run (hname : ∀ (f : FuncId) (fn : Func), X.P.funcs[f]? = some fn → fn.name ≠ "runtime.NumGoroutine") {fid : FuncId} {fn : Func} (hf : X.P.funcs[fid]? = some fn) (hb : fn.body.isNone = false) (args : Array Value) (w : World) : (callFunc fid args).run X.P w = .ok (.enter fid args) w := by
  have hn : (fn.name == "runtime.NumGoroutine") = false := by simpa using hname fid fn hf
  unfold callFunc
  simp only [Sem.run_bind, run_program, Result.andThen_ok, hf, hn, hb, Bool.false_eq_true, if_false, Sem.run_pure]
theorem kind_call {o : Oper} (hk : kindOf o ≠ .h) : ∀ c, o.op = .call c → ∃ b, c.callee = .builtin b := fun c hc => by
  obtain ⟨callee, args, ats⟩ := c
  cases callee with
  | builtin b => exact ⟨b, rfl⟩
  | _ => exact absurd (by unfold kindOf; rw [hc]) hk
theorem skip_about {G : Gh} {F : Fr} {a : Act} {o : Oper} {w : World} {rd : Option Nat} (hF : FR ρ G F a) (h : skipOk X (ev F) o = true) : ∀ f, o.about X.P w a.eval = some f → (Fx X.E X.P rd).fn f := by
  intro f hf hE
  unfold skipOk at h
  rw [hE] at h
  simp only [Bool.not_true, Bool.false_or] at h
  split at h
  · rename_i b args ats hop
    rw [about_no (by rw [hop]; intro c hc; cases hc; exact ⟨_, rfl⟩)] at hf; cases hf
  · rename_i g args ats hop
    have vg := hF.ev g
    unfold Oper.about at hf
    rw [hop] at hf
    split at h
    · rename_i fid x y hx
      rw [hx] at vg
      obtain ⟨uf, uc, hu, _, _⟩ := vg.func_inv
      simp only [resolve, hu, Deferred.ofValue, Sem.run_pure, Target.leads] at hf
      cases hf
      exact Option.isSome_iff_exists.1 h
    · rename_i hx
      rw [hx] at vg
      obtain ⟨vs, hu, _⟩ := vg.tup_inv
      simp only [resolve, hu, Deferred.ofValue] at hf
      cases hf
    · rename_i hx
      rw [hx] at vg
      have hu : a.eval g = .nilFunc := by generalize a.eval g = u at vg; cases vg; rfl
      simp only [resolve, hu, Deferred.ofValue] at hf
      cases hf
    · cases h
  · cases h
  · rename_i hn1 hn2 hn3
    rw [about_no (fun c hc => absurd hc (hn3 c))] at hf; cases hf
set_option maxHeartbeats 1000000 in
theorem ops_step (hname : ∀ (f : FuncId) (fn : Func), X.P.funcs[f]? = some fn → fn.name ≠ "runtime.NumGoroutine") (iops : SOps X ρ Q n) (icall : SCall X ρ Q n) (iyield : SYield X ρ Q n) : SOps X ρ Q (n + 1) := by
  intro rd ops l F M k G a w R hrd h hM hF hR
  cases l with
  | nil =>
    exact hR _ _ _ ⟨.norm, F, G, M, trivial, hF, hM, Stp.refl _ _ _ _, h⟩ (fun _ _ => rfl)
  | cons o r =>
    have next : ∀ (F' : Fr) (M' : Me) (G' : Gh) (a' : Act) (w' : World), (run n X (.ops ops r) F' M' k).sat Q ρ → MR ρ G' M' w' → FR ρ G' F' a' → Stp ρ G M w G' M' w' → (∀ d, o.dst ≠ some d → a'.tmps.getD d undef = a.tmps.getD d undef) → wpListIn (Fx X.E X.P rd) 0 X.P ops R r a' w' := by
      intro F' M' G' a' w' h1 h2 h3 h4 h5
      have hrd' : rd = none ∨ r.all plainO = true := hrd.imp id fun h => by rw [List.all_cons, Bool.and_eq_true] at h; exact h.2
      refine iops rd ops r F' M' k G' a' w' R hrd' h1 h2 h3 fun e a2 w2 hr hs => hR e a2 w2 (hr.from h4) fun d hd => ?_
      rw [hs d (fun x hx => hd x (List.mem_cons_of_mem _ hx)), h5 d (hd o (List.mem_cons_self ..))]
    have put : ∀ (M' : Me) (G' : Gh) (w' : World) (v : AV) (u : Value), (F.put o.dst v fun F => run n X (.ops ops r) F M' k).sat Q ρ → MR ρ G' M' w' → Stp ρ G M w G' M' w' → VR ρ G' v u → wpListIn (Fx X.E X.P rd) 0 X.P ops R r (a.put o.dst u) w' := by
      intro M' G' w' v u h1 h2 h3 h4
      obtain ⟨F2, g1, g2, g3, g4, g5⟩ := put_get h1
      exact next F2 M' G' _ w' g1 h2 ((hF.mono h3.gh).putS h4 g2 g3 g4 g5) h3 fun d hd => put_getD hd
    have skip : ∀ (p : PC), holdsAll ρ p → (F.put o.dst undefA fun F => run n X (.ops ops r) F { M with pc := p } k).sat Q ρ → wpListIn (Fx X.E X.P rd) 0 X.P ops R r (a.put o.dst undef) w := fun p hp h1 => put _ G w _ undef h1 (hM.pcs hp) (Stp.learn M w p) undef_ok
    have hsem : (∀ c, o.op ≠ .defer c) → Oper.semAt (Fx X.E X.P rd).round a.eval o = execOp a.eval o := fun hd => by
      cases rd with
      | none => exact Oper.semAt_none a.eval o
      | some l => exact Oper.semAt_some l a.eval o hd
    have abt : ∀ {K : Act → World → Prop} {r0 : Result Next}, (∀ c, o.op = .call c → ∃ b, c.callee = .builtin b) → (∀ c, o.op ≠ .defer c) → (execOp a.eval o).run X.P w = r0 → o.uponIn (Fx X.E X.P rd) 0 X.P a K R r0 → o.wpIn (Fx X.E X.P rd) 0 X.P a w K R := fun h1 h2 h3 h4 =>
      ⟨fun f hf => (by rw [about_no h1] at hf; cases hf), by rw [hsem h2, h3]; exact h4⟩
    unfold wpListIn
    rw [run_succ] at h
    obtain ⟨p, hp, hg⟩ := guard_sat h hM.pc
    have hK := hF.knows ops o
    rcases hg with ⟨h, hg⟩ | ⟨h, hg⟩
    · rw [if_pos (hg G a hK)]
      have hMp := hM.pcs hp
      have hSp : Stp ρ G M w G { M with pc := p } w := Stp.learn M w p
      split at h
      · -- heavy
        split at h
        · -- store
          rename_i t x v hop
          split at h
          · rename_i b ob cs hst
            obtain ⟨hcs, p', h1, hp'⟩ := needs_pc cs h hp
            obtain ⟨w', e1, e2, e3⟩ := storeX_ok (P := X.P) (w := w) (hM.pcs hp') hst hcs (hF.ev x) (hF.ev v)
            have : (execOp a.eval o).run X.P w = .ok .skip w' := by
              unfold execOp; rw [hop]; exact run_unit e1
            refine abt (by rw [hop]; intro c hc; first | (cases hc; done) | (cases hc; exact ⟨_, rfl⟩)) (by rw [hop]; intro c; simp) this ?_
            exact put _ G w' _ undef h1 e2 ((Stp.learn M w p').trans e3) undef_ok
          · exact h.elim
        · -- insert
          rename_i t m key v hop
          split at h
          · rename_i kt el b kk q hu hm hkey
            split at h
            · rename_i k0 es hk hob
              cases hall : es.all (keyNe kk q) with
              | false => rw [hall] at h; exact h.elim
              | true =>
                rw [hall] at h
                simp only [cond_true] at h
                have vm := hF.ev m
                have vk := hF.ev key
                rw [hm] at vm
                rw [hkey] at vk
                obtain ⟨g, hgb, hmv⟩ := vm.map_inv
                obtain ⟨w', e1, e2, e3⟩ := insert_ok (P := X.P) hMp hu hk hob hgb hall (hF.ev v)
                have : (execOp a.eval o).run X.P w = .ok .skip w' := by
                  unfold execOp; rw [hop]; simp only; rw [hmv, vk.int_inv]; exact run_unit e1
                refine abt (by rw [hop]; intro c hc; first | (cases hc; done) | (cases hc; exact ⟨_, rfl⟩)) (by rw [hop]; intro c; simp) this ?_
                exact put _ G w' _ undef h e2 (hSp.trans e3) undef_ok
            · exact h.elim
          · exact h.elim
        · -- lookup
          rename_i t m key ok hop
          split at h
          · rename_i kt el b kk e hu hm hkey
            split at h
            · rename_i k0 es z hk hob hz
              cases hall : es.all (keyIs kk) with
              | false => rw [hall] at h; exact h.elim
              | true =>
                rw [hall] at h
                simp only [cond_true] at h
                have vm := hF.ev m
                have vk := hF.ev key
                rw [hm] at vm
                rw [hkey] at vk
                obtain ⟨g, hgb, hmv⟩ := vm.map_inv
                obtain ⟨g', hg', en, clock, hheap, hsz, hvr⟩ := hM.ob _ _ hob
                rw [hgb] at hg'; cases hg'
                obtain ⟨zv, hzr, hzv⟩ := zero_ok (P := X.P) (ρ := ρ) (G := G) hz w
                obtain ⟨p', hp', hfind⟩ := findA_sat (k0 := k0) es en.toList 0 h hp hall (by simpa using hsz) (fun j p m hj hm' => hvr j p m hj (by simpa using hm'))
                have run1 : ∀ res, Instr.findNow (.int k0) (.int kk (e.den ρ).i) en.toList 0 = some res → (execOp a.eval o).run X.P w = .ok (.value (if ok then .tuple #[(res.map (·.2)).getD zv, .bool res.isSome] else (res.map (·.2)).getD zv)) w := fun res hres => by
                  unfold execOp; rw [hop]; simp only; rw [hmv, vk.int_inv]
                  exact lift_ok (lookup_run hu hk hheap hres hzr)
                rcases hfind with ⟨v, j, u, h1, hres, hvu⟩ | ⟨h1, hres⟩
                · refine abt (by rw [hop]; intro c hc; cases hc) (by rw [hop]; intro c; simp) (run1 _ hres) ?_
                  refine put _ G w _ _ h1 (hM.pcs hp') (Stp.learn M w p') ?_
                  cases ok
                  · exact hvu
                  · exact tup2 hvu (.bool _ _ rfl)
                · refine abt (by rw [hop]; intro c hc; cases hc) (by rw [hop]; intro c; simp) (run1 _ hres) ?_
                  refine put _ G w _ _ h1 (hM.pcs hp') (Stp.learn M w p') ?_
                  cases ok
                  · exact hzv
                  · exact tup2 hzv (.bool _ _ rfl)
            · exact h.elim
          · exact h.elim
        · -- panic
          rename_i x hop
          split at h
          · rename_i t v hx
            have vx := hF.ev x
            rw [hx] at vx
            obtain ⟨u, hu, huv⟩ := vx.iface_inv
            have : (execOp a.eval o).run X.P w = .halt (.panic (.iface t u)) w := by
              unfold execOp; rw [hop]; simp only; rw [hu]; rfl
            refine abt (by rw [hop]; intro c hc; first | (cases hc; done) | (cases hc; exact ⟨_, rfl⟩)) (by rw [hop]; intro c; simp) this ?_
            exact hR _ _ _ ⟨.panic (.iface t v), F, G, _, ⟨_, rfl, .iface _ _ _ huv⟩, hF, hMp, hSp, h⟩ fun _ _ => rfl
          · exact h.elim
        · -- defer
          rename_i f args ats hop
          split at h
          · rename_i fid first cap hfv
            obtain ⟨F2, g1, g2, g3, g4, g5⟩ := put_get h
            have vf := hF.ev f
            rw [hfv] at vf
            obtain ⟨uf, uc, huf, h1, h2⟩ := vf.func_inv
            have : (execOp a.eval o).run X.P w = .ok (.defer { target := .fn (.func fid) uc, args := uf ++ args.map a.eval }) w := by
              unfold execOp; rw [hop]; simp only [resolve, huf, Deferred.ofValue]; rfl
            have hrn : rd = none := hrd.elim id fun h => by
              rw [List.all_cons, Bool.and_eq_true] at h
              have := h.1
              unfold plainO at this
              rw [hop] at this
              cases this
            subst hrn
            refine ⟨fun g hg => (by rw [about_no (by rw [hop]; intro c hc; cases hc)] at hg; cases hg), ?_⟩
            rw [show Oper.semAt (Fx X.E X.P none).round a.eval o = execOp a.eval o from rfl, this]
            have hf2 := hF.putS (v := undefA) (u := undef) (d := o.dst) undef_ok g2 g3 g4 g5
            refine next _ _ G _ w g1 hMp ⟨?_, ?_, ?_⟩ hSp fun d hd => ?_
            · rw [put_size, ← hf2.n, put_size]
            · intro t v ht
              have := hf2.tm t v ht
              rw [put_tmps]; exact this
            · rw [put_defers]
              exact ⟨.inl ⟨_, _, _, uf, uc, _, rfl, h1, h2, mapEv (fun x => hF.ev x) args, rfl⟩, by rw [g3]; exact hF.df⟩
            · rw [put_getD hd]
          · exact h.elim
        · -- append
          rename_i args ats hop
          split at h
          · rename_i s x t xt ha ht
            split at h
            · rename_i v M' cs hap
              obtain ⟨hcs, p', h1, hp'⟩ := needs_pc cs h hp
              have ea : args = #[s, x] := by rw [← Array.toArray_toList (xs := args), ha]
              have et : ats = #[t, xt] := by rw [← Array.toArray_toList (xs := ats), ht]
              obtain ⟨z, w', G', e1, e2, e3, e4⟩ := appendX_ok (P := X.P) (ty := o.type) hMp hap hcs (hF.ev s) (hF.ev x)
              have : (execOp a.eval o).run X.P w = .ok (.value z) w' := by
                unfold execOp; rw [hop]; simp only [resolve, ea, et]
                refine lift_to (s := Builtin.append_ #[t, xt] o.type (Array.map a.eval #[s, x])) ?_
                rw [show Array.map a.eval #[s, x] = #[a.eval s, a.eval x] by simp]
                exact e1
              refine abt (by rw [hop]; intro c hc; first | (cases hc; done) | (cases hc; exact ⟨_, rfl⟩)) (by rw [hop]; intro c; simp) this ?_
              exact put _ G' w' _ _ h1 (e2.pcs hp') ((hSp.trans e3).pc _ _) e4
            · exact h.elim
          · exact h.elim
        · -- copy
          rename_i args ats hop
          split at h
          · rename_i s x t xt ha ht
            split at h
            · rename_i v M' cs hap
              obtain ⟨hcs, p', h1, hp'⟩ := needs_pc cs h hp
              have ea : args = #[s, x] := by rw [← Array.toArray_toList (xs := args), ha]
              have et : ats = #[t, xt] := by rw [← Array.toArray_toList (xs := ats), ht]
              obtain ⟨z, w', G', e1, e2, e3, e4⟩ := copyZ_ok (P := X.P) (xt := xt) (ty := o.type) hMp hap hcs (hF.ev s) (hF.ev x)
              have : (execOp a.eval o).run X.P w = .ok (.value z) w' := by
                unfold execOp; rw [hop]; simp only [resolve, ea, et]
                refine lift_to (s := Builtin.copy_ #[t, xt] o.type (Array.map a.eval #[s, x])) ?_
                rw [show Array.map a.eval #[s, x] = #[a.eval s, a.eval x] by simp]
                exact e1
              refine abt (by rw [hop]; intro c hc; first | (cases hc; done) | (cases hc; exact ⟨_, rfl⟩)) (by rw [hop]; intro c; simp) this ?_
              exact put _ G' w' _ _ h1 (e2.pcs hp') ((hSp.trans e3).pc _ _) e4
            · exact h.elim
          · exact h.elim
        · -- a call
          rename_i f args ats hop
          split at h
          · rename_i fid first cap hfv
            have vf := hF.ev f
            rw [hfv] at vf
            obtain ⟨uf, uc, huf, h1, h2⟩ := vf.func_inv
            obtain ⟨⟨fn, hfn, hbody⟩, hcalls⟩ := icall fid first cap _ F _ _ G w uf uc (args.map a.eval) (fun | .returned v, w'' => wpListIn (Fx X.E X.P rd) 0 X.P ops R r (a.put o.dst v) w'' | .panicked chain, w'' => R (.panic chain) a w'' | .outgrown, _ => LetsOut R) h hMp h1 h2 (mapEv (fun x => hF.ev x) args) (fun e w' hc => by
              obtain ⟨G', M', c1, c2, c3⟩ := hc
              cases e with
              | returned u =>
                obtain ⟨v, hv, hs⟩ := c3
                exact put _ G' w' v u hs c1 (hSp.trans c2) hv
              | panicked ch =>
                obtain ⟨v, u, hch, hv, hs⟩ := c3
                exact hR _ _ _ ⟨.panic v, F, G', M', ⟨u, hch, hv⟩, hF.mono c2.gh, c1, hSp.trans c2, hs⟩ fun _ _ => rfl
              | outgrown => exact c3.elim)
            have : (execOp a.eval o).run X.P w = .ok (.enter fid (uf ++ args.map a.eval ++ uc)) w := by
              unfold execOp; rw [hop]; simp only [resolve, huf, Deferred.ofValue, Sem.run_bind, Sem.run_pure, Result.andThen_ok, invoke]
              exact call_run hname hfn hbody _ w
            have hab : ∀ g, o.about X.P w a.eval = some g → (Fx X.E X.P rd).fn g := fun g hg _ => by
              unfold Oper.about at hg
              rw [hop] at hg
              simp only [resolve, huf, Deferred.ofValue, Sem.run_pure, Target.leads] at hg
              cases hg
              exact ⟨fn, hfn⟩
            refine ⟨hab, ?_⟩
            rw [hsem (by rw [hop]; intro c; simp), this, Oper.uponIn_enter]
            exact ⟨(fun h => by cases h), hcalls⟩
          · rename_i b hfv
            have vf := hF.ev f
            rw [hfv] at vf
            obtain ⟨g, hg, huf⟩ := vf.yld_inv
            obtain ⟨f', tmps, asg, body, hy, hround⟩ := iyield b _ F _ _ G w (args.map a.eval) (fun | .returned v, w'' => wpListIn (Fx X.E X.P rd) 0 X.P ops R r (a.put o.dst v) w'' | .panicked chain, w'' => R (.panic chain) a w'' | .outgrown, _ => LetsOut R) h hMp (mapEv (fun x => hF.ev x) args) (fun e w' hc => by
              obtain ⟨G', M', c1, c2, c3⟩ := hc
              cases e with
              | returned u =>
                obtain ⟨v, hv, hs⟩ := c3
                exact put _ G' w' v u hs c1 (hSp.trans c2) hv
              | panicked ch =>
                obtain ⟨v, u, hch, hv, hs⟩ := c3
                exact hR _ _ _ ⟨.panic v, F, G', M', ⟨u, hch, hv⟩, hF.mono c2.gh, c1, hSp.trans c2, hs⟩ fun _ _ => rfl
              | outgrown => exact c3.elim) g hg
            have : (execOp a.eval o).run X.P w = .ok (.round g.blk f' tmps asg body) w := by
              unfold execOp; rw [hop]; simp only [resolve, huf, Deferred.ofValue, Sem.run_bind, Sem.run_pure, Result.andThen_ok, invoke]
              simpa using hy
            have hab : ∀ g, o.about X.P w a.eval = some g → (Fx X.E X.P rd).fn g := fun g hg => by
              unfold Oper.about at hg
              rw [hop] at hg
              simp only [resolve, huf, Deferred.ofValue, Sem.run_pure, Target.leads] at hg
              cases hg
            refine ⟨hab, ?_⟩
            rw [hsem (by rw [hop]; intro c; simp), this, Oper.uponIn_round]
            exact ⟨(fun h => by cases h), hround rd⟩
          · exact h.elim
        · exact h.elim
      · -- what wants the memory
        rename_i hkh
        have hnd : ∀ c, o.op ≠ .defer c := fun c hc => hkh (by unfold kindOf; rw [hc])
        have hnc : ∀ c, o.op = .call c → ∃ b, c.callee = .builtin b := kind_call hkh
        rw [auxF_eq] at h
        split at h
        · rename_i v M' cs hax
          obtain ⟨hcs, p', h1, hp'⟩ := needs_pc cs h hp
          obtain ⟨z, w', G', e1, e2, e3, e4⟩ := aux_ok (P := X.P) hMp (fun x => hF.ev x) hax hcs
          refine abt hnc hnd e1 ?_
          exact put _ G' w' _ _ h1 (e2.pcs hp') ((hSp.trans e3).pc _ _) e4
        obtain ⟨v, ob, p', h1, hp', hlit, _⟩ := light_sat (P := X.P) h hp
        replace hlit := hlit.mono (hpOf_sub o _)
        have hmem : ∀ b o g, hget M.hp b = some o → G b = some g → OR ρ G w g o := fun b o g hb hg => by
          obtain ⟨g', hg', hor⟩ := hM.ob b o hb
          rw [hg] at hg'; cases hg'; exact hor
        have hl := hlit G a w hK.ops hmem
        cases ob with
        | none =>
          obtain ⟨z, hz, hv⟩ := hl
          refine abt hnc hnd hz ?_
          exact put _ G w v z h1 (hM.pcs hp') (Stp.learn M w p') hv
        | some ob =>
          obtain ⟨f, hfv, z, obj, sz, hz, hown, hlay⟩ := hl
          refine abt hnc hnd hz ?_
          have hno := hM.no
          have hG' : (G.add M.nb ⟨w.heap.size, 0, sz, default⟩) M.nb = some ⟨w.heap.size, 0, sz, default⟩ := by simp [Gh.add]
          obtain ⟨l1, l2⟩ := hlay (G.add M.nb ⟨w.heap.size, 0, sz, default⟩) M.nb (Gh.le_add hno) hG'
          obtain ⟨m1, m2⟩ := hM.new ob ⟨w.heap.size, 0, sz, default⟩ (Nat.le_refl _) l1 rfl rfl rfl (by show w.heap.size ≤ (w.heap.push obj).size; simp) (alloc_more w obj) hown (fun k h => absurd h also_def)
          rw [hfv] at h1
          exact put _ _ _ _ z h1 (m1.pcs hp') (m2.pc _ _) l2
    · rw [if_neg (by rw [hg G a hK]; simp)]
      cases hso : skipOk X (ev F) o with
      | false => rw [hso] at h; exact h.elim
      | true =>
        rw [hso] at h
        exact ⟨skip_about hF hso, skip p hp h⟩
end
end Go.Proofs.YtkfjgggiopegbaaDoor
namespace Go.Proofs.YtkfjgggiopegbaaDoor
open Go.RowKit
section
variable {X : Cx} {ρ : Env} {Q : Lf → Prop} {n : Nat}
theorem putObj_keep {w : World} {r : Nat} {o : Obj} : ∀ k, k < w.heap.size → k ≠ r → (w.putObj r o).heap[k]? = w.heap[k]? := fun k _ hk => World.putObj_heap_other hk
theorem MR.setLp {G : Gh} {M : Me} {w : World} (h : MR ρ G M w) {b : Nat} {st : LoopState} {j : JK} {R : Rl} {g : GI} (hb : hget M.hp b = some (.lp st j R)) (hg : G b = some g) (st' : LoopState) (j' : JK) :
    w.heap[g.blk]? = some (.loop { g.lp with state := st, pending := j.code }) ∧ LR ρ G R g.lp ∧
    (MR ρ G { M with hp := hset M.hp b (.lp st' j' R) } (w.putObj g.blk (.loop { g.lp with state := st', pending := j'.code })) ∧ Stp ρ G M w G { M with hp := hset M.hp b (.lp st' j' R) } (w.putObj g.blk (.loop { g.lp with state := st', pending := j'.code }))) := by
  obtain ⟨g', hg', hh, hl⟩ := h.ob b _ hb
  rw [hg] at hg'; cases hg'
  refine ⟨hh, hl, h.turn (.lp st' j' R) hb hg rfl rfl trivial rfl rfl rfl (by simp) putObj_keep ⟨?_, hl⟩⟩
  exact World.putObj_heap_same (Array.getElem?_eq_some_iff.1 hh).1
theorem yieldTm_ok {G : Gh} : ∀ (l : List (Tmp × AV)) (vs : List (Tmp × Value)) {n : Nat} {t tm : Tr} {tmps : Array Value}, yieldTm n t l = some tm → tmps.size = n → (∀ i v, t.get i = some v → VR ρ G v (tmps.getD i undef)) →
    l.length = vs.length → (∀ (i : Nat) p q, l[i]? = some p → vs[i]? = some q → p.1 = q.1 ∧ VR ρ G p.2 q.2) →
    (vs.foldl (fun (tmps : Array Value) (p : Tmp × Value) => tmps.setIfInBounds p.1 p.2) tmps).size = n ∧ ∀ i v, tm.get i = some v → VR ρ G v ((vs.foldl (fun (tmps : Array Value) (p : Tmp × Value) => tmps.setIfInBounds p.1 p.2) tmps).getD i undef)
  | [], [], n, t, tm, tmps, h, hs, ht, _, _ => by cases h; exact ⟨hs, ht⟩
  | [], q :: vs, n, t, tm, tmps, h, hs, ht, hl, _ => by simp at hl
  | p :: l, [], n, t, tm, tmps, h, hs, ht, hl, _ => by simp at hl
  | (d, v) :: l, (d', u) :: vs, n, t, tm, tmps, h, hs, ht, hl, hv => by
    unfold yieldTm at h
    cases hb : Nat.blt d n with
    | false => rw [hb] at h; cases h
    | true =>
      rw [hb] at h
      simp only [cond_true] at h
      have hlt : d < n := Nat.le_of_ble_eq_true hb
      split at h
      · rename_i t1 h1
        obtain ⟨e1, e2⟩ := hv 0 _ _ rfl rfl
        simp only at e1 e2
        subst e1
        rw [List.foldl_cons]
        refine yieldTm_ok l vs h (by simpa using hs) (fun i x hx => ?_) (by simpa using hl) (fun i p q hp hq => hv (i + 1) p q hp hq)
        rw [Tr.get_put _ _ _ _ h1] at hx
        simp only [Array.getD_eq_getD_getElem?, Array.getElem?_setIfInBounds]
        split at hx
        · rename_i e
          subst e
          cases hx
          rw [if_pos rfl, if_pos (by rw [hs]; exact hlt)]
          exact e2
        · rename_i e
          rw [if_neg (fun h => e h.symm)]
          have := ht i x hx
          rwa [Array.getD_eq_getD_getElem?] at this
      · cases h
theorem range_ok (hnp : ρ.f.np = X.P.funcs.size) (hname : ∀ (f : FuncId) (fn : Func), X.P.funcs[f]? = some fn → fn.name ≠ "runtime.NumGoroutine") (icall : SCall X ρ Q n) (hE : X.E = true) {g : Operand} {ps : Array Tmp} {asg body : Code} {fid : FuncId} {first cap : List AV} {F : Fr} {M : Me} {k : Lf → T} {G : Gh} {a : Act} {w : World} {R : Exit → Act → World → Prop}
    (hfv : ev F g = .func (.func fid) first cap) (h : (run n X (.call (.func (.func fid) first cap) [.yld (M.nb + 1)]) { F with df := (.yld M.nb, []) :: F.df } { M with hp := hset (hset M.hp M.nb .dfb) (M.nb + 1) (.lp .ready .no ⟨F.tm, F.n, ps, asg, body⟩), nb := M.nb + 2 } (endF (M.nb + 1) { F with df := (.yld M.nb, []) :: F.df } k)).sat Q ρ)
    (hM : MR ρ G M w) (hF : FR ρ G F a) (hR : ∀ e a' w', Reach ρ Q k G M w e a' w' → R e a' w') : (Code.rangeFunc g ps asg body).wpIn (Fx X.E X.P none) 0 X.P R a w := by
  have vf := hF.ev g
  rw [hfv] at vf
  obtain ⟨uf, uc, huf, h1, h2⟩ := vf.func_inv
  refine wpIn_rangeFunc fun fn hfn => ?_
  obtain ⟨fnd, hfnd⟩ := hfn hE
  let r0 : Loop := { state := .ready, pending := none, fn, tmps := a.tmps, params := ps, assign := asg, body, defers := w.heap.size }
  let wa := w.alloc (.deferred (some []))
  let w1 := wa.alloc (.loop r0)
  let g0 : GI := ⟨w.heap.size, 0, 0, default⟩
  let g1 : GI := ⟨w.heap.size + 1, 0, 0, r0⟩
  have sza : wa.heap.size = w.heap.size + 1 := by show (w.heap.push _).size = _; simp
  obtain ⟨m1, s1⟩ := hM.new (w' := wa) .dfb g0 (Nat.le_refl _) (alloc_new w _) rfl rfl rfl (by omega) (alloc_more w _)
  have hlr : LR ρ ((G.add M.nb g0).add (M.nb + 1) g1) ⟨F.tm, F.n, ps, asg, body⟩ r0 :=
    ⟨rfl, rfl, rfl, by rw [hnp]; exact (Array.getElem?_eq_some_iff.1 hfnd).1, hF.n, fun t v ht => (hF.tm t v ht).mono (Gh.le_trans (Gh.le_add hM.no) (Gh.le_add m1.no))⟩
  obtain ⟨m2, s2⟩ := m1.new (w' := w1) (.lp .ready .no ⟨F.tm, F.n, ps, asg, body⟩) g1 (by rw [sza]; exact Nat.le_refl _) ⟨by
      show w1.heap[w.heap.size + 1]? = _
      rw [← sza]; exact alloc_new wa _, hlr⟩ rfl rfl rfl (by show wa.heap.size ≤ (wa.heap.push _).size; simp) (alloc_more wa _)
  have s12 := s1.trans s2
  have hg1 : ((G.add M.nb g0).add (M.nb + 1) g1) (M.nb + 1) = some g1 := by simp [Gh.add]
  have hg0 : ((G.add M.nb g0).add (M.nb + 1) g1) M.nb = some g0 := by simp [Gh.add]
  have hFR : ∀ G', ((G.add M.nb g0).add (M.nb + 1) g1).le G' → FR ρ G' { F with df := (.yld M.nb, []) :: F.df } { a with defers := { target := .collected w.heap.size, args := #[] } :: a.defers } := fun G' hle =>
    ⟨hF.n, fun t v ht => (hF.tm t v ht).mono (Gh.le_trans s12.gh hle), ⟨.inr ⟨M.nb, g0, rfl, hle _ _ hg0, rfl⟩, hF.df.mono (Gh.le_trans s12.gh hle)⟩⟩
  have hy : VRs ρ ((G.add M.nb g0).add (M.nb + 1) g1) [.yld (M.nb + 1)] #[.func (.yield (w.heap.size + 1)) #[] #[]] := VRs.cons (vs := []) (.yld _ g1 hg1) VRs.nil
  obtain ⟨⟨fn', hfn', hbody⟩, hcalls⟩ := icall fid first cap _ _ _ _ _ w1 uf uc _ (rangePost (Fx X.E X.P none) 0 X.P (w.heap.size + 1) R { a with defers := [{ target := .collected w.heap.size, args := #[] }] ++ a.defers }) h m2 (h1.mono s12.gh) (h2.mono s12.gh) hy (fun e w' hc => by
    obtain ⟨G', M', c1, c2, c3⟩ := hc
    have hF' := hFR G' c2.gh
    cases e with
    | returned u =>
      obtain ⟨v, hv, hs⟩ := c3
      unfold endF at hs
      simp only at hs
      split at hs
      · rename_i st j R' hb
        split at hs
        · exact hs.elim
        · rename_i hst
          have hgb := c2.gh _ _ hg1
          obtain ⟨hh, hl, m3, s3⟩ := c1.setLp hb hgb .exhausted j
          have hk := c1.kill (w' := w'.putObj (w.heap.size + 1) (.loop { r0 with state := .exhausted, pending := j.code })) hb hgb rfl trivial rfl rfl rfl (by simp) putObj_keep
          refine ⟨j.code, _, run_endLoop hh hst, ?_⟩
          have stp := (s12.trans c2).trans hk.2
          cases j with
          | no => exact hR _ _ _ ⟨.norm, _, G', _, trivial, hF', hk.1, stp, hs⟩
          | ret => exact wpIn_ret (hR _ _ _ ⟨.ret, _, G', _, trivial, hF', hk.1, stp, hs⟩)
          | exit i => exact wpIn_exit (hR _ _ _ ⟨.exit i, _, G', _, rfl, hF', hk.1, stp, hs⟩)
      · exact hs.elim
    | panicked ch =>
      obtain ⟨v, u, hch, hv, hs⟩ := c3
      exact hR _ _ _ ⟨.panic v, _, G', _, ⟨u, hch, hv⟩, hF', c1, s12.trans c2, hs⟩
    | outgrown => exact c3.elim)
  refine ⟨w.heap.size + 1, [{ target := .collected w.heap.size, args := #[] }], w1, { target := .fn (.func fid) uc, args := uf ++ #[.func (.yield (w.heap.size + 1)) #[] #[]] }, w1, fid, _, w1, run_enterLoop_outer .., ?_, fun f' hf' _ => ?_, ?_, (fun h => by cases h), hcalls⟩
  · have : a.eval (.const (.func (.yield (w.heap.size + 1)) #[] #[])) = .func (.yield (w.heap.size + 1)) #[] #[] := rfl
    simp [resolve, huf, Deferred.ofValue, this]
  · simp only [Target.leads] at hf'
    cases hf'
    exact ⟨fn', hfn'⟩
  · simp only [invoke]
    exact call_run hname hfn' hbody _ w1
theorem yield_step (hnp : ρ.f.np = X.P.funcs.size) (icode : SCode X ρ Q n) : SYield X ρ Q (n + 1) := by
  intro b args F M k G w va R h hM hv hR g hg
  rw [run_succ] at h
  simp only at h
  split at h
  · rename_i R0 hb
    cases hc : (X.E && (Nat.beq args.length R0.ps.size && plainC R0.asg)) with
    | false => rw [hc] at h; exact h.elim
    | true =>
      rw [hc] at h
      simp only [Bool.and_eq_true, beq_iff] at hc
      obtain ⟨hE, hlen, hpl⟩ := hc
      simp only [cond_true] at h
      split at h
      · rename_i tm htm
        obtain ⟨hh, hl, _⟩ := hM.setLp hb hg .ready .no
        have hsz : va.size = ({ g.lp with state := .ready, pending := JK.no.code } : Loop).params.size := by
          show va.size = g.lp.params.size
          rw [hv.1, hl.ps, hlen]
        refine ⟨_, _, _, _, run_yield hh hsz, fun rd => ?_⟩
        have hfn : g.lp.fn < X.P.funcs.size := by rw [← hnp]; exact hl.fn
        obtain ⟨fn, hfnd⟩ : ∃ fn, X.P.funcs[g.lp.fn]? = some fn := ⟨_, Array.getElem?_eq_getElem hfn⟩
        refine roundIn_of_wpInP (F := Fx X.E X.P rd) (fun _ => ⟨fn, hfnd⟩) hfnd ?_
        have hfold : ∀ (ps : Array Tmp) (us : Array Value) (t0 : Array Value), (ps.zip us).foldl (fun tmps (p : Tmp × Value) => tmps.setIfInBounds p.1 p.2) t0 = (ps.zip us).toList.foldl (fun tmps (p : Tmp × Value) => tmps.setIfInBounds p.1 p.2) t0 := fun ps us t0 => by
          rw [← Array.foldl_toList]
        have hFr : FR ρ G ⟨tm, R0.n, []⟩ { tmps := (g.lp.params.zip va).foldl (fun tmps (p : Tmp × Value) => tmps.setIfInBounds p.1 p.2) g.lp.tmps, defers := [] } := by
          rw [hfold, hl.ps]
          obtain ⟨q1, q2⟩ := yieldTm_ok (ρ := ρ) (G := G) (R0.ps.toList.zip args) (R0.ps.zip va).toList htm hl.n hl.tm (by simp [List.length_zip, hlen, hv.1]) (fun i p q hp hq => by
            rw [Array.toList_zip, List.getElem?_zip_eq_some] at hq
            rw [List.getElem?_zip_eq_some] at hp
            refine ⟨?_, hv.2 i _ _ hp.2 (by rw [← Array.getElem?_toList]; exact hq.2)⟩
            have := hp.1.symm.trans hq.1
            exact Option.some.inj this)
          exact ⟨q1, q2, trivial⟩
        show g.lp.assign.wpIn (Fx X.E X.P (some g.blk)) 0 X.P _ _ w
        rw [hl.asg]
        refine icode (some g.blk) R0.asg ⟨tm, R0.n, []⟩ M _ G _ w _ (.inr hpl) h hM hFr fun e a' w' hr => ?_
        obtain ⟨z, F', G', M', r1, r2, r3, r4, r5⟩ := hr
        cases z with
        | norm =>
          cases e with
          | normal =>
            simp only at r5
            split at r5
            · rename_i R1 hb1
              have hg1 := r4.gh _ _ hg
              obtain ⟨hh1, hl1, m1, s1⟩ := r3.setLp hb1 hg1 .busy .no
              refine ⟨_, run_beginRound hh1 rfl, ?_⟩
              show g.lp.body.wpIn (Fx X.E X.P (some g.blk)) 0 X.P _ _ _
              refine Eq.mpr (congrArg (fun c => Code.wpIn (Fx X.E X.P (some g.blk)) 0 X.P c _ _ _) hl1.body) ?_
              cases hpl1 : plainC R1.body with
              | false => rw [hpl1] at r5; exact r5.elim
              | true =>
              rw [hpl1] at r5
              refine icode (some g.blk) R1.body F' _ _ G' a' _ _ (.inr hpl1) r5 m1 r2 fun e a2 w2 hr => ?_
              obtain ⟨z, F2, G2, M2, t1, t2, t3, t4, t5⟩ := hr
              have hg2 := t4.gh _ _ hg1
              have stp := (r4.trans s1).trans t4
              have fin : ∀ (j : JK) (st : LoopState) (u : Bool), st = (if j.code.isNone then LoopState.ready else .done) → u = j.code.isNone → (match hget M2.hp b with | some (.lp _ _ R) => k (.val (.bool (.bool u)) { M2 with hp := hset M2.hp b (.lp st j R) }) | _ => .fail 104).sat Q ρ →
                  ∃ v w', (Instr.endRound g.blk j.code).run X.P w2 = .ok v w' ∧ R (.returned v) w' := by
                intro j st u hst hu hs
                split at hs
                · rename_i st2 j2 R2 hb2
                  obtain ⟨hh2, hl2, m3, s3⟩ := t3.setLp hb2 hg2 st j
                  refine ⟨_, _, run_endRound j.code hh2, ?_⟩
                  subst hst hu
                  exact hR _ _ ⟨G2, _, m3, stp.trans s3, .bool (.bool _), .bool _ _ rfl, hs⟩
                · exact hs.elim
              cases z with
              | norm =>
                cases e with
                | normal => exact fin .no .ready true rfl rfl t5
                | _ => exact t1.elim
              | ret =>
                cases e with
                | ret => exact fin .ret .done false rfl rfl t5
                | _ => exact t1.elim
              | exit i =>
                cases e with
                | exit i' =>
                  have hii : i = i' := t1
                  subst hii
                  exact fin (.exit i) .done false rfl rfl t5
                | _ => exact t1.elim
              | panic v =>
                cases e with
                | panic ch =>
                  obtain ⟨u, hch, hu⟩ := t1
                  subst hch
                  have hdf := t2.df
                  unfold endR at t5
                  simp only at t5
                  split at t5
                  · rename_i hd0
                    rw [hd0] at hdf
                    have hd : a2.defers = [] := by
                      cases hx : a2.defers with
                      | nil => rfl
                      | cons d r => rw [hx] at hdf; exact hdf.elim
                    exact ⟨hd, hR _ _ ⟨G2, M2, t3, stp, v, u, rfl, hu, t5⟩⟩
                  · exact t5.elim
                | _ => exact t1.elim
              | goto i => exact t5.elim
            · exact r5.elim
          | _ => exact r1.elim
        | _ => exact r5.elim
      · exact h.elim
  · exact h.elim
end
end Go.Proofs.YtkfjgggiopegbaaDoor
end
