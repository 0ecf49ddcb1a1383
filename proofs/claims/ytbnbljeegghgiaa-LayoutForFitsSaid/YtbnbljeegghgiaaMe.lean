/- The abstract memory, how it stands to a world, and what a step may do to both. No program in sight. -/
import Derived.Test.YtbnbljeegghgiaaAv
import Derived.Deep.MidRow
namespace Go.Proofs.Ytbnbljeegghgiaa
open Go.RowKit
set_option linter.unusedVariables false

structure Me where
  hp : List (Nat × Ob)
  nb : Nat
  nv : Nat
  pc : PC

def hget (hp : List (Nat × Ob)) (b : Nat) : Option Ob :=
  match hp with
  | [] => none
  | (c, o) :: r => if Nat.beq c b = true then some o else hget r b
def hset (hp : List (Nat × Ob)) (b : Nat) (o : Ob) : List (Nat × Ob) :=
  match hp with
  | [] => [(b, o)]
  | (c, p) :: r => if Nat.beq c b = true then (c, o) :: r else (c, p) :: hset r b o
def hdel (hp : List (Nat × Ob)) (b : Nat) : List (Nat × Ob) :=
  match hp with
  | [] => []
  | (c, p) :: r => if Nat.beq c b = true then hdel r b else (c, p) :: hdel r b
theorem beq_iff (a b : Nat) : Nat.beq a b = true ↔ a = b := ⟨Nat.eq_of_beq_eq_true, fun h => by subst h; exact Nat.beq_refl a⟩
theorem hget_hset (hp : List (Nat × Ob)) (b : Nat) (o : Ob) (c : Nat) : hget (hset hp b o) c = if c = b then some o else hget hp c := by
  induction hp with
  | nil =>
    simp only [hset, hget, beq_iff]
    by_cases h : c = b
    · rw [if_pos h, if_pos h.symm]
    · rw [if_neg h, if_neg (Ne.symm h)]
  | cons p r ih =>
    obtain ⟨d, q⟩ := p
    simp only [hset, beq_iff]
    by_cases hd : d = b
    · subst hd
      simp only [if_true, hget, beq_iff]
      by_cases h : d = c
      · rw [if_pos h, if_pos h.symm]
      · rw [if_neg h, if_neg (Ne.symm h), if_neg h]
    · simp only [if_neg hd, hget, beq_iff, ih]
      by_cases h : d = c
      · rw [if_pos h, if_neg (fun e => hd (h.trans e)), if_pos h]
      · rw [if_neg h, if_neg h]
theorem hget_hdel (hp : List (Nat × Ob)) (b : Nat) (c : Nat) : hget (hdel hp b) c = if c = b then none else hget hp c := by
  induction hp with
  | nil => simp [hdel, hget]
  | cons p r ih =>
    obtain ⟨d, q⟩ := p
    simp only [hdel, beq_iff]
    by_cases hd : d = b
    · subst hd
      rw [if_pos rfl, ih]
      simp only [hget, beq_iff]
      by_cases h : c = d
      · rw [if_pos h, if_pos h]
      · rw [if_neg h, if_neg h, if_neg (Ne.symm h)]
    · simp only [if_neg hd, hget, beq_iff, ih]
      by_cases h : d = c
      · rw [if_pos h, if_neg (fun e => hd (h.trans e)), if_pos h]
      · rw [if_neg h, if_neg h]

/-- An object stands at its place. -/
def OR (ρ : Env) (G : Gh) (w : World) (g : GI) : Ob → Prop
  | .cells cs => g.off = 0 ∧ ∃ arr t, w.heap[g.blk]? = some (.cells arr t (0, 0)) ∧ arr.size = g.sz ∧ cs.length ≤ arr.size ∧ ∀ (i : Nat) (a : AV) (v : Value), cs[i]? = some a → arr[i]? = some v → VR ρ G a v
  | .rows ks e => g.off = 0 ∧ ks ≠ [] ∧ (g.sz = 0 → (e.den ρ).l = []) ∧ (g.sz ≠ 0 → ∃ arr t, w.heap[g.blk]? = some (.cells arr t (0, 0)) ∧ arr.size = g.sz ∧ (e.den ρ).l.length * ks.length ≤ arr.size ∧
      ∀ (i j : Nat) (d : DV) (k : CK), (e.den ρ).l[i]? = some d → ks[j]? = some k → arr[i * ks.length + j]? = some (k.val (cellD ks d j)))
  | .ro ks e => ks ≠ [] ∧ ∀ (i j : Nat) (d : DV) (k : CK), (e.den ρ).l[i]? = some d → ks[j]? = some k → w.cell? ⟨g.blk, g.off + i * ks.length + j, none⟩ = some (k.val (cellD ks d j))
  | .map es => ∃ (en : Array MapEntry) (clock : Nat), w.heap[g.blk]? = some (.map en clock) ∧ en.size = es.length ∧ ∀ (i : Nat) (p : AV × AV) (m : MapEntry), es[i]? = some p → en[i]? = some m → VR ρ G p.1 m.key ∧ VR ρ G p.2 m.val
/-- It has a block of its own in the heap (an empty row need not). -/
def Solid (ρ : Env) (g : GI) : Ob → Prop
  | .ro _ e => (e.den ρ).l ≠ []
  | .rows _ _ => g.sz ≠ 0
  | _ => True

structure MR (ρ : Env) (G : Gh) (M : Me) (w : World) : Prop where
  pc : holdsAll ρ M.pc
  fresh : ∀ b g, G b = some g → b < M.nb
  ob : ∀ b o, hget M.hp b = some o → ∃ g, G b = some g ∧ OR ρ G w g o
  apart : ∀ b o c p g h, hget M.hp b = some o → hget M.hp c = some p → o.own = true → b ≠ c → G b = some g → G c = some h → Solid ρ g o → Solid ρ h p → g.blk ≠ h.blk

/-- What one may write. -/
def Mine (ρ : Env) (G : Gh) (M : Me) (k : Nat) : Prop := ∃ b o g, hget M.hp b = some o ∧ o.own = true ∧ G b = some g ∧ Solid ρ g o ∧ g.blk = k

structure Stp (ρ : Env) (G : Gh) (M : Me) (w : World) (G' : Gh) (M' : Me) (w' : World) : Prop where
  gh : G.le G'
  os : w'.os = w.os
  tape : w'.tape = w.tape
  output : w'.output = w.output
  size : w.heap.size ≤ w'.heap.size
  keep : ∀ k, k < w.heap.size → ¬ Mine ρ G M k → w'.heap[k]? = w.heap[k]?
  mine : ∀ k, Mine ρ G' M' k → k < w.heap.size → Mine ρ G M k
  nb : M.nb ≤ M'.nb
  old : ∀ b g, G' b = some g → G b = some g ∨ M.nb ≤ b
  ro : ∀ b ks e, hget M'.hp b = some (.ro ks e) → hget M.hp b = some (.ro ks e)

theorem Stp.refl (ρ : Env) (G : Gh) (M : Me) (w : World) : Stp ρ G M w G M w := ⟨G.le_refl, rfl, rfl, rfl, Nat.le_refl _, fun _ _ _ => rfl, fun _ h _ => h, Nat.le_refl _, fun _ _ h => .inl h, fun _ _ _ h => h⟩
theorem Stp.trans {ρ : Env} {G G1 G2 : Gh} {M M1 M2 : Me} {w w1 w2 : World} (h : Stp ρ G M w G1 M1 w1) (k : Stp ρ G1 M1 w1 G2 M2 w2) : Stp ρ G M w G2 M2 w2 :=
  ⟨Gh.le_trans h.gh k.gh, k.os.trans h.os, k.tape.trans h.tape, k.output.trans h.output, Nat.le_trans h.size k.size,
    fun i hi hm => (k.keep i (Nat.lt_of_lt_of_le hi h.size) (fun hm1 => hm (h.mine i hm1 hi))).trans (h.keep i hi hm),
    fun i hm hi => h.mine i (k.mine i hm (Nat.lt_of_lt_of_le hi h.size)) hi, Nat.le_trans h.nb k.nb,
    fun b g hg => (k.old b g hg).elim (h.old b g) (fun hb => .inr (Nat.le_trans h.nb hb)), fun b ks e hb => h.ro b ks e (k.ro b ks e hb)⟩

theorem cell_lt {w : World} {a : Addr} {v : Value} (h : w.cell? a = some v) : a.block < w.heap.size := by
  unfold World.cell? at h
  split at h
  · rename_i c _ _ hb; exact (Array.getElem?_eq_some_iff.1 hb).1
  · cases h
theorem OR.blk_lt {ρ : Env} {G : Gh} {w : World} {g : GI} {o : Ob} (h : OR ρ G w g o) (ho : Solid ρ g o) : g.blk < w.heap.size := by
  cases o with
  | cells cs => obtain ⟨_, arr, t, h, _⟩ := h; exact (Array.getElem?_eq_some_iff.1 h).1
  | rows ks e => obtain ⟨_, _, _, h⟩ := h; obtain ⟨arr, t, h, _⟩ := h ho; exact (Array.getElem?_eq_some_iff.1 h).1
  | ro ks e =>
    obtain ⟨hk, h⟩ := h
    cases hl : (e.den ρ).l with
    | nil => exact absurd hl ho
    | cons d r =>
      cases hks : ks with
      | nil => exact absurd hks hk
      | cons k r' => exact cell_lt (h 0 0 d k (by simp [hl]) (by simp [hks]))
  | map es => obtain ⟨en, c, h, _⟩ := h; exact (Array.getElem?_eq_some_iff.1 h).1
theorem cell_same {w w' : World} {a : Addr} (h : w'.heap[a.block]? = w.heap[a.block]?) : w'.cell? a = w.cell? a := by simp [World.cell?, h]
/-- An object whose block is as it was stands as it stood. -/
theorem OR.same {ρ : Env} {G G' : Gh} {w w' : World} {g : GI} {o : Ob} (h : OR ρ G w g o) (hG : G.le G') (hb : Solid ρ g o → w'.heap[g.blk]? = w.heap[g.blk]?) : OR ρ G' w' g o := by
  cases o with
  | cells cs => obtain ⟨h0, arr, t, h, h2, h3, h4⟩ := h; exact ⟨h0, arr, t, by rw [hb trivial]; exact h, h2, h3, fun i a v x y => (h4 i a v x y).mono hG⟩
  | rows ks e => obtain ⟨h0, h1, h2, h3⟩ := h; exact ⟨h0, h1, h2, fun hs => by obtain ⟨arr, t, h, r⟩ := h3 hs; exact ⟨arr, t, by rw [hb hs]; exact h, r⟩⟩
  | ro ks e =>
    refine ⟨h.1, fun i j d k hi hj => ?_⟩
    rw [cell_same (w := w) (hb (fun hn => by rw [hn] at hi; simp at hi))]
    exact h.2 i j d k hi hj
  | map es => obtain ⟨en, c, h, h1, h2⟩ := h; exact ⟨en, c, by rw [hb trivial]; exact h, h1, fun i p m x y => ⟨(h2 i p m x y).1.mono hG, (h2 i p m x y).2.mono hG⟩⟩
theorem MR.mine_lt {ρ : Env} {G : Gh} {M : Me} {w : World} (h : MR ρ G M w) {k : Nat} (hk : Mine ρ G M k) : k < w.heap.size := by
  obtain ⟨b, o, g, h1, h2, h3, h4, rfl⟩ := hk
  obtain ⟨g', h5, h6⟩ := h.ob b o h1
  rw [h3] at h5; cases h5
  exact h6.blk_lt h4
theorem MR.solid_lt {ρ : Env} {G : Gh} {M : Me} {w : World} (h : MR ρ G M w) {b : Nat} {o : Ob} {g : GI} (hb : hget M.hp b = some o) (hg : G b = some g) (hs : Solid ρ g o) : g.blk < w.heap.size := by
  obtain ⟨g', h5, h6⟩ := h.ob b o hb
  rw [hg] at h5; cases h5
  exact h6.blk_lt hs

/-- A world in which every block that the memory speaks of is as it was. -/
theorem MR.more {ρ : Env} {G : Gh} {M : Me} {w w' : World} (h : MR ρ G M w) (hs : ∀ k, k < w.heap.size → w'.heap[k]? = w.heap[k]?) : MR ρ G M w' :=
  ⟨h.pc, h.fresh, fun b o hb => by
    obtain ⟨g, hg, ho⟩ := h.ob b o hb
    exact ⟨g, hg, ho.same G.le_refl fun hc => hs _ (ho.blk_lt hc)⟩, h.apart⟩

/-- A step that lays a new object (of a new block, or of none). -/
theorem MR.newAt {ρ : Env} {G : Gh} {M : Me} {w w' : World} (h : MR ρ G M w) (ob : Ob) (g : GI) (c nb : Nat) (hn : G c = none) (hcn : c < nb) (hnb : M.nb ≤ nb) (hg : w.heap.size ≤ g.blk) (hor : OR ρ (G.add c g) w' g ob) (hos : w'.os = w.os) (htape : w'.tape = w.tape) (hout : w'.output = w.output) (hsz : w.heap.size ≤ w'.heap.size)
    (hmore : ∀ k, k < w.heap.size → w'.heap[k]? = w.heap[k]?) :
    MR ρ (G.add c g) { M with hp := hset M.hp c ob, nb } w' ∧ ∀ G0 M0 w0, ob.own = true → M0.nb ≤ c → Stp ρ G0 M0 w0 G M w → Stp ρ G0 M0 w0 (G.add c g) { M with hp := hset M.hp c ob, nb } w' := by
  have hle := Gh.le_add (g := g) hn
  have h' := h.more hmore
  have hadd : ∀ d x, d ≠ c → (G.add c g) d = some x → G d = some x := fun d x hc hx => by unfold Gh.add at hx; rwa [if_neg hc] at hx
  refine ⟨⟨h.pc, fun b x hx => ?_, fun b o hb => ?_, fun b o d p x y hb hc ho hne hx hy s1 s2 => ?_⟩, fun G0 M0 w0 hown hc0 h0 => ⟨Gh.le_trans h0.gh hle, hos.trans h0.os, htape.trans h0.tape, hout.trans h0.output, Nat.le_trans h0.size hsz, fun k hk hm => (hmore k (Nat.lt_of_lt_of_le hk h0.size)).trans (h0.keep k hk hm), fun k hk hlt => h0.mine k ?_ hlt, Nat.le_trans h0.nb hnb, fun b x hx => ?_, fun b ks e hb => ?_⟩⟩
  · unfold Gh.add at hx
    show b < nb
    split at hx
    · omega
    · have := h.fresh _ _ hx; omega
  · rw [hget_hset] at hb
    split at hb
    · rename_i e; subst e; simp at hb; subst hb
      exact ⟨g, by simp [Gh.add], hor⟩
    · obtain ⟨x, hx, hox⟩ := h'.ob b o hb
      exact ⟨x, hle _ _ hx, hox.same hle fun _ => rfl⟩
  · rw [hget_hset] at hb hc
    split at hb
    · rename_i e; subst e
      simp [Gh.add] at hx; subst hx
      rw [if_neg (Ne.symm hne)] at hc
      have hy' := hadd d y (Ne.symm hne) hy
      have := h.solid_lt hc hy' s2
      omega
    · rename_i hbn
      have hx' := hadd b x hbn hx
      split at hc
      · rename_i e; subst e
        simp [Gh.add] at hy; subst hy
        have := h.solid_lt hb hx' s1
        omega
      · rename_i hdn
        exact h.apart b o d p x y hb hc ho hne hx' (hadd d y hdn hy) s1 s2
  · have hlt' := Nat.lt_of_lt_of_le hlt h0.size
    obtain ⟨b, o, x, h1, h2, h3, h4, rfl⟩ := hk
    rw [hget_hset] at h1
    split at h1
    · rename_i e; subst e
      simp [Gh.add] at h3; subst h3; omega
    · rename_i hbn
      exact ⟨b, o, x, h1, h2, hadd b x hbn h3, h4, rfl⟩
  · by_cases hbc : b = c
    · exact .inr (hbc ▸ hc0)
    · exact h0.old b x (hadd b x hbc hx)
  · rw [hget_hset] at hb
    split at hb
    · cases hb; cases hown
    · exact h0.ro b ks e hb
theorem MR.no {ρ : Env} {G : Gh} {M : Me} {w : World} (h : MR ρ G M w) : G M.nb = none := by
  cases hx : G M.nb with
  | none => rfl
  | some x => exact absurd (h.fresh _ _ hx) (Nat.lt_irrefl _)
theorem MR.new {ρ : Env} {G : Gh} {M : Me} {w w' : World} (h : MR ρ G M w) (ob : Ob) (g : GI) (hg : w.heap.size ≤ g.blk) (hor : OR ρ (G.add M.nb g) w' g ob) (hos : w'.os = w.os) (htape : w'.tape = w.tape) (hout : w'.output = w.output) (hsz : w.heap.size ≤ w'.heap.size)
    (hmore : ∀ k, k < w.heap.size → w'.heap[k]? = w.heap[k]?) (hown : ob.own = true := by rfl) :
    MR ρ (G.add M.nb g) { M with hp := hset M.hp M.nb ob, nb := M.nb + 1 } w' ∧ Stp ρ G M w (G.add M.nb g) { M with hp := hset M.hp M.nb ob, nb := M.nb + 1 } w' :=
  have H := h.newAt ob g M.nb (M.nb + 1) h.no (Nat.lt_succ_self _) (Nat.le_succ _) hg hor hos htape hout hsz hmore
  ⟨H.1, H.2 _ _ _ hown (Nat.le_refl _) (Stp.refl _ _ _ _)⟩
theorem alloc_more (w : World) (o : Obj) : ∀ k, k < w.heap.size → (w.alloc o).heap[k]? = w.heap[k]? := fun k hk => by
  show (w.heap.push o)[k]? = _
  rw [Array.getElem?_push, if_neg (by omega)]
theorem alloc_new (w : World) (o : Obj) : (w.alloc o).heap[w.heap.size]? = some o := by
  show (w.heap.push o)[w.heap.size]? = _
  rw [Array.getElem?_push, if_pos rfl]

/-- A step that turns one block of one's own. -/
theorem MR.turn {ρ : Env} {G : Gh} {M : Me} {w w' : World} (h : MR ρ G M w) {b : Nat} {o : Ob} {g : GI} (ob : Ob) (hb : hget M.hp b = some o) (hg : G b = some g) (ho : o.own = true) (hown : ob.own = true) (hsol : Solid ρ g o)
    (hos : w'.os = w.os) (htape : w'.tape = w.tape) (hout : w'.output = w.output) (hsz : w.heap.size ≤ w'.heap.size) (hk : ∀ k, k < w.heap.size → k ≠ g.blk → w'.heap[k]? = w.heap[k]?) (hor : OR ρ G w' g ob) :
    MR ρ G { M with hp := hset M.hp b ob } w' ∧ Stp ρ G M w G { M with hp := hset M.hp b ob } w' := by
  have hsame : ∀ c p y, c ≠ b → hget M.hp c = some p → G c = some y → Solid ρ y p → y.blk ≠ g.blk := fun c p y hne hc hy hcond =>
    Ne.symm (h.apart b o c p g y hb hc ho (Ne.symm hne) hg hy hsol hcond)
  refine ⟨⟨h.pc, h.fresh, fun c p hc => ?_, fun c p d q x y hc hd hp hne hx hy s1 s2 => ?_⟩, ⟨G.le_refl, hos, htape, hout, hsz, fun k hlt hm => hk k hlt fun e => hm ⟨b, o, g, hb, ho, hg, hsol, e.symm⟩, fun k hkm hlt => ?_, Nat.le_refl _, fun _ _ h => .inl h, fun c ks e hc => ?_⟩⟩
  · rw [hget_hset] at hc
    split at hc
    · rename_i e; subst e; simp at hc; subst hc; exact ⟨g, hg, hor⟩
    · rename_i hne
      obtain ⟨y, hy, hoy⟩ := h.ob c p hc
      exact ⟨y, hy, hoy.same G.le_refl fun hcond => hk _ (hoy.blk_lt hcond) (hsame c p y hne hc hy hcond)⟩
  · rw [hget_hset] at hc hd
    split at hc
    · rename_i e; subst e
      rw [if_neg (Ne.symm hne)] at hd
      rw [hg] at hx; cases hx
      exact Ne.symm (hsame d q y (Ne.symm hne) hd hy s2)
    · rename_i hcb
      split at hd
      · rename_i e; subst e
        rw [hg] at hy; cases hy
        exact hsame c p x hcb hc hx s1
      · exact h.apart c p d q x y hc hd hp hne hx hy s1 s2
  · obtain ⟨c, p, x, h1, h2, h3, h4, rfl⟩ := hkm
    rw [hget_hset] at h1
    split at h1
    · rename_i e; subst e; rw [hg] at h3; cases h3; exact ⟨c, o, g, hb, ho, hg, hsol, rfl⟩
    · exact ⟨c, p, x, h1, h2, h3, h4, rfl⟩
  · rw [hget_hset] at hc
    split at hc
    · cases hc; cases hown
    · exact hc
/-- A step that turns one block of one's own and gives it a new name (append in place). -/
theorem MR.move {ρ : Env} {G : Gh} {M : Me} {w w' : World} (h : MR ρ G M w) {b : Nat} {o : Ob} {g g2 : GI} (ob : Ob) (hb : hget M.hp b = some o) (hg : G b = some g) (ho : o.own = true) (hsol : Solid ρ g o) (hg2 : g2.blk = g.blk)
    (hos : w'.os = w.os) (htape : w'.tape = w.tape) (hout : w'.output = w.output) (hsz : w.heap.size ≤ w'.heap.size) (hk : ∀ k, k < w.heap.size → k ≠ g.blk → w'.heap[k]? = w.heap[k]?) (hor : OR ρ (G.add M.nb g2) w' g2 ob) (hown : ob.own = true := by rfl) :
    MR ρ (G.add M.nb g2) { M with hp := hset (hdel M.hp b) M.nb ob, nb := M.nb + 1 } w' ∧ Stp ρ G M w (G.add M.nb g2) { M with hp := hset (hdel M.hp b) M.nb ob, nb := M.nb + 1 } w' := by
  have hn : G M.nb = none := by
    cases hx : G M.nb with
    | none => rfl
    | some x => exact absurd (h.fresh _ _ hx) (Nat.lt_irrefl _)
  have hle := Gh.le_add (g := g2) hn
  have hadd : ∀ c x, c ≠ M.nb → (G.add M.nb g2) c = some x → G c = some x := fun c x hc hx => by unfold Gh.add at hx; rwa [if_neg hc] at hx
  have hold : ∀ c p, c ≠ M.nb → hget (hset (hdel M.hp b) M.nb ob) c = some p → c ≠ b ∧ hget M.hp c = some p := fun c p hc h => by
    rw [hget_hset, if_neg hc, hget_hdel] at h
    split at h
    · cases h
    · rename_i hcb; exact ⟨hcb, h⟩
  have hsame : ∀ c p y, c ≠ b → hget M.hp c = some p → G c = some y → Solid ρ y p → y.blk ≠ g.blk := fun c p y hne hc hy hcond =>
    Ne.symm (h.apart b o c p g y hb hc ho (Ne.symm hne) hg hy hsol hcond)
  refine ⟨⟨h.pc, fun c x hx => ?_, fun c p hc => ?_, fun c p d q x y hc hd hp hne hx hy s1 s2 => ?_⟩, ⟨hle, hos, htape, hout, hsz, fun k hlt hm => hk k hlt fun e => hm ⟨b, o, g, hb, ho, hg, hsol, e.symm⟩, fun k hkm hlt => ?_, Nat.le_succ _, fun c x hx => ?_, fun c ks e hc => ?_⟩⟩
  · unfold Gh.add at hx
    show c < M.nb + 1
    split at hx
    · omega
    · have := h.fresh _ _ hx; omega
  · by_cases hcn : c = M.nb
    · subst hcn
      rw [hget_hset, if_pos rfl] at hc
      cases hc
      exact ⟨g2, by simp [Gh.add], hor⟩
    · obtain ⟨hcb, hc⟩ := hold c p hcn hc
      obtain ⟨y, hy, hoy⟩ := h.ob c p hc
      exact ⟨y, hle _ _ hy, hoy.same hle fun hcond => hk _ (hoy.blk_lt hcond) (hsame c p y hcb hc hy hcond)⟩
  · by_cases hcn : c = M.nb
    · subst hcn
      obtain ⟨hdb, hd⟩ := hold d q (Ne.symm hne) hd
      simp [Gh.add] at hx; subst hx
      rw [hg2]
      exact Ne.symm (hsame d q y hdb hd (hadd d y (Ne.symm hne) hy) s2)
    · obtain ⟨hcb, hc⟩ := hold c p hcn hc
      have hx' := hadd c x hcn hx
      by_cases hdn : d = M.nb
      · subst hdn
        simp [Gh.add] at hy; subst hy
        rw [hg2]
        exact hsame c p x hcb hc hx' s1
      · obtain ⟨hdb, hd⟩ := hold d q hdn hd
        exact h.apart c p d q x y hc hd hp hne hx' (hadd d y hdn hy) s1 s2
  · obtain ⟨c, p, x, h1, h2, h3, h4, rfl⟩ := hkm
    by_cases hcn : c = M.nb
    · subst hcn
      simp [Gh.add] at h3; subst h3
      exact ⟨b, o, g, hb, ho, hg, hsol, hg2.symm⟩
    · obtain ⟨hcb, h1⟩ := hold c p hcn h1
      exact ⟨c, p, x, h1, h2, hadd c x hcn h3, h4, rfl⟩
  · by_cases hcn : c = M.nb
    · exact .inr (Nat.le_of_eq hcn.symm)
    · exact .inl (hadd c x hcn hx)
  · by_cases hcn : c = M.nb
    · subst hcn
      rw [hget_hset, if_pos rfl] at hc
      cases hc; cases hown
    · exact (hold c _ hcn hc).2
/-- A draw. -/
theorem MR.drew {ρ : Env} {G : Gh} {M : Me} {w : World} (h : MR ρ G M w) : MR ρ G M w.drew := h.more fun _ _ => rfl
theorem Stp.drew (ρ : Env) (G : Gh) (M : Me) (w : World) : Stp ρ G M w G M w.drew := ⟨G.le_refl, rfl, rfl, rfl, Nat.le_refl _, fun _ _ _ => rfl, fun _ h _ => h, Nat.le_refl _, fun _ _ h => .inl h, fun _ _ _ h => h⟩
/-- A block that one forgets; a condition that one learns. -/
theorem MR.drop {ρ : Env} {G : Gh} {M : Me} {w : World} (h : MR ρ G M w) (hp : List (Nat × Ob)) (hd : ∀ b o, hget hp b = some o → hget M.hp b = some o) : MR ρ G { M with hp } w ∧ Stp ρ G M w G { M with hp } w :=
  ⟨⟨h.pc, h.fresh, fun b o hb => h.ob b o (hd b o hb), fun b o c p g y hb hc => h.apart b o c p g y (hd b o hb) (hd c p hc)⟩,
   ⟨G.le_refl, rfl, rfl, rfl, Nat.le_refl _, fun _ _ _ => rfl, fun k ⟨b, o, g, h1, h2, h3, h4⟩ _ => ⟨b, o, g, hd b o h1, h2, h3, h4⟩, Nat.le_refl _, fun _ _ h => .inl h, fun b ks e hb => hd b _ hb⟩⟩
theorem MR.learn {ρ : Env} {G : Gh} {M : Me} {w : World} (h : MR ρ G M w) {c : SE} {t : Bool} (hc : (c.den ρ).b = t) : MR ρ G { M with pc := lay M.pc c t } w := ⟨lay_holds h.pc hc, h.fresh, h.ob, h.apart⟩
theorem Stp.pc {ρ : Env} {G G' : Gh} {M M' : Me} {w w' : World} (h : Stp ρ G M w G' M' w') (p q : PC) : Stp ρ G { M with pc := p } w G' { M' with pc := q } w' := ⟨h.gh, h.os, h.tape, h.output, h.size, h.keep, h.mine, h.nb, h.old, h.ro⟩
theorem Stp.learn {ρ : Env} {G : Gh} (M : Me) (w : World) (p : PC) : Stp ρ G M w G { M with pc := p } w := ⟨G.le_refl, rfl, rfl, rfl, Nat.le_refl _, fun _ _ _ => rfl, fun _ h _ => h, Nat.le_refl _, fun _ _ h => .inl h, fun _ _ _ h => h⟩
end Go.Proofs.Ytbnbljeegghgiaa
