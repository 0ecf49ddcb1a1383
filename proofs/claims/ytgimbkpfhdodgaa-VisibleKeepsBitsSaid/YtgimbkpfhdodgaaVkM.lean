/- Threads that set and clear their bits in masks, in any order of their accesses: what stays true. No program in sight. -/
import Derived.Test.YtgimbkpfhdodgaaViM
import Derived.Test.YtgimbkpfhdodgaaMemDo
import Derived.Test.YtgimbkpfhdodgaaLayWord
namespace Go.Proofs.Ytgimbkpfhdodgaa
set_option linter.unusedVariables false
set_option linter.unusedSimpArgs false
def b2i (b : Bool) (n : Int) : Int := if b = true then n else 0
def bitsV (f : Nat → Bool) : Int := b2i (f 0) 1 + b2i (f 1) 2 + b2i (f 2) 4 + b2i (f 3) 8
theorem bits4 : ∀ a b c d : Bool, (hasM (b2i a 1 + b2i b 2 + b2i c 4 + b2i d 8) 0 = a ∧ hasM (b2i a 1 + b2i b 2 + b2i c 4 + b2i d 8) 1 = b ∧ hasM (b2i a 1 + b2i b 2 + b2i c 4 + b2i d 8) 2 = c ∧ hasM (b2i a 1 + b2i b 2 + b2i c 4 + b2i d 8) 3 = d) := by decide
theorem bits_has (f : Nat → Bool) {i : Nat} (hi : i < 4) : hasM (bitsV f) (i : Nat) = f i := by
  obtain ⟨h0, h1, h2, h3⟩ := bits4 (f 0) (f 1) (f 2) (f 3)
  match i, hi with
  | 0, _ => exact h0
  | 1, _ => exact h1
  | 2, _ => exact h2
  | 3, _ => exact h3
def updB (f : Nat → Bool) (i : Nat) (b : Bool) : Nat → Bool := fun j => if j = i then b else f j
theorem bits_le (f : Nat → Bool) : 0 ≤ bitsV f ∧ bitsV f ≤ 15 := by
  unfold bitsV b2i
  repeat' split
  all_goals omega
theorem bits_with (f : Nat → Bool) {i : Nat} (hi : i < 4) (h : f i = false) : withM (bitsV f) (i : Nat) = bitsV (updB f i true) := by
  unfold withM
  rw [bits_has f hi, h]
  simp only [Bool.false_eq_true, if_false]
  match i, hi with
  | 0, _ => simp [bitsV, updB, h, b2i, oneM] <;> omega
  | 1, _ => simp [bitsV, updB, h, b2i, oneM] <;> omega
  | 2, _ => simp [bitsV, updB, h, b2i, oneM] <;> omega
  | 3, _ => simp [bitsV, updB, h, b2i, oneM]
theorem bits_off (f : Nat → Bool) {i : Nat} (hi : i < 4) (h : f i = true) : offM (bitsV f) (i : Nat) = bitsV (updB f i false) := by
  unfold offM
  rw [bits_has f hi, h]
  simp only [if_true]
  match i, hi with
  | 0, _ => simp [bitsV, updB, h, b2i, oneM] <;> omega
  | 1, _ => simp [bitsV, updB, h, b2i, oneM] <;> omega
  | 2, _ => simp [bitsV, updB, h, b2i, oneM] <;> omega
  | 3, _ => simp [bitsV, updB, h, b2i, oneM] <;> omega
/-- The memory in which the masks hold the bits. -/
def vkMem (n : Nat) (f : Nat → Nat → Bool) : List Int := List.replicate (4 + 4 * n + 2) 0 ++ [bitsV fun w => f w 0, bitsV fun w => f w 1, 0, 0, bitsV fun w => f w 2, bitsV fun w => f w 3]
def cellK (n k : Nat) : Nat := 4 + 4 * n + 2 + k % 2 + 4 * (k / 2)
theorem vk_len (n : Nat) (f : Nat → Nat → Bool) : (vkMem n f).length = 12 + 4 * n := by simp [vkMem]; omega
theorem vk_get (n : Nat) (f : Nat → Nat → Bool) {k : Nat} (hk : k < 4) : (vkMem n f)[cellK n k]?.getD 0 = bitsV fun w => f w k := by
  unfold vkMem
  match k, hk with
  | 0, _ => rw [List.getElem?_append_right (by simp [cellK]), List.length_replicate, show cellK n 0 - (4 + 4 * n + 2) = 0 by simp [cellK]]; rfl
  | 1, _ => rw [List.getElem?_append_right (by simp [cellK] <;> omega), List.length_replicate, show cellK n 1 - (4 + 4 * n + 2) = 1 by simp [cellK] <;> omega]; rfl
  | 2, _ => rw [List.getElem?_append_right (by simp [cellK] <;> omega), List.length_replicate, show cellK n 2 - (4 + 4 * n + 2) = 4 by simp [cellK] <;> omega]; rfl
  | 3, _ => rw [List.getElem?_append_right (by simp [cellK] <;> omega), List.length_replicate, show cellK n 3 - (4 + 4 * n + 2) = 5 by simp [cellK] <;> omega]; rfl
def updK (f : Nat → Nat → Bool) (w k : Nat) (b : Bool) : Nat → Nat → Bool := fun x j => if x = w ∧ j = k then b else f x j
theorem vk_set (n : Nat) (f : Nat → Nat → Bool) (w : Nat) (b : Bool) {k : Nat} (hk : k < 4) : (vkMem n f).set (cellK n k) (bitsV (updB (fun x => f x k) w b)) = vkMem n (updK f w k b) := by
  have e : ∀ j, (j = k → (fun x => updK f w k b x j) = updB (fun x => f x k) w b) ∧ (j ≠ k → (fun x => updK f w k b x j) = fun x => f x j) := fun j => by
    refine ⟨fun h => ?_, fun h => ?_⟩
    · subst h; funext x; simp [updK, updB]
    · funext x; simp [updK, h]
  unfold vkMem
  match k, hk with
  | 0, _ => rw [List.set_append_right _ _ (by simp [cellK]), List.length_replicate, show cellK n 0 - (4 + 4 * n + 2) = 0 by simp [cellK], (e 0).1 rfl, (e 1).2 (by decide), (e 2).2 (by decide), (e 3).2 (by decide)] <;> rfl
  | 1, _ => rw [List.set_append_right _ _ (by simp [cellK] <;> omega), List.length_replicate, show cellK n 1 - (4 + 4 * n + 2) = 1 by simp [cellK] <;> omega, (e 0).2 (by decide), (e 1).1 rfl, (e 2).2 (by decide), (e 3).2 (by decide)] <;> rfl
  | 2, _ => rw [List.set_append_right _ _ (by simp [cellK] <;> omega), List.length_replicate, show cellK n 2 - (4 + 4 * n + 2) = 4 by simp [cellK] <;> omega, (e 0).2 (by decide), (e 1).2 (by decide), (e 2).1 rfl, (e 3).2 (by decide)] <;> rfl
  | 3, _ => rw [List.set_append_right _ _ (by simp [cellK] <;> omega), List.length_replicate, show cellK n 3 - (4 + 4 * n + 2) = 5 by simp [cellK] <;> omega, (e 0).2 (by decide), (e 1).2 (by decide), (e 2).2 (by decide), (e 3).1 rfl] <;> rfl
theorem vk_zero (n : Nat) : vkMem n (fun _ _ => false) = List.replicate (12 + 4 * n) 0 := by
  have e : [bitsV fun _ => false, bitsV fun _ => false, 0, 0, bitsV fun _ => false, bitsV fun _ => false] = List.replicate 6 (0 : Int) := rfl
  unfold vkMem
  rw [e, List.replicate_append_replicate]
  congr 1
  omega

/-- What a thread's log says: its own bit is as it was, until the exchange that changes it. -/
def LogOk (me : Nat) (put inb eff : Bool) : List Tib → Prop
  | [] => eff = inb
  | [r] => hasM r.1 me = inb ∧ eff = inb
  | r :: c :: rest => hasM r.1 me = inb ∧ inb ≠ put ∧ (if c.2 = true then rest = [] ∧ eff = put else LogOk me put inb eff rest)
theorem log_next {put inb eff : Bool} {chg : Int → Int} {cell : Int} {me : Nat} : ∀ {log : List Tib}, LogOk me put inb eff log →
    (viM put chg cell me log = askN 1 cell 0 0 ∧ eff = inb ∧ ∀ r : Int, hasM r me = inb → LogOk me put inb eff (log ++ [(r, true)])) ∨
    (viM put chg cell me log = doneN 0 0 (decide (inb ≠ put)) 0 ∧ eff = put) ∨
    ∃ r : Int, viM put chg cell me log = askN 3 cell r (chg r) ∧ eff = inb ∧ inb ≠ put ∧ (∀ v : Int, LogOk me put inb eff (log ++ [(v, false)])) ∧ ∀ v : Int, LogOk me put inb put (log ++ [(v, true)])
  | [], h => .inl ⟨rfl, h, fun r hr => ⟨hr, h⟩⟩
  | [r], h => by
    obtain ⟨h1, h2⟩ := h
    unfold viM
    by_cases hp : inb = put
    · rw [if_pos (h1.trans hp)]
      exact .inr (.inl ⟨by simp [hp], h2.trans hp⟩)
    · rw [if_neg (by rw [h1]; exact hp)]
      refine .inr (.inr ⟨r.1, rfl, h2, hp, fun v => ?_, fun v => ?_⟩)
      · show LogOk me put inb eff (r :: (v, false) :: [])
        exact ⟨h1, hp, by rw [if_neg (by simp)]; exact h2⟩
      · show LogOk me put inb put (r :: (v, true) :: [])
        exact ⟨h1, hp, by rw [if_pos rfl]; exact ⟨rfl, rfl⟩⟩
  | r :: c :: rest, h => by
    obtain ⟨h1, hp, h3⟩ := h
    unfold viM
    rw [if_neg (by rw [h1]; exact hp)]
    by_cases hc : c.2 = true
    · rw [if_pos hc] at h3 ⊢
      exact .inr (.inl ⟨by simp [hp], h3.2⟩)
    · rw [if_neg hc] at h3 ⊢
      have up : ∀ {e : Bool} {l : List Tib}, LogOk me put inb e l → LogOk me put inb e (r :: c :: l) := fun hl => ⟨h1, hp, by rw [if_neg hc]; exact hl⟩
      rcases log_next (chg := chg) (cell := cell) h3 with ⟨a, b, d⟩ | ⟨a, b⟩ | ⟨v, a, b, d, e, f⟩
      · exact .inl ⟨a, b, fun r hr => up (d r hr)⟩
      · exact .inr (.inl ⟨a, b⟩)
      · exact .inr (.inr ⟨v, a, b, d, fun v => up (e v), fun v => up (f v)⟩)

/-- A byte that tells an operation: which mask, and whether it sets. -/
def kkB (b : Int) : Nat := (2 * (b / 4 % 2) + b % 4 / 2).toNat
def putB (b : Int) : Bool := decide (b % 2 = 0)
theorem kk_lt {b : Int} (h : 0 ≤ b) : kkB b < 4 := by unfold kkB; omega
/-- What stays true: t is the number of turns, want the operations, ins the bits that are told, logs and nexts the threads' states. -/
def VkInv (n : Nat) (want : Nat → List Int) (t : Nat) (ins : Nat → List Bool) (logs : Nat → List Tib) (nexts : Nat → Nat) (m : List Int) : Prop :=
  ∃ eff : Nat → Nat → Bool, m = vkMem n eff ∧ (∀ w, n ≤ w → ∀ k, eff w k = false) ∧ ∀ w, w < n → (ins w).length = 4 ∧ (logs w).length ≤ t ∧ nexts w ≤ (want w).length ∧
    (if nexts w < (want w).length then (∀ k, k < 4 → k ≠ kkB ((want w)[nexts w]?.getD 0) → eff w k = (ins w)[k]?.getD false) ∧ LogOk w (putB ((want w)[nexts w]?.getD 0)) ((ins w)[kkB ((want w)[nexts w]?.getD 0)]?.getD false) (eff w (kkB ((want w)[nexts w]?.getD 0))) (logs w)
    else logs w = [] ∧ ∀ k, k < 4 → eff w k = (ins w)[k]?.getD false)
def upd {α : Type} (f : Nat → α) (w : Nat) (v : α) : Nat → α := fun x => if x = w then v else f x
theorem upd_at {α : Type} (f : Nat → α) (w : Nat) (v : α) : upd f w v w = v := if_pos rfl
theorem upd_ne {α : Type} (f : Nat → α) {w x : Nat} (v : α) (h : x ≠ w) : upd f w v x = f x := if_neg h
section
variable {n t w : Nat} {want : Nat → List Int} {ins : Nat → List Bool} {logs : Nat → List Tib} {nexts : Nat → Nat} {m : List Int}
theorem vk_start (n : Nat) (want : Nat → List Int) : VkInv n want 0 (fun _ => [false, false, false, false]) (fun _ => []) (fun _ => 0) (List.replicate (12 + 4 * n) 0) := by
  refine ⟨fun _ _ => false, (vk_zero n).symm, fun _ _ _ => rfl, fun w hw => ⟨rfl, Nat.le_refl _, Nat.zero_le _, ?_⟩⟩
  have e : ∀ k, k < 4 → [false, false, false, false][k]?.getD false = false := by decide
  have e' : ∀ k, [false, false, false, false][k]?.getD false = false := fun k => by
    rcases Nat.lt_or_ge k 4 with h | h
    · exact e k h
    · rw [List.getElem?_eq_none (by simpa using h)]; rfl
  split
  · exact ⟨fun k hk _ => (e k hk).symm, (e' _).symm⟩
  · exact ⟨rfl, fun k hk => (e k hk).symm⟩
theorem vk_skip (h : VkInv n want t ins logs nexts m) : VkInv n want (t + 1) ins logs nexts m := by
  obtain ⟨eff, h1, h2, h3⟩ := h
  exact ⟨eff, h1, h2, fun w hw => by obtain ⟨a, b, c, d⟩ := h3 w hw; exact ⟨a, by omega, c, d⟩⟩
/-- A turn of a thread that is not at its end. -/
theorem vk_step (hn : n ≤ 4) (hw : w < n) (hwant : ∀ b ∈ want w, 0 ≤ b ∧ b ≤ 255) (h : VkInv n want t ins logs nexts m) (hlt : nexts w < (want w).length) {b : Int} (hb : (want w)[nexts w]?.getD 0 = b) {chg : Int → Int} (hchg : ∀ v, chg v = IntKind.i64.wrap (if putB b = true then withM v (w : Nat) else offM v (w : Nat))) {nx : Nx} (hnx : viM (putB b) chg (cellK n (kkB b) : Nat) (w : Nat) (logs w) = nx) :
    (nx.done = true ∧ nx.err = 0 ∧ nx.is = decide ((ins w)[kkB b]?.getD false ≠ putB b) ∧ VkInv n want (t + 1) (upd ins w ((ins w).set (kkB b) (putB b))) (upd logs w []) (upd nexts w (nexts w + 1)) m) ∨
    (nx.done = false ∧ ∃ r : Tib, (doM m nx.k nx.c nx.o nx.n nx.s).2 = (r, 0) ∧ VkInv n want (t + 1) ins (upd logs w (logs w ++ [r])) nexts (doM m nx.k nx.c nx.o nx.n nx.s).1) := by
  obtain ⟨eff, rfl, h2, h3⟩ := h
  obtain ⟨hi, hll, hnl, hph⟩ := h3 w hw
  rw [if_pos hlt, hb] at hph
  obtain ⟨hoth, hlog⟩ := hph
  have hb0 : 0 ≤ b ∧ b ≤ 255 := by
    rw [← hb, List.getElem?_eq_getElem hlt]
    exact hwant _ (List.getElem_mem hlt)
  have hk := kk_lt hb0.1
  generalize hkk : kkB b = k at *
  have hc0 : (0 : Int) ≤ (cellK n k : Nat) := Int.natCast_nonneg _
  have hc1 : ((cellK n k : Nat) : Int) < (vkMem n eff).length := by rw [vk_len]; unfold cellK; omega
  have hct : ((cellK n k : Nat) : Int).toNat = cellK n k := Int.toNat_natCast _
  -- another thread stands as it stood
  have other : ∀ (eff' : Nat → Nat → Bool) (logs' : List Tib), (∀ x j, ¬ (x = w ∧ j = k) → eff' x j = eff x j) → logs'.length ≤ t + 1 → LogOk w (putB b) ((ins w)[k]?.getD false) (eff' w k) logs' →
      VkInv n want (t + 1) ins (upd logs w logs') nexts (vkMem n eff') := by
    intro eff' logs' he hl hlk
    refine ⟨eff', rfl, fun x hx j => by rw [he x j (fun h => by omega)]; exact h2 x hx j, fun x hx => ?_⟩
    by_cases hxw : x = w
    · subst hxw
      rw [upd_at]
      refine ⟨hi, hl, hnl, ?_⟩
      rw [if_pos hlt, hb, hkk]
      exact ⟨fun j hj hjk => by rw [he x j (fun h => hjk h.2)]; exact hoth j hj hjk, hlk⟩
    · rw [upd_ne _ _ hxw]
      obtain ⟨a1, a2, a3, a4⟩ := h3 x hx
      refine ⟨a1, by omega, a3, ?_⟩
      split at a4
      · rename_i hl2
        rw [if_pos hl2]
        refine ⟨fun j hj hjk => by rw [he x j (fun h => hxw h.1)]; exact a4.1 j hj hjk, ?_⟩
        rw [he x _ (fun h => hxw h.1)]
        exact a4.2
      · rename_i hl2
        rw [if_neg hl2]
        exact ⟨a4.1, fun j hj => by rw [he x j (fun h => hxw h.1)]; exact a4.2 j hj⟩
  rcases log_next (chg := chg) (cell := (cellK n k : Nat)) hlog with ⟨e1, e2, e3⟩ | ⟨e1, e2⟩ | ⟨r, e1, e2, e3, e4, e5⟩
  · -- a load
    rw [e1] at hnx
    subst hnx
    refine .inr ⟨rfl, (bitsV fun x => eff x k, true), ?_, ?_⟩
    · show (doM (vkMem n eff) 1 (cellK n k : Nat) 0 0 []).2 = _
      simp only [doM, rightM, nextM, hc0, hc1, hct, vk_get n eff hk]
      simp
    · have : (doM (vkMem n eff) 1 (cellK n k : Nat) 0 0 []).1 = vkMem n eff := by
        simp only [doM, rightM, nextM, hc0, hc1, hct]
        simp
        exact set_same _ _ _ (by rw [vk_len] at *; omega)
      show VkInv n want (t + 1) ins (upd logs w (logs w ++ [(bitsV fun x => eff x k, true)])) nexts (doM (vkMem n eff) 1 (cellK n k : Nat) 0 0 []).1
      rw [this]
      refine other eff _ (fun _ _ _ => rfl) (by simp; omega) ?_
      exact e3 _ (by rw [bits_has (fun x => eff x k) (by omega)]; exact e2)
  · -- the end of the operation
    rw [e1] at hnx
    subst hnx
    refine .inl ⟨rfl, rfl, rfl, eff, rfl, h2, fun x hx => ?_⟩
    by_cases hxw : x = w
    · subst hxw
      simp only [upd_at]
      have hall : ∀ j, j < 4 → eff x j = ((ins x).set k (putB b))[j]?.getD false := fun j hj => by
        rw [List.getElem?_set]
        by_cases hjk : k = j
        · subst hjk
          rw [if_pos rfl, if_pos (by omega)]
          exact e2
        · rw [if_neg hjk]
          exact hoth j hj (Ne.symm hjk)
      refine ⟨by simp [hi], Nat.zero_le _, by omega, ?_⟩
      split
      · rename_i hl2
        have hb2 : 0 ≤ (want x)[nexts x + 1]?.getD 0 := by
          rw [List.getElem?_eq_getElem hl2]
          exact (hwant _ (List.getElem_mem hl2)).1
        exact ⟨fun j hj _ => hall j hj, hall _ (kk_lt hb2)⟩
      · exact ⟨trivial, hall⟩
    · simp only [upd_ne _ _ hxw]
      obtain ⟨a1, a2, a3, a4⟩ := h3 x hx
      exact ⟨a1, by omega, a3, a4⟩
  · -- an exchange
    rw [e1] at hnx
    subst hnx
    have hr : rightM 3 (cellK n k : Nat) r (chg r) [] = true := by simp [rightM, hc0]
    by_cases hv : (bitsV fun x => eff x k) = r
    · have hd : doM (vkMem n eff) 3 (cellK n k : Nat) r (chg r) [] = ((vkMem n eff).set (cellK n k) (chg r), (r, true), 0) := by
        unfold doM
        rw [if_pos hr, if_pos hc1, hct, vk_get n eff hk, hv]
        simp [nextM]
      refine .inr ⟨rfl, (r, true), by show (doM (vkMem n eff) 3 (cellK n k : Nat) r (chg r) []).2 = _; rw [hd], ?_⟩
      show VkInv n want (t + 1) ins (upd logs w (logs w ++ [(r, true)])) nexts (doM (vkMem n eff) 3 (cellK n k : Nat) r (chg r) []).1
      rw [hd]
      have hnew : chg r = bitsV (updB (fun x => eff x k) w (putB b)) := by
        rw [hchg, ← hv]
        have hle := bits_le (updB (fun x => eff x k) w (putB b))
        cases hp : putB b with
        | true =>
          have : eff w k = false := by rw [e2]; rw [hp] at e3; cases hq : (ins w)[k]?.getD false <;> simp_all
          rw [if_pos rfl, bits_with (fun x => eff x k) (i := w) (by omega) this]
          rw [hp] at hle
          exact w64 (by omega) (by omega)
        | false =>
          have : eff w k = true := by rw [e2]; rw [hp] at e3; cases hq : (ins w)[k]?.getD false <;> simp_all
          rw [if_neg (by simp), bits_off (fun x => eff x k) (i := w) (by omega) this]
          rw [hp] at hle
          exact w64 (by omega) (by omega)
      simp only
      rw [hnew, vk_set n eff w (putB b) hk]
      refine other _ _ (fun x j hxj => by simp [updK, hxj]) (by simp; omega) ?_
      rw [show updK eff w k (putB b) w k = putB b from if_pos ⟨rfl, rfl⟩]
      exact e5 r
    · have hd : doM (vkMem n eff) 3 (cellK n k : Nat) r (chg r) [] = (vkMem n eff, (bitsV fun x => eff x k, false), 0) := by
        unfold doM
        rw [if_pos hr, if_pos hc1, hct, vk_get n eff hk]
        simp only [nextM, hv, if_false, show ¬ ((3 : Int) = 2) by decide, show ¬ ((3 : Int) = 4) by decide, if_true]
        have hs : (vkMem n eff).set (cellK n k) (bitsV fun x => eff x k) = vkMem n eff := by
          rw [← vk_get n eff hk]
          exact set_same _ _ _ (by rw [vk_len]; unfold cellK; omega)
        rw [hs]
      refine .inr ⟨rfl, (bitsV fun x => eff x k, false), by show (doM (vkMem n eff) 3 (cellK n k : Nat) r (chg r) []).2 = _; rw [hd], ?_⟩
      show VkInv n want (t + 1) ins (upd logs w (logs w ++ [(bitsV fun x => eff x k, false)])) nexts (doM (vkMem n eff) 3 (cellK n k : Nat) r (chg r) []).1
      rw [hd]
      exact other eff _ (fun _ _ _ => rfl) (by simp; omega) (e4 _)
def toldB (n : Nat) (ins : Nat → List Bool) : Nat → Nat → Bool := fun w k => decide (w < n) && (ins w)[k]?.getD false
theorem vkMem_congr {f g : Nat → Nat → Bool} (h : ∀ w k, k < 4 → f w k = g w k) : vkMem n f = vkMem n g := by
  have e : ∀ k, k < 4 → (fun w => f w k) = fun w => g w k := fun k hk => funext fun w => h w k hk
  unfold vkMem
  rw [e 0 (by decide), e 1 (by decide), e 2 (by decide), e 3 (by decide)]
/-- When all are at their ends, the memory holds the bits that are told. -/
theorem vk_end (h : VkInv n want t ins logs nexts m) (hall : ∀ w, w < n → ¬ nexts w < (want w).length) : m = vkMem n (toldB n ins) := by
  obtain ⟨eff, rfl, h2, h3⟩ := h
  refine vkMem_congr fun w k hk => ?_
  unfold toldB
  by_cases hw : w < n
  · obtain ⟨_, _, _, h4⟩ := h3 w hw
    rw [if_neg (hall w hw)] at h4
    simp [hw, h4.2 k hk]
  · simp [hw, h2 w (by omega) k]
/-- The operation that a byte tells, as the code asks for it. -/
theorem vk_top (hn : n ≤ 4) (hw : w < n) {b base nn ww : Int} (hb : 0 ≤ b ∧ b ≤ 255) (h1 : base = 4 + 4 * (n : Int)) (h2 : nn = n) (h3 : ww = w) (log : List Tib) :
    viTopM (fun m => IntKind.i64.wrap (withM m ww)) (fun m => IntKind.i64.wrap (offM m ww)) (placeM base 2 ((IntKind.i64.wrap ((IntKind.i64.wrap b).tdiv 4)).tmod 2) 4 2) (placeM base 2 ((IntKind.i64.wrap ((IntKind.i64.wrap b).tdiv 4)).tmod 2) 4 3) (placeM 4 nn ww 4 0) ww (IntKind.i64.wrap (1 + (IntKind.i64.wrap b).tmod 4)) log =
    viM (putB b) (fun v => IntKind.i64.wrap (if putB b = true then withM v (w : Nat) else offM v (w : Nat))) (cellK n (kkB b) : Nat) (w : Nat) log := by
  subst h1 h2 h3
  have e1 : IntKind.i64.wrap b = b := w64 (by omega) (by omega)
  have e2 : b.tdiv 4 = b / 4 := Int.tdiv_eq_ediv_of_nonneg hb.1
  have e3 : b.tmod 4 = b % 4 := Int.tmod_eq_emod_of_nonneg hb.1
  have e4 : IntKind.i64.wrap (b / 4) = b / 4 := w64 (by omega) (by omega)
  have e5 : (b / 4).tmod 2 = b / 4 % 2 := Int.tmod_eq_emod_of_nonneg (by omega)
  have e6 : IntKind.i64.wrap (1 + b % 4) = 1 + b % 4 := w64 (by omega) (by omega)
  rw [e1, e2, e3, e4, e5, e6]
  have p1 : placeM (4 + 4 * (n : Int)) 2 (b / 4 % 2) 4 2 = 4 + 4 * n + 4 * (b / 4 % 2) + 2 := by
    unfold placeM
    rw [if_neg (by omega)]
    simp only [w64_eq]
    omega
  have p2 : placeM (4 + 4 * (n : Int)) 2 (b / 4 % 2) 4 3 = 4 + 4 * n + 4 * (b / 4 % 2) + 3 := by
    unfold placeM
    rw [if_neg (by omega)]
    simp only [w64_eq]
    omega
  have p3 : placeM 4 n w 4 0 = 4 + 4 * w := by
    unfold placeM
    rw [if_neg (by omega), w64 (n := 4 * (w : Int)) (by omega) (by omega), w64 (n := 4 + 4 * (w : Int)) (by omega) (by omega), w64 (by omega) (by omega), Int.add_zero]
  rw [p1, p2, p3]
  have hc : (if 1 + b % 4 ≤ 2 then 4 + 4 * (n : Int) + 4 * (b / 4 % 2) + 2 else 4 + 4 * n + 4 * (b / 4 % 2) + 3) = (cellK n (kkB b) : Nat) := by
    have hq : b / 4 % 2 = 0 ∨ b / 4 % 2 = 1 := by omega
    have hr : b % 4 = 0 ∨ b % 4 = 1 ∨ b % 4 = 2 ∨ b % 4 = 3 := by omega
    unfold cellK kkB
    clear p1 p2 p3 e1 e2 e3 e4 e5 e6
    rcases hq with hq | hq <;> rcases hr with hr | hr | hr | hr <;> rw [hq, hr] <;> simp <;> omega
  unfold viTopM
  rw [hc, if_pos (by omega)]
  by_cases hp : (1 + b % 4) % 2 = 1
  · have : putB b = true := decide_eq_true (by omega)
    rw [if_pos hp, this]
    simp only [eq_self, if_true]
  · have : putB b = false := decide_eq_false (by omega)
    rw [if_neg hp, this]
    simp only [Bool.false_eq_true, if_false]
theorem vk_top2 (hn : n ≤ 4) (hw : w < n) {b base nn ww : Int} (hb : 0 ≤ b ∧ b ≤ 255) (h1 : base = 4 + 4 * (n : Int)) (h2 : nn = n) (h3 : ww = w) (log : List Tib) :
    viTopM (fun m => IntKind.i64.wrap (withM m ww)) (fun m => IntKind.i64.wrap (offM m ww)) (placeM base 2 ((IntKind.i64.wrap (b.tdiv 4)).tmod 2) 4 2) (placeM base 2 ((IntKind.i64.wrap (b.tdiv 4)).tmod 2) 4 3) (placeM 4 nn ww 4 0) ww (IntKind.i64.wrap (1 + b.tmod 4)) log =
    viM (putB b) (fun v => IntKind.i64.wrap (if putB b = true then withM v (w : Nat) else offM v (w : Nat))) (cellK n (kkB b) : Nat) (w : Nat) log := by
  have := vk_top hn hw hb h1 h2 h3 log
  rwa [w64 (n := b) (by omega) (by omega)] at this
theorem kk_eq {b : Int} (hb : 0 ≤ b ∧ b ≤ 255) : IntKind.i64.wrap (IntKind.i64.wrap (2 * (IntKind.i64.wrap (b.tdiv 4)).tmod 2) + IntKind.i64.wrap ((b.tmod 4).tdiv 2)) = (kkB b : Nat) := by
  have e2 : b.tdiv 4 = b / 4 := Int.tdiv_eq_ediv_of_nonneg hb.1
  have e3 : b.tmod 4 = b % 4 := Int.tmod_eq_emod_of_nonneg hb.1
  have e4 : IntKind.i64.wrap (b / 4) = b / 4 := w64 (by omega) (by omega)
  have e5 : (b / 4).tmod 2 = b / 4 % 2 := Int.tmod_eq_emod_of_nonneg (by omega)
  have e6 : (b % 4).tdiv 2 = b % 4 / 2 := Int.tdiv_eq_ediv_of_nonneg (by omega)
  rw [e2, e3, e4, e5, e6, w64 (n := 2 * (b / 4 % 2)) (by omega) (by omega), w64 (n := b % 4 / 2) (by omega) (by omega), w64 (by omega) (by omega)]
  unfold kkB
  omega
theorem put_eq {b : Int} (hb : 0 ≤ b ∧ b ≤ 255) : eqB (b.tmod 2) 0 = putB b := by
  have e3 : b.tmod 2 = b % 2 := Int.tmod_eq_emod_of_nonneg hb.1
  unfold putB
  rw [e3]
  rfl
theorem byte_at {l : List Int} (h : ∀ v ∈ l, 0 ≤ v ∧ v ≤ 255) (i : Nat) : 0 ≤ l[i]?.getD 0 ∧ l[i]?.getD 0 ≤ 255 := by
  rcases Nat.lt_or_ge i l.length with hi | hi
  · rw [List.getElem?_eq_getElem hi]
    exact h _ (List.getElem_mem hi)
  · rw [List.getElem?_eq_none hi]; decide
/-- What is wanted of the memory when the first threads are counted, and of the next one the first masks. -/
def vkP (n : Nat) (f : Nat → Nat → Bool) (w k : Nat) : List Int := vkMem n fun x j => (decide (x < w) || (decide (x = w) && decide (j < k))) && f x j
theorem vkP_len (n : Nat) (f : Nat → Nat → Bool) (w k : Nat) : (vkP n f w k).length = 12 + 4 * n := vk_len _ _
theorem vkP_0 (n : Nat) (f : Nat → Nat → Bool) : vkP n f 0 0 = List.replicate (12 + 4 * n) 0 := by
  rw [← vk_zero]
  exact vkMem_congr fun w k _ => by simp
theorem vkP_next (n : Nat) (f : Nat → Nat → Bool) (w : Nat) : vkP n f w 4 = vkP n f (w + 1) 0 := by
  refine vkMem_congr fun x k hk => ?_
  by_cases h : x < w
  · simp [h, show x < w + 1 by omega]
  · by_cases h2 : x = w
    · subst h2; simp [hk]
    · simp [h, h2, show ¬ x < w + 1 by omega]
theorem vkP_end (n : Nat) (ins : Nat → List Bool) : vkP n (toldB n ins) n 0 = vkMem n (toldB n ins) := by
  refine vkMem_congr fun x k hk => ?_
  by_cases h : x < n
  · simp [h]
  · simp [toldB, h]
theorem vkP_no {f : Nat → Nat → Bool} {w k : Nat} (h : f w k = false) : vkP n f w (k + 1) = vkP n f w k := by
  refine vkMem_congr fun x j hj => ?_
  by_cases h2 : x = w
  · subst h2
    by_cases h3 : j = k
    · subst h3; simp [h]
    · simp [show (j < k + 1) = (j < k) from propext ⟨fun h => by omega, fun h => by omega⟩]
  · simp [h2]
theorem vkP_yes {f : Nat → Nat → Bool} {w k : Nat} (hw : w < 4) (hk : k < 4) (h : f w k = true) : (vkP n f w k).set (cellK n k) ((vkP n f w k)[cellK n k]?.getD 0 + 2 ^ w) = vkP n f w (k + 1) ∧ 0 ≤ (vkP n f w k)[cellK n k]?.getD 0 ∧ (vkP n f w k)[cellK n k]?.getD 0 ≤ 15 := by
  unfold vkP
  rw [vk_get n _ hk]
  refine ⟨?_, bits_le _⟩
  have hf : (fun x => (decide (x < w) || (decide (x = w) && decide (k < k))) && f x k) w = false := by simp
  have hb := bits_with (fun x => (decide (x < w) || (decide (x = w) && decide (k < k))) && f x k) hw hf
  unfold withM at hb
  rw [bits_has _ hw] at hb
  rw [if_neg (by simp)] at hb
  have ho : oneM (w : Nat) = 2 ^ w := by unfold oneM; rw [if_pos ⟨Int.natCast_nonneg _, by omega⟩, Int.toNat_natCast]
  rw [ho] at hb
  rw [hb, vk_set n (fun x j => (decide (x < w) || (decide (x = w) && decide (j < k))) && f x j) w true hk]
  refine vkMem_congr fun x j hj => ?_
  unfold updK
  by_cases h2 : x = w ∧ j = k
  · obtain ⟨rfl, rfl⟩ := h2
    simp [h]
  · rw [if_neg h2]
    by_cases h3 : x = w
    · subst h3
      have : j ≠ k := fun e => h2 ⟨rfl, e⟩
      simp [show (j < k + 1) = (j < k) from propext ⟨fun h => by omega, fun h => by omega⟩]
    · simp [h3]
end
end Go.Proofs.Ytgimbkpfhdodgaa
