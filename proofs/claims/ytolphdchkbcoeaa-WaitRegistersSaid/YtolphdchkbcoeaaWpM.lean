/- A sleeper that registers, and up to two writers that wake it, in any order of their accesses: what stays true, and that they come to their ends. No program in sight. -/
import Derived.Test.YtolphdchkbcoeaaAcc
import Derived.Test.YtolphdchkbcoeaaWaM
namespace Go.Proofs.Ytolphdchkbcoeaa
set_option linter.unusedVariables false
set_option linter.unusedSimpArgs false
def upW {α : Type} (f : Nat → α) (w : Nat) (v : α) : Nat → α := fun x => if x = w then v else f x
theorem upW_at {α : Type} (f : Nat → α) (w : Nat) (v : α) : upW f w v w = v := if_pos rfl
theorem upW_ne {α : Type} (f : Nat → α) {w x : Nat} (v : α) (h : x ≠ w) : upW f w v x = f x := if_neg h
/-- A writer: how many writes it has begun, the step, the version, whether it has someone to wake. -/
structure Wr where
  next : Nat
  pos : Nat
  ver : Int
  rs : Bool
/-- The clock, the sleeper's wake cell, the words, the masks, the writers. -/
structure Wa where
  c : Nat
  wk : Bool
  wd : Nat → Int
  mb : Nat → Bool
  w : Nat → Wr
def b2n (b : Bool) : Int := if b = true then 1 else 0
def Wa.mem (s : Wa) : List Int := [s.c, 0, 0, 0, 0, 0, b2n s.wk, 0, 0, 0, 0, 0, 0, 0, 0, 0, s.wd 0, 0, 0, b2n (s.mb 0), s.wd 1, 0, 0, b2n (s.mb 1), s.wd 2, 0, 0, b2n (s.mb 2)]
theorem wa_len (s : Wa) : s.mem.length = 28 := rfl
theorem wa_word (s : Wa) {x : Nat} (hx : x < 3) : s.mem[16 + 4 * x]?.getD 0 = s.wd x := by
  match x, hx with
  | 0, _ => rfl
  | 1, _ => rfl
  | 2, _ => rfl
theorem wa_mask (s : Wa) {x : Nat} (hx : x < 3) : s.mem[19 + 4 * x]?.getD 0 = b2n (s.mb x) := by
  match x, hx with
  | 0, _ => rfl
  | 1, _ => rfl
  | 2, _ => rfl
theorem wa_set_word (s : Wa) {x : Nat} (hx : x < 3) (v : Int) : s.mem.set (16 + 4 * x) v = ({ s with wd := upW s.wd x v } : Wa).mem := by
  match x, hx with
  | 0, _ => rfl
  | 1, _ => rfl
  | 2, _ => rfl
theorem wa_set_mask (s : Wa) {x : Nat} (hx : x < 3) (b : Bool) : s.mem.set (19 + 4 * x) (b2n b) = ({ s with mb := upW s.mb x b } : Wa).mem := by
  match x, hx with
  | 0, _ => rfl
  | 1, _ => rfl
  | 2, _ => rfl
theorem wa_w (s : Wa) (f : Nat → Wr) : ({ s with w := f } : Wa).mem = s.mem := rfl
section
variable (s : Wa) {x : Nat} (hx : x < 3)
include hx
theorem acc_mask_load : doM s.mem 1 (19 + 4 * (x : Int)) 0 0 [] = (s.mem, (b2n (s.mb x), true), 0) := by
  rw [do_load (by omega) (by rw [wa_len]; omega), show (19 + 4 * (x : Int)).toNat = 19 + 4 * x by omega, wa_mask s hx]
theorem acc_mask_cas {b : Bool} (b' : Bool) (h : s.mb x = b) : doM s.mem 3 (19 + 4 * (x : Int)) (b2n b) (b2n b') [] = (({ s with mb := upW s.mb x b' } : Wa).mem, (b2n b, true), 0) := by
  rw [do_cas (by omega) (by rw [wa_len]; omega) _ (by rw [show (19 + 4 * (x : Int)).toNat = 19 + 4 * x by omega, wa_mask s hx, h]), show (19 + 4 * (x : Int)).toNat = 19 + 4 * x by omega, wa_set_mask s hx]
theorem acc_word_load : doM s.mem 1 (16 + 4 * (x : Int)) 0 0 [] = (s.mem, (s.wd x, true), 0) := by
  rw [do_load (by omega) (by rw [wa_len]; omega), show (16 + 4 * (x : Int)).toNat = 16 + 4 * x by omega, wa_word s hx]
theorem acc_word_cas {o : Int} (n : Int) (h : s.wd x = o) : doM s.mem 3 (16 + 4 * (x : Int)) o n [] = (({ s with wd := upW s.wd x n } : Wa).mem, (o, true), 0) := by
  rw [do_cas (by omega) (by rw [wa_len]; omega) _ (by rw [show (16 + 4 * (x : Int)).toNat = 16 + 4 * x by omega, wa_word s hx, h]), show (16 + 4 * (x : Int)).toNat = 16 + 4 * x by omega, wa_set_word s hx]
theorem acc_word_no {o : Int} (n : Int) (h : s.wd x ≠ o) : doM s.mem 3 (16 + 4 * (x : Int)) o n [] = (s.mem, (s.wd x, false), 0) := by
  rw [do_cas_no (w := s.wd x) (by omega) (by rw [wa_len]; omega) _ (by rw [show (16 + 4 * (x : Int)).toNat = 16 + 4 * x by omega, wa_word s hx]) h]
theorem acc_word_store (n : Int) : doM s.mem 2 (16 + 4 * (x : Int)) 0 n [] = (({ s with wd := upW s.wd x n } : Wa).mem, (s.wd x, true), 0) := by
  rw [do_store (by omega) (by rw [wa_len]; omega), show (16 + 4 * (x : Int)).toNat = 16 + 4 * x by omega, wa_word s hx, wa_set_word s hx]
end
theorem acc_wake_load (s : Wa) : doM s.mem 1 6 0 0 [] = (s.mem, (b2n s.wk, true), 0) := by
  rw [do_load (by omega) (by rw [wa_len]; omega)]; rfl
theorem acc_wake_store (s : Wa) (b : Bool) : doM s.mem 2 6 0 (b2n b) [] = (({ s with wk := b } : Wa).mem, (b2n s.wk, true), 0) := by
  rw [do_store (by omega) (by rw [wa_len]; omega)]; rfl
theorem acc_clock (s : Wa) (h : s.c ≤ 1000) : doM s.mem 4 0 0 1 [] = (({ s with c := s.c + 1 } : Wa).mem, ((s.c : Int), true), 0) := by
  have hr : rightM 4 0 0 1 [] = true := by decide
  have e : IntKind.i64.wrap ((s.c : Int) + 1) = ((s.c + 1 : Nat) : Int) := w64 (by omega) (by omega)
  have e0 : s.mem[(0 : Int).toNat]?.getD 0 = (s.c : Int) := rfl
  unfold doM
  rw [if_pos hr, if_pos (by rw [wa_len]; omega), e0]
  simp only [nextM, show ¬ ((4 : Int) = 2) by decide, if_false, if_true, e]
  rfl

/-- The location that a writer is at. -/
def locW (want : List Int) (w : Wr) : Nat := (want[if w.pos = 0 then w.next else w.next - 1]?.getD 0).toNat % 3
theorem loc_lt (want : List Int) (w : Wr) : locW want w < 3 := Nat.mod_lt _ (by decide)
def wStep (want : Nat → List Int) (i : Nat) (s : Wa) : Wa :=
  if (s.w i).pos = 0 then
    if (want i).length ≤ (s.w i).next then s else
    if s.wd (locW (want i) (s.w i)) % 2 = 0 then { s with w := upW s.w i { (s.w i) with next := (s.w i).next + 1, pos := 1, ver := s.wd (locW (want i) (s.w i)) } } else s
  else if (s.w i).pos = 1 then
    if s.wd (locW (want i) (s.w i)) = (s.w i).ver then { s with wd := upW s.wd (locW (want i) (s.w i)) (2 * (i : Int) + 3), w := upW s.w i { (s.w i) with pos := 2 } }
    else { s with w := upW s.w i { (s.w i) with next := (s.w i).next - 1, pos := 0 } }
  else if (s.w i).pos = 2 then { s with c := s.c + 1, w := upW s.w i { (s.w i) with pos := 3, ver := (s.c : Int) + 1 } }
  else if (s.w i).pos = 3 then { s with wd := upW s.wd (locW (want i) (s.w i)) (2 * (s.w i).ver), w := upW s.w i { (s.w i) with pos := 4 } }
  else if (s.w i).pos = 4 then { s with w := upW s.w i { (s.w i) with pos := 5, rs := s.mb (locW (want i) (s.w i)) } }
  else { s with wk := s.wk || (s.w i).rs, w := upW s.w i { (s.w i) with pos := 0, rs := false } }
def holdW (w : Wr) : Nat := if w.pos = 1 ∨ w.pos = 2 then 1 else 0
/-- What stays true of the writers. -/
structure WrOk (want : Nat → List Int) (seen : List Nat) (s : Wa) : Prop where
  p5 : ∀ i, i < 2 → (s.w i).pos ≤ 5
  nx : ∀ i, i < 2 → (s.w i).next ≤ (want i).length
  nx1 : ∀ i, i < 2 → (s.w i).pos ≠ 0 → 1 ≤ (s.w i).next
  rs5 : ∀ i, i < 2 → (s.w i).rs = true → (s.w i).pos = 5
  cnt : s.c + holdW (s.w 0) + holdW (s.w 1) = (s.w 0).next + (s.w 1).next
  wd0 : ∀ x, 0 ≤ s.wd x ∧ s.wd x ≤ 100
  ev : ∀ i, i < 2 → (s.w i).pos = 1 → (s.w i).ver % 2 = 0
  vr : ∀ i, i < 2 → (s.w i).pos = 3 → 1 ≤ (s.w i).ver ∧ (s.w i).ver ≤ 9
  own : ∀ i, i < 2 → (s.w i).pos = 2 ∨ (s.w i).pos = 3 → s.wd (locW (want i) (s.w i)) = 2 * (i : Int) + 3
  odd : ∀ x, s.wd x % 2 = 1 → ∃ i, i < 2 ∧ ((s.w i).pos = 2 ∨ (s.w i).pos = 3) ∧ locW (want i) (s.w i) = x
  nz : ∀ i, i < 2 → 2 ≤ (s.w i).pos → s.wd (locW (want i) (s.w i)) ≠ 0
  rsn : ∀ i, i < 2 → (s.w i).rs = true → locW (want i) (s.w i) ∈ seen
  mkn : ∀ x, s.mb x = true → x ∈ seen
  wkn : s.wk = true → ∃ x, x ∈ seen ∧ s.wd x ≠ 0
section
variable {want : Nat → List Int} {seen : List Nat} {s : Wa} {i : Nat}
/-- One writer's state changes, and perhaps a word: what is to be shown. -/
theorem wr_set (h : WrOk want seen s) (hi : i < 2) {w' : Wr} {c' : Nat} {wk' : Bool} {wd' : Nat → Int}
    (q1 : w'.pos ≤ 5) (q2 : w'.next ≤ (want i).length) (q3 : w'.pos ≠ 0 → 1 ≤ w'.next) (q4 : w'.rs = true → w'.pos = 5)
    (q5 : c' + holdW w' + (s.w i).next = s.c + holdW (s.w i) + w'.next)
    (q6 : ∀ x, 0 ≤ wd' x ∧ wd' x ≤ 100) (q7 : w'.pos = 1 → w'.ver % 2 = 0) (q8 : w'.pos = 3 → 1 ≤ w'.ver ∧ w'.ver ≤ 9)
    (q9 : w'.pos = 2 ∨ w'.pos = 3 → wd' (locW (want i) w') = 2 * (i : Int) + 3)
    (q10 : ∀ x, wd' x % 2 = 1 → ((w'.pos = 2 ∨ w'.pos = 3) ∧ locW (want i) w' = x) ∨ (s.wd x % 2 = 1 ∧ ¬ (((s.w i).pos = 2 ∨ (s.w i).pos = 3) ∧ locW (want i) (s.w i) = x)))
    (q11 : 2 ≤ w'.pos → wd' (locW (want i) w') ≠ 0) (q12 : w'.rs = true → locW (want i) w' ∈ seen)
    (q13 : ∀ x, s.wd x ≠ 0 → wd' x ≠ 0) (q14 : ∀ x, wd' x ≠ s.wd x → ∀ j, j < 2 → j ≠ i → (s.w j).pos = 2 ∨ (s.w j).pos = 3 → locW (want j) (s.w j) ≠ x)
    (q15 : wk' = true → s.wk = true ∨ ∃ x, x ∈ seen ∧ wd' x ≠ 0) :
    WrOk want seen { s with c := c', wk := wk', wd := wd', w := upW s.w i w' } := by
  have at' : upW s.w i w' i = w' := upW_at _ _ _
  have ne' : ∀ j, j ≠ i → upW s.w i w' j = s.w j := fun j hj => upW_ne _ _ hj
  refine ⟨fun j hj => ?_, fun j hj => ?_, fun j hj => ?_, fun j hj => ?_, ?_, q6, fun j hj => ?_, fun j hj => ?_, fun j hj => ?_, fun x hx => ?_, fun j hj => ?_, fun j hj => ?_, h.mkn, fun hk => ?_⟩
  · show (upW s.w i w' j).pos ≤ 5
    by_cases e : j = i
    · subst e; rw [at']; exact q1
    · rw [ne' j e]; exact h.p5 j hj
  · show (upW s.w i w' j).next ≤ _
    by_cases e : j = i
    · subst e; rw [at']; exact q2
    · rw [ne' j e]; exact h.nx j hj
  · show (upW s.w i w' j).pos ≠ 0 → 1 ≤ (upW s.w i w' j).next
    by_cases e : j = i
    · subst e; rw [at']; exact q3
    · rw [ne' j e]; exact h.nx1 j hj
  · show (upW s.w i w' j).rs = true → (upW s.w i w' j).pos = 5
    by_cases e : j = i
    · subst e; rw [at']; exact q4
    · rw [ne' j e]; exact h.rs5 j hj
  · show c' + holdW (upW s.w i w' 0) + holdW (upW s.w i w' 1) = (upW s.w i w' 0).next + (upW s.w i w' 1).next
    have hc := h.cnt
    rcases (by omega : i = 0 ∨ i = 1) with rfl | rfl
    · rw [at', ne' 1 (by decide)]; omega
    · rw [at', ne' 0 (by decide)]; omega
  · show (upW s.w i w' j).pos = 1 → (upW s.w i w' j).ver % 2 = 0
    by_cases e : j = i
    · subst e; rw [at']; exact q7
    · rw [ne' j e]; exact h.ev j hj
  · show (upW s.w i w' j).pos = 3 → 1 ≤ (upW s.w i w' j).ver ∧ (upW s.w i w' j).ver ≤ 9
    by_cases e : j = i
    · subst e; rw [at']; exact q8
    · rw [ne' j e]; exact h.vr j hj
  · show (upW s.w i w' j).pos = 2 ∨ (upW s.w i w' j).pos = 3 → wd' (locW (want j) (upW s.w i w' j)) = 2 * (j : Int) + 3
    by_cases e : j = i
    · subst e; rw [at']; exact q9
    · rw [ne' j e]
      intro hp
      have := h.own j hj hp
      by_cases hw : wd' (locW (want j) (s.w j)) = s.wd (locW (want j) (s.w j))
      · rw [hw]; exact this
      · exact absurd rfl (q14 _ hw j hj e hp)
  · show ∃ j, j < 2 ∧ ((upW s.w i w' j).pos = 2 ∨ (upW s.w i w' j).pos = 3) ∧ locW (want j) (upW s.w i w' j) = x
    rcases q10 x hx with hq | ⟨hq, hn⟩
    · exact ⟨i, hi, by rw [at']; exact hq⟩
    · obtain ⟨j, hj, hp, hl⟩ := h.odd x hq
      have e : j ≠ i := fun e => by subst e; exact hn ⟨hp, hl⟩
      exact ⟨j, hj, by rw [ne' j e]; exact ⟨hp, hl⟩⟩
  · show 2 ≤ (upW s.w i w' j).pos → wd' (locW (want j) (upW s.w i w' j)) ≠ 0
    by_cases e : j = i
    · subst e; rw [at']; exact q11
    · rw [ne' j e]; exact fun hp => q13 _ (h.nz j hj hp)
  · show (upW s.w i w' j).rs = true → locW (want j) (upW s.w i w' j) ∈ seen
    by_cases e : j = i
    · subst e; rw [at']; exact q12
    · rw [ne' j e]; exact h.rsn j hj
  · rcases q15 hk with hk | hk
    · obtain ⟨x, hx, hd⟩ := h.wkn hk
      exact ⟨x, hx, q13 x hd⟩
    · exact hk
/-- The steps of a writer, one by one. -/
theorem wr_cases (h : WrOk want seen s) (hi : i < 2) : (s.w i).pos = 0 ∨ (s.w i).pos = 1 ∨ (s.w i).pos = 2 ∨ (s.w i).pos = 3 ∨ (s.w i).pos = 4 ∨ (s.w i).pos = 5 := by
  have := h.p5 i hi; omega
theorem wr_ok (hl : ∀ j, (want j).length ≤ 4) (h : WrOk want seen s) (hi : i < 2) : WrOk want seen (wStep want i s) := by
  have h1 := h.nx i hi
  have h2 := h.nx1 i hi
  have h3 := h.rs5 i hi
  have hw := h.wd0
  have rf : ∀ p : Nat, (s.w i).pos = p → p ≠ 5 → (s.w i).rs = false := fun p hp h5 => by
    cases hr : (s.w i).rs with
    | false => rfl
    | true => exact absurd (hp ▸ h3 hr) h5
  unfold wStep
  rcases wr_cases h hi with p | p | p | p | p | p
  · have hrf := rf 0 p (by decide)
    rw [if_pos p]
    split
    · exact h
    · split
      · rename_i hn he
        refine wr_set (c' := s.c) (wk' := s.wk) (wd' := s.wd) h hi ?_ ?_ ?_ ?_ ?_ hw ?_ ?_ ?_ ?_ ?_ ?_ (fun _ h => h) (fun x hx => absurd rfl hx) .inl <;> (try dsimp only)
        · decide
        · omega
        · intro _; omega
        · intro h; exact absurd (hrf.symm.trans h) (by simp)
        · simp only [holdW, p]; simp; omega
        · intro _; exact he
        · intro h; simp at h
        · intro h; simp at h
        · intro x hx; exact .inr ⟨hx, fun h => by omega⟩
        · intro h; simp at h
        · intro h; exact absurd (hrf.symm.trans h) (by simp)
      · exact h
  · have hrf := rf 1 p (by decide)
    rw [if_neg (by omega), if_pos p]
    have hloc : locW (want i) { (s.w i) with pos := 2 } = locW (want i) (s.w i) := by simp [locW, p]
    split
    · rename_i he
      have hev := h.ev i hi p
      have hwd : ∀ x, x ≠ locW (want i) (s.w i) → upW s.wd (locW (want i) (s.w i)) (2 * (i : Int) + 3) x = s.wd x := fun x hx => upW_ne _ _ hx
      refine wr_set (c' := s.c) (wk' := s.wk) h hi ?_ ?_ ?_ ?_ ?_ ?_ ?_ ?_ ?_ ?_ ?_ ?_ ?_ ?_ .inl <;> (try dsimp only) <;> (try simp only [hloc])
      · decide
      · exact h1
      · intro _; exact h2 (by omega)
      · intro h; exact absurd (hrf.symm.trans h) (by simp)
      · simp [holdW, p]
      · intro x
        by_cases hx : x = locW (want i) (s.w i)
        · subst hx; rw [upW_at]; omega
        · rw [hwd x hx]; exact hw x
      · intro h; simp at h
      · intro h; simp at h
      · intro _; exact upW_at _ _ _
      · intro x hx
        by_cases hxl : locW (want i) (s.w i) = x
        · exact .inl ⟨.inl trivial, hxl⟩
        · rw [hwd x (Ne.symm hxl)] at hx
          exact .inr ⟨hx, fun h => hxl h.2⟩
      · intro _; rw [upW_at]; omega
      · intro h; exact absurd (hrf.symm.trans h) (by simp)
      · intro x hx
        by_cases hxl : x = locW (want i) (s.w i)
        · subst hxl; rw [upW_at]; omega
        · rw [hwd x hxl]; exact hx
      · intro x hx j hj hji hp hlj
        by_cases hxl : x = locW (want i) (s.w i)
        · have ho := h.own j hj hp
          rw [hlj, hxl, he] at ho
          omega
        · exact hx (hwd x hxl)
    · rename_i he
      refine wr_set (c' := s.c) (wk' := s.wk) (wd' := s.wd) h hi ?_ ?_ ?_ ?_ ?_ hw ?_ ?_ ?_ ?_ ?_ ?_ (fun _ h => h) (fun x hx => absurd rfl hx) .inl <;> (try dsimp only)
      · decide
      · omega
      · intro h; exact absurd rfl h
      · intro h; exact absurd (hrf.symm.trans h) (by simp)
      · have := h2 (by omega)
        simp only [holdW, p]; simp; omega
      · intro h; simp at h
      · intro h; simp at h
      · intro h; simp at h
      · intro x hx; exact .inr ⟨hx, fun h => by omega⟩
      · intro h; simp at h
      · intro h; exact absurd (hrf.symm.trans h) (by simp)
  · have hrf := rf 2 p (by decide)
    rw [if_neg (by omega), if_neg (by omega), if_pos p]
    have hloc : locW (want i) { (s.w i) with pos := 3, ver := (s.c : Int) + 1 } = locW (want i) (s.w i) := by simp [locW, p]
    have hc := h.cnt
    have hc8 : s.c ≤ 8 := by
      have a0 := h.nx 0 (by decide)
      have a1 := h.nx 1 (by decide)
      have b0 := hl 0
      have b1 := hl 1
      omega
    refine wr_set (wk' := s.wk) (wd' := s.wd) h hi ?_ ?_ ?_ ?_ ?_ hw ?_ ?_ ?_ ?_ ?_ ?_ (fun _ h => h) (fun x hx => absurd rfl hx) .inl <;> (try dsimp only) <;> (try simp only [hloc])
    · decide
    · exact h1
    · intro _; exact h2 (by omega)
    · intro h; exact absurd (hrf.symm.trans h) (by simp)
    · simp [holdW, p]
    · intro h; simp at h
    · intro _; omega
    · intro _; exact h.own i hi (.inl p)
    · intro x hx
      by_cases hxl : locW (want i) (s.w i) = x
      · exact .inl ⟨.inr trivial, hxl⟩
      · exact .inr ⟨hx, fun h => hxl h.2⟩
    · intro _; exact h.nz i hi (by omega)
    · intro h; exact absurd (hrf.symm.trans h) (by simp)
  · have hrf := rf 3 p (by decide)
    rw [if_neg (by omega), if_neg (by omega), if_neg (by omega), if_pos p]
    have hloc : locW (want i) { (s.w i) with pos := 4 } = locW (want i) (s.w i) := by simp [locW, p]
    have hv := h.vr i hi p
    have hown := h.own i hi (.inr p)
    have hwd : ∀ x, x ≠ locW (want i) (s.w i) → upW s.wd (locW (want i) (s.w i)) (2 * (s.w i).ver) x = s.wd x := fun x hx => upW_ne _ _ hx
    refine wr_set (c' := s.c) (wk' := s.wk) h hi ?_ ?_ ?_ ?_ ?_ ?_ ?_ ?_ ?_ ?_ ?_ ?_ ?_ ?_ .inl <;> (try dsimp only) <;> (try simp only [hloc])
    · decide
    · exact h1
    · intro _; exact h2 (by omega)
    · intro h; exact absurd (hrf.symm.trans h) (by simp)
    · simp [holdW, p]
    · intro x
      by_cases hx : x = locW (want i) (s.w i)
      · subst hx; rw [upW_at]; omega
      · rw [hwd x hx]; exact hw x
    · intro h; simp at h
    · intro h; simp at h
    · intro h; simp at h
    · intro x hx
      by_cases hxl : x = locW (want i) (s.w i)
      · subst hxl; rw [upW_at] at hx; omega
      · rw [hwd x hxl] at hx
        exact .inr ⟨hx, fun h => hxl h.2.symm⟩
    · intro _; rw [upW_at]; omega
    · intro h; exact absurd (hrf.symm.trans h) (by simp)
    · intro x hx
      by_cases hxl : x = locW (want i) (s.w i)
      · subst hxl; rw [upW_at]; omega
      · rw [hwd x hxl]; exact hx
    · intro x hx j hj hji hp hlj
      by_cases hxl : x = locW (want i) (s.w i)
      · have ho := h.own j hj hp
        rw [hlj, hxl, hown] at ho
        omega
      · exact hx (hwd x hxl)
  · have hrf := rf 4 p (by decide)
    rw [if_neg (by omega), if_neg (by omega), if_neg (by omega), if_neg (by omega), if_pos p]
    have hloc : locW (want i) { (s.w i) with pos := 5, rs := s.mb (locW (want i) (s.w i)) } = locW (want i) (s.w i) := by simp [locW, p]
    refine wr_set (c' := s.c) (wk' := s.wk) (wd' := s.wd) h hi ?_ ?_ ?_ ?_ ?_ hw ?_ ?_ ?_ ?_ ?_ ?_ (fun _ h => h) (fun x hx => absurd rfl hx) .inl <;> (try dsimp only) <;> (try simp only [hloc])
    · decide
    · exact h1
    · intro _; exact h2 (by omega)
    · intro _; trivial
    · simp [holdW, p]
    · intro h; simp at h
    · intro h; simp at h
    · intro h; simp at h
    · intro x hx; exact .inr ⟨hx, fun h => by omega⟩
    · intro _; exact h.nz i hi (by omega)
    · intro hm; exact h.mkn _ hm
  · rw [if_neg (by omega), if_neg (by omega), if_neg (by omega), if_neg (by omega), if_neg (by omega)]
    refine wr_set (c' := s.c) (wd' := s.wd) h hi ?_ ?_ ?_ ?_ ?_ hw ?_ ?_ ?_ ?_ ?_ ?_ (fun _ h => h) (fun x hx => absurd rfl hx) ?_
    · simp
    · exact h1
    · intro h; exact absurd rfl h
    · intro h; exact absurd h (by simp)
    · simp [holdW, p]
    · intro h; simp at h
    · intro h; simp at h
    · intro h; simp at h
    · intro x hx; exact .inr ⟨hx, fun h => by omega⟩
    · intro h; simp at h
    · intro h; exact absurd h (by simp)
    · intro hk
      cases hq : s.wk with
      | true => exact .inl rfl
      | false =>
        rw [hq] at hk
        exact .inr ⟨_, h.rsn i hi hk, h.nz i hi (by omega)⟩
end
end Go.Proofs.Ytolphdchkbcoeaa
