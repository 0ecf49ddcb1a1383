/- A sleeper among writers: what stays true, step by step, and how it ends. No program in sight. -/
import Derived.Test.YtolphdchkbcoeaaWpS
namespace Go.Proofs.Ytolphdchkbcoeaa
set_option linter.unusedVariables false
set_option linter.unusedSimpArgs false
/-- Where the sleeper is. -/
inductive Pc where
  | start
  | reg (k : Nat) (c : Bool)
  | val (i : Nat)
  | out (t3 : Bool) (k : Nat) (c : Bool)
  | s0
  | s1
  | ends
def partB (c : Bool) (b : Tib) : List Tib := if c = true then [b] else []
def toldO (t3 : Bool) : Int := if t3 = true then 1 else 0
def LogAt (seen : List Nat) (told kind : Int) (log : List Tib) : Pc → Prop
  | .start => told = 0 ∧ kind = 5 ∧ log = []
  | .reg k c => told = 0 ∧ kind = 5 ∧ k < seen.length ∧ ∃ (h : Tib) (segs : List (List Tib)), (∀ g ∈ segs, SegOk true g) ∧ segs.length = k ∧ log = h :: (segs.flatten ++ partB c (0, true))
  | .val i => told = 0 ∧ kind = 5 ∧ i ≤ seen.length ∧ ∃ (h : Tib) (segs : List (List Tib)) (vals : List Tib), (∀ g ∈ segs, SegOk true g) ∧ segs.length = seen.length ∧ (∀ v ∈ vals, v.1 = 0) ∧ vals.length = i ∧ log = h :: (segs.flatten ++ vals)
  | .out t3 k c => told = toldO t3 ∧ kind = kindO t3 ∧ k ≤ seen.length ∧ (c = true → k < seen.length) ∧ ∃ (pre : List Tib) (os : List (List Tib)), PreO seen t3 pre ∧ (∀ g ∈ os, SegOk false g) ∧ os.length = k ∧ log = pre ++ (os.flatten ++ partB c (1, true))
  | .s0 => told = 1 ∧ kind = 6 ∧ log = []
  | .s1 => told = 1 ∧ kind = 6 ∧ log = [(0, true)]
  | .ends => (told = 2 ∨ told = 3) ∧ log = []
def mkAt (seen : List Nat) (x : Nat) : Pc → Bool
  | .start => false
  | .reg k _ => decide (x ∈ seen.take k)
  | .val _ => decide (x ∈ seen)
  | .out _ k _ => decide (x ∈ seen ∧ x ∉ seen.take k)
  | .s0 => decide (x ∈ seen)
  | .s1 => decide (x ∈ seen)
  | .ends => false
def PendW (want : Nat → List Int) (s : Wa) (x i : Nat) : Prop := locW (want i) (s.w i) = x ∧ ((s.w i).pos = 2 ∨ (s.w i).pos = 3 ∨ (s.w i).pos = 4 ∨ ((s.w i).pos = 5 ∧ (s.w i).rs = true))
def SafeW (want : Nat → List Int) (s : Wa) (V : List Nat) : Prop := ∀ x, x ∈ V → s.wd x = 0 ∨ s.wk = true ∨ ∃ i, i < 2 ∧ PendW want s x i
def ChgW (seen : List Nat) (s : Wa) : Prop := ∃ x, x ∈ seen ∧ s.wd x ≠ 0
def SideAt (want : Nat → List Int) (seen : List Nat) (s : Wa) : Pc → Prop
  | .start => True
  | .reg k c => c = true → s.mb (seen[k]?.getD 0) = false
  | .val i => SafeW want s (seen.take i)
  | .out _ k c => ChgW seen s ∧ (c = true → s.mb (seen[k]?.getD 0) = true)
  | .s0 => SafeW want s seen
  | .s1 => SafeW want s seen
  | .ends => ChgW seen s
structure SlOk (want : Nat → List Int) (seen : List Nat) (s : Wa) (told kind : Int) (log : List Tib) (pc : Pc) : Prop where
  lg : LogAt seen told kind log pc
  mks : ∀ x, s.mb x = mkAt seen x pc
  sd : SideAt want seen s pc
def psi (n : Nat) (wk : Bool) : Pc → Nat
  | .start => 5 * n + 5
  | .reg k c => 2 * (n - k) + 3 * n + 4 - (if c = true then 1 else 0)
  | .val i => (n - i) + 2 * n + 4
  | .out _ k c => 2 * (n - k) + 1 - (if c = true then 1 else 0)
  | .s0 => if wk = true then 2 * n + 2 else 0
  | .s1 => if wk = true then 2 * n + 3 else 0
  | .ends => 0
section
variable {want : Nat → List Int} {seen : List Nat} {s : Wa} {i : Nat} {told kind : Int} {log : List Tib} {pc : Pc}
theorem wr_mb (s : Wa) : (wStep want i s).mb = s.mb := by
  unfold wStep
  repeat' split
  all_goals rfl
theorem wr_nz (h : WrOk want seen s) (hi : i < 2) {x : Nat} (hx : s.wd x ≠ 0) : (wStep want i s).wd x ≠ 0 := by
  unfold wStep
  rcases wr_cases h hi with p | p | p | p | p | p
  · rw [if_pos p]; repeat' split
    all_goals exact hx
  · rw [if_neg (by omega), if_pos p]
    split
    · show upW s.wd (locW (want i) (s.w i)) (2 * (i : Int) + 3) x ≠ 0
      unfold upW
      split
      · omega
      · exact hx
    · exact hx
  · rw [if_neg (by omega), if_neg (by omega), if_pos p]; exact hx
  · rw [if_neg (by omega), if_neg (by omega), if_neg (by omega), if_pos p]
    show upW s.wd (locW (want i) (s.w i)) (2 * (s.w i).ver) x ≠ 0
    have := h.vr i hi p
    unfold upW
    split
    · omega
    · exact hx
  · rw [if_neg (by omega), if_neg (by omega), if_neg (by omega), if_neg (by omega), if_pos p]; exact hx
  · rw [if_neg (by omega), if_neg (by omega), if_neg (by omega), if_neg (by omega), if_neg (by omega)]; exact hx
theorem wr_safe (h : WrOk want seen s) (hi : i < 2) {V : List Nat} (hV : ∀ x, x ∈ V → s.mb x = true) (hs : SafeW want s V) : SafeW want (wStep want i s) V := by
  intro x hx
  have hm := hV x hx
  have other : ∀ (c' : Nat) (wk' : Bool) (wd' : Nat → Int) (w' : Wr) (j : Nat), j ≠ i → PendW want s x j → PendW want { s with c := c', wk := wk', wd := wd', w := upW s.w i w' } x j := fun c' wk' wd' w' j hj hp => by
    unfold PendW
    show locW (want j) (upW s.w i w' j) = x ∧ ((upW s.w i w' j).pos = 2 ∨ (upW s.w i w' j).pos = 3 ∨ (upW s.w i w' j).pos = 4 ∨ ((upW s.w i w' j).pos = 5 ∧ (upW s.w i w' j).rs = true))
    rw [upW_ne _ _ hj]
    exact hp
  have own : ∀ (c' : Nat) (wk' : Bool) (wd' : Nat → Int) (w' : Wr), locW (want i) w' = x ∧ (w'.pos = 2 ∨ w'.pos = 3 ∨ w'.pos = 4 ∨ (w'.pos = 5 ∧ w'.rs = true)) → PendW want { s with c := c', wk := wk', wd := wd', w := upW s.w i w' } x i := fun c' wk' wd' w' hp => by
    unfold PendW
    show locW (want i) (upW s.w i w' i) = x ∧ ((upW s.w i w' i).pos = 2 ∨ (upW s.w i w' i).pos = 3 ∨ (upW s.w i w' i).pos = 4 ∨ ((upW s.w i w' i).pos = 5 ∧ (upW s.w i w' i).rs = true))
    rw [upW_at]
    exact hp
  unfold wStep
  rcases wr_cases h hi with p | p | p | p | p | p
  · rw [if_pos p]
    split
    · exact hs x hx
    · split
      · rcases hs x hx with a | a | ⟨j, hj, a⟩
        · exact .inl a
        · exact .inr (.inl a)
        · refine .inr (.inr ⟨j, hj, other _ _ _ _ _ (fun e => ?_) a⟩)
          subst e
          have := a.2
          omega
      · exact hs x hx
  · rw [if_neg (by omega), if_pos p]
    have hloc : locW (want i) { (s.w i) with pos := 2 } = locW (want i) (s.w i) := by simp [locW, p]
    have no : ∀ j, PendW want s x j → j ≠ i := fun j a e => by
      subst e
      have := a.2
      omega
    split
    · by_cases e : locW (want i) (s.w i) = x
      · exact .inr (.inr ⟨i, hi, own _ _ _ _ ⟨hloc.trans e, .inl rfl⟩⟩)
      · rcases hs x hx with a | a | ⟨j, hj, a⟩
        · refine .inl ?_
          show upW s.wd (locW (want i) (s.w i)) (2 * (i : Int) + 3) x = 0
          rw [upW_ne _ _ (Ne.symm e)]
          exact a
        · exact .inr (.inl a)
        · exact .inr (.inr ⟨j, hj, other _ _ _ _ _ (no j a) a⟩)
    · rcases hs x hx with a | a | ⟨j, hj, a⟩
      · exact .inl a
      · exact .inr (.inl a)
      · exact .inr (.inr ⟨j, hj, other _ _ _ _ _ (no j a) a⟩)
  · rw [if_neg (by omega), if_neg (by omega), if_pos p]
    have hloc : locW (want i) { (s.w i) with pos := 3, ver := (s.c : Int) + 1 } = locW (want i) (s.w i) := by simp [locW, p]
    rcases hs x hx with a | a | ⟨j, hj, a⟩
    · exact .inl a
    · exact .inr (.inl a)
    · by_cases e : j = i
      · subst e
        exact .inr (.inr ⟨j, hj, own _ _ _ _ ⟨hloc.trans a.1, .inr (.inl rfl)⟩⟩)
      · exact .inr (.inr ⟨j, hj, other _ _ _ _ _ e a⟩)
  · rw [if_neg (by omega), if_neg (by omega), if_neg (by omega), if_pos p]
    have hloc : locW (want i) { (s.w i) with pos := 4 } = locW (want i) (s.w i) := by simp [locW, p]
    rcases hs x hx with a | a | ⟨j, hj, a⟩
    · refine .inl ?_
      show upW s.wd (locW (want i) (s.w i)) (2 * (s.w i).ver) x = 0
      rw [upW_ne _ _ (fun e => h.nz i hi (by omega) (by rw [← e]; exact a))]
      exact a
    · exact .inr (.inl a)
    · by_cases e : j = i
      · subst e
        exact .inr (.inr ⟨j, hj, own _ _ _ _ ⟨hloc.trans a.1, .inr (.inr (.inl rfl))⟩⟩)
      · exact .inr (.inr ⟨j, hj, other _ _ _ _ _ e a⟩)
  · rw [if_neg (by omega), if_neg (by omega), if_neg (by omega), if_neg (by omega), if_pos p]
    have hloc : locW (want i) { (s.w i) with pos := 5, rs := s.mb (locW (want i) (s.w i)) } = locW (want i) (s.w i) := by simp [locW, p]
    rcases hs x hx with a | a | ⟨j, hj, a⟩
    · exact .inl a
    · exact .inr (.inl a)
    · by_cases e : j = i
      · subst e
        refine .inr (.inr ⟨j, hj, own _ _ _ _ ⟨hloc.trans a.1, .inr (.inr (.inr ⟨rfl, ?_⟩))⟩⟩)
        show s.mb (locW (want j) (s.w j)) = true
        rw [a.1]
        exact hm
      · exact .inr (.inr ⟨j, hj, other _ _ _ _ _ e a⟩)
  · rw [if_neg (by omega), if_neg (by omega), if_neg (by omega), if_neg (by omega), if_neg (by omega)]
    rcases hs x hx with a | a | ⟨j, hj, a⟩
    · exact .inl a
    · refine .inr (.inl ?_)
      show (s.wk || (s.w i).rs) = true
      rw [a]; rfl
    · by_cases e : j = i
      · subst e
        refine .inr (.inl ?_)
        show (s.wk || (s.w j).rs) = true
        rcases a.2 with q | q | q | q
        · omega
        · omega
        · omega
        · rw [q.2, Bool.or_true]
      · exact .inr (.inr ⟨j, hj, other _ _ _ _ _ e a⟩)
theorem wr_chg (h : WrOk want seen s) (hi : i < 2) (hc : ChgW seen s) : ChgW seen (wStep want i s) := by
  obtain ⟨x, hx, hd⟩ := hc
  exact ⟨x, hx, wr_nz h hi hd⟩
/-- A writer's step leaves the sleeper where it is. -/
theorem wr_sl (h : WrOk want seen s) (hi : i < 2) (hs : SlOk want seen s told kind log pc) : SlOk want seen (wStep want i s) told kind log pc := by
  obtain ⟨a, b, c⟩ := hs
  refine ⟨a, fun x => by rw [wr_mb]; exact b x, ?_⟩
  cases pc with
  | start => trivial
  | reg k cc => intro hc; rw [wr_mb]; exact c hc
  | val k => exact wr_safe h hi (fun x hx => by rw [b x]; exact decide_eq_true (List.mem_of_mem_take hx)) c
  | out t3 k cc => exact ⟨wr_chg h hi c.1, fun hc => by rw [wr_mb]; exact c.2 hc⟩
  | s0 => exact wr_safe h hi (fun x hx => by rw [b x]; exact decide_eq_true hx) c
  | s1 => exact wr_safe h hi (fun x hx => by rw [b x]; exact decide_eq_true hx) c
  | ends => exact wr_chg h hi c
theorem wr_mask (h : WrOk want seen s) {mb' : Nat → Bool} (hm : ∀ x, mb' x = true → x ∈ seen) : WrOk want seen { s with mb := mb' } :=
  ⟨h.p5, h.nx, h.nx1, h.rs5, h.cnt, h.wd0, h.ev, h.vr, h.own, h.odd, h.nz, h.rsn, hm, h.wkn⟩
theorem wr_unwake (h : WrOk want seen s) : WrOk want seen { s with wk := false } :=
  ⟨h.p5, h.nx, h.nx1, h.rs5, h.cnt, h.wd0, h.ev, h.vr, h.own, h.odd, h.nz, h.rsn, h.mkn, (fun hk => by cases hk)⟩
theorem mem_take_next {k : Nat} (hk : k < seen.length) (x : Nat) : x ∈ seen.take (k + 1) ↔ x ∈ seen.take k ∨ x = seen[k]?.getD 0 := by
  rw [List.take_add_one, List.mem_append, List.getElem?_eq_getElem hk]
  simp
theorem seen_at {k : Nat} (hk : k < seen.length) : seen[k]?.getD 0 ∈ seen := by
  rw [List.getElem?_eq_getElem hk]
  exact List.getElem_mem hk
def toldN (kind told : Int) (is : Bool) : Int := if kind = 5 then (if is = true then 1 else 2) else if is = true then 3 else told
def kindN (kind : Int) (is : Bool) : Int := if kind = 5 then (if is = true then 6 else 5) else kind
/-- A step of the sleeper. -/
def StepOk (want : Nat → List Int) (seen : List Nat) (s : Wa) (told kind : Int) (log : List Tib) (pc : Pc) (N : Nx) : Prop :=
  (N.done = true ∧ N.err = 0 ∧ ∃ pc', SlOk want seen s (toldN kind told N.is) (kindN kind N.is) [] pc' ∧ (psi seen.length s.wk pc' + 1 ≤ psi seen.length s.wk pc ∨ psi seen.length s.wk pc' = 0)) ∨
  (N.done = false ∧ ∃ (r : Tib) (s' : Wa) (pc' : Pc), doM s.mem N.k N.c N.o N.n N.s = (s'.mem, r, 0) ∧ s'.w = s.w ∧ s'.wd = s.wd ∧ WrOk want seen s' ∧ SlOk want seen s' told kind (log ++ [r]) pc' ∧ (psi seen.length s'.wk pc' + 1 ≤ psi seen.length s.wk pc ∨ psi seen.length s'.wk pc' = 0))
/-- The next cell to be registered at, or the first word to be read again. -/
def regNext (n k : Nat) : Pc := if k < n then .reg k false else .val 0
theorem reg_next {k : Nat} {h : Tib} {segs : List (List Tib)} (hk : k ≤ seen.length) (h1 : ∀ g ∈ segs, SegOk true g) (h2 : segs.length = k) (hm : ∀ x, s.mb x = decide (x ∈ seen.take k)) (hlog : log = h :: segs.flatten) (ht : told = 0) (hkd : kind = 5) : SlOk want seen s told kind log (regNext seen.length k) := by
  unfold regNext
  by_cases hlt : k < seen.length
  · rw [if_pos hlt]
    exact ⟨⟨ht, hkd, hlt, h, segs, h1, h2, by rw [hlog]; simp [partB]⟩, hm, (fun h => by cases h)⟩
  · rw [if_neg hlt]
    refine ⟨⟨ht, hkd, Nat.zero_le _, h, segs, [], h1, by omega, (fun v hv => by cases hv), rfl, by rw [hlog]; simp⟩, fun x => ?_, fun x hx => by simp at hx⟩
    rw [hm x, show k = seen.length by omega, List.take_length]
    rfl
theorem psi_next {n k : Nat} {wk : Bool} (hk : k < n) : psi n wk (regNext n (k + 1)) + 1 ≤ psi n wk (.reg k true) := by
  unfold regNext
  split
  · simp only [psi]; simp; omega
  · simp only [psi]; simp; omega
theorem psi_next2 {n k : Nat} {wk : Bool} (hk : k < n) : psi n wk (regNext n (k + 1)) + 1 ≤ psi n wk (.reg k false) := by
  have := psi_next (wk := wk) hk
  simp only [psi] at this ⊢
  simp at this ⊢
  omega
theorem snoc_flat {α : Type} (l : List (List α)) (g : List α) : l.flatten ++ g = (l ++ [g]).flatten := by simp
theorem ok_snoc {P : List Tib → Prop} {l : List (List Tib)} {g : List Tib} (h : ∀ x ∈ l, P x) (hg : P g) : ∀ x ∈ l ++ [g], P x := by
  intro x hx
  rcases List.mem_append.1 hx with h1 | h1
  · exact h x h1
  · rw [List.mem_singleton.1 h1]; exact hg
theorem sl_step (h3 : ∀ x ∈ seen, x < 3) (hw : WrOk want seen s) (h : SlOk want seen s told kind log pc) (ht : told ≤ 1) : StepOk want seen s told kind log pc (nxS seen kind log) := by
  obtain ⟨hlg, hmk, hsd⟩ := h
  have lt3 : ∀ k, k < seen.length → seen[k]?.getD 0 < 3 := fun k hk => h3 _ (seen_at hk)
  cases pc with
  | start =>
    obtain ⟨rfl, rfl, rfl⟩ := hlg
    rw [nx_start]
    refine .inr ⟨rfl, _, _, regNext seen.length 0, acc_wake_store s false, rfl, rfl, wr_unwake hw, reg_next (h := (b2n s.wk, true)) (segs := []) (Nat.zero_le _) (fun g hg => by cases hg) rfl (fun x => ?_) rfl rfl rfl, .inl ?_⟩
    · show s.mb x = _
      rw [hmk x]; simp [mkAt]
    · unfold regNext
      split
      · simp only [psi]; simp; omega
      · simp only [psi]; omega
  | reg k c =>
    obtain ⟨rfl, rfl, hk, hd, segs, h1, h2, rfl⟩ := hlg
    subst h2
    have hx := lt3 _ hk
    cases c with
    | false =>
      have e0 : hd :: (segs.flatten ++ partB false (0, true)) = hd :: segs.flatten := by simp [partB]
      rw [e0, nx_reg_load h1 hk]
      refine .inr ⟨rfl, ?_⟩
      cases hb : s.mb (seen[segs.length]?.getD 0) with
      | true =>
        have hacc := acc_mask_load s hx
        rw [hb] at hacc
        refine ⟨_, s, _, hacc, rfl, rfl, hw, reg_next (h := hd) (segs := segs ++ [[(b2n true, true)]]) (by omega) (ok_snoc h1 (.inl ⟨_, rfl, by decide⟩)) (by simp) (fun x => ?_) (by rw [← snoc_flat]; rfl) rfl rfl, .inl (psi_next2 hk)⟩
        rw [hmk x]
        have hin : seen[segs.length]?.getD 0 ∈ seen.take segs.length := by
          have := hmk (seen[segs.length]?.getD 0)
          rw [hb] at this
          exact of_decide_eq_true this.symm
        show decide _ = decide _
        rw [decide_eq_decide, mem_take_next hk]
        exact ⟨.inl, fun h => h.elim id fun e => by rw [e]; exact hin⟩
      | false =>
        have hacc := acc_mask_load s hx
        rw [hb] at hacc
        refine ⟨_, s, .reg segs.length true, hacc, rfl, rfl, hw, ⟨⟨rfl, rfl, hk, hd, segs, h1, rfl, rfl⟩, hmk, fun _ => hb⟩, .inl ?_⟩
        simp only [psi]; simp
    | true =>
      have hb := hsd rfl
      rw [show hd :: (segs.flatten ++ partB true (0, true)) = hd :: (segs.flatten ++ [(0, true)]) from rfl, nx_reg_cas h1 hk]
      refine .inr ⟨rfl, _, _, regNext seen.length (segs.length + 1), acc_mask_cas s hx true hb, rfl, rfl, wr_mask hw (fun x hm => ?_), reg_next (h := hd) (segs := segs ++ [[(0, true), (b2n false, true)]]) (by omega) (ok_snoc h1 (.inr ⟨_, _, rfl, by decide, rfl⟩)) (by simp) (fun x => ?_) (by rw [← snoc_flat]; simp) rfl rfl, .inl (psi_next hk)⟩
      · unfold upW at hm
        split at hm
        · rename_i e; rw [e]; exact seen_at hk
        · exact hw.mkn x hm
      · show upW s.mb (seen[segs.length]?.getD 0) true x = _
        unfold upW
        by_cases e : x = seen[segs.length]?.getD 0
        · rw [if_pos e]
          exact (decide_eq_true ((mem_take_next hk x).2 (.inr e))).symm
        · rw [if_neg e, hmk x]
          show decide _ = decide _
          rw [decide_eq_decide, mem_take_next hk]
          exact ⟨.inl, fun h => h.elim id fun e' => absurd e' e⟩
  | val i =>
    obtain ⟨rfl, rfl, hi, hd, segs, vals, h1, h2, hv, h4, rfl⟩ := hlg
    subst h4
    rcases Nat.lt_or_ge vals.length seen.length with hk | hk
    · have hx := lt3 _ hk
      rw [nx_val h1 h2 hv hk]
      refine .inr ⟨rfl, ?_⟩
      have hacc := acc_word_load s hx
      by_cases h0 : s.wd (seen[vals.length]?.getD 0) = 0
      · refine ⟨_, s, .val (vals.length + 1), hacc, rfl, rfl, hw, ⟨⟨rfl, rfl, hk, hd, segs, vals ++ [(s.wd (seen[vals.length]?.getD 0), true)], h1, h2, fun v hm => ?_, by simp, by simp⟩, hmk, fun x hm => ?_⟩, .inl ?_⟩
        · rcases List.mem_append.1 hm with hm | hm
          · exact hv v hm
          · rw [List.mem_singleton.1 hm]; exact h0
        · rcases (mem_take_next hk x).1 hm with hm | hm
          · exact hsd x hm
          · rw [hm]; exact .inl h0
        · simp only [psi]; omega
      · refine ⟨_, s, .out false 0 false, hacc, rfl, rfl, hw, ⟨⟨rfl, rfl, Nat.zero_le _, (fun h => by cases h), _, [], ⟨hd, segs, vals, (s.wd (seen[vals.length]?.getD 0), true), h1, h2, hv, hk, h0, rfl⟩, (fun g hg => by cases hg), rfl, by simp [partB]⟩, fun x => ?_, ⟨_, seen_at hk, h0⟩, (fun h => by cases h)⟩, .inl ?_⟩
        · rw [hmk x]; simp [mkAt]
        · simp only [psi]; simp; omega
    · have hn : vals.length = seen.length := by omega
      rw [nx_val_end h1 h2 hv hn]
      refine .inl ⟨rfl, rfl, .s0, ⟨⟨rfl, rfl, rfl⟩, hmk, ?_⟩, .inl ?_⟩
      · have : SafeW want s (seen.take vals.length) := hsd
        rw [hn, List.take_length] at this
        exact this
      · simp only [psi]; split <;> omega
  | out t3 k c =>
    obtain ⟨rfl, rfl, hk, hc, pre, os, hp, ho, h2, rfl⟩ := hlg
    subst h2
    obtain ⟨hch, hcc⟩ := hsd
    cases c with
    | false =>
      have e0 : pre ++ (os.flatten ++ partB false (1, true)) = pre ++ os.flatten := by simp [partB]
      rw [e0]
      rcases Nat.lt_or_ge os.length seen.length with hlt | hge
      · have hx := lt3 _ hlt
        rw [nx_out_load hp ho hlt]
        refine .inr ⟨rfl, ?_⟩
        have hacc := acc_mask_load s hx
        cases hb : s.mb (seen[os.length]?.getD 0) with
        | false =>
          rw [hb] at hacc
          refine ⟨_, s, .out t3 (os.length + 1) false, hacc, rfl, rfl, hw, ⟨⟨rfl, rfl, hlt, (fun h => by cases h), pre, os ++ [[(b2n false, true)]], hp, ok_snoc ho (.inl ⟨_, rfl, by decide⟩), by simp, by simp [partB]⟩, fun x => ?_, hch, (fun h => by cases h)⟩, .inl ?_⟩
          · rw [hmk x]
            have hin := hmk (seen[os.length]?.getD 0)
            rw [hb] at hin
            have hin := of_decide_eq_false hin.symm
            have hin : seen[os.length]?.getD 0 ∈ seen.take os.length := Decidable.byContradiction fun h => hin ⟨seen_at hlt, h⟩
            show decide _ = decide _
            rw [decide_eq_decide, mem_take_next hlt]
            refine ⟨fun h => ⟨h.1, fun g => g.elim h.2 fun e => h.2 (by rw [e]; exact hin)⟩, fun h => ⟨h.1, fun g => h.2 (.inl g)⟩⟩
          · simp only [psi]; simp; omega
        | true =>
          rw [hb] at hacc
          refine ⟨_, s, .out t3 os.length true, hacc, rfl, rfl, hw, ⟨⟨rfl, rfl, hk, fun _ => hlt, pre, os, hp, ho, rfl, by simp [partB]; rfl⟩, hmk, hch, fun _ => hb⟩, .inl ?_⟩
          simp only [psi]; simp
      · have hn : os.length = seen.length := by omega
        rw [nx_out_end hp ho hn]
        refine .inl ⟨rfl, rfl, .ends, ⟨⟨?_, rfl⟩, fun x => ?_, hch⟩, .inr rfl⟩
        · cases t3
          · exact .inl rfl
          · exact .inr rfl
        · rw [hmk x]
          show decide _ = false
          rw [hn, List.take_length]
          simp
    | true =>
      have hlt := hc rfl
      have hb := hcc rfl
      have hx := lt3 _ hlt
      rw [show pre ++ (os.flatten ++ partB true (1, true)) = pre ++ (os.flatten ++ [(1, true)]) from rfl, nx_out_cas hp ho hlt]
      refine .inr ⟨rfl, _, _, .out t3 (os.length + 1) false, acc_mask_cas s hx false hb, rfl, rfl, wr_mask hw (fun x hm => ?_), ⟨⟨rfl, rfl, hlt, (fun h => by cases h), pre, os ++ [[(1, true), (b2n true, true)]], hp, ok_snoc ho (.inr ⟨_, _, rfl, by decide, rfl⟩), by simp, by simp [partB]⟩, fun x => ?_, hch, (fun h => by cases h)⟩, .inl ?_⟩
      · unfold upW at hm
        split at hm
        · cases hm
        · exact hw.mkn x hm
      · show upW s.mb (seen[os.length]?.getD 0) false x = _
        unfold upW
        by_cases e : x = seen[os.length]?.getD 0
        · rw [if_pos e]
          exact (decide_eq_false fun h => h.2 ((mem_take_next hlt x).2 (.inr e))).symm
        · rw [if_neg e, hmk x]
          show decide _ = decide _
          rw [decide_eq_decide, mem_take_next hlt]
          exact ⟨fun h => ⟨h.1, fun g => g.elim h.2 e⟩, fun h => ⟨h.1, fun g => h.2 (.inl g)⟩⟩
      · simp only [psi]; simp; omega
  | s0 =>
    obtain ⟨rfl, rfl, rfl⟩ := hlg
    rw [nx_s0]
    refine .inr ⟨rfl, ?_⟩
    have hacc := acc_wake_load s
    cases hb : s.wk with
    | true =>
      rw [hb] at hacc
      refine ⟨_, s, .out true 0 false, hacc, rfl, rfl, hw, ⟨⟨rfl, rfl, Nat.zero_le _, (fun h => by cases h), [(1, true)], [], rfl, (fun g hg => by cases hg), rfl, rfl⟩, fun x => ?_, hw.wkn hb, (fun h => by cases h)⟩, .inl ?_⟩
      · rw [hmk x]; simp [mkAt]
      · simp only [psi]; simp
    | false =>
      rw [hb] at hacc
      refine ⟨_, s, .s1, hacc, rfl, rfl, hw, ⟨⟨rfl, rfl, rfl⟩, hmk, hsd⟩, .inr ?_⟩
      simp only [psi, hb]; simp
  | s1 =>
    obtain ⟨rfl, rfl, rfl⟩ := hlg
    rw [nx_s1]
    refine .inl ⟨rfl, rfl, .s0, ⟨⟨rfl, rfl, rfl⟩, hmk, hsd⟩, ?_⟩
    simp only [psi]
    cases s.wk <;> simp
  | ends =>
    obtain ⟨h, _⟩ := hlg
    omega
/-- The end: the sleeper sleeps exactly if nothing changed, and its masks say so. -/
theorem sl_end (hw : WrOk want seen s) (h : SlOk want seen s told kind log pc) (h0 : EndW want s 0) (h1 : EndW want s 1) (hp : psi seen.length s.wk pc = 0) :
    (told = 1 ∧ (∀ x, x ∈ seen → s.wd x = 0) ∧ ∀ x, s.mb x = decide (x ∈ seen)) ∨ ((told = 2 ∨ told = 3) ∧ ChgW seen s ∧ ∀ x, s.mb x = false) := by
  obtain ⟨hlg, hmk, hsd⟩ := h
  have safe : s.wk = false → SafeW want s seen → ∀ x, x ∈ seen → s.wd x = 0 := fun hk hs x hx => by
    rcases hs x hx with a | a | ⟨j, hj, _, a⟩
    · exact a
    · rw [hk] at a; cases a
    · have e0 := h0.1
      have e1 := h1.1
      rcases (by omega : j = 0 ∨ j = 1) with rfl | rfl <;> omega
  cases pc with
  | start => simp only [psi] at hp; omega
  | reg k c => simp only [psi] at hp; split at hp <;> omega
  | val i => simp only [psi] at hp; omega
  | out t3 k c =>
    obtain ⟨_, _, hk, hc, _⟩ := hlg
    cases c with
    | false => simp [psi] at hp
    | true => have := hc rfl; simp only [psi] at hp; simp at hp; omega
  | s0 =>
    have hk : s.wk = false := by cases hb : s.wk with | false => rfl | true => rw [hb] at hp; simp [psi] at hp
    exact .inl ⟨hlg.1, safe hk hsd, hmk⟩
  | s1 =>
    have hk : s.wk = false := by cases hb : s.wk with | false => rfl | true => rw [hb] at hp; simp [psi] at hp
    exact .inl ⟨hlg.1, safe hk hsd, hmk⟩
  | ends => exact .inr ⟨hlg.1, hsd, hmk⟩
theorem psi_le {n : Nat} (wk : Bool) (pc : Pc) (hn : n ≤ 4) : psi n wk pc ≤ 25 := by
  cases pc <;> simp only [psi] <;> (repeat' split) <;> omega
end
end Go.Proofs.Ytolphdchkbcoeaa
