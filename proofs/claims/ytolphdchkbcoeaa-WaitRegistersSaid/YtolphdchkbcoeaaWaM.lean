/- The wait operations: what comes next, as a function of the log; how loops over it run. No program in sight. -/
import Derived.Test.YtolphdchkbcoeaaViM
namespace Go.Proofs.Ytolphdchkbcoeaa
set_option linter.unusedVariables false
/-- A bit is set or cleared by rounds of a load and a compare-and-swap; the log's place is counted. -/
def goN (put : Bool) (chg : Int → Int) (cell me : Int) : Nat → List Tib → Nx ⊕ Nat
  | _, [] => .inl (askN 1 cell 0 0)
  | j, [r] => if hasM r.1 me = put then .inr (j + 1) else .inl (askN 3 cell r.1 (chg r.1))
  | j, r :: c :: rest => if hasM r.1 me = put then .inr (j + 1) else if c.2 = true then .inr (j + 2) else goN put chg cell me (j + 2) rest
/-- The same at all cells, one after the other. -/
def allN (put : Bool) (chg : Int → Int) (me : Int) (log : List Tib) : List Int → Nat → Nx ⊕ Nat
  | [], j => .inr j
  | c :: cs, j => match goN put chg c me j (log.drop j) with
    | .inl n => .inl n
    | .inr j' => allN put chg me log cs j'
/-- Words are read and compared. -/
def valN (log : List Tib) : List (Int × Int) → Nat → Nx ⊕ (Bool × Nat)
  | [], j => .inr (true, j)
  | p :: r, j => match log.drop j with
    | [] => .inl (askN 1 p.1 0 0)
    | l :: _ => if l.1 = p.2 then valN log r (j + 1) else .inr (false, j + 1)
def badW (wd : List (Int × Int)) : Bool := wd.any fun p => decide (p.1 < 0)
def outT (is : Bool) : Nx ⊕ Nat → Nx
  | .inl n => n
  | .inr _ => doneN 0 0 is 0
def tailT (chgO : Int → Int) (me : Int) (wt : List Int) (log : List Tib) : Nx ⊕ (Bool × Nat) → Nx
  | .inl n => n
  | .inr (true, _) => doneN 0 0 true 0
  | .inr (false, j) => outT false (allN false chgO me log wt j)
/-- How a watch goes on behind its first access. -/
def watchT (chgO : Int → Int) (me : Int) (wt : List Int) (wd : List (Int × Int)) (log : List Tib) : Nx ⊕ Nat → Nx
  | .inl n => n
  | .inr j => tailT chgO me wt log (valN log wd j)
def waitF (chgW chgO : Int → Int) (wake st me kind : Int) (wt : List Int) (wd : List (Int × Int)) (log : List Tib) : Nx :=
  if (kind = 5 ∨ kind = 6) ∧ 0 ≤ st ∧ badW wd = false then
    (if kind = 5 then (match log with
      | [] => askN 2 wake 0 0
      | _ :: _ => watchT chgO me wt wd log (allN true chgW me log wt 1))
    else (match log with
      | [] => askN 1 wake 0 0
      | r :: _ => if r.1 = 0 then doneN 0 0 false 0 else outT true (allN false chgO me log wt 1)))
  else doneN 0 0 false 1
section
variable {chgW chgO : Int → Int} {wake st me kind : Int} {wt : List Int} {wd : List (Int × Int)} {log : List Tib}
theorem wait_err (h : ¬ ((kind = 5 ∨ kind = 6) ∧ 0 ≤ st ∧ badW wd = false)) : waitF chgW chgO wake st me kind wt wd log = doneN 0 0 false 1 := if_neg h
theorem wait_50 (hk : kind = 5) (hs : 0 ≤ st) (hb : badW wd = false) (hl : log.length = 0) : waitF chgW chgO wake st me kind wt wd log = askN 2 wake 0 0 := by
  unfold waitF
  rw [if_pos ⟨.inl hk, hs, hb⟩, if_pos hk, List.eq_nil_of_length_eq_zero hl]
theorem wait_5 (hk : kind = 5) (hs : 0 ≤ st) (hb : badW wd = false) (hl : 1 ≤ log.length) : waitF chgW chgO wake st me kind wt wd log = watchT chgO me wt wd log (allN true chgW me log wt 1) := by
  unfold waitF
  rw [if_pos ⟨.inl hk, hs, hb⟩, if_pos hk]
  cases log with
  | nil => simp at hl
  | cons r rest => rfl
theorem wait_60 (hk : kind = 6) (hs : 0 ≤ st) (hb : badW wd = false) (hl : log.length = 0) : waitF chgW chgO wake st me kind wt wd log = askN 1 wake 0 0 := by
  unfold waitF
  rw [if_pos ⟨.inr hk, hs, hb⟩, if_neg (by omega), List.eq_nil_of_length_eq_zero hl]
theorem wait_6z (hk : kind = 6) (hs : 0 ≤ st) (hb : badW wd = false) (hl : 1 ≤ log.length) (h0 : (log[0]?.getD dib).1 = 0) : waitF chgW chgO wake st me kind wt wd log = doneN 0 0 false 0 := by
  unfold waitF
  rw [if_pos ⟨.inr hk, hs, hb⟩, if_neg (by omega)]
  cases log with
  | nil => simp at hl
  | cons r rest => exact if_pos h0
theorem wait_6 (hk : kind = 6) (hs : 0 ≤ st) (hb : badW wd = false) (hl : 1 ≤ log.length) (h0 : ¬ (log[0]?.getD dib).1 = 0) : waitF chgW chgO wake st me kind wt wd log = outT true (allN false chgO me log wt 1) := by
  unfold waitF
  rw [if_pos ⟨.inr hk, hs, hb⟩, if_neg (by omega)]
  cases log with
  | nil => simp at hl
  | cons r rest => exact if_neg h0
theorem watch_ok {j : Nat} {b : Nx ⊕ (Bool × Nat)} (h : valN log wd j = b) : watchT chgO me wt wd log (.inr j) = tailT chgO me wt log b := by
  rw [← h]; rfl
end
section
variable {put : Bool} {chg : Int → Int} {c me : Int} {log : List Tib} {j : Nat}
theorem goN_at (j : Nat) : goN put chg c me j (log.drop j) = if log.length ≤ j then .inl (askN 1 c 0 0) else if hasM (log[j]?.getD dib).1 me = put then .inr (j + 1) else if log.length ≤ j + 1 then .inl (askN 3 c (log[j]?.getD dib).1 (chg (log[j]?.getD dib).1)) else if (log[j + 1]?.getD dib).2 = true then .inr (j + 2) else goN put chg c me (j + 2) (log.drop (j + 2)) := by
  by_cases h1 : log.length ≤ j
  · rw [if_pos h1, List.drop_eq_nil_of_le h1]; rfl
  · rw [if_neg h1, List.drop_eq_getElem_cons (by omega)]
    have e1 : log[j]?.getD dib = log[j] := by rw [List.getElem?_eq_getElem (by omega)]; rfl
    by_cases h2 : log.length ≤ j + 1
    · rw [List.drop_eq_nil_of_le h2, if_pos h2, e1]; rfl
    · rw [if_neg h2, List.drop_eq_getElem_cons (by omega)]
      have e2 : log[j + 1]?.getD dib = log[j + 1] := by rw [List.getElem?_eq_getElem (by omega)]; rfl
      rw [e1, e2]; rfl
theorem goN_le : ∀ (d j : Nat), log.length - j ≤ d → j ≤ log.length → ∀ {j' : Nat}, goN put chg c me j (log.drop j) = .inr j' → j' ≤ log.length
  | 0, j, hd, hj, j', h => by rw [goN_at, if_pos (by omega)] at h; cases h
  | d + 1, j, hd, hj, j', h => by
    rw [goN_at] at h
    split at h
    · cases h
    · split at h
      · cases h; omega
      · split at h
        · cases h
        · split at h
          · cases h; omega
          · exact goN_le d (j + 2) (by omega) (by omega) h
theorem goN_len (hj : j ≤ log.length) {j' : Nat} (h : goN put chg c me j (log.drop j) = .inr j') : j' ≤ log.length := goN_le _ j (Nat.le_refl _) hj h
theorem allN_at (wt : List Int) (i j : Nat) : allN put chg me log (wt.drop i) j = if wt.length ≤ i then .inr j else match goN put chg (wt[i]?.getD 0) me j (log.drop j) with | .inl n => .inl n | .inr j' => allN put chg me log (wt.drop (i + 1)) j' := by
  by_cases h : wt.length ≤ i
  · rw [if_pos h, List.drop_eq_nil_of_le h]; rfl
  · rw [if_neg h, List.drop_eq_getElem_cons (by omega)]
    have : wt[i]?.getD 0 = wt[i] := by rw [List.getElem?_eq_getElem (by omega)]; rfl
    rw [this]; rfl
theorem valN_at (wd : List (Int × Int)) (i j : Nat) : valN log (wd.drop i) j = if wd.length ≤ i then .inr (true, j) else if log.length ≤ j then .inl (askN 1 (wd[i]?.getD (0, 0)).1 0 0) else if (log[j]?.getD dib).1 = (wd[i]?.getD (0, 0)).2 then valN log (wd.drop (i + 1)) (j + 1) else .inr (false, j + 1) := by
  by_cases h : wd.length ≤ i
  · rw [if_pos h, List.drop_eq_nil_of_le h]; rfl
  · rw [if_neg h, List.drop_eq_getElem_cons (by omega)]
    have e : wd[i]?.getD (0, 0) = wd[i] := by rw [List.getElem?_eq_getElem (by omega)]; rfl
    rw [e]
    by_cases h1 : log.length ≤ j
    · rw [if_pos h1]
      show (match log.drop j with | [] => _ | l :: _ => _) = _
      rw [List.drop_eq_nil_of_le h1]
    · rw [if_neg h1]
      have e1 : log[j]?.getD dib = log[j] := by rw [List.getElem?_eq_getElem (by omega)]; rfl
      rw [e1]
      show (match log.drop j with | [] => _ | l :: _ => _) = _
      rw [List.drop_eq_getElem_cons (by omega)]
/-- The rounds at one cell, where the next access is asked for at once. -/
theorem rounds_go {B : List DV → List DV → Prop} {R : List DV → Prop} {A : Nx ⊕ Nat} {j0 : Nat} (hj0 : j0 ≤ log.length) (hA : goN put chg c me j0 (log.drop j0) = A)
    (hB : ∀ j : Nat, j + 1 < log.length → ¬ hasM (log[j]?.getD dib).1 me = put → ¬ (log[j + 1]?.getD dib).2 = true → B [.int j] [.int ((j + 2 : Nat) : Int)])
    (h1 : A = .inl (askN 1 c 0 0) → R [.int (log.length : Nat)])
    (h2 : ∀ j : Nat, j < log.length → hasM (log[j]?.getD dib).1 me = put → A = .inr (j + 1) → R [.int j])
    (h3 : ∀ j : Nat, j + 1 = log.length → ¬ hasM (log[j]?.getD dib).1 me = put → A = .inl (askN 3 c (log[j]?.getD dib).1 (chg (log[j]?.getD dib).1)) → R [.int j])
    (h4 : ∀ j : Nat, j + 1 < log.length → ¬ hasM (log[j]?.getD dib).1 me = put → (log[j + 1]?.getD dib).2 = true → A = .inr (j + 2) → R [.int j]) : Rounds B R [.int j0] := by
  refine rounds_inv (fun y => ∃ j : Nat, y = [.int j] ∧ j ≤ log.length ∧ goN put chg c me j (log.drop j) = A) (fun y => log.length - ((y[0]?).getD (DV.int 0)).i.toNat) ⟨j0, rfl, hj0, hA⟩ ?_
  rintro y ⟨j, rfl, hj, h⟩
  rw [goN_at] at h
  by_cases g1 : log.length ≤ j
  · rw [if_pos g1] at h
    have : j = log.length := by omega
    subst this
    exact .inl (h1 h.symm)
  · rw [if_neg g1] at h
    by_cases g2 : hasM (log[j]?.getD dib).1 me = put
    · rw [if_pos g2] at h
      exact .inl (h2 j (by omega) g2 h.symm)
    · rw [if_neg g2] at h
      by_cases g3 : log.length ≤ j + 1
      · rw [if_pos g3] at h
        exact .inl (h3 j (by omega) g2 h.symm)
      · rw [if_neg g3] at h
        by_cases g4 : (log[j + 1]?.getD dib).2 = true
        · rw [if_pos g4] at h
          exact .inl (h4 j (by omega) g2 g4 h.symm)
        · rw [if_neg g4] at h
          refine .inr ⟨_, hB j (by omega) g2 g4, rfl, ⟨j + 2, rfl, by omega, h⟩, ?_⟩
          show log.length - ((j + 2 : Nat) : Int).toNat < log.length - (j : Int).toNat
          omega
/-- The rounds over all cells. -/
theorem rounds_all {B : List DV → List DV → Prop} {R : List DV → Prop} {A : Nx ⊕ Nat} {wt : List Int} {j0 : Nat} (hj0 : j0 ≤ log.length) (hA : allN put chg me log wt j0 = A)
    (hB : ∀ i j j' : Nat, i < wt.length → j ≤ log.length → j' ≤ log.length → goN put chg (wt[i]?.getD 0) me j (log.drop j) = .inr j' → B [.int i, .int j] [.int ((i + 1 : Nat) : Int), .int j'])
    (h1 : ∀ (i j : Nat) (n : Nx), i < wt.length → j ≤ log.length → goN put chg (wt[i]?.getD 0) me j (log.drop j) = .inl n → A = .inl n → R [.int i, .int j])
    (h2 : ∀ j : Nat, j ≤ log.length → A = .inr j → R [.int (wt.length : Nat), .int j]) : Rounds B R [.int 0, .int j0] := by
  refine rounds_inv (fun y => ∃ i j : Nat, y = [.int i, .int j] ∧ i ≤ wt.length ∧ j ≤ log.length ∧ allN put chg me log (wt.drop i) j = A) (fun y => wt.length - ((y[0]?).getD (DV.int 0)).i.toNat) ⟨0, j0, rfl, Nat.zero_le _, hj0, hA⟩ ?_
  rintro y ⟨i, j, rfl, hi, hj, h⟩
  rw [allN_at] at h
  by_cases g1 : wt.length ≤ i
  · rw [if_pos g1] at h
    have : i = wt.length := by omega
    subst this
    exact .inl (h2 j hj h.symm)
  · rw [if_neg g1] at h
    cases hg : goN put chg (wt[i]?.getD 0) me j (log.drop j) with
    | inl n =>
      rw [hg] at h
      exact .inl (h1 i j n (by omega) hj hg h.symm)
    | inr j' =>
      rw [hg] at h
      have hj' := goN_len hj hg
      refine .inr ⟨_, hB i j j' (by omega) hj hj' hg, rfl, ⟨i + 1, j', rfl, by omega, hj', h⟩, ?_⟩
      show wt.length - ((i + 1 : Nat) : Int).toNat < wt.length - (i : Int).toNat
      omega
/-- The rounds that compare words. -/
theorem rounds_val {B : List DV → List DV → Prop} {R : List DV → Prop} {A : Nx ⊕ (Bool × Nat)} {wd : List (Int × Int)} {j0 : Nat} (hj0 : j0 ≤ log.length) (hA : valN log wd j0 = A)
    (hB : ∀ i j : Nat, i < wd.length → j < log.length → (log[j]?.getD dib).1 = (wd[i]?.getD (0, 0)).2 → B [.int i, .int j] [.int ((i + 1 : Nat) : Int), .int ((j + 1 : Nat) : Int)])
    (h1 : ∀ i : Nat, i < wd.length → A = .inl (askN 1 (wd[i]?.getD (0, 0)).1 0 0) → R [.int i, .int (log.length : Nat)])
    (h2 : ∀ i j : Nat, i < wd.length → j < log.length → ¬ (log[j]?.getD dib).1 = (wd[i]?.getD (0, 0)).2 → A = .inr (false, j + 1) → R [.int i, .int j])
    (h3 : ∀ j : Nat, j ≤ log.length → A = .inr (true, j) → R [.int (wd.length : Nat), .int j]) : Rounds B R [.int 0, .int j0] := by
  refine rounds_inv (fun y => ∃ i j : Nat, y = [.int i, .int j] ∧ i ≤ wd.length ∧ j ≤ log.length ∧ valN log (wd.drop i) j = A) (fun y => wd.length - ((y[0]?).getD (DV.int 0)).i.toNat) ⟨0, j0, rfl, Nat.zero_le _, hj0, hA⟩ ?_
  rintro y ⟨i, j, rfl, hi, hj, h⟩
  rw [valN_at] at h
  by_cases g1 : wd.length ≤ i
  · rw [if_pos g1] at h
    have : i = wd.length := by omega
    subst this
    exact .inl (h3 j hj h.symm)
  · rw [if_neg g1] at h
    by_cases g2 : log.length ≤ j
    · rw [if_pos g2] at h
      have : j = log.length := by omega
      subst this
      exact .inl (h1 i (by omega) h.symm)
    · rw [if_neg g2] at h
      by_cases g3 : (log[j]?.getD dib).1 = (wd[i]?.getD (0, 0)).2
      · rw [if_pos g3] at h
        refine .inr ⟨_, hB i j (by omega) (by omega) g3, rfl, ⟨i + 1, j + 1, rfl, by omega, by omega, h⟩, ?_⟩
        show wd.length - ((i + 1 : Nat) : Int).toNat < wd.length - (i : Int).toNat
        omega
      · rw [if_neg g3] at h
        exact .inl (h2 i j (by omega) (by omega) g3 h.symm)
/-- The first word that is none. -/
theorem rounds_bad {B : List DV → List DV → Prop} {R : List DV → Prop} {wd : List (Int × Int)}
    (hB : ∀ i : Nat, i < wd.length → ¬ (wd[i]?.getD (0, 0)).1 < 0 → B [.int i] [.int ((i + 1 : Nat) : Int)])
    (h1 : ∀ i : Nat, i < wd.length → (wd[i]?.getD (0, 0)).1 < 0 → badW wd = true → R [.int i])
    (h2 : badW wd = false → R [.int (wd.length : Nat)]) : Rounds B R [.int 0] := by
  refine rounds_inv (fun y => ∃ i : Nat, y = [.int i] ∧ i ≤ wd.length ∧ badW (wd.drop i) = badW wd) (fun y => wd.length - ((y[0]?).getD (DV.int 0)).i.toNat) ⟨0, rfl, Nat.zero_le _, rfl⟩ ?_
  rintro y ⟨i, rfl, hi, h⟩
  by_cases g1 : wd.length ≤ i
  · have : i = wd.length := by omega
    subst this
    rw [List.drop_eq_nil_of_le (Nat.le_refl _)] at h
    exact .inl (h2 h.symm)
  · rw [List.drop_eq_getElem_cons (by omega)] at h
    have e : wd[i]?.getD (0, 0) = wd[i] := by rw [List.getElem?_eq_getElem (by omega)]; rfl
    unfold badW at h
    rw [List.any_cons] at h
    by_cases g2 : (wd[i]?.getD (0, 0)).1 < 0
    · refine .inl (h1 i (by omega) g2 ?_)
      rw [e] at g2
      unfold badW
      rw [← h, decide_eq_true g2]; rfl
    · refine .inr ⟨_, hB i (by omega) g2, rfl, ⟨i + 1, rfl, by omega, ?_⟩, ?_⟩
      · rw [e] at g2
        rw [decide_eq_false g2, Bool.false_or] at h
        exact h
      · show wd.length - ((i + 1 : Nat) : Int).toNat < wd.length - (i : Int).toNat
        omega
end
end Go.Proofs.Ytolphdchkbcoeaa
