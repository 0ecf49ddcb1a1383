/- The writers come to their ends; what the sleeper's log says. No program in sight. -/
import Derived.Test.YtolphdchkbcoeaaWpM
namespace Go.Proofs.Ytolphdchkbcoeaa
set_option linter.unusedVariables false
set_option linter.unusedSimpArgs false
def phiW (want : List Int) (wd : Nat → Int) (w : Wr) : Nat :=
  10 * (want.length - w.next) + (if w.pos = 0 then 0 else if w.pos = 1 then (if wd (locW want w) = w.ver then 9 else 11) else if w.pos = 2 then 6 else if w.pos = 3 then 5 else if w.pos = 4 then 2 else 1)
def phiA (want : Nat → List Int) (s : Wa) : Nat := phiW (want 0) s.wd (s.w 0) + phiW (want 1) s.wd (s.w 1)
def EndW (want : Nat → List Int) (s : Wa) (i : Nat) : Prop := (s.w i).pos = 0 ∧ (want i).length ≤ (s.w i).next
def roundW (want : Nat → List Int) (s : Wa) : Wa := wStep want 1 (wStep want 0 s)
section
variable {want : Nat → List Int} {seen : List Nat} {s : Wa} {i : Nat}
theorem phi_split (hi : i < 2) (s : Wa) : phiA want s = phiW (want i) s.wd (s.w i) + phiW (want (1 - i)) s.wd (s.w (1 - i)) := by
  unfold phiA
  rcases (by omega : i = 0 ∨ i = 1) with rfl | rfl
  · rfl
  · rw [Nat.add_comm]
theorem phi_wd (l : List Int) (wd wd' : Nat → Int) (w : Wr) : phiW l wd' w ≤ phiW l wd w + 2 := by
  unfold phiW
  repeat' split
  all_goals omega
theorem end_step (h : EndW want s i) : wStep want i s = s := by
  unfold wStep
  rw [if_pos h.1, if_pos h.2]
theorem wr_phi (h : WrOk want seen s) (hi : i < 2) : EndW want s i ∨ ((s.w i).pos = 0 ∧ wStep want i s = s ∧ ∃ j, j < 2 ∧ j ≠ i ∧ ((s.w j).pos = 2 ∨ (s.w j).pos = 3)) ∨ phiA want (wStep want i s) + 1 ≤ phiA want s := by
  have h1 := h.nx i hi
  have h2 := h.nx1 i hi
  have ho : (1 - i) ≠ i := by omega
  -- what another state of this writer weighs
  have key : ∀ (w' : Wr) (c' : Nat) (wk' : Bool) (wd' : Nat → Int) (d : Nat), phiW (want i) wd' w' + 1 + d ≤ phiW (want i) s.wd (s.w i) → (wd' = s.wd ∨ d = 2) → phiA want { s with c := c', wk := wk', wd := wd', w := upW s.w i w' } + 1 ≤ phiA want s := by
    intro w' c' wk' wd' d hd hw
    rw [phi_split hi, phi_split hi s]
    show phiW (want i) wd' (upW s.w i w' i) + phiW (want (1 - i)) wd' (upW s.w i w' (1 - i)) + 1 ≤ _
    rw [upW_at, upW_ne _ _ ho]
    rcases hw with rfl | rfl
    · omega
    · have := phi_wd (want (1 - i)) s.wd wd' (s.w (1 - i))
      omega
  unfold wStep
  rcases wr_cases h hi with p | p | p | p | p | p
  · rw [if_pos p]
    by_cases hn : (want i).length ≤ (s.w i).next
    · exact .inl ⟨p, hn⟩
    · rw [if_neg hn]
      by_cases he : s.wd (locW (want i) (s.w i)) % 2 = 0
      · rw [if_pos he]
        refine .inr (.inr (key _ _ _ _ 0 ?_ (.inl rfl)))
        have hloc : locW (want i) { (s.w i) with next := (s.w i).next + 1, pos := 1, ver := s.wd (locW (want i) (s.w i)) } = locW (want i) (s.w i) := by simp [locW, p]
        unfold phiW
        rw [hloc]
        simp only [p]
        simp
        omega
      · rw [if_neg he]
        have hx := h.wd0 (locW (want i) (s.w i))
        obtain ⟨j, hj, hp, _⟩ := h.odd (locW (want i) (s.w i)) (by omega)
        exact .inr (.inl ⟨p, rfl, j, hj, fun e => by subst e; omega, hp⟩)
  · rw [if_neg (by omega), if_pos p]
    refine .inr (.inr ?_)
    by_cases he : s.wd (locW (want i) (s.w i)) = (s.w i).ver
    · rw [if_pos he]
      refine key _ _ _ _ 2 ?_ (.inr rfl)
      unfold phiW
      simp only [p, he]
      simp
    · rw [if_neg he]
      refine key _ _ _ _ 0 ?_ (.inl rfl)
      have := h2 (by omega)
      unfold phiW
      simp only [p, he]
      simp
      omega
  · rw [if_neg (by omega), if_neg (by omega), if_pos p]
    refine .inr (.inr (key _ _ _ _ 0 ?_ (.inl rfl)))
    unfold phiW
    simp only [p]
    simp
  · rw [if_neg (by omega), if_neg (by omega), if_neg (by omega), if_pos p]
    refine .inr (.inr (key _ _ _ _ 2 ?_ (.inr rfl)))
    unfold phiW
    simp only [p]
    simp
  · rw [if_neg (by omega), if_neg (by omega), if_neg (by omega), if_neg (by omega), if_pos p]
    refine .inr (.inr (key _ _ _ _ 0 ?_ (.inl rfl)))
    unfold phiW
    simp only [p]
    simp
  · rw [if_neg (by omega), if_neg (by omega), if_neg (by omega), if_neg (by omega), if_neg (by omega)]
    refine .inr (.inr (key _ _ _ _ 0 ?_ (.inl rfl)))
    unfold phiW
    simp only [p]
    simp
theorem round_phi (hl : ∀ j, (want j).length ≤ 4) (h : WrOk want seen s) : (EndW want s 0 ∧ EndW want s 1) ∨ phiA want (roundW want s) + 1 ≤ phiA want s := by
  unfold roundW
  have hs := wr_ok hl h (i := 0) (by decide)
  rcases wr_phi h (i := 0) (by decide) with a | ⟨a, a2, j, hj, hj0, hp⟩ | a
  · rw [end_step a]
    rcases wr_phi h (i := 1) (by decide) with b | ⟨b, _, j, hj, hj1, hp⟩ | b
    · exact .inl ⟨a, b⟩
    · obtain rfl : j = 0 := by omega
      have := a.1
      omega
    · exact .inr b
  · obtain rfl : j = 1 := by omega
    rw [a2]
    rcases wr_phi h (i := 1) (by decide) with b | ⟨b, _⟩ | b
    · have := b.1; omega
    · omega
    · exact .inr b
  · rcases wr_phi hs (i := 1) (by decide) with b | ⟨_, b, _⟩ | b
    · rw [end_step b]; exact .inr a
    · rw [b]; exact .inr a
    · exact .inr (by omega)
theorem round_ok (hl : ∀ j, (want j).length ≤ 4) (h : WrOk want seen s) : WrOk want seen (roundW want s) := wr_ok hl (wr_ok hl h (by decide)) (by decide)
theorem round_end (h : EndW want s 0 ∧ EndW want s 1) : roundW want s = s := by
  unfold roundW
  rw [end_step h.1, end_step h.2]
theorem phiW_le {l : List Int} (wd : Nat → Int) {w : Wr} (hl : l.length ≤ 4) (hp : w.pos ≠ 0 → 1 ≤ w.next) : phiW l wd w ≤ 41 := by
  unfold phiW
  repeat' split
  all_goals omega
theorem phi_le (hl : ∀ j, (want j).length ≤ 4) (h : WrOk want seen s) : phiA want s ≤ 82 := by
  have := phiW_le s.wd (hl 0) (h.nx1 0 (by decide))
  have := phiW_le s.wd (hl 1) (h.nx1 1 (by decide))
  unfold phiA
  omega
theorem idle_end (h : WrOk want seen s) (hi : i < 2) (hw : want i = []) : EndW want s i := by
  have h1 := h.nx i hi
  have h2 := h.nx1 i hi
  rw [hw] at h1
  have h1 : (s.w i).next ≤ 0 := h1
  refine ⟨?_, by rw [hw]; exact Nat.zero_le _⟩
  rcases Nat.eq_zero_or_pos (s.w i).pos with e | e
  · exact e
  · have := h2 (by omega); omega
/-- The rounds at the end. -/
theorem round_down (hl : ∀ j, (want j).length ≤ 4) (h : WrOk want seen s) {j : Nat} (hj : (EndW want s 0 ∧ EndW want s 1) ∨ phiA want s + j ≤ 82) : (EndW want (roundW want s) 0 ∧ EndW want (roundW want s) 1) ∨ phiA want (roundW want s) + (j + 1) ≤ 82 := by
  rcases hj with e | e
  · rw [round_end e]; exact .inl e
  · rcases round_phi hl h with e2 | e2
    · rw [round_end e2]; exact .inl e2
    · exact .inr (by omega)
end

/-- What a log says of one cell: it is as wanted, or it was changed. -/
def SegOk (put : Bool) (g : List Tib) : Prop := (∃ r : Tib, g = [r] ∧ hasM r.1 0 = put) ∨ ∃ r c : Tib, g = [r, c] ∧ ¬ hasM r.1 0 = put ∧ c.2 = true
section
variable {put : Bool} {chg : Int → Int}
theorem go_seg {g : List Tib} (h : SegOk put g) (cell : Int) (rest : List Tib) (j : Nat) : goN put chg cell 0 j (g ++ rest) = .inr (j + g.length) := by
  rcases h with ⟨r, rfl, hr⟩ | ⟨r, c, rfl, hr, hc⟩
  · cases rest with
    | nil =>
      show goN put chg cell 0 j [r] = _
      unfold goN
      rw [if_pos hr]; rfl
    | cons x rest =>
      show goN put chg cell 0 j (r :: x :: rest) = _
      unfold goN
      rw [if_pos hr]; rfl
  · show goN put chg cell 0 j (r :: c :: rest) = _
    unfold goN
    rw [if_neg hr, if_pos hc]; rfl
theorem all_segs {log rest : List Tib} : ∀ (segs : List (List Tib)) (pre : List Tib) (wt : List Int), (∀ g ∈ segs, SegOk put g) → segs.length ≤ wt.length → log = pre ++ (segs.flatten ++ rest) →
    allN put chg 0 log wt pre.length = allN put chg 0 log (wt.drop segs.length) (pre ++ segs.flatten).length
  | [], pre, wt, _, _, _ => by simp
  | g :: gs, pre, [], _, h, _ => by simp at h
  | g :: gs, pre, c :: cs, hs, h, hl => by
    have hd : log.drop pre.length = g ++ (gs.flatten ++ rest) := by rw [hl, List.drop_left]; simp
    rw [allN, hd, go_seg (hs g (by simp))]
    have := all_segs (log := log) (rest := rest) gs (pre ++ g) cs (fun x hx => hs x (by simp [hx])) (by simpa using h) (by rw [hl]; simp)
    simp only [List.length_append] at this ⊢
    simp only [this, List.flatten_cons, List.length_append, List.length_cons, List.drop_succ_cons, Nat.add_assoc]
theorem all_load {log : List Tib} {c : Int} {cs : List Int} {j : Nat} (h : log.drop j = []) : allN put chg 0 log (c :: cs) j = .inl (askN 1 c 0 0) := by
  rw [allN, h]; rfl
theorem all_cas {log : List Tib} {c : Int} {cs : List Int} {j : Nat} {r : Tib} (h : log.drop j = [r]) (hr : ¬ hasM r.1 0 = put) : allN put chg 0 log (c :: cs) j = .inl (askN 3 c r.1 (chg r.1)) := by
  rw [allN, h, goN, if_neg hr]
theorem val_run {log rest : List Tib} : ∀ (vals : List Tib) (pre : List Tib) (wd : List (Int × Int)), (∀ v ∈ vals, v.1 = 0) → (∀ p ∈ wd, p.2 = 0) → vals.length ≤ wd.length → log = pre ++ (vals ++ rest) →
    valN log wd pre.length = valN log (wd.drop vals.length) (pre ++ vals).length
  | [], pre, wd, _, _, _, _ => by simp
  | v :: vs, pre, [], _, _, h, _ => by simp at h
  | v :: vs, pre, p :: ps, hv, hp, h, hl => by
    have hd : log.drop pre.length = v :: (vs ++ rest) := by rw [hl, List.drop_left]; rfl
    have he : v.1 = p.2 := by rw [hv v (by simp), hp p (by simp)]
    rw [valN, hd]
    simp only [he, if_true]
    have := val_run (log := log) (rest := rest) vs (pre ++ [v]) ps (fun x hx => hv x (by simp [hx])) (fun x hx => hp x (by simp [hx])) (by simpa using h) (by rw [hl]; simp)
    simp only [List.length_append, List.length_cons, List.length_nil] at this ⊢
    rw [this]
    simp only [List.drop_succ_cons]
    congr 1
    omega
end
def wtS (seen : List Nat) : List Int := seen.map fun (x : Nat) => 19 + 4 * (x : Int)
def wdS (seen : List Nat) : List (Int × Int) := seen.map fun (x : Nat) => (16 + 4 * (x : Int), 0)
theorem wtS_drop {seen : List Nat} {k : Nat} (h : k < seen.length) : (wtS seen).drop k = (19 + 4 * ((seen[k]?.getD 0 : Nat) : Int)) :: (wtS seen).drop (k + 1) := by
  unfold wtS
  rw [List.drop_eq_getElem_cons (by simpa using h)]
  simp [List.getElem?_eq_getElem h]
theorem wdS_drop {seen : List Nat} {k : Nat} (h : k < seen.length) : (wdS seen).drop k = (16 + 4 * ((seen[k]?.getD 0 : Nat) : Int), 0) :: (wdS seen).drop (k + 1) := by
  unfold wdS
  rw [List.drop_eq_getElem_cons (by simpa using h)]
  simp [List.getElem?_eq_getElem h]
theorem wdS_bad (seen : List Nat) : badW (wdS seen) = false := by
  unfold badW wdS
  rw [List.any_map, List.any_eq_false]
  intro x _
  simp
  omega
theorem wdS_zero (seen : List Nat) : ∀ p ∈ wdS seen, p.2 = 0 := by
  intro p hp
  obtain ⟨x, _, rfl⟩ := List.mem_map.1 hp
  rfl
theorem wtS_len (seen : List Nat) : (wtS seen).length = seen.length := by unfold wtS; rw [List.length_map]
theorem wdS_len (seen : List Nat) : (wdS seen).length = seen.length := by unfold wdS; rw [List.length_map]
/-- The sleeper's next step. -/
def nxS (seen : List Nat) (kind : Int) (log : List Tib) : Nx := waitF (fun m => IntKind.i64.wrap (withM m 0)) (fun m => IntKind.i64.wrap (offM m 0)) 6 4 0 kind (wtS seen) (wdS seen) log
theorem has_b2n (b : Bool) : hasM (b2n b) 0 = b := by cases b <;> decide
theorem with_0 : IntKind.i64.wrap (withM 0 0) = 1 := by decide
theorem off_1 : IntKind.i64.wrap (offM 1 0) = 0 := by decide
section
variable {seen : List Nat} {h : Tib} {segs os : List (List Tib)} {vals : List Tib} {bad : Tib}
theorem nx_watch (log : List Tib) (hl : 1 ≤ log.length) : nxS seen 5 log = watchT (fun m => IntKind.i64.wrap (offM m 0)) 0 (wtS seen) (wdS seen) log (allN true (fun m => IntKind.i64.wrap (withM m 0)) 0 log (wtS seen) 1) := wait_5 rfl (by decide) (wdS_bad seen) hl
theorem nx_start : nxS seen 5 [] = askN 2 6 0 0 := wait_50 rfl (by decide) (wdS_bad seen) rfl
section
variable (hs : ∀ g ∈ segs, SegOk true g)
include hs
theorem nx_reg_load (hk : segs.length < seen.length) : nxS seen 5 (h :: segs.flatten) = askN 1 (19 + 4 * ((seen[segs.length]?.getD 0 : Nat) : Int)) 0 0 := by
  rw [nx_watch _ (by simp)]
  have := all_segs (chg := fun m => IntKind.i64.wrap (withM m 0)) (log := h :: segs.flatten) (rest := []) segs [h] (wtS seen) hs (by rw [wtS_len]; omega) (by simp)
  rw [show ([h] : List Tib).length = 1 from rfl] at this
  rw [this, wtS_drop hk, all_load (by simp)]
  rfl
theorem nx_reg_cas (hk : segs.length < seen.length) : nxS seen 5 (h :: (segs.flatten ++ [(0, true)])) = askN 3 (19 + 4 * ((seen[segs.length]?.getD 0 : Nat) : Int)) 0 1 := by
  rw [nx_watch _ (by simp)]
  have := all_segs (chg := fun m => IntKind.i64.wrap (withM m 0)) (log := h :: (segs.flatten ++ [(0, true)])) (rest := [(0, true)]) segs [h] (wtS seen) hs (by rw [wtS_len]; omega) (by simp)
  rw [show ([h] : List Tib).length = 1 from rfl] at this
  rw [this, wtS_drop hk, all_cas (r := (0, true)) (by simp [List.drop_append]) (by decide)]
  show askN 3 _ 0 (IntKind.i64.wrap (withM 0 0)) = _
  rw [with_0]
variable (hn : segs.length = seen.length) (hv : ∀ v ∈ vals, v.1 = 0)
include hn hv
theorem nx_vals (rest : List Tib) (hi : vals.length ≤ seen.length) : nxS seen 5 (h :: (segs.flatten ++ (vals ++ rest))) = tailT (fun m => IntKind.i64.wrap (offM m 0)) 0 (wtS seen) (h :: (segs.flatten ++ (vals ++ rest))) (valN (h :: (segs.flatten ++ (vals ++ rest))) ((wdS seen).drop vals.length) (h :: (segs.flatten ++ vals)).length) := by
  rw [nx_watch _ (by simp)]
  have := all_segs (chg := fun m => IntKind.i64.wrap (withM m 0)) (log := h :: (segs.flatten ++ (vals ++ rest))) (rest := vals ++ rest) segs [h] (wtS seen) hs (by rw [wtS_len]; omega) (by simp)
  rw [show ([h] : List Tib).length = 1 from rfl] at this
  rw [this, hn, ← wtS_len, List.drop_length]
  show tailT _ _ _ _ (valN _ _ _) = _
  rw [val_run vals ([h] ++ segs.flatten) (wdS seen) (rest := rest) hv (wdS_zero seen) (by rw [wdS_len]; exact hi) (by simp)]
  simp only [List.cons_append, List.nil_append, List.append_assoc]
theorem nx_val (hi : vals.length < seen.length) : nxS seen 5 (h :: (segs.flatten ++ vals)) = askN 1 (16 + 4 * ((seen[vals.length]?.getD 0 : Nat) : Int)) 0 0 := by
  have := nx_vals (h := h) hs hn hv [] (by omega)
  rw [List.append_nil] at this
  rw [this, wdS_drop hi, valN]
  simp only [List.drop_length]
  rfl
theorem nx_val_end (hi : vals.length = seen.length) : nxS seen 5 (h :: (segs.flatten ++ vals)) = doneN 0 0 true 0 := by
  have := nx_vals (h := h) hs hn hv [] (by omega)
  rw [List.append_nil] at this
  rw [this, hi, ← wdS_len, List.drop_length]
  rfl
theorem nx_bad (rest : List Tib) (hi : vals.length < seen.length) (hb : bad.1 ≠ 0) : nxS seen 5 ((h :: (segs.flatten ++ (vals ++ [bad]))) ++ rest) = outT false (allN false (fun m => IntKind.i64.wrap (offM m 0)) 0 ((h :: (segs.flatten ++ (vals ++ [bad]))) ++ rest) (wtS seen) (h :: (segs.flatten ++ (vals ++ [bad]))).length) := by
  have := nx_vals (h := h) hs hn hv (bad :: rest) (by omega)
  have e : (h :: (segs.flatten ++ (vals ++ [bad]))) ++ rest = h :: (segs.flatten ++ (vals ++ bad :: rest)) := by simp
  rw [e, this, wdS_drop hi, valN]
  have hd : (h :: (segs.flatten ++ (vals ++ bad :: rest))).drop (h :: (segs.flatten ++ vals)).length = bad :: rest := by
    rw [show h :: (segs.flatten ++ (vals ++ bad :: rest)) = (h :: (segs.flatten ++ vals)) ++ bad :: rest by simp, List.drop_left]
  rw [hd]
  simp only [hb, if_false]
  show outT false (allN _ _ _ _ _ _) = _
  congr 2
  simp [Nat.add_assoc]
end
/-- The log ahead of the clearing of the masks: the words did not stay, or the sleeper was woken. -/
def Pre5 (seen : List Nat) (pre : List Tib) : Prop := ∃ (h : Tib) (segs : List (List Tib)) (vals : List Tib) (bad : Tib), (∀ g ∈ segs, SegOk true g) ∧ segs.length = seen.length ∧ (∀ v ∈ vals, v.1 = 0) ∧ vals.length < seen.length ∧ bad.1 ≠ 0 ∧ pre = h :: (segs.flatten ++ (vals ++ [bad]))
def PreO (seen : List Nat) (told3 : Bool) (pre : List Tib) : Prop := if told3 = true then pre = [(1, true)] else Pre5 seen pre
def kindO (told3 : Bool) : Int := if told3 = true then 6 else 5
theorem nx_out {t3 : Bool} {pre : List Tib} (hp : PreO seen t3 pre) (rest : List Tib) : nxS seen (kindO t3) (pre ++ rest) = outT t3 (allN false (fun m => IntKind.i64.wrap (offM m 0)) 0 (pre ++ rest) (wtS seen) pre.length) := by
  cases t3 with
  | false =>
    obtain ⟨h, segs, vals, bad, h1, h2, h3, h4, h5, rfl⟩ := hp
    exact nx_bad h1 h2 h3 rest h4 h5
  | true =>
    have hp : pre = [(1, true)] := hp
    subst hp
    exact wait_6 rfl (by decide) (wdS_bad seen) (by simp) (by simp)
theorem nx_out_load {t3 : Bool} {pre : List Tib} (hp : PreO seen t3 pre) (ho : ∀ g ∈ os, SegOk false g) (hk : os.length < seen.length) : nxS seen (kindO t3) (pre ++ os.flatten) = askN 1 (19 + 4 * ((seen[os.length]?.getD 0 : Nat) : Int)) 0 0 := by
  rw [nx_out hp, all_segs (rest := []) os pre (wtS seen) ho (by rw [wtS_len]; omega) (by simp), wtS_drop hk, all_load (by simp)]
  rfl
theorem nx_out_cas {t3 : Bool} {pre : List Tib} (hp : PreO seen t3 pre) (ho : ∀ g ∈ os, SegOk false g) (hk : os.length < seen.length) : nxS seen (kindO t3) (pre ++ (os.flatten ++ [(1, true)])) = askN 3 (19 + 4 * ((seen[os.length]?.getD 0 : Nat) : Int)) 1 0 := by
  rw [nx_out hp, all_segs (rest := [(1, true)]) os pre (wtS seen) ho (by rw [wtS_len]; omega) rfl, wtS_drop hk, all_cas (r := (1, true)) (by rw [← List.append_assoc, List.drop_left]) (by decide)]
  show askN 3 _ 1 (IntKind.i64.wrap (offM 1 0)) = _
  rw [off_1]
theorem nx_out_end {t3 : Bool} {pre : List Tib} (hp : PreO seen t3 pre) (ho : ∀ g ∈ os, SegOk false g) (hk : os.length = seen.length) : nxS seen (kindO t3) (pre ++ os.flatten) = doneN 0 0 t3 0 := by
  rw [nx_out hp, all_segs (rest := []) os pre (wtS seen) ho (by rw [wtS_len]; omega) (by simp), hk, ← wtS_len, List.drop_length]
  rfl
theorem nx_s0 : nxS seen 6 [] = askN 1 6 0 0 := wait_60 rfl (by decide) (wdS_bad seen) rfl
theorem nx_s1 : nxS seen 6 [(0, true)] = doneN 0 0 false 0 := wait_6z rfl (by decide) (wdS_bad seen) (by simp) rfl
end
end Go.Proofs.Ytolphdchkbcoeaa
