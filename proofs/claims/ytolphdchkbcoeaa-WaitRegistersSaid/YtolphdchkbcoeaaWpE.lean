/- A play of a sleeper and its writers, as it stands in the code's memory. No program in sight. -/
import Derived.Test.YtolphdchkbcoeaaWpI
import Derived.Test.YtolphdchkbcoeaaTNext
import Derived.Test.YtolphdchkbcoeaaTRouse
import Derived.Test.YtolphdchkbcoeaaRCell
namespace Go.Proofs.Ytolphdchkbcoeaa
set_option linter.unusedVariables false
set_option linter.unusedSimpArgs false
def seenN (l : List Int) : List Nat := l.map fun b => b.toNat % 3
def seenE (l : List Nat) : List Tiii := l.map fun (x : Nat) => ((x : Int), (0 : Int), (0 : Int))
theorem seenN_len (l : List Int) : (seenN l).length = l.length := by unfold seenN; rw [List.length_map]
theorem seenE_len (l : List Nat) : (seenE l).length = l.length := by unfold seenE; rw [List.length_map]
theorem seenN_lt (l : List Int) : ∀ x ∈ seenN l, x < 3 := by
  intro x hx
  obtain ⟨b, _, rfl⟩ := List.mem_map.1 hx
  exact Nat.mod_lt _ (by decide)
theorem byte3 {b : Int} (h : 0 ≤ b ∧ b ≤ 255) : (IntKind.i64.wrap b).tmod 3 = ((b.toNat % 3 : Nat) : Int) := by
  rw [w64 (by omega) (by omega), Int.tmod_eq_emod_of_nonneg h.1]
  omega
theorem byte_in {l : List Int} (h : ∀ v ∈ l, 0 ≤ v ∧ v ≤ 255) (i : Nat) : 0 ≤ l[i]?.getD 0 ∧ l[i]?.getD 0 ≤ 255 := by
  rcases Nat.lt_or_ge i l.length with hi | hi
  · rw [List.getElem?_eq_getElem hi]
    exact h _ (List.getElem_mem hi)
  · rw [List.getElem?_eq_none hi]; decide
theorem seen_next {l : List Int} (h : ∀ v ∈ l, 0 ≤ v ∧ v ≤ 255) {k : Nat} (hk : k < l.length) : seenE ((seenN l).take (k + 1)) = seenE ((seenN l).take k) ++ [((IntKind.i64.wrap (l[k]?.getD 0)).tmod 3, 0, 0)] := by
  have hb := byte_in h k
  rw [byte3 hb, List.take_add_one]
  unfold seenE seenN
  rw [List.map_append, List.getElem?_map, List.getElem?_eq_getElem hk]
  rfl
theorem place_word {x : Nat} (hx : x < 3) : placeM 16 3 (x : Int) 4 0 = 16 + 4 * (x : Int) := by
  match x, hx with
  | 0, _ => decide
  | 1, _ => decide
  | 2, _ => decide
theorem place_mask {x : Nat} (hx : x < 3) : placeM 16 3 (x : Int) 4 3 = 19 + 4 * (x : Int) := by
  match x, hx with
  | 0, _ => decide
  | 1, _ => decide
  | 2, _ => decide
/-- What the code asks for next. -/
theorem tnext_eq {l : List Nat} (h3 : ∀ x ∈ l, x < 3) (kind : Int) (log : List Tib) :
    waitF (fun m => IntKind.i64.wrap (withM m 0)) (fun m => IntKind.i64.wrap (offM m 0)) (placeM 4 3 0 4 2) (placeM 4 3 0 4 0) 0 kind (wtL 16 3 (seenE l)) (wdL 16 3 (seenE l)) log = nxS l kind log := by
  have e1 : wtL 16 3 (seenE l) = wtS l := by
    unfold wtL wtS seenE
    rw [List.map_map]
    exact List.map_congr_left fun x hx => place_mask (h3 x hx)
  have e2 : wdL 16 3 (seenE l) = wdS l := by
    unfold wdL wdS seenE
    rw [List.map_map]
    refine List.map_congr_left fun x hx => ?_
    show (placeM 16 3 (x : Int) 4 0, IntKind.i64.wrap (2 * 0)) = _
    rw [place_word (h3 x hx)]
    rfl
  rw [e1, e2, show placeM 4 3 0 4 2 = 6 by decide, show placeM 4 3 0 4 0 = 4 by decide]
  rfl
def rsL (b : Bool) : List Tiiiis := if b = true then [(2, 6, 0, 1, [])] else []
theorem rouse_eq (b : Bool) : rouseM 3 4 (b2n b) 3 = rsL b := by cases b <;> decide
def wrE (w : Wr) : List DV := [.int w.next, .int w.pos, .int w.ver, .list ((rsL w.rs).map enciiiis)]
theorem seenE_at (l : List Nat) (k : Nat) : ((seenE l)[k]?.getD diii).1 = ((l[k]?.getD 0 : Nat) : Int) := by
  unfold seenE
  rw [List.getElem?_map]
  cases l[k]? <;> rfl
def chgB (s : Wa) (l : List Nat) : Bool := l.any fun x => decide (s.wd x ≠ 0)
theorem chg_next (s : Wa) {l : List Nat} {k : Nat} (hk : k < l.length) : chgB s (l.take (k + 1)) = (chgB s (l.take k) || decide (s.wd (l[k]?.getD 0) ≠ 0)) := by
  unfold chgB
  rw [List.take_add_one, List.any_append, List.getElem?_eq_getElem hk]
  simp
theorem chg_true {s : Wa} {l : List Nat} (h : ChgW l s) : chgB s l = true := by
  obtain ⟨x, hx, hd⟩ := h
  exact List.any_eq_true.2 ⟨x, hx, decide_eq_true hd⟩
theorem chg_false {s : Wa} {l : List Nat} (h : ∀ x, x ∈ l → s.wd x = 0) : chgB s l = false := by
  unfold chgB
  rw [List.any_eq_false]
  intro x hx
  simp [h x hx]
def memW (c : Int) (wk : Bool) (wd : Nat → Int) (mb : Nat → Bool) : List Int := [c, 0, 0, 0, 0, 0, b2n wk, 0, 0, 0, 0, 0, 0, 0, 0, 0, wd 0, 0, 0, b2n (mb 0), wd 1, 0, 0, b2n (mb 1), wd 2, 0, 0, b2n (mb 2)]
theorem mem_mk (c : Nat) (wk : Bool) (wd : Nat → Int) (mb : Nat → Bool) (f : Nat → Wr) : Wa.mem ⟨c, wk, wd, mb, f⟩ = memW c wk wd mb := rfl
theorem mem_s (s : Wa) : (s.mem = memW s.c s.wk s.wd s.mb) = True := eq_true rfl
theorem loc0 {l : List Int} {w : Wr} (h : ∀ j : Nat, 0 ≤ l[j]?.getD 0 ∧ l[j]?.getD 0 ≤ 255) (p : w.pos = 0) : (IntKind.i64.wrap (l[w.next]?.getD 0)).tmod 3 = ((locW l w : Nat) : Int) := by
  rw [byte3 (h _)]
  unfold locW
  rw [if_pos p]
theorem loc1 {l : List Int} {w : Wr} (h : ∀ j : Nat, 0 ≤ l[j]?.getD 0 ∧ l[j]?.getD 0 ≤ 255) (p : w.pos ≠ 0) : (IntKind.i64.wrap (l[w.next - 1]?.getD 0)).tmod 3 = ((locW l w : Nat) : Int) := by
  rw [byte3 (h _)]
  unfold locW
  rw [if_neg p]
/-- The words and masks at the end. -/
theorem cell_word (s : Wa) {x : Nat} (hx : x < 3) : cellM s.mem (16 + 4 * (x : Int)) = s.wd x := by
  unfold cellM
  rw [if_neg (by rw [wa_len]; omega), show (16 + 4 * (x : Int)).toNat = 16 + 4 * x by omega, wa_word s hx]
theorem cell_mask (s : Wa) {x : Nat} (hx : x < 3) : cellM s.mem (19 + 4 * (x : Int)) = b2n (s.mb x) := by
  unfold cellM
  rw [if_neg (by rw [wa_len]; omega), show (19 + 4 * (x : Int)).toNat = 19 + 4 * x by omega, wa_mask s hx]
/-- Rounds by typed states: a step while it is not the end, and the end. -/
theorem rounds_enc {α : Type} {B : List DV → List DV → Prop} {R : List DV → Prop} {x : List DV} (enc : α → List DV) (I fin : α → Prop) (μ : α → Nat) (a : α) (hx : x = enc a) (h0 : I a) (hs : ∀ a, I a → ¬ fin a → ∃ b, B (enc a) (enc b) ∧ (enc b).length = (enc a).length ∧ I b ∧ μ b < μ a) (hR : ∀ a, I a → fin a → R (enc a)) : Rounds B R x := by
  subst hx
  have : ∀ n a, μ a ≤ n → I a → Rounds B R (enc a) := by
    intro n
    induction n with
    | zero =>
      intro a ha hI
      rcases Classical.em (fin a) with h | h
      · exact .done (hR a hI h)
      · obtain ⟨b, _, _, _, h4⟩ := hs a hI h
        omega
    | succ n ih =>
      intro a ha hI
      rcases Classical.em (fin a) with h | h
      · exact .done (hR a hI h)
      · obtain ⟨b, h1, h2, h3, h4⟩ := hs a hI h
        exact .step (enc b) h1 h2 (ih b (by omega) h3)
  exact this (μ a) a (Nat.le_refl _) h0
/-- A state of a play: the turn, what the code holds. -/
structure PS where
  t : Nat
  s : Wa
  told : Int
  kind : Int
  log : List Tib
/-- What stays true in a play. -/
def PlayI (want : Nat → List Int) (seen : List Nat) (told kind : Int) (log : List Tib) (s : Wa) : Prop := WrOk want seen s ∧ ∃ pc, SlOk want seen s told kind log pc
/-- The same, with the sleeper's way to its end counted. -/
def PlayD (want : Nat → List Int) (seen : List Nat) (told kind : Int) (log : List Tib) (s : Wa) (j : Nat) : Prop := WrOk want seen s ∧ EndW want s 0 ∧ EndW want s 1 ∧ ∃ pc, SlOk want seen s told kind log pc ∧ (psi seen.length s.wk pc = 0 ∨ psi seen.length s.wk pc + j ≤ 25)
section
variable {want : Nat → List Int} {seen : List Nat} {s : Wa} {told kind : Int} {log : List Tib}
theorem told_kind (h : PlayI want seen told kind log s) (ht : told ≤ 1) : kind = 5 ∨ kind = 6 := by
  obtain ⟨_, pc, h, _⟩ := h
  cases pc with
  | start => exact .inl h.2.1
  | reg k c => exact .inl h.2.1
  | val i => exact .inl h.2.1
  | out t3 k c =>
    have := h.2.1
    cases t3
    · exact .inl this
    · exact .inr this
  | s0 => exact .inr h.2.1
  | s1 => exact .inr h.2.1
  | ends => obtain ⟨h, _⟩ := h; omega
theorem play_start : PlayI want seen 0 5 [] ⟨0, false, fun _ => 0, fun _ => false, fun _ => ⟨0, 0, 0, false⟩⟩ := by
  refine ⟨⟨?_, ?_, ?_, ?_, ?_, ?_, ?_, ?_, ?_, ?_, ?_, ?_, ?_, ?_⟩, .start, ⟨rfl, rfl, rfl⟩, fun x => rfl, trivial⟩ <;> simp [holdW]
/-- A turn of the sleeper. -/
theorem play_sleep (h3 : ∀ x ∈ seen, x < 3) (h : PlayI want seen told kind log s) (ht : told ≤ 1) {N : Nx} (hN : nxS seen kind log = N) :
    (N.done = true ∧ N.err = 0 ∧ PlayI want seen (toldN kind told N.is) (kindN kind N.is) [] s) ∨ (N.done = false ∧ ∃ (r : Tib) (s' : Wa), doM s.mem N.k N.c N.o N.n N.s = (s'.mem, r, 0) ∧ s'.w = s.w ∧ PlayI want seen told kind (log ++ [r]) s') := by
  obtain ⟨hw, pc, h⟩ := h
  subst hN
  rcases sl_step h3 hw h ht with ⟨a, b, pc', c, _⟩ | ⟨a, r, s', pc', b, c, d, e, f, _⟩
  · exact .inl ⟨a, b, hw, pc', c⟩
  · exact .inr ⟨a, r, s', b, c, e, pc', f⟩
theorem end_eq {s' : Wa} (hw : s'.w = s.w) {i : Nat} (h : EndW want s i) : EndW want s' i := by unfold EndW; rw [hw]; exact h
theorem play_down (h3 : ∀ x ∈ seen, x < 3) {j : Nat} (h : PlayD want seen told kind log s j) (ht : told ≤ 1) {N : Nx} (hN : nxS seen kind log = N) :
    (N.done = true ∧ N.err = 0 ∧ PlayD want seen (toldN kind told N.is) (kindN kind N.is) [] s (j + 1)) ∨ (N.done = false ∧ ∃ (r : Tib) (s' : Wa), doM s.mem N.k N.c N.o N.n N.s = (s'.mem, r, 0) ∧ s'.w = s.w ∧ PlayD want seen told kind (log ++ [r]) s' (j + 1)) := by
  obtain ⟨hw, e0, e1, pc, h, hp⟩ := h
  subst hN
  rcases sl_step h3 hw h ht with ⟨a, b, pc', c, d⟩ | ⟨a, r, s', pc', b, c, _, e, f, d⟩
  · exact .inl ⟨a, b, hw, e0, e1, pc', c, by omega⟩
  · exact .inr ⟨a, r, s', b, c, e, end_eq c e0, end_eq c e1, pc', f, by omega⟩
theorem play_wait {j : Nat} (h : PlayD want seen told kind log s j) (ht : ¬ told ≤ 1) : PlayD want seen told kind log s (j + 1) := by
  obtain ⟨hw, e0, e1, pc, h, hp⟩ := h
  refine ⟨hw, e0, e1, pc, h, .inl ?_⟩
  obtain ⟨h, _⟩ := h
  cases pc with
  | start => have := h.1; omega
  | reg k c => have := h.1; omega
  | val i => have := h.1; omega
  | out t3 k c => have := h.1; cases t3 <;> simp [toldO] at this <;> omega
  | s0 => have := h.1; omega
  | s1 => have := h.1; omega
  | ends => rfl
theorem play_write (hl : ∀ j, (want j).length ≤ 4) {i : Nat} (hi : i < 2) (h : PlayI want seen told kind log s) : PlayI want seen told kind log (wStep want i s) := by
  obtain ⟨hw, pc, h⟩ := h
  exact ⟨wr_ok hl hw hi, pc, wr_sl hw hi h⟩
theorem play_enter (hn : seen.length ≤ 4) (h : PlayI want seen told kind log s) (e0 : EndW want s 0) (e1 : EndW want s 1) : PlayD want seen told kind log s 0 := by
  obtain ⟨hw, pc, h⟩ := h
  exact ⟨hw, e0, e1, pc, h, .inr (psi_le _ _ hn)⟩
theorem play_end {j : Nat} (hj : 26 ≤ j) (h : PlayD want seen told kind log s j) : (told = 1 ∧ (∀ x, x ∈ seen → s.wd x = 0) ∧ ∀ x, s.mb x = decide (x ∈ seen)) ∨ ((told = 2 ∨ told = 3) ∧ ChgW seen s ∧ ∀ x, s.mb x = false) := by
  obtain ⟨hw, e0, e1, pc, h, hp⟩ := h
  exact sl_end hw h e0 e1 (by omega)
end
end Go.Proofs.Ytolphdchkbcoeaa
