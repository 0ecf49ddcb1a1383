/- What a tree of cases says; the frame of a call, abstract and concrete. No program in sight. -/
import Derived.Test.YtbnbljeegghgiaaSndl
import Derived.Recover
namespace Go.Proofs.Ytbnbljeegghgiaa
open Go.RowKit
set_option linter.unusedVariables false
set_option linter.unusedSimpArgs false

/-- n rounds lead from x to z. -/
def rounds (f : List DV → (List DV → Prop) → Prop) : Nat → List DV → List DV → Prop
  | 0, x, z => x = z
  | n + 1, x, z => f x fun y => rounds f n y z
/-- An environment in which the variables from nv on hold x, and all below stand as they stood. -/
def Over (ρ ρ' : Env) (nv : Nat) (x : List DV) : Prop := (∀ i, i < nv → ρ' i = ρ i) ∧ ∀ (j : Nat) (d : DV), x[j]? = some d → ρ' (nv + j) = d
def T.sat (t : T) (Q : Lf → Prop) (ρ : Env) : Prop :=
  match t with
  | .ret l => Q l
  | .br c t e => ((c.den ρ).b = true → t.sat Q ρ) ∧ ((c.den ρ).b = false → e.sat Q ρ)
  | .asrt c t => (c.den ρ).b = true ∧ t.sat Q ρ
  | .fail _ => False
  | .loop nv x0 body rest => (∃ n, rounds (fun x K => ∃ ρ', Over ρ ρ' nv x ∧ body.sat (fun l => ∃ xs, l = .nxt xs ∧ K (xs.map (·.den ρ'))) ρ') n (x0.map (·.den ρ)) ((List.range x0.length).map fun j => ρ (nv + j))) ∧ rest.sat Q ρ

section
variable {P : Program} {ρ : Env} {G G' : Gh} {Q : Lf → Prop}

theorem test_sat {M : Me} {w : World} {c : SE} {k : Bool → Me → T} (h : (test M c k).sat Q ρ) (hM : MR ρ G M w) : ∃ p, (k (c.den ρ).b { M with pc := p }).sat Q ρ ∧ MR ρ G { M with pc := p } w := by
  unfold test at h
  split at h
  · rename_i b hb
    rw [known_den hM.pc hb]
    exact ⟨M.pc, h, hM⟩
  · cases hc : (c.den ρ).b with
    | true => exact ⟨_, h.1 hc, hM.learn hc⟩
    | false => exact ⟨_, h.2 hc, hM.learn hc⟩
theorem need_sat {M : Me} {w : World} {c : SE} {k : Me → T} (h : (need M c k).sat Q ρ) (hM : MR ρ G M w) : (c.den ρ).b = true ∧ ∃ p, (k { M with pc := p }).sat Q ρ ∧ MR ρ G { M with pc := p } w := by
  unfold need at h
  split at h
  · rename_i hb; exact ⟨known_den hM.pc hb, M.pc, h, hM⟩
  · exact h.elim
  · exact ⟨h.1, _, h.2, hM.learn h.1⟩
theorem needs_sat {w : World} : ∀ (cs : List SE) {M : Me} {k : Me → T}, (needs M cs k).sat Q ρ → MR ρ G M w → (∀ c ∈ cs, (c.den ρ).b = true) ∧ ∃ p, (k { M with pc := p }).sat Q ρ ∧ MR ρ G { M with pc := p } w
  | [], M, k, h, hM => ⟨fun c hc => by simp at hc, M.pc, h, hM⟩
  | c :: r, M, k, h, hM => by
    obtain ⟨h1, p, h2, h3⟩ := need_sat (k := fun M => needs M r k) h hM
    obtain ⟨h4, p', h5, h6⟩ := needs_sat r h2 h3
    exact ⟨fun d hd => by rcases List.mem_cons.1 hd with rfl | hd; exact h1; exact h4 d hd, p', h5, h6⟩

/-! Slots. -/
theorem Tr.get_lf (m : Nat) : Tr.lf.get m = none := by unfold Tr.get; rfl
theorem Tr.get_set : ∀ (f : Nat) (t t' : Tr) (n : Nat) (x : AV), Tr.set f t n x = some t' → ∀ m, t'.get m = if m = n then some x else t.get m
  | 0, t, t', n, x, h => by cases h
  | f + 1, .lf, t', n, x, h => by
    intro m
    unfold Tr.set at h
    cases n with
    | zero =>
      cases h
      cases m with
      | zero => rfl
      | succ m => simp [Tr.get]
    | succ n =>
      simp only at h
      cases hp : Nat.beq (n % 2) 0 with
      | true =>
        rw [hp] at h
        simp only [cond_true] at h
        split at h
        · rename_i l hl
          cases h
          have ih := Tr.get_set f .lf l (n / 2) x hl
          cases m with
          | zero => simp [Tr.get]
          | succ m =>
            simp only [Tr.get]
            cases hq : Nat.beq (m % 2) 0 with
            | true =>
              simp only [cond_true]
              rw [ih, Tr.get_lf]
              have e1 := (beq_iff _ _).1 hp
              have e2 := (beq_iff _ _).1 hq
              by_cases hmn : m = n
              · subst hmn; simp
              · rw [if_neg (by omega), if_neg (by omega)]
            | false =>
              simp only [cond_false, Tr.get_lf]
              rw [if_neg]
              intro e
              have : m = n := by omega
              subst this
              rw [hp] at hq; cases hq
        · cases h
      | false =>
        rw [hp] at h
        simp only [cond_false] at h
        split at h
        · rename_i l hl
          cases h
          have ih := Tr.get_set f .lf l (n / 2) x hl
          cases m with
          | zero => simp [Tr.get]
          | succ m =>
            simp only [Tr.get]
            cases hq : Nat.beq (m % 2) 0 with
            | false =>
              simp only [cond_false]
              rw [ih, Tr.get_lf]
              have e1 : n % 2 ≠ 0 := fun e => by rw [e] at hp; cases hp
              have e2 : m % 2 ≠ 0 := fun e => by rw [e] at hq; cases hq
              by_cases hmn : m = n
              · subst hmn; simp
              · rw [if_neg (by omega), if_neg (by omega)]
            | true =>
              simp only [cond_true, Tr.get_lf]
              rw [if_neg]
              intro e
              have : m = n := by omega
              subst this
              rw [hp] at hq; cases hq
        · cases h
  | f + 1, .nd v l r, t', n, x, h => by
    intro m
    unfold Tr.set at h
    cases n with
    | zero =>
      cases h
      cases m with
      | zero => simp [Tr.get]
      | succ m => simp [Tr.get]
    | succ n =>
      simp only at h
      cases hp : Nat.beq (n % 2) 0 with
      | true =>
        rw [hp] at h
        simp only [cond_true] at h
        split at h
        · rename_i l' hl
          cases h
          have ih := Tr.get_set f l l' (n / 2) x hl
          cases m with
          | zero => simp [Tr.get]
          | succ m =>
            simp only [Tr.get]
            cases hq : Nat.beq (m % 2) 0 with
            | true =>
              simp only [cond_true]
              rw [ih]
              have e1 := (beq_iff _ _).1 hp
              have e2 := (beq_iff _ _).1 hq
              by_cases hmn : m = n
              · subst hmn; simp
              · rw [if_neg (by omega), if_neg (by omega)]
            | false =>
              simp only [cond_false]
              rw [if_neg]
              intro e
              have : m = n := by omega
              subst this
              rw [hp] at hq; cases hq
        · cases h
      | false =>
        rw [hp] at h
        simp only [cond_false] at h
        split at h
        · rename_i r' hl
          cases h
          have ih := Tr.get_set f r r' (n / 2) x hl
          cases m with
          | zero => simp [Tr.get]
          | succ m =>
            simp only [Tr.get]
            cases hq : Nat.beq (m % 2) 0 with
            | false =>
              simp only [cond_false]
              rw [ih]
              have e1 : n % 2 ≠ 0 := fun e => by rw [e] at hp; cases hp
              have e2 : m % 2 ≠ 0 := fun e => by rw [e] at hq; cases hq
              by_cases hmn : m = n
              · subst hmn; simp
              · rw [if_neg (by omega), if_neg (by omega)]
            | true =>
              simp only [cond_true]
              rw [if_neg]
              intro e
              have : m = n := by omega
              subst this
              rw [hp] at hq; cases hq
        · cases h

/-- A deferred call. -/
def DfR (ρ : Env) (G : Gh) : List (AV × List AV) → List Deferred → Prop
  | [], [] => True
  | (f, as) :: r, d :: ds => (∃ fn first cap vf vc va, f = .func fn first cap ∧ VRs ρ G first vf ∧ VRs ρ G cap vc ∧ VRs ρ G as va ∧ d = { target := .fn fn vc, args := vf ++ va }) ∧ DfR ρ G r ds
  | _, _ => False
theorem DfR.mono {G G' : Gh} (hG : G.le G') : ∀ {l : List (AV × List AV)} {ds : List Deferred}, DfR ρ G l ds → DfR ρ G' l ds
  | [], [], _ => trivial
  | (f, as) :: r, d :: ds, ⟨⟨fn, first, cap, vf, vc, va, h1, h2, h3, h4, h5⟩, h⟩ => ⟨⟨fn, first, cap, vf, vc, va, h1, h2.mono hG, h3.mono hG, h4.mono hG, h5⟩, DfR.mono hG h⟩
structure FR (ρ : Env) (G : Gh) (F : Fr) (a : Act) : Prop where
  n : a.tmps.size = F.n
  tm : ∀ t v, F.tm.get t = some v → VR ρ G v (a.tmps.getD t undef)
  df : DfR ρ G F.df a.defers
theorem FR.mono {F : Fr} {a : Act} (h : FR ρ G F a) (hG : G.le G') : FR ρ G' F a := ⟨h.n, fun t v ht => (h.tm t v ht).mono hG, DfR.mono hG h.df⟩
theorem FR.ev {F : Fr} {a : Act} (h : FR ρ G F a) (x : Operand) : VR ρ G (ev F x) (a.eval x) := by
  cases x with
  | tmp t =>
    show VR ρ G ((F.tm.get t).getD .any) _
    cases ht : F.tm.get t with
    | none => exact .any _
    | some v => exact h.tm t v ht
  | const v => exact litV_ok v
  | global g => exact .any _
  | func f => exact .func _ _ _ _ _ rfl rfl (fun i a v h => by simp at h) (fun i a v h => by simp at h)
theorem FR.slot {F : Fr} {a : Act} (h : FR ρ G F a) (t : Nat) : VR ρ G ((F.tm.get t).getD .any) (a.tmps.getD t undef) := h.ev (.tmp t)
theorem put_sat {F : Fr} {a : Act} {d : Option Tmp} {v : AV} {u : Value} {k : Fr → T} (h : (F.put d v k).sat Q ρ) (hF : FR ρ G F a) (hv : VR ρ G v u) : ∃ F', (k F').sat Q ρ ∧ FR ρ G F' (a.put d u) := by
  unfold Fr.put at h
  cases d with
  | none => exact ⟨F, h, hF⟩
  | some d =>
    simp only at h
    cases hb : Nat.blt d F.n with
    | false => rw [hb] at h; exact h.elim
    | true =>
      rw [hb] at h
      simp only [cond_true] at h
      have hlt : d < F.n := Nat.le_of_ble_eq_true hb
      split at h
      · rename_i tm htm
        refine ⟨_, h, by simp [Act.put, hF.n], fun t x ht => ?_, hF.df⟩
        rw [Tr.get_set _ _ _ _ _ htm] at ht
        simp only [Act.put]
        split at ht
        · rename_i e
          subst e
          cases ht
          rw [Array.getD_eq_getD_getElem?, Array.getElem?_setIfInBounds, if_pos rfl, if_pos (by rw [hF.n]; exact hlt)]
          exact hv
        · rename_i e
          have := hF.tm t x ht
          rw [Array.getD_eq_getD_getElem?, Array.getElem?_setIfInBounds, if_neg (Ne.symm e)]
          rwa [Array.getD_eq_getD_getElem?] at this
      · exact h.elim
end
end Go.Proofs.Ytbnbljeegghgiaa
