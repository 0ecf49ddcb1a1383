/- From a tree all of whose leaves are true to the call; what is handed in, as abstract values. No program in sight. -/
import Derived.Test.YtbnbljeegghgiaaSndv
import Derived.Below
import Derived.Deep.Slices
import Derived.ChangeShapes
namespace Go.Proofs.Ytbnbljeegghgiaa
open Go.RowKit Go.Deep Go.ChangeShapes
set_option linter.unusedVariables false

def okL : Lf → Bool
  | .val (.bool e) M => (match known M.pc e with | some true => true | _ => false)
  | _ => false
def okT : T → Bool
  | .ret l => okL l
  | .br _ a b => okT a && okT b
  | _ => false
theorem okT_sat (ρ : Env) : ∀ t : T, okT t = true → t.sat (fun l => okL l = true) ρ
  | .ret l, h => h
  | .br c a b, h => by
    simp only [okT, Bool.and_eq_true] at h
    exact ⟨fun _ => okT_sat ρ a h.1, fun _ => okT_sat ρ b h.2⟩
def onlyRo (hp : List (Nat × Ob)) : Bool := hp.all fun p => !p.2.own
theorem onlyRo_ok : ∀ {hp : List (Nat × Ob)}, onlyRo hp = true → ∀ b o, hget hp b = some o → o.own = false
  | [], _, b, o, h => by cases h
  | (c, p) :: r, hr, b, o, h => by
    simp only [onlyRo, List.all_cons, Bool.and_eq_true] at hr
    unfold hget at h
    split at h
    · cases h; simpa using hr.1
    · exact onlyRo_ok (hp := r) hr.2 b o h
def namesOk (P : Program) : Bool := P.funcs.toList.all fun fn => !decide (fn.name = "runtime.NumGoroutine")
theorem namesOk_ok {P : Program} (h : namesOk P = true) : ∀ (f : FuncId) (fn : Func), P.funcs[f]? = some fn → fn.name ≠ "runtime.NumGoroutine" := fun f fn hf => by
  have := List.all_eq_true.1 h fn (Array.mem_toList_iff.2 (Array.mem_of_getElem? hf))
  simpa using this
/-- A law's function whose leaves are all true. -/
theorem law_sat {P : Program} (hmix : P.follows .mixedOrders = true) (hname : namesOk P = true) {n : Nat} {fid : FuncId} {args : List AV} {M : Me} {ρ : Env} {G : Gh} {w : World} {va : Array Value}
    (h : (callT P n fid args M).sat (fun l => ∃ e M, l = .val (.bool e) M ∧ (holdsAll ρ M.pc → (e.den ρ).b = true)) ρ) (hro : onlyRo M.hp = true) (hM : MR ρ G M w) (hv : VRs ρ G args va) : Calls P fid va w fun e w' => e = .returned (.bool true) ∧ Below w.heap.size w w' := by
  refine call_sound hmix (namesOk_ok hname) h hM hv fun e w' hr => ?_
  obtain ⟨G', M', h1, h2, h3⟩ := hr
  cases e with
  | returned u =>
    obtain ⟨v, hvu, e, M2, hl, he⟩ := h3
    cases hl
    refine ⟨by rw [hvu.bool_inv, he h1.pc], h2.os, h2.tape, h2.output, h2.size, fun k hk => h2.keep k hk fun ⟨b, o, g, k1, k2, _⟩ => ?_⟩
    rw [onlyRo_ok hro b o k1] at k2; cases k2
  | panicked ch => obtain ⟨v, u, _, _, _, _, hl, _⟩ := h3; cases hl
  | outgrown => exact h3.elim
theorem law_ok {P : Program} (hmix : P.follows .mixedOrders = true) (hname : namesOk P = true) {n : Nat} {fid : FuncId} {args : List AV} {M : Me} {ρ : Env} {G : Gh} {w : World} {va : Array Value}
    (h : okT (callT P n fid args M) = true) (hro : onlyRo M.hp = true) (hM : MR ρ G M w) (hv : VRs ρ G args va) : Calls P fid va w fun e w' => e = .returned (.bool true) ∧ Below w.heap.size w w' := by
  have mono : ∀ (t : T), okT t = true → t.sat (fun l => ∃ e M, l = .val (.bool e) M ∧ (holdsAll ρ M.pc → (e.den ρ).b = true)) ρ := by
    intro t
    induction t with
    | ret l =>
      intro h
      show ∃ e M, l = .val (.bool e) M ∧ (holdsAll ρ M.pc → (e.den ρ).b = true)
      have h : okL l = true := h
      cases l with
      | val v M =>
        cases v with
        | bool e =>
          refine ⟨e, M, rfl, fun hp => ?_⟩
          simp only [okL] at h
          split at h
          · rename_i hk; exact known_den hp hk
          · cases h
        | _ => cases h
      | _ => cases h
    | br c a b iha ihb =>
      intro h
      simp only [okT, Bool.and_eq_true] at h
      exact ⟨fun _ => iha h.1, fun _ => ihb h.2⟩
    | asrt c t ih => intro h; cases h
    | fail n => intro h; cases h
    | loop nv x b r ih1 ih2 => intro h; cases h
  exact law_sat hmix hname (mono _ h) hro hM hv

/-! What is handed in. -/
theorem vrs_nil {ρ : Env} {G : Gh} : VRs ρ G [] ([] : List Value).toArray := ⟨rfl, fun i a v h => by simp at h⟩
theorem vr_agg {ρ : Env} {G : Gh} {cs : List AV} {vs : List Value} (h : VRs ρ G cs vs.toArray) : VR ρ G (.agg cs) (.agg vs.toArray) := .agg _ _ h.1 h.2
theorem arrN5 {cs : Array Value} (h : cs.size = 5) : ∃ a b c d e, cs = #[a, b, c, d, e] := by
  obtain ⟨l⟩ := cs
  match l, h with
  | [a, b, c, d, e], _ => exact ⟨a, b, c, d, e, rfl⟩
theorem arrN7 {cs : Array Value} (h : cs.size = 7) : ∃ a b c d e f g, cs = #[a, b, c, d, e, f, g] := by
  obtain ⟨l⟩ := cs
  match l, h with
  | [a, b, c, d, e, f, g], _ => exact ⟨a, b, c, d, e, f, g, rfl⟩
/-- The memory at the start: what is known of the arguments' numbers, and rows that may be read alone. -/
theorem start_ok {ρ : Env} {G : Gh} {w : World} {hp : List (Nat × Ob)} {nb nv : Nat} {fs : List LF} (hfs : Facts ρ fs) (hfr : ∀ b g, G b = some g → b < nb) (hob : ∀ b o, hget hp b = some o → ∃ g, G b = some g ∧ OR ρ G w g o) (hro : onlyRo hp = true) : MR ρ G ⟨hp, nb, nv, ⟨[], fs⟩⟩ w :=
  ⟨⟨fun p hp => by simp at hp, hfs⟩, hfr, hob, fun b o c p g y hb hc ho => by rw [onlyRo_ok hro b o hb] at ho; cases ho⟩
/-- Bounds of a number. -/
def rng (lo hi : Int) (e : SE) : List LF := [⟨-lo, [(e, 1)]⟩, ⟨hi, [(e, -1)]⟩]
theorem rng_ok {ρ : Env} {lo hi : Int} {e : SE} (h0 : lo ≤ (e.den ρ).i) (h1 : (e.den ρ).i ≤ hi) {fs : List LF} (h : Facts ρ fs) : Facts ρ (rng lo hi e ++ fs) := by
  intro f hf
  simp only [rng, List.cons_append, List.nil_append, List.mem_cons] at hf
  rcases hf with e1 | e1 | hf
  · subst e1; simp only [LF.val, sumT]; omega
  · subst e1; simp only [LF.val, sumT]; omega
  · exact h f hf
theorem facts_nil (ρ : Env) : Facts ρ [] := fun f hf => by simp at hf
def I64 (e : SE) : List LF := rng (-9223372036854775808) 9223372036854775807 e
def U8 (e : SE) : List LF := rng 0 255 e
def LEN (e : SE) : List LF := rng 0 9223372036854775807 e

section
variable {H : Type} {enc : TypeId × Value → H} {P : Program} {w : World} {base : Nat} {held : Bool} {ρ : Env} {G : Gh}
/-- A slice of which only the length is told. -/
theorem slice_in {t e : TypeId} {fuel : Nat} {v : Value} {x : DataW H × List MemPlace} (ht : P.underlying t = some (.slice e)) (hc : P.cellsOf e = 1) (h : DataW.trod enc P w base (fun _ => true) held fuel t [v] = some x) :
    ∃ (a : Option Addr) (n c : Nat) (g : GI), v = .slice a n c ∧ n ≤ c ∧ n ≤ 9223372036854775807 ∧ (0 < c → a = some ⟨g.blk, g.off, none⟩) ∧ c ≤ g.sz := by
  rcases open_slice1 ht hc h with ⟨h0, _⟩ | ⟨a, len, cap, m, n, V, D, Pl, h0, _, hl, hm, hmm, _, hx⟩
  · simp only [List.cons.injEq, and_true] at h0
    exact ⟨none, 0, 0, ⟨0, 0, 0⟩, h0, Nat.le_refl _, by omega, fun h => absurd h (by omega), Nat.le_refl _⟩
  · simp only [List.cons.injEq, and_true] at h0
    have hml : maxLen = 9223372036854775807 := rfl
    refine ⟨some a, len, cap, ⟨a.block, a.off, cap⟩, h0, hl, by omega, fun hpos => ?_, Nat.le_refl _⟩
    have h1 := (hx 0 (by rw [hmm]; simpa using hpos)).1
    have hs : a.spot = none := by
      have e0 : a.add 0 = a := by simp [Addr.add]
      rw [e0] at h1
      unfold World.cell? at h1
      split at h1
      · split at h1
        · cases h1
        · rename_i hsp; simpa using hsp
      · cases h1
    obtain ⟨b, o, s⟩ := a
    simp only at hs
    subst hs
    rfl
theorem slice_vr {a : Option Addr} {n c : Nat} {g : GI} {b i : Nat} (hg : G b = some g) (hi : (ρ i).i = n) (h1 : n ≤ c) (h2 : 0 < c → a = some ⟨g.blk, g.off, none⟩) (h3 : c ≤ g.sz) : VR ρ G (.sl b 1 (.int 0) (.var i) none) (.slice a n c) :=
  .sl _ _ _ _ _ g _ _ _ hg hi (Int.le_refl 0) h1 (fun e he => by cases he) (fun hc => by rw [h2 hc]; simp [SE.den, DV.i]) (by simp [SE.den, DV.i]; exact h3)
end
end Go.Proofs.Ytbnbljeegghgiaa
