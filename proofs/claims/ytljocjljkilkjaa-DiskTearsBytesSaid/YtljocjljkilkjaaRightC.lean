/- A precondition that is another function's answer. No program in sight but by that contract. -/
import Derived.Test.YtljocjljkilkjaaRDRight
namespace Go.Proofs.Ytljocjljkilkjaa
def rightC (sym a b : Nat) (es : List SE) : SE := .bin .idx (.fn sym (lstE [es.getD a .nil, es.getD b .nil])) (.int 0)
theorem right_hp {φ : Nat → DV → DV} {pre : List DV → Prop} {cpre : List SE → List SE} (sym a b : Nat) (h0 : ∀ (ρ : Env) (es : List SE), ρ.f = φ → (∀ c ∈ cpre es, (c.den ρ).b = true) → pre (es.map (·.den ρ))) (hφ : ∀ ds, (φ sym (.list ds)).l = rDRightF ds) :
    ∀ (ρ : Env) (es : List SE), ρ.f = φ → (∀ c ∈ cpre es ++ [rightC sym a b es], (c.den ρ).b = true) → pre (es.map (·.den ρ)) ∧ rightDM (gLs (es.map (·.den ρ)) a) (gLis (es.map (·.den ρ)) b) = true := by
  intro ρ es hρ h
  refine ⟨h0 ρ es hρ fun c hc => h c (List.mem_append_left _ hc), ?_⟩
  have hc := h (rightC sym a b es) (by simp)
  have e : ((rightC sym a b es).den ρ).b = rightDM (((es.getD a .nil).den ρ).l.map DV.s) (((es.getD b .nil).den ρ).l.map decis) := by
    show (((ρ.f sym ((lstE [es.getD a .nil, es.getD b .nil]).den ρ)).l[(0 : Int).toNat]?).getD (.int 0)).b = _
    rw [lst_den, hρ, hφ]
    rfl
  rw [e] at hc
  have g : ∀ n : Nat, ((es.map (fun e : SE => e.den ρ))[n]?.getD (DV.int 0)).l = ((es.getD n SE.nil).den ρ).l := fun n => by
    rw [List.getElem?_map, List.getD_eq_getElem?_getD]
    cases es[n]? <;> rfl
  unfold gLs gLis
  rw [g, g]
  exact hc
end Go.Proofs.Ytljocjljkilkjaa
