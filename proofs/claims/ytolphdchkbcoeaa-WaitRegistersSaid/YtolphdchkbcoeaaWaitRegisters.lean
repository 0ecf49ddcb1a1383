/- WaitRegisters: the law returns true for every input, and each argument reads afterwards as it read before. No condition. -/
import Derived.Test.YtolphdchkbcoeaaWR0
import Derived.Test.YtolphdchkbcoeaaWR1
import Derived.Test.YtolphdchkbcoeaaWR2
import Derived.Test.YtolphdchkbcoeaaWRM
import Derived.Test.YtolphdchkbcoeaaNst
import Derived.Test.YtolphdchkbcoeaaOpen
namespace Go.Proofs.Ytolphdchkbcoeaa
open Go.RowKit
set_option linter.unusedVariables false
set_option linter.unusedSimpArgs false
set_option maxRecDepth 100000
theorem wr_fits {ns : List NSh} (h : FitsS ns [.agg [.rows [.int .u8], .nest [.int .u8] 0, .rows [.int .u8]]]) : ∃ n, ns = [.agg [.rows [.int .u8], .nest [.int .u8] n, .rows [.int .u8]]] := by
  cases ns with
  | nil => exact h.elim
  | cons a r =>
    cases a with
    | one c => exact h.elim
    | agg c =>
      obtain ⟨h, hr⟩ := h
      cases r with
      | cons x _ => cases x <;> exact hr.elim
      | nil =>
        cases c with
        | nil => exact h.elim
        | cons x c =>
          cases x with
          | rows k =>
            obtain ⟨rfl, h⟩ := h
            cases c with
            | nil => exact h.elim
            | cons x c =>
              cases x with
              | nest k n =>
                obtain ⟨rfl, h⟩ := h
                cases c with
                | nil => exact h.elim
                | cons x c =>
                  cases x with
                  | rows k =>
                    obtain ⟨rfl, h⟩ := h
                    cases c with
                    | nil => exact ⟨n, rfl⟩
                    | cons x _ => cases x <;> exact h.elim
                  | _ => exact h.elim
              | _ => exact h.elim
          | _ => exact h.elim
theorem waitRegisters_all {w : World} : ∀ ns, FitsS ns [.agg [.rows [.int .u8], .nest [.int .u8] 0, .rows [.int .u8]]] → ∀ (va vs us : List Value) (ds : List DV) (gs : List GI), Grp (ns.map NSh.sh) va vs → Link w (nisOf ns) vs us gs → Reads w (flatN (nisOf ns)) us ds gs → Wts (flatN (nisOf ns)) ds →
    Calls Try.prog 5 va.toArray w fun e w' => e = .returned (.bool true) ∧ Go.RowKit.Below w.heap.size w w' := by
  intro ns hf va vs us ds gs h1 h2 h3 h4
  obtain ⟨n, rfl⟩ := wr_fits hf
  match n, h1, h2, h3, h4 with
  | 0, h1, h2, h3, h4 => exact wR0_piece h1 h2 h3 h4
  | 1, h1, h2, h3, h4 => exact wR1_piece h1 h2 h3 h4
  | 2, h1, h2, h3, h4 => exact wR2_piece h1 h2 h3 h4
  | n + 3, h1, h2, h3, h4 =>
    obtain ⟨us', ds', gs', k1, k2, k3, k4⟩ := to_many (Q := fun x => 3 ≤ x) (fun ks m hm => by simp [nisOf, NSh.nis] at hm; omega) (fun ks hm => by simp [nisOf, NSh.nis] at hm) h2 h3 h4
    obtain ⟨d, l, hl, hx, _⟩ := k4
    have hx : (3 : Int) ≤ (ds'[1]?.getD (DV.int 0)).i := by
      have := List.getElem?_drop (xs := ds') (i := 1) (j := 0)
      rw [hl] at this
      rw [← this]
      exact hx
    exact wRM_piece h1 k1 k2 k3 hx

namespace row
open Go.ChangeShapes Go.WideShapes Go.ChangeAt Go.RowKit Go.Joins Go.Deep Go.Proofs.Ytolphdchkbcoeaa
theorem lifted (os : Os) (started : os.Started) (H : Type) (enc : TypeId × Value → H) :
    ReturnsInHanded {} Try.checked os 5 .any (Rows.waitRegistersSpec.pre6 enc Try.prog Try.f5 Rows.waitRegistersRow.domain false) (Rows.waitRegistersSpec.post enc Try.prog Try.f5 false true false false) := by
  refine returnsInHanded_of_change (C := Try.checked) own started (by kernel_rfl) Try.func5
    (ChangeSpec.witness6 (enc := enc) (C := Try.checked) false ⟨#[], #[.agg #[.slice none 0 0, .slice none 0 0, .slice none 0 0]], []⟩ 8 (by kernel_rfl) (by kernel_rfl) (by kernel_rfl) (by kernel_rfl)) ?_
  intro W base args ds gs before hval0 hW hcnd _
  have hval : ∀ (j : Nat) t v, Try.f5.params[j]? = some t → args[j]? = some v → Value.okWide Try.prog W .any base t v := hval0
  have hW' := hW
  obtain ⟨p, q, hA0, hV, rfl, hfz, hnd⟩ := hW
  have hA : DataW.TrodAll enc Try.prog W 0 (fun _ => true) true Try.f5.params.toList args.toList ds p := hA0
  have hval2 : ∀ (j : Nat) t v, Try.f5.params.toList[j]? = some t → args.toList[j]? = some v → Value.okWide Try.prog W .any base t v := fun j t v a b => hval j t v (by simpa using a) (by simpa using b)
  have hcall := law_ofN waitRegisters_all (by rw [Try.params5]; kernel_rfl) hA hval2
  rw [Try.params5] at hA
  obtain ⟨v0, vs0, d0, ds0, p0, q0, hargs, rfl, rfl, h0, r0⟩ := trodAll_cons hA
  obtain ⟨rfl, rfl, rfl⟩ := trodAll_nil r0
  obtain rfl : args = #[v0] := by cases args; simp_all
  obtain ⟨rfl, rfl⟩ := trodVars_none hV
  have lt0 : ∀ x ∈ p0, x.block < W.heap.size := by obtain ⟨m, hm⟩ := h0; exact DataW.trod_lt m _ _ _ hm
  clear hA0 hval0 hval2
  refine Calls.mono hcall fun e W' ⟨he, bel⟩ => ?_
  subst he
  exact ⟨_, rfl, _, _, _, [], _, [], hW', trodAll_mk1 (shut_bool Try.underlying4 _), (trodAll_cons_mk (Below.trod laidOut (by kernel_rfl) (of_decide_eq_true (by kernel_rfl)) h0 bel lt0) trodAll_mk0), rfl, bel.frame _, fun h => by cases h⟩
theorem over : Rows.waitRegistersRow.holds Try.pinned (OpenSpec.ofChange Rows.waitRegistersSpec) :=
  OpenClaim.holds_of_wide 5 Try.f5 rfl rfl rfl rfl rfl rfl rfl ⟨rfl, rfl, rfl, rfl, rfl⟩ rfl rfl rfl rfl rfl (by kernel_rfl) Try.func5 (by kernel_rfl)
    (of_decide_eq_true (by kernel_rfl)) (by unfold Func.isWrapper; first | (rw [if_pos (by decide +kernel)]; kernel_rfl) | (rw [if_neg (by decide +kernel)]; exact ⟨rfl, rfl⟩))
    (fun os started H enc _ => lifted os started H enc)
end row
theorem waitRegisters_proved : Rows.WaitRegistersSaid := row.over
end Go.Proofs.Ytolphdchkbcoeaa
