/- LayoutForFits: the law returns true for every input, and each argument reads afterwards as it read before. No condition. -/
import Derived.Test.YtbnbljeegghgiaaOpen
import Derived.Test.YtbnbljeegghgiaaEnt
namespace Go.Proofs.Ytbnbljeegghgiaa.layoutForFitsP
open Go.ChangeShapes Go.WideShapes Go.ChangeAt Go.RowKit Go.Joins Go.Deep Go.Proofs.Ytbnbljeegghgiaa
open Go.ChangeMaps (open_string shut_string)
set_option linter.unusedVariables false

def start : Me := ⟨[], 2, 5, ⟨[], (LEN (.var 0) ++ (LEN (.var 1) ++ (I64 (.var 2) ++ (I64 (.var 3) ++ (I64 (.var 4) ++ [])))))⟩⟩
set_option maxRecDepth 100000 in
/-- The tree of the law's function: all its leaves are true. -/
theorem tree : okT (callT Try.prog 4000 4 [.agg [.any, .sl 0 1 (.int 0) (.var 0) none, .any, .sl 1 1 (.int 0) (.var 1) none, .any, .any, .int .i64 (.var 2)], .int .i64 (.var 3), .int .i64 (.var 4)] start) = true := by decide +kernel
theorem names : namesOk Try.prog = true := by decide +kernel

set_option maxRecDepth 100000 in
theorem lifted (os : Os) (started : os.Started) (H : Type) (enc : TypeId × Value → H) :
    ReturnsInHanded {} Try.checked os 4 .any (Rows.layoutForFitsSpec.pre6 enc Try.prog Try.f4 Rows.layoutForFitsRow.domain false) (Rows.layoutForFitsSpec.post enc Try.prog Try.f4 false true false false) := by
  refine returnsInHanded_of_change (C := Try.checked) own started (by kernel_rfl) Try.func4
    (ChangeSpec.witness6 (enc := enc) (C := Try.checked) false ⟨#[], #[.agg #[.slice none 0 0, .slice none 0 0, .slice none 0 0, .slice none 0 0, .slice none 0 0, .slice none 0 0, .int .i64 0], .int .i64 0, .int .i64 0], []⟩ 8 (by kernel_rfl) (by kernel_rfl) (by kernel_rfl) (by kernel_rfl)) ?_
  intro W base args ds gs before hval0 hW hcnd _
  have hval : ∀ (j : Nat) t v, Try.f4.params[j]? = some t → args[j]? = some v → Value.okWide Try.prog W .any base t v := hval0
  have hW' := hW
  obtain ⟨p, q, hA0, hV, rfl, hfz, hnd⟩ := hW
  have hA : DataW.TrodAll enc Try.prog W 0 (fun _ => true) true Try.f4.params.toList args.toList ds p := hA0
  rw [Try.params4] at hA hval
  obtain ⟨v0, vs0, d0, ds0, p0, q0, hargs, rfl, rfl, h0, r0⟩ := trodAll_cons hA
  obtain ⟨v1, vs1, d1, ds1, p1, q1, rfl, rfl, rfl, h1, r1⟩ := trodAll_cons r0
  obtain ⟨v2, vs2, d2, ds2, p2, q2, rfl, rfl, rfl, h2, r2⟩ := trodAll_cons r1
  obtain ⟨rfl, rfl, rfl⟩ := trodAll_nil r2
  obtain rfl : args = #[v0, v1, v2] := by cases args; simp_all
  obtain ⟨rfl, rfl⟩ := trodVars_none hV
  have k0 := h0
  have lt0 : ∀ x ∈ p0, x.block < W.heap.size := by obtain ⟨m, hm⟩ := k0; exact DataW.trod_lt m _ _ _ hm
  obtain ⟨cs0, rfl, hz0, hs0⟩ := open_struct Try.underlying36 (by kernel_rfl) (by kernel_rfl) (hval 0 36 v0 rfl rfl) h0
  obtain ⟨x0_0, x0_1, x0_2, x0_3, x0_4, x0_5, x0_6, rfl⟩ := arrN7 hz0
  obtain ⟨c0_1, y0_1, n0_1, e0_1, t0_1⟩ := hs0 1 _ rfl
  obtain ⟨a0_1, l0_1, cap0_1, g0_1, u0_1, q10_1, q20_1, q30_1, q40_1⟩ := slice_in Try.underlying33 (by kernel_rfl) t0_1
  simp at e0_1
  subst e0_1 u0_1
  obtain ⟨c0_3, y0_3, n0_3, e0_3, t0_3⟩ := hs0 3 _ rfl
  obtain ⟨a0_3, l0_3, cap0_3, g0_3, u0_3, q10_3, q20_3, q30_3, q40_3⟩ := slice_in Try.underlying33 (by kernel_rfl) t0_3
  simp at e0_3
  subst e0_3 u0_3
  obtain ⟨c0_6, y0_6, n0_6, e0_6, t0_6⟩ := hs0 6 _ rfl
  obtain ⟨a0_6, g0_6, _, w0_6⟩ := DataW.trod_int Try.underlying3 t0_6
  simp at e0_6 g0_6
  subst e0_6 g0_6
  have bd0_6 : -9223372036854775808 ≤ a0_6 ∧ a0_6 ≤ 9223372036854775807 := by simpa [Lit.wf, IntKind.min, IntKind.max, IntKind.signed, IntKind.bits] using w0_6
  have k1 := h1
  have lt1 : ∀ x ∈ p1, x.block < W.heap.size := by obtain ⟨m, hm⟩ := k1; exact DataW.trod_lt m _ _ _ hm
  obtain ⟨a1, rfl, rfl, rfl, w1⟩ := open_int Try.underlying3 (hval 1 3 v1 rfl rfl) h1
  have bd1 : -9223372036854775808 ≤ a1 ∧ a1 ≤ 9223372036854775807 := by simpa [Lit.wf, IntKind.min, IntKind.max, IntKind.signed, IntKind.bits] using w1
  have k2 := h2
  have lt2 : ∀ x ∈ p2, x.block < W.heap.size := by obtain ⟨m, hm⟩ := k2; exact DataW.trod_lt m _ _ _ hm
  obtain ⟨a2, rfl, rfl, rfl, w2⟩ := open_int Try.underlying3 (hval 2 3 v2 rfl rfl) h2
  have bd2 : -9223372036854775808 ≤ a2 ∧ a2 ≤ 9223372036854775807 := by simpa [Lit.wf, IntKind.min, IntKind.max, IntKind.signed, IntKind.bits] using w2
  clear hA0 hval0
  let ρ : Env := fun i => ([.int (l0_1 : Int), .int (l0_3 : Int), .int a0_6, .int a1, .int a2] : List DV).getD i (.int 0)
  let G : Gh := fun b => ([g0_1, g0_3] : List GI)[b]?
  have hM : MR ρ G start W := start_ok (rng_ok (e := .var 0) (Int.natCast_nonneg l0_1) (show (l0_1 : Int) ≤ 9223372036854775807 by omega) (rng_ok (e := .var 1) (Int.natCast_nonneg l0_3) (show (l0_3 : Int) ≤ 9223372036854775807 by omega) (rng_ok (e := .var 2) bd0_6.1 bd0_6.2 (rng_ok (e := .var 3) bd1.1 bd1.2 (rng_ok (e := .var 4) bd2.1 bd2.2 (facts_nil _)))))) (fun b g hb => (List.getElem?_eq_some_iff.1 hb).1) (fun b o hb => by cases hb) rfl
  have hv : VRs ρ G [.agg [.any, .sl 0 1 (.int 0) (.var 0) none, .any, .sl 1 1 (.int 0) (.var 1) none, .any, .any, .int .i64 (.var 2)], .int .i64 (.var 3), .int .i64 (.var 4)] _ := (VRs.cons (vr_agg (VRs.cons (.any x0_0) (VRs.cons (slice_vr (b := 0) (i := 0) (g := g0_1) rfl rfl q10_1 q30_1 q40_1) (VRs.cons (.any x0_2) (VRs.cons (slice_vr (b := 1) (i := 1) (g := g0_3) rfl rfl q10_3 q30_3 q40_3) (VRs.cons (.any x0_4) (VRs.cons (.any x0_5) (VRs.cons (.int _ _ _ rfl) vrs_nil)))))))) (VRs.cons (.int _ _ _ rfl) (VRs.cons (.int _ _ _ rfl) vrs_nil)))
  refine (law_ok (P := Try.prog) (Checked.mixed Try.checked) names tree rfl hM hv).mono fun e W' ⟨he, bel⟩ => ?_
  subst he
  exact ⟨_, rfl, _, _, _, [], _, [], hW', trodAll_mk1 (shut_bool Try.underlying4 _), (trodAll_cons_mk (Below.trod laidOut (by kernel_rfl) (of_decide_eq_true (by kernel_rfl)) k0 bel lt0) (trodAll_cons_mk (Below.trod laidOut (by kernel_rfl) (of_decide_eq_true (by kernel_rfl)) k1 bel lt1) (trodAll_cons_mk (Below.trod laidOut (by kernel_rfl) (of_decide_eq_true (by kernel_rfl)) k2 bel lt2) trodAll_mk0))), rfl, bel.frame _, fun h => by cases h⟩

theorem over : Rows.layoutForFitsRow.holds Try.pinned (OpenSpec.ofChange Rows.layoutForFitsSpec) :=
  OpenClaim.holds_of_wide 4 Try.f4 rfl rfl rfl rfl rfl rfl rfl ⟨rfl, rfl, rfl, rfl, rfl⟩ rfl rfl rfl rfl rfl (by kernel_rfl) Try.func4 (by kernel_rfl)
    (of_decide_eq_true (by kernel_rfl)) (by unfold Func.isWrapper; first | (rw [if_pos (by decide +kernel)]; kernel_rfl) | (rw [if_neg (by decide +kernel)]; exact ⟨rfl, rfl⟩))
    (fun os started H enc _ => lifted os started H enc)

theorem proved : Rows.LayoutForFitsSaid := over
end Go.Proofs.Ytbnbljeegghgiaa.layoutForFitsP
