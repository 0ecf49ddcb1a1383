/- What the executor says of the operations that touch no memory is so. No program in sight. -/
import Derived.Test.YtbnbljeegghgiaaSndb
namespace Go.Proofs.Ytbnbljeegghgiaa
open Go.RowKit
set_option linter.unusedVariables false
set_option linter.unusedSimpArgs false

section
variable {P : Program} {ρ : Env} {G : Gh}

theorem litN_i {e : SE} {n : Nat} (h : litN e = some n) (ρ : Env) : (e.den ρ).i = n := by
  unfold litN at h
  split at h
  · cases h; rfl
  · cases h
def OptR (ρ : Env) (G : Gh) : Option AV → Option Value → Prop
  | some a, some u => VR ρ G a u
  | none, none => True
  | _, _ => False
/-- The bound of a slice expression is what the model takes. -/
theorem bound_ok {x : Option AV} {d hi b : SE} {cs : List SE} {v : Option Value} (h : boundA x d hi = some (b, cs)) (hcs : ∀ c ∈ cs, (c.den ρ).b = true) (hv : OptR ρ G x v) :
    (x = none ∧ v = none ∧ b = d) ∨ (∃ k, v = some (.int k (b.den ρ).i) ∧ 0 ≤ (b.den ρ).i ∧ (b.den ρ).i ≤ (hi.den ρ).i ∧ x ≠ none) := by
  unfold boundA at h
  split at h
  · cases h
    cases v with
    | none => exact .inl ⟨rfl, rfl, rfl⟩
    | some u => exact hv.elim
  · rename_i k e
    cases h
    cases v with
    | none => exact hv.elim
    | some u =>
      have hu : u = .int k (b.den ρ).i := VR.int_inv hv
      have h1 := hcs _ (List.mem_cons_self ..)
      have h2 := hcs _ (List.mem_cons_of_mem _ (List.mem_cons_self ..))
      rw [le_b] at h1 h2
      rw [int_i] at h1
      exact .inr ⟨k, by rw [hu], of_decide_eq_true h1, of_decide_eq_true h2, by simp⟩
  · cases h
theorem run_bound (k : IntKind) (i : Int) (y : Nat) (code : BoundsCode) (w : World) (h0 : 0 ≤ i) (h1 : i ≤ y) : (Instr.sliceBound (.int k i) y code).run P w = .ok i.toNat w := by
  simp [Instr.sliceBound, asIntOf, h0, h1]

theorem mapEv {ev : Operand → AV} {ec : Operand → Value} (hev : ∀ x, VR ρ G (ev x) (ec x)) (l : Array Operand) : VRs ρ G (l.toList.map ev) (l.map ec) := by
  refine ⟨by simp, fun i a v h1 h2 => ?_⟩
  simp at h1 h2
  obtain ⟨x, hx, rfl⟩ := h1
  obtain ⟨y, hy, rfl⟩ := h2
  rw [hx] at hy; cases hy
  exact hev x
theorem mapParts {ev : Operand → AV} {ec : Operand → Value} (hev : ∀ x, VR ρ G (ev x) (ec x)) (l : Array (Nat × Operand)) : (l.toList.map fun p => (p.1, ev p.2)).length = ((l.map fun (i, x) => (i, ec x)).toList).length ∧
    ∀ (i : Nat) (p : Nat × AV) (q : Nat × Value), (l.toList.map fun p => (p.1, ev p.2))[i]? = some p → ((l.map fun (i, x) => (i, ec x)).toList)[i]? = some q → p.1 = q.1 ∧ VR ρ G p.2 q.2 := by
  refine ⟨by simp, fun i p q h1 h2 => ?_⟩
  simp at h1 h2
  obtain ⟨a, b, hab, rfl⟩ := h1
  obtain ⟨c, d, hcd, rfl⟩ := h2
  rw [hab] at hcd; cases hcd
  exact ⟨rfl, hev _⟩
theorem mapM_sizes (w : World) : ∀ (fs : List Field) (szs : List Nat), fs.mapM (fun f => sizeB P f.type) = some szs → (fs.mapM fun f => (do pure (f.offset, ← sizeOf f.type) : Sem (Nat × Nat))).run P w = .ok ((fs.zip szs).map fun p => (p.1.offset, p.2)) w
  | [], szs, h => by simp at h; subst h; rfl
  | f :: fs, szs, h => by
    rw [List.mapM_cons] at h
    simp only [bind, Option.bind_eq_some_iff, pure, Option.some.injEq] at h
    obtain ⟨n, h1, r, h2, rfl⟩ := h
    rw [List.mapM_cons]
    simp only [Sem.run_bind, size_ok h1 w, Result.andThen_ok, Sem.run_pure, mapM_sizes w fs r h2]
    rfl

theorem build_ok {t : TypeId} {z : AV} {parts : Array (Nat × Operand)} {ev : Operand → AV} {ec : Operand → Value} {r : AV} {cs : List SE} (w : World) (hev : ∀ x, VR ρ G (ev x) (ec x)) {d : TypeDesc} (hz : zeroA P t = some z) (hu : P.underlying t = some d)
    (h : (match d with
      | .struct fs => (match z.cells?, fs.toList.mapM (fun f => sizeB P f.type) with
        | some zc, some szs => (fillA (fun i => match fs[i]?, szs[i]? with | some f, some n => some (f.offset, n) | _, _ => none) zc (parts.toList.map fun p => (p.1, ev p.2))).map fun cs => (AV.agg cs, ([] : List SE))
        | _, _ => none)
      | .array _ e => (match sizeB P e, z.cells? with
        | some n, some zc => (fillA (fun i => some (i * n, n)) zc (parts.toList.map fun p => (p.1, ev p.2))).map fun cs => (.agg cs, [])
        | _, _ => none)
      | _ => none) = some (r, cs)) : ∃ u, (Instr.build t (parts.map fun (i, x) => (i, ec x))).run P w = .ok u w ∧ VR ρ G r u := by
  obtain ⟨v, hv, hzv⟩ := zero_ok (ρ := ρ) (G := G) hz w
  obtain ⟨hl, hp⟩ := mapParts hev parts
  unfold Instr.build
  rw [Sem.run_bind, hv, Result.andThen_ok, Sem.run_bind, run_underlying hu w, Result.andThen_ok]
  cases d with
  | struct fs =>
    simp only at h ⊢
    split at h
    · rename_i zc szs hzc hsz
      cases hf : fillA (fun i => match fs[i]?, szs[i]? with | some f, some n => some (f.offset, n) | _, _ => none) zc (parts.toList.map fun p => (p.1, ev p.2)) with
      | none => rw [hf] at h; cases h
      | some out =>
        rw [hf] at h
        cases h
        obtain ⟨arr, h1, h2⟩ := fill_ok _ _ _ out v.cells hl hp (cells_ok hzv hzc) hf
        have hm := mapM_sizes (P := P) w fs.toList szs hsz
        have hlen : szs.length = fs.toList.length := by
          clear hm hf h1 h2
          generalize fs.toList = l at hsz
          induction l generalizing szs with
          | nil => simp at hsz; subst hsz; rfl
          | cons f l ih =>
            rw [List.mapM_cons] at hsz
            simp only [bind, Option.bind_eq_some_iff, pure, Option.some.injEq] at hsz
            obtain ⟨n, _, r, hr, rfl⟩ := hsz
            simp [ih r hr]
        have hpl : (((fs.toList.zip szs).map fun p => (p.1.offset, p.2)).toArray[·]? : Nat → Option (Nat × Nat)) = fun i => match fs[i]?, szs[i]? with | some f, some n => some (f.offset, n) | _, _ => none := by
          funext i
          simp only [List.getElem?_toArray, List.getElem?_map, List.zip, List.getElem?_zipWith, Array.getElem?_toList]
          cases fs[i]? <;> cases szs[i]? <;> rfl
        have hma : (fs.mapM fun f => (do pure (f.offset, ← sizeOf f.type) : Sem (Nat × Nat))).run P w = .ok ((fs.toList.zip szs).map fun p => (p.1.offset, p.2)).toArray w := by
          rw [Array.mapM_eq_mapM_toList]
          rw [Sem.run_map, hm]
          rfl
        rw [Sem.run_bind, hma, Result.andThen_ok, hpl, h1]
        exact ⟨.agg arr, rfl, .agg _ _ h2.1 h2.2⟩
    · cases h
  | array k e =>
    simp only at h ⊢
    split at h
    · rename_i n zc hn hzc
      cases hf : fillA (fun i => some (i * n, n)) zc (parts.toList.map fun p => (p.1, ev p.2)) with
      | none => rw [hf] at h; cases h
      | some out =>
        rw [hf] at h
        cases h
        obtain ⟨arr, h1, h2⟩ := fill_ok _ _ _ out v.cells hl hp (cells_ok hzv hzc) hf
        rw [Sem.run_bind, size_ok hn w, Result.andThen_ok, h1]
        exact ⟨.agg arr, rfl, .agg _ _ h2.1 h2.2⟩
    · cases h
  | _ => cases h
end
end Go.Proofs.Ytbnbljeegghgiaa
