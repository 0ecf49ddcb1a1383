/- What the executor says of operations that touch no memory is so. No program in sight. -/
import Derived.Test.YtbnbljeegghgiaaRun
import Derived.WalkSpells
import Derived.WalkKit
namespace Go.Proofs.Ytbnbljeegghgiaa
open Go.RowKit
set_option linter.unusedVariables false
set_option linter.unusedSimpArgs false

section
variable {P : Program} {ρ : Env} {G : Gh}

theorem bytesOf_self (s : ByteArray) : bytesOf s.data.toList = s := rfl
theorem toList_bytesOf (s : List UInt8) : (bytesOf s).toList = s := by rw [ByteArray.toList_eq]; rfl
theorem size_bytesOf (s : List UInt8) : (bytesOf s).size = s.length := rfl
theorem litS_ok (v : Value) : VR ρ G (litS v) v := by
  unfold litS
  split
  · exact .bool _ _ rfl
  · exact .int _ _ _ rfl
  · exact .str _ _ (bytesOf_self _).symm
  · exact .nilp
  · exact .nils
  · exact .nilm
  · exact .nilf
  · exact .nili
  · exact .any _
theorem litV_ok (v : Value) : VR ρ G (litV v) v := by
  unfold litV
  split
  · rename_i cs
    refine .agg _ _ (by simp) fun i a v h1 h2 => ?_
    simp at h1
    obtain ⟨x, hx, rfl⟩ := h1
    rw [h2] at hx; cases hx
    exact litS_ok _
  · rename_i cs
    cases h : cs.toList.isEmpty
    · exact .any _
    · have : cs = #[] := by simpa using h
      subst this
      exact .tup _ _ rfl fun i a v h1 => by simp at h1
  · exact litS_ok _

theorem cells_ok {a : AV} {v : Value} {cs : List AV} (h : VR ρ G a v) (hc : a.cells? = some cs) : VRs ρ G cs v.cells := by
  have one : ∀ (x : AV) (u : Value), VR ρ G x u → u.cells = #[u] → VRs ρ G [x] u.cells := fun x u hx hu => by
    rw [hu]
    exact VRs.cons (vs := []) hx VRs.nil
  cases h with
  | any => cases hc
  | tup => cases hc
  | agg cs' vs h1 h2 => cases hc; exact ⟨h1, h2⟩
  | int k e n h => cases hc; exact one _ _ (.int k e n h) rfl
  | bool e b h => cases hc; exact one _ _ (.bool e b h) rfl
  | str e s h => cases hc; exact one _ _ (.str e s h) rfl
  | nilp => cases hc; exact one _ _ .nilp rfl
  | ptr b o g a h h2 => cases hc; exact one _ _ (.ptr b o g a h h2) rfl
  | elt b s i j g a h h2 => cases hc; exact one _ _ (.elt b s i j g a h h2) rfl
  | nils => cases hc; exact one _ _ .nils rfl
  | sl b s off len cap g a n c h h1 h2 h3 h4 h5 h6 => cases hc; exact one _ _ (.sl b s off len cap g a n c h h1 h2 h3 h4 h5 h6) rfl
  | func fn first cap vf vc h1 h2 h3 h4 => cases hc; exact one _ _ (.func fn first cap vf vc h1 h2 h3 h4) rfl
  | nilf => cases hc; exact one _ _ .nilf rfl
  | iface t a v h => cases hc; exact one _ _ (.iface t a v h) rfl
  | nili => cases hc; exact one _ _ .nili rfl
  | map b g h => cases hc; exact one _ _ (.map b g h) rfl
  | nilm => cases hc; exact one _ _ .nilm rfl

theorem setMany_length (vs : List AV) : ∀ (l : List AV) (o : Nat), (setMany l o vs).length = l.length := by
  induction vs with
  | nil => intro l o; rfl
  | cons v r ih => intro l o; rw [setMany, ih, List.length_set]
/-- The model's cells, set one by one. -/
def setManyV (arr : Array Value) (o : Nat) (vs : List Value) : Array Value :=
  match vs with
  | [] => arr
  | v :: r => setManyV (arr.setIfInBounds o v) (o + 1) r
theorem setManyV_size (vs : List Value) : ∀ (arr : Array Value) (o : Nat), (setManyV arr o vs).size = arr.size := by
  induction vs with
  | nil => intro l o; rfl
  | cons v r ih => intro l o; rw [setManyV, ih, Array.size_setIfInBounds]
theorem foldl_setManyV (off : Nat) (vs : List Value) : ∀ (arr : Array Value) (i : Nat), ((vs.zipIdx i).foldl (fun cs (x : Value × Nat) => cs.setIfInBounds (off + x.2) x.1) arr) = setManyV arr (off + i) vs := by
  induction vs with
  | nil => intro arr i; rfl
  | cons v r ih => intro arr i; simp only [List.zipIdx_cons, List.foldl_cons, setManyV]; rw [ih]; rfl
/-- A pointwise relation, also of a part. -/
def VRp (ρ : Env) (G : Gh) (cs : List AV) (arr : Array Value) : Prop := cs.length ≤ arr.size ∧ ∀ (i : Nat) (a : AV) (v : Value), cs[i]? = some a → arr[i]? = some v → VR ρ G a v
theorem VRs.p {cs : List AV} {vs : Array Value} (h : VRs ρ G cs vs) : VRp ρ G cs vs := ⟨Nat.le_of_eq h.1.symm, h.2⟩
theorem setMany_p (xs : List AV) : ∀ (us : List Value) (cs : List AV) (arr : Array Value) (o : Nat), VRp ρ G cs arr → VRs ρ G xs us.toArray → VRp ρ G (setMany cs o xs) (setManyV arr o us) := by
  induction xs with
  | nil => intro us cs arr o h hx; have : us = [] := by have := hx.1; simpa using this
           subst this; exact h
  | cons x r ih =>
    intro us cs arr o h hx
    cases us with
    | nil => have := hx.1; simp at this
    | cons u us =>
      refine ih us _ _ _ ⟨by simp; exact h.1, fun i a v h1 h2 => ?_⟩ ⟨by have := hx.1; simpa using this, fun i a v h1 h2 => hx.2 (i + 1) a v (by simpa using h1) (by simpa using h2)⟩
      rw [List.getElem?_set] at h1
      rw [Array.getElem?_setIfInBounds] at h2
      by_cases ho : o = i
      · subst ho
        simp only [if_true] at h1 h2
        split at h1
        · split at h2
          · cases h1; cases h2; exact hx.2 0 _ _ rfl rfl
          · cases h2
        · cases h1
      · rw [if_neg ho] at h1 h2
        exact h.2 i a v h1 h2
theorem setMany_s {xs cs : List AV} {us : List Value} {arr : Array Value} {o : Nat} (h : VRs ρ G cs arr) (hx : VRs ρ G xs us.toArray) : VRs ρ G (setMany cs o xs) (setManyV arr o us) :=
  ⟨by rw [setManyV_size, setMany_length]; exact h.1, (setMany_p xs us cs arr o h.p hx).2⟩

theorem fill_ok {pl : Nat → Option (Nat × Nat)} : ∀ (ps : List (Nat × AV)) (vs : List (Nat × Value)) (cs out : List AV) (arr : Array Value), ps.length = vs.length → (∀ (i : Nat) (p : Nat × AV) (q : Nat × Value), ps[i]? = some p → vs[i]? = some q → p.1 = q.1 ∧ VR ρ G p.2 q.2) → VRs ρ G cs arr → fillA pl cs ps = some out →
    ∃ arr', Instr.fill pl arr vs = some arr' ∧ VRs ρ G out arr' := by
  intro ps
  induction ps with
  | nil => intro vs cs out arr hl hp hc ho; cases vs with
    | nil => cases ho; exact ⟨arr, rfl, hc⟩
    | cons v r => simp at hl
  | cons p r ih =>
    intro vs cs out arr hl hp hc ho
    cases vs with
    | nil => simp at hl
    | cons q r' =>
      obtain ⟨i, a⟩ := p
      obtain ⟨j, u⟩ := q
      obtain ⟨hij, ha⟩ := hp 0 (i, a) (j, u) rfl rfl
      simp only at hij ha
      subst hij
      unfold fillA at ho
      cases hpl : pl i with
      | none => rw [hpl] at ho; cases ho
      | some os =>
        obtain ⟨off, size⟩ := os
        rw [hpl] at ho
        simp only at ho
        cases hac : a.cells? with
        | none => rw [hac] at ho; cases ho
        | some vc =>
          rw [hac] at ho
          simp only at ho
          cases hb : (Nat.beq vc.length size && Nat.ble (off + size) cs.length) with
          | false => rw [hb] at ho; cases ho
          | true =>
            rw [hb] at ho
            simp only [cond_true] at ho
            simp only [Bool.and_eq_true, beq_iff, Nat.ble_eq] at hb
            have hcell := cells_ok ha hac
            have hs : u.cells.size = size := by rw [hcell.1]; exact hb.1
            have hcs := hc.1
            unfold Instr.fill
            rw [hpl]
            simp only
            rw [if_neg (by simp [hs, hcs]; omega)]
            have hfold : (u.cells.zipIdx.foldl (fun cs (x : Value × Nat) => cs.setIfInBounds (off + x.2) x.1) arr) = setManyV arr off u.cells.toList := by
              rw [← Array.foldl_toList, Array.toList_zipIdx]
              exact foldl_setManyV off u.cells.toList arr 0
            obtain ⟨arr', h1, h2⟩ := ih r' _ out (setManyV arr off u.cells.toList) (by simpa using hl) (fun k p q h1 h2 => hp (k + 1) p q (by simpa using h1) (by simpa using h2)) (setMany_s hc (by simpa using hcell)) ho
            refine ⟨arr', ?_, h2⟩
            rw [← hfold] at h1
            exact h1

theorem zero_ok {t : TypeId} {z : AV} (h : zeroA P t = some z) (w : World) : ∃ v, (zeroValue t).run P w = .ok v w ∧ VR ρ G z v := by
  unfold zeroA at h
  cases hi : P.info? t with
  | none => rw [hi] at h; cases h
  | some i =>
    rw [hi] at h
    simp only at h
    cases hz : i.zero with
    | none => rw [hz] at h; cases h
    | some v =>
      rw [hz] at h
      cases h
      exact ⟨v, by simp [zeroValue, typeInfo, Sem.run_bind, hi, hz], litV_ok v⟩
theorem size_ok {t : TypeId} {n : Nat} (h : sizeB P t = some n) (w : World) : (sizeOf t).run P w = .ok n w := by
  unfold sizeB at h
  cases hi : P.info? t with
  | none => rw [hi] at h; cases h
  | some i => rw [hi] at h; cases h; simp [sizeOf, typeInfo, Sem.run_bind, hi]
theorem isAgg_ok {t : TypeId} {b : Bool} (h : isAggB P t = some b) (w : World) : (isAgg t).run P w = .ok b w := by
  unfold isAggB at h
  unfold isAgg
  cases hu : P.underlying t with
  | none => rw [hu] at h; cases h
  | some d =>
    rw [Sem.run_bind, run_underlying hu w]
    rw [hu] at h
    cases d <;> cases h <;> rfl
theorem part_ok {t : TypeId} {cs : List AV} {vs : Array Value} {off : Nat} {v : AV} (h : VRs ρ G cs vs) (hp : partA P t cs off = some v) (w : World) : ∃ u, (part t vs off).run P w = .ok u w ∧ VR ρ G v u := by
  unfold partA at hp
  cases ha : isAggB P t with
  | none => rw [ha] at hp; cases hp
  | some b =>
    cases hs : sizeB P t with
    | none => rw [ha, hs] at hp; cases b <;> cases hp
    | some n =>
      rw [ha, hs] at hp
      unfold part
      rw [Sem.run_bind, isAgg_ok ha w]
      cases b with
      | true =>
        simp only at hp
        cases hb : Nat.ble (off + n) cs.length with
        | false => rw [hb] at hp; cases hp
        | true =>
          rw [hb] at hp
          cases hp
          have hle : off + n ≤ cs.length := Nat.le_of_ble_eq_true hb
          refine ⟨.agg (vs.extract off (off + n)), by simp [Sem.run_bind, size_ok hs w, Result.andThen], .agg _ _ (by simp [h.1]; omega) fun i a v h1 h2 => ?_⟩
          rw [List.getElem?_take] at h1
          split at h1
          · rw [List.getElem?_drop] at h1
            rw [Array.getElem?_extract] at h2
            split at h2
            · exact h.2 _ a v h1 h2
            · cases h2
          · cases h1
      | false =>
        simp only at hp
        obtain ⟨u, hu, hv⟩ := h.get hp
        exact ⟨u, by simp [Sem.run_bind, Result.andThen, hu], hv⟩
end
end Go.Proofs.Ytbnbljeegghgiaa
