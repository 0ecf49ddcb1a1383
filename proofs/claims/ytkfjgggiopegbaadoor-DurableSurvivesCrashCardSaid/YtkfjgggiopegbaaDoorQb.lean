/- Part 2 of a proof: the executor, its soundness, contracts of functions. No condition. -/
import Derived.WalkSpells
import Derived.WalkKit
import Derived.IntWalk
import Derived.Test.YtkfjgggiopegbaaDoorQa
section
set_option linter.unusedVariables false
set_option linter.unusedSimpArgs false
namespace Go.Proofs.YtkfjgggiopegbaaDoor
open Go.RowKit
section
variable {P : Program} {ρ : Env} {G : Gh}
theorem bytesOf_self (s : ByteArray) : bytesOf s.data.toList = s := rfl
theorem toList_bytesOf (s : List UInt8) : (bytesOf s).toList = s := by rw [ByteArray.toList_eq]; rfl
theorem size_bytesOf (s : List UInt8) : (bytesOf s).size = s.length := rfl
theorem litS_ok (v : Value) : VR ρ G (litS v) v := by
  unfold litS
  split
  · exact .bool _ _ rfl
  · exact .int _ _ _ rfl
  · exact .str _ _ (bytesOf_self _).symm
  · exact .nilp
  · exact .nils
  · exact .nilm
  · exact .nilf
  · exact .nili
  · exact .any _
theorem litV_ok (v : Value) : VR ρ G (litV v) v := by
  unfold litV
  split
  · rename_i cs
    refine .agg _ _ (by simp) fun i a v h1 h2 => ?_
    simp at h1
    obtain ⟨x, hx, rfl⟩ := h1
    rw [h2] at hx; cases hx
    exact litS_ok _
  · rename_i cs
    cases h : cs.toList.isEmpty
    · exact .any _
    · have : cs = #[] := by simpa using h
      subst this
      exact .tup _ _ rfl fun i a v h1 => by simp at h1
  · exact litS_ok _
theorem cells_ok {a : AV} {v : Value} {cs : List AV} (h : VR ρ G a v) (hc : a.cells? = some cs) : VRs ρ G cs v.cells := by
  have one : ∀ (x : AV) (u : Value), VR ρ G x u → u.cells = #[u] → VRs ρ G [x] u.cells := fun x u hx hu => by
    rw [hu]
    exact VRs.cons (vs := []) hx VRs.nil
  cases h with
  | any => cases hc
  | tup => cases hc
  | agg cs' vs h1 h2 => cases hc; exact ⟨h1, h2⟩
  | int k e n h => cases hc; exact one _ _ (.int k e n h) rfl
  | bool e b h => cases hc; exact one _ _ (.bool e b h) rfl
  | str e s h => cases hc; exact one _ _ (.str e s h) rfl
  | nilp => cases hc; exact one _ _ .nilp rfl
  | ptr b o g a h h2 => cases hc; exact one _ _ (.ptr b o g a h h2) rfl
  | elt b s i j g a h h2 => cases hc; exact one _ _ (.elt b s i j g a h h2) rfl
  | nils => cases hc; exact one _ _ .nils rfl
  | sl b s off len cap g a n c h h1 h2 h3 h4 h5 h6 => cases hc; exact one _ _ (.sl b s off len cap g a n c h h1 h2 h3 h4 h5 h6) rfl
  | func fn first cap vf vc h1 h2 h3 h4 => cases hc; exact one _ _ (.func fn first cap vf vc h1 h2 h3 h4) rfl
  | nilf => cases hc; exact one _ _ .nilf rfl
  | iface t a v h => cases hc; exact one _ _ (.iface t a v h) rfl
  | nili => cases hc; exact one _ _ .nili rfl
  | map b g h => cases hc; exact one _ _ (.map b g h) rfl
  | nilm => cases hc; exact one _ _ .nilm rfl
  | boolu c b h => cases hc; exact one _ _ (.boolu c b h) rfl
  | yld b g h => cases hc; exact one _ _ (.yld b g h) rfl
  | nsl b s i j ks len g a n c h h1 h2 h3 h4 => cases hc; exact one _ _ (.nsl b s i j ks len g a n c h h1 h2 h3 h4) rfl
  | nelt b s i j ks x q g blk off n c h h1 => cases hc; exact one _ _ (.nelt b s i j ks x q g blk off n c h h1) rfl
theorem setMany_length (vs : List AV) : ∀ (l : List AV) (o : Nat), (setMany l o vs).length = l.length := by
  induction vs with
  | nil => intro l o; rfl
  | cons v r ih => intro l o; rw [setMany, ih, List.length_set]
def setManyV (arr : Array Value) (o : Nat) (vs : List Value) : Array Value :=
  match vs with
  | [] => arr
  | v :: r => setManyV (arr.setIfInBounds o v) (o + 1) r
theorem setManyV_size (vs : List Value) : ∀ (arr : Array Value) (o : Nat), (setManyV arr o vs).size = arr.size := by
  induction vs with
  | nil => intro l o; rfl
  | cons v r ih => intro l o; rw [setManyV, ih, Array.size_setIfInBounds]
theorem foldl_setManyV (off : Nat) (vs : List Value) : ∀ (arr : Array Value) (i : Nat), ((vs.zipIdx i).foldl (fun cs (x : Value × Nat) => cs.setIfInBounds (off + x.2) x.1) arr) = setManyV arr (off + i) vs := by
  induction vs with
  | nil => intro arr i; rfl
  | cons v r ih => intro arr i; simp only [List.zipIdx_cons, List.foldl_cons, setManyV]; rw [ih]; rfl
def VRp (ρ : Env) (G : Gh) (cs : List AV) (arr : Array Value) : Prop := cs.length ≤ arr.size ∧ ∀ (i : Nat) (a : AV) (v : Value), cs[i]? = some a → arr[i]? = some v → VR ρ G a v
theorem VRs.p {cs : List AV} {vs : Array Value} (h : VRs ρ G cs vs) : VRp ρ G cs vs := ⟨Nat.le_of_eq h.1.symm, h.2⟩
theorem setMany_p (xs : List AV) : ∀ (us : List Value) (cs : List AV) (arr : Array Value) (o : Nat), VRp ρ G cs arr → VRs ρ G xs us.toArray → VRp ρ G (setMany cs o xs) (setManyV arr o us) := by
  induction xs with
  | nil => intro us cs arr o h hx; have : us = [] := by have := hx.1; simpa using this
           subst this; exact h
  | cons x r ih =>
    intro us cs arr o h hx
    cases us with
    | nil => have := hx.1; simp at this
    | cons u us =>
      refine ih us _ _ _ ⟨by simp; exact h.1, fun i a v h1 h2 => ?_⟩ ⟨by have := hx.1; simpa using this, fun i a v h1 h2 => hx.2 (i + 1) a v (by simpa using h1) (by simpa using h2)⟩
      rw [List.getElem?_set] at h1
      rw [Array.getElem?_setIfInBounds] at h2
      by_cases ho : o = i
      · subst ho
        simp only [if_true] at h1 h2
        split at h1
        · split at h2
          · cases h1; cases h2; exact hx.2 0 _ _ rfl rfl
          · cases h2
        · cases h1
      · rw [if_neg ho] at h1 h2
        exact h.2 i a v h1 h2
theorem setMany_s {xs cs : List AV} {us : List Value} {arr : Array Value} {o : Nat} (h : VRs ρ G cs arr) (hx : VRs ρ G xs us.toArray) : VRs ρ G (setMany cs o xs) (setManyV arr o us) :=
  ⟨by rw [setManyV_size, setMany_length]; exact h.1, (setMany_p xs us cs arr o h.p hx).2⟩
theorem fill_ok {pl : Nat → Option (Nat × Nat)} : ∀ (ps : List (Nat × AV)) (vs : List (Nat × Value)) (cs out : List AV) (arr : Array Value), ps.length = vs.length → (∀ (i : Nat) (p : Nat × AV) (q : Nat × Value), ps[i]? = some p → vs[i]? = some q → p.1 = q.1 ∧ VR ρ G p.2 q.2) → VRs ρ G cs arr → fillA pl cs ps = some out →
    ∃ arr', Instr.fill pl arr vs = some arr' ∧ VRs ρ G out arr' := by
  intro ps
  induction ps with
  | nil => intro vs cs out arr hl hp hc ho; cases vs with
    | nil => cases ho; exact ⟨arr, rfl, hc⟩
    | cons v r => simp at hl
  | cons p r ih =>
    intro vs cs out arr hl hp hc ho
    cases vs with
    | nil => simp at hl
    | cons q r' =>
      obtain ⟨i, a⟩ := p
      obtain ⟨j, u⟩ := q
      obtain ⟨hij, ha⟩ := hp 0 (i, a) (j, u) rfl rfl
      simp only at hij ha
      subst hij
      unfold fillA at ho
      cases hpl : pl i with
      | none => rw [hpl] at ho; cases ho
      | some os =>
        obtain ⟨off, size⟩ := os
        rw [hpl] at ho
        simp only at ho
        cases hac : a.cells? with
        | none => rw [hac] at ho; cases ho
        | some vc =>
          rw [hac] at ho
          simp only at ho
          cases hb : (Nat.beq vc.length size && Nat.ble (off + size) cs.length) with
          | false => rw [hb] at ho; cases ho
          | true =>
            rw [hb] at ho
            simp only [cond_true] at ho
            simp only [Bool.and_eq_true, beq_iff, Nat.ble_eq] at hb
            have hcell := cells_ok ha hac
            have hs : u.cells.size = size := by rw [hcell.1]; exact hb.1
            have hcs := hc.1
            unfold Instr.fill
            rw [hpl]
            simp only
            rw [if_neg (by simp [hs, hcs]; omega)]
            have hfold : (u.cells.zipIdx.foldl (fun cs (x : Value × Nat) => cs.setIfInBounds (off + x.2) x.1) arr) = setManyV arr off u.cells.toList := by
              rw [← Array.foldl_toList, Array.toList_zipIdx]
              exact foldl_setManyV off u.cells.toList arr 0
            obtain ⟨arr', h1, h2⟩ := ih r' _ out (setManyV arr off u.cells.toList) (by simpa using hl) (fun k p q h1 h2 => hp (k + 1) p q (by simpa using h1) (by simpa using h2)) (setMany_s hc (by simpa using hcell)) ho
            refine ⟨arr', ?_, h2⟩
            rw [← hfold] at h1
            exact h1
theorem zero_ok {t : TypeId} {z : AV} (h : zeroA P t = some z) (w : World) : ∃ v, (zeroValue t).run P w = .ok v w ∧ VR ρ G z v := by
  unfold zeroA at h
  cases hi : P.info? t with
  | none => rw [hi] at h; cases h
  | some i =>
    rw [hi] at h
    simp only at h
    cases hz : i.zero with
    | none => rw [hz] at h; cases h
    | some v =>
      rw [hz] at h
      cases h
      exact ⟨v, by simp [zeroValue, typeInfo, Sem.run_bind, hi, hz], litV_ok v⟩
theorem size_ok {t : TypeId} {n : Nat} (h : sizeB P t = some n) (w : World) : (sizeOf t).run P w = .ok n w := by
  unfold sizeB at h
  cases hi : P.info? t with
  | none => rw [hi] at h; cases h
  | some i => rw [hi] at h; cases h; simp [sizeOf, typeInfo, Sem.run_bind, hi]
theorem isAgg_ok {t : TypeId} {b : Bool} (h : isAggB P t = some b) (w : World) : (isAgg t).run P w = .ok b w := by
  unfold isAggB at h
  unfold isAgg
  cases hu : P.underlying t with
  | none => rw [hu] at h; cases h
  | some d =>
    rw [Sem.run_bind, run_underlying hu w]
    rw [hu] at h
    cases d <;> cases h <;> rfl
theorem part_ok {t : TypeId} {cs : List AV} {vs : Array Value} {off : Nat} {v : AV} (h : VRs ρ G cs vs) (hp : partA P t cs off = some v) (w : World) : ∃ u, (part t vs off).run P w = .ok u w ∧ VR ρ G v u := by
  unfold partA at hp
  cases ha : isAggB P t with
  | none => rw [ha] at hp; cases hp
  | some b =>
    cases hs : sizeB P t with
    | none => rw [ha, hs] at hp; cases b <;> cases hp
    | some n =>
      rw [ha, hs] at hp
      unfold part
      rw [Sem.run_bind, isAgg_ok ha w]
      cases b with
      | true =>
        simp only at hp
        cases hb : Nat.ble (off + n) cs.length with
        | false => rw [hb] at hp; cases hp
        | true =>
          rw [hb] at hp
          cases hp
          have hle : off + n ≤ cs.length := Nat.le_of_ble_eq_true hb
          refine ⟨.agg (vs.extract off (off + n)), by simp [size_ok hs w, Result.andThen], .agg _ _ (by simp [h.1]; omega) fun i a v h1 h2 => ?_⟩
          rw [List.getElem?_take] at h1
          split at h1
          · rw [List.getElem?_drop] at h1
            rw [Array.getElem?_extract] at h2
            split at h2
            · exact h.2 _ a v h1 h2
            · cases h2
          · cases h1
      | false =>
        simp only at hp
        obtain ⟨u, hu, hv⟩ := h.get hp
        exact ⟨u, by simp [Result.andThen, hu], hv⟩
end
end Go.Proofs.YtkfjgggiopegbaaDoor
namespace Go.Proofs.YtkfjgggiopegbaaDoor
open Go.RowKit
section
variable {P : Program} {ρ : Env} {G : Gh}
theorem eq_ok : ∀ (f : Nat) (t : TypeId) (x y : AV) (e : SE) (u v : Value) (d : Nat) (w : World), f ≤ d → eqA P f t x y = some e → VR ρ G x u → VR ρ G y v → ∃ b, (Op.equalIn d t u v).run P w = .ok b w ∧ e.den ρ = .bool b := by
  intro f
  induction f with
  | zero => intro t x y e u v d w hd h; cases h
  | succ f ih =>
    intro t x y e u v d w hd h hx hy
    obtain ⟨d, rfl⟩ : ∃ d', d = d' + 1 := ⟨d - 1, by omega⟩
    unfold eqA at h
    split at h
    · rename_i a b hu
      cases h
      rw [hx.bool_inv, hy.bool_inv]
      exact ⟨_, run_equalIn_bool w d t _ _ hu, by rw [mkB_den]; rfl⟩
    · rename_i k0 k a k' b hu
      split at h
      · rename_i hk
        subst hk
        cases h
        rw [hx.int_inv, hy.int_inv]
        exact ⟨_, run_equalIn_int w d t _ _ _ _ hu, by rw [mkB_den]; simp [evB, Bool.beq_eq_decide_eq]⟩
      · cases h
    · rename_i a b hu
      cases h
      rw [hx.str_inv, hy.str_inv]
      exact ⟨_, run_equalIn_string w d t _ _ hu, by rw [mkB_den]; simp [evB, toList_bytesOf, Bool.beq_eq_decide_eq]⟩
    · rename_i fs xs ys hu
      cases hp : P.stoodInHeld t with
      | true => rw [hp] at h; cases h
      | false =>
        rw [hp] at h
        simp only [cond_false] at h
        obtain ⟨us, rfl, hus⟩ := hx.agg_inv
        obtain ⟨vs, rfl, hvs⟩ := hy.agg_inv
        have hfs : P.fieldsOf t = fs := by simp [Program.fieldsOf, hu]
        rw [run_equalIn_struct w d t us vs (by rw [hfs]; exact hu) hp, hfs]
        generalize fs.toList = l at h ⊢
        clear hu hfs hp hx hy
        induction l generalizing e with
        | nil => cases h; exact ⟨true, by simp [Op.eqFields], rfl⟩
        | cons fl r ihl =>
          simp only [List.foldr_cons] at h
          split at h
          · cases h
          · rename_i s hs
            obtain ⟨b', hb', he'⟩ := ihl s hs
            unfold Op.eqFields
            split at h
            · rename_i hn
              cases h
              rw [if_neg (by simpa using hn)]
              exact ⟨b', hb', he'⟩
            · rename_i hn
              rw [if_pos (by simpa using hn)]
              split at h
              · rename_i p q hp hq
                split at h
                · rename_i e1 he1
                  cases h
                  obtain ⟨u1, hu1, hr1⟩ := part_ok hus hp w
                  obtain ⟨v1, hv1, hr2⟩ := part_ok hvs hq w
                  obtain ⟨b1, hb1, hd1⟩ := ih fl.type p q e1 u1 v1 d w (by omega) he1 hr1 hr2
                  simp only [Sem.run_bind, hu1, hv1, hb1, Result.andThen_ok]
                  cases b1 with
                  | false => exact ⟨false, by simp, by rw [mkB_den, hd1, he']; rfl⟩
                  | true => exact ⟨b', by simpa using hb', by rw [mkB_den, hd1, he']; rfl⟩
                · cases h
              · cases h
    · cases h
theorem equal_eq (t : TypeId) (u v : Value) : Op.equal t u v = Op.equalIn 10000 t u v := rfl
theorem equalIn_ni {t : TypeId} {ms : Array (String × TypeId)} (hu : P.underlying t = some (.interface ms)) (d : Nat) (t' : TypeId) (u : Value) (w : World) : (Op.equalIn (d + 1) t .nilIface (.iface t' u)).run P w = .ok false w ∧ (Op.equalIn (d + 1) t (.iface t' u) .nilIface).run P w = .ok false w := by
  unfold Op.equalIn
  constructor <;> (rw [Sem.run_bind, run_underlying hu w]; rfl)
theorem equalIn_ns {t e : TypeId} (hu : P.underlying t = some (.slice e)) (d : Nat) (w : World) : (Op.equalIn (d + 1) t (.slice none 0 0) (.slice none 0 0)).run P w = .ok true w := by
  unfold Op.equalIn
  rw [Sem.run_bind, run_underlying hu w]; rfl
theorem equalIn_nn {t : TypeId} {ms : Array (String × TypeId)} (hu : P.underlying t = some (.interface ms)) (d : Nat) (w : World) : (Op.equalIn (d + 1) t .nilIface .nilIface).run P w = .ok true w := by
  unfold Op.equalIn
  rw [Sem.run_bind, run_underlying hu w]; rfl
theorem guard_nn {t : TypeId} {ms : Array (String × TypeId)} (hu : P.underlying t = some (.interface ms)) (hm : ms.isEmpty = true) (op : BinOp) (ox oy : Operand) (w : World) : (eqGuard op t ox oy .nilIface .nilIface).run P w = .ok () w := by
  have hg : (Op.eqGuardIn Op.maxDepth t .nilIface .nilIface).run P w = .ok false w := by
    show (Op.eqGuardIn (9999 + 1) t .nilIface .nilIface).run P w = _
    unfold Op.eqGuardIn
    rw [Sem.run_bind, run_underlying hu w]
    simp only [Result.andThen_ok, Sem.run_pure, hm]
    rfl
  have main : (do if ← Op.eqGuardIn Op.maxDepth t .nilIface .nilIface then unsupported (.noEntry "binop/eql: two nil values of an interface type with methods, neither of them the literal nil") : Sem Unit).run P w = .ok () w := by
    rw [Sem.run_bind, hg]; rfl
  unfold eqGuard
  cases op <;> first | rfl | (cases ox <;> cases oy <;> first | rfl | exact main)
theorem guard_int (op : BinOp) (t : TypeId) (ox oy : Operand) (k k' : IntKind) (a b : Int) (w : World) : (eqGuard op t ox oy (.int k a) (.int k' b)).run P w = .ok () w := by cases op <;> rfl
theorem guard_str (op : BinOp) (t : TypeId) (ox oy : Operand) (a b : ByteArray) (w : World) : (eqGuard op t ox oy (.string a) (.string b)).run P w = .ok () w := by cases op <;> rfl
theorem guard_bool (op : BinOp) (t : TypeId) (ox oy : Operand) (a b : Bool) (w : World) : (eqGuard op t ox oy (.bool a) (.bool b)).run P w = .ok () w := by cases op <;> rfl
theorem guard_ni (op : BinOp) (t : TypeId) (ox oy : Operand) (t' : TypeId) (u : Value) (w : World) : (eqGuard op t ox oy .nilIface (.iface t' u)).run P w = .ok () w ∧ (eqGuard op t ox oy (.iface t' u) .nilIface).run P w = .ok () w := by cases op <;> exact ⟨rfl, rfl⟩
theorem guard_sn (op : BinOp) (t : TypeId) (ox oy : Operand) (a : Option Addr) (n c : Nat) (w : World) : (eqGuard op t ox oy (.slice a n c) (.slice none 0 0)).run P w = .ok () w := by cases op <;> rfl
theorem equalIn_sn {t e : TypeId} (hu : P.underlying t = some (.slice e)) (d : Nat) (a : Option Addr) (n c : Nat) (w : World) : ∃ b, (Op.equalIn (d + 1) t (.slice a n c) (.slice none 0 0)).run P w = .ok b w ∧ (b = true → a = none) := by
  unfold Op.equalIn
  rw [Sem.run_bind, run_underlying hu w]
  cases a with
  | none => exact ⟨true, rfl, fun _ => rfl⟩
  | some a => exact ⟨false, rfl, fun h => by cases h⟩
theorem guard_ns (op : BinOp) (t : TypeId) (ox oy : Operand) (w : World) : (eqGuard op t ox oy (.slice none 0 0) (.slice none 0 0)).run P w = .ok () w := by cases op <;> rfl
theorem eql_ok {t : TypeId} {x y : AV} {e : SE} {u v : Value} (w : World) (ox oy : Operand) (h : eqlA P t x y = some e) (hx : VR ρ G x u) (hy : VR ρ G y v) (hnI : ∀ k a k' b, ¬ (x = .int k a ∧ y = .int k' b)) (hnS : ∀ a b, ¬ (x = .str a ∧ y = .str b)) :
    ∃ b, (∀ op, (eqGuard op t ox oy u v).run P w = .ok () w) ∧ (binOp .eql t u v).run P w = .ok (.bool b) w ∧ (binOp .neq t u v).run P w = .ok (.bool (!b)) w ∧ e.den ρ = .bool b := by
  unfold eqlA at h
  split at h
  · rename_i cs ds
    cases hq : P.eqGuardType P.depth t with
    | true => rw [hq] at h; cases h
    | false =>
      rw [hq] at h
      simp only [cond_false] at h
      obtain ⟨b, hb, he⟩ := eq_ok 20 t _ _ e u v 10000 w (by omega) h hx hy
      obtain ⟨us, rfl, _⟩ := hx.agg_inv
      obtain ⟨vs, rfl, _⟩ := hy.agg_inv
      exact ⟨b, fun op => run_eqGuard_agg w op _ _ _ _ _ hq, by rw [run_eql_struct, hb]; rfl, by rw [run_neq_struct, hb]; rfl, he⟩
  · split at h
    · rename_i ms hu
      cases hm : ms.isEmpty with
      | false => rw [hm] at h; cases h
      | true =>
        rw [hm] at h
        cases h
        cases hx
        cases hy
        have hb := equalIn_nn hu 9999 w
        exact ⟨true, fun op => guard_nn hu hm op ox oy w, by simp only [binOp, Sem.run_bind, equal_eq, hb]; rfl, by simp only [binOp, Sem.run_bind, equal_eq, hb]; rfl, rfl⟩
    · cases h
  · rename_i t' a
    split at h
    · rename_i hu
      cases h
      cases hx
      obtain ⟨u', rfl, _⟩ := hy.iface_inv
      have hb := (equalIn_ni hu 9999 t' u' w).1
      exact ⟨false, fun op => (guard_ni op t ox oy t' u' w).1, by simp only [binOp, Sem.run_bind, equal_eq, hb]; rfl, by simp only [binOp, Sem.run_bind, equal_eq, hb]; rfl, rfl⟩
    · cases h
  · rename_i t' a
    split at h
    · rename_i hu
      cases h
      cases hy
      obtain ⟨u', rfl, _⟩ := hx.iface_inv
      have hb := (equalIn_ni hu 9999 t' u' w).2
      exact ⟨false, fun op => (guard_ni op t ox oy _ u' w).2, by simp only [binOp, Sem.run_bind, equal_eq, hb]; rfl, by simp only [binOp, Sem.run_bind, equal_eq, hb]; rfl, rfl⟩
    · cases h
  · split at h
    · rename_i hu
      cases h
      cases hy
      cases hx
      have hb := equalIn_ns hu 9999 w
      exact ⟨true, fun op => guard_ns op t ox oy w, by simp only [binOp, Sem.run_bind, equal_eq, hb]; rfl, by simp only [binOp, Sem.run_bind, equal_eq, hb]; rfl, rfl⟩
    · cases h
  · rename_i h1 h2 h3 h4 h5
    have h0 := h
    unfold eqA at h
    split at h
    · obtain ⟨b, hb, he⟩ := eq_ok 1 t _ _ e u v 10000 w (by omega) h0 hx hy
      rw [hx.bool_inv, hy.bool_inv] at hb ⊢
      exact ⟨b, fun op => guard_bool op t ox oy _ _ w, by simp only [binOp, Sem.run_bind, equal_eq, hb]; rfl, by simp only [binOp, Sem.run_bind, equal_eq, hb]; rfl, he⟩
    · exact absurd ⟨rfl, rfl⟩ (hnI _ _ _ _)
    · exact absurd ⟨rfl, rfl⟩ (hnS _ _)
    · exact absurd rfl (fun e => h1 _ _ rfl e)
    · cases h
theorem le_b (a b : SE) : ((mkB .le a b).den ρ).b = decide ((a.den ρ).i ≤ (b.den ρ).i) := by rw [mkB_den]; rfl
theorem eq_b (a b : SE) : ((mkB .eq a b).den ρ).b = decide ((a.den ρ).i = (b.den ρ).i) := by rw [mkB_den]; rfl
theorem not_b (a : SE) : ((mkU .not a).den ρ).b = !(a.den ρ).b := by rw [mkU_den]; rfl
theorem lt_b (a b : SE) : ((ltE a b).den ρ).b = decide ((a.den ρ).i < (b.den ρ).i) := by
  unfold ltE
  rw [not_b, le_b, ← decide_not]
  congr 1
  simp
theorem int_i (n : Int) : ((SE.int n).den ρ).i = n := rfl
theorem bytesOf_append (a b : List UInt8) : bytesOf a ++ bytesOf b = bytesOf (a ++ b) := by
  apply ByteArray.ext
  simp [bytesOf, ByteArray.data_append]
theorem run_arith (op : BinOp) (t : TypeId) (k : IntKind) (a b : Int) (w : World) :
    (binOp .add t (.int k a) (.int k b)).run P w = .ok (.int k (k.wrap (a + b))) w ∧ (binOp .sub t (.int k a) (.int k b)).run P w = .ok (.int k (k.wrap (a - b))) w ∧ (binOp .mul t (.int k a) (.int k b)).run P w = .ok (.int k (k.wrap (a * b))) w ∧
    (b ≠ 0 → (binOp .quo t (.int k a) (.int k b)).run P w = .ok (.int k (k.wrap (a.tdiv b))) w) ∧ (b ≠ 0 → (binOp .rem t (.int k a) (.int k b)).run P w = .ok (.int k (a.tmod b)) w) := by
  refine ⟨by simp [binOp, Op.intArith], by simp [binOp, Op.intArith], by simp [binOp, Op.intArith], fun h => by simp [binOp, Op.intDiv, h], fun h => by simp [binOp, Op.intDiv, h]⟩
theorem run_bits (t : TypeId) (k : IntKind) (a b : Int) (w : World) :
    (binOp .and t (.int k a) (.int k b)).run P w = .ok (.int k (k.wrap (BitVec.ofInt k.bits a &&& BitVec.ofInt k.bits b).toNat)) w ∧ (binOp .or t (.int k a) (.int k b)).run P w = .ok (.int k (k.wrap (BitVec.ofInt k.bits a ||| BitVec.ofInt k.bits b).toNat)) w ∧
    (binOp .xor t (.int k a) (.int k b)).run P w = .ok (.int k (k.wrap (BitVec.ofInt k.bits a ^^^ BitVec.ofInt k.bits b).toNat)) w ∧ (binOp .andNot t (.int k a) (.int k b)).run P w = .ok (.int k (k.wrap (BitVec.ofInt k.bits a &&& ~~~ BitVec.ofInt k.bits b).toNat)) w := by
  refine ⟨?_, ?_, ?_, ?_⟩ <;> (simp only [binOp, ne_eq, not_true_eq_false, if_false]; rfl)
theorem run_cmp (t : TypeId) (k : IntKind) (a b : Int) (w : World) :
    (binOp .eql t (.int k a) (.int k b)).run P w = .ok (.bool (decide (a = b))) w ∧ (binOp .neq t (.int k a) (.int k b)).run P w = .ok (.bool (!decide (a = b))) w ∧ (binOp .lss t (.int k a) (.int k b)).run P w = .ok (.bool (decide (a < b))) w ∧
    (binOp .leq t (.int k a) (.int k b)).run P w = .ok (.bool (decide (a ≤ b))) w ∧ (binOp .gtr t (.int k a) (.int k b)).run P w = .ok (.bool (decide (b < a))) w ∧ (binOp .geq t (.int k a) (.int k b)).run P w = .ok (.bool (decide (b ≤ a))) w := by
  refine ⟨?_, ?_, ?_, ?_, ?_, ?_⟩ <;> (simp only [binOp, ne_eq, not_true_eq_false, if_false, Op.intCmp, bne, Bool.beq_eq_decide_eq]; rfl)
theorem run_sh (t : TypeId) (k k' : IntKind) (a b : Int) (hb : 0 ≤ b) (w : World) :
    (binOp .shl t (.int k a) (.int k' b)).run P w = .ok (.int k (k.wrap (a * 2 ^ (min b.toNat k.bits)))) w ∧ (binOp .shr t (.int k a) (.int k' b)).run P w = .ok (.int k (a.fdiv (2 ^ (min b.toNat k.bits)))) w := by
  refine ⟨?_, ?_⟩ <;> (simp only [binOp, Op.shift, if_neg (Int.not_lt.2 hb)]; rfl)
theorem run_sops (t : TypeId) (a b : List UInt8) (w : World) :
    ((a.length : Int) + b.length ≤ 9223372036854775807 → (binOp .add t (.string (bytesOf a)) (.string (bytesOf b))).run P w = .ok (.string (bytesOf (a ++ b))) w) ∧ (binOp .eql t (.string (bytesOf a)) (.string (bytesOf b))).run P w = .ok (.bool (decide (a = b))) w ∧
    (binOp .neq t (.string (bytesOf a)) (.string (bytesOf b))).run P w = .ok (.bool (!decide (a = b))) w ∧ (binOp .lss t (.string (bytesOf a)) (.string (bytesOf b))).run P w = .ok (.bool (Op.bytesLess a b)) w := by
  refine ⟨fun h => ?_, ?_, ?_, ?_⟩
  · have hm : IntKind.i64.max = 9223372036854775807 := by decide
    simp only [binOp, Op.stringOp, size_bytesOf, hm, bytesOf_append]
    rw [if_neg (by omega)]
    rfl
  all_goals (simp only [binOp, Op.stringOp, toList_bytesOf, Bool.beq_eq_decide_eq]; rfl)
set_option maxHeartbeats 1000000 in
theorem bin_ok {op : BinOp} {t : TypeId} {x y r : AV} {cs : List SE} {u v : Value} (w : World) (ox oy : Operand) (h : binA P op t x y = some (r, cs)) (hcs : ∀ c ∈ cs, (c.den ρ).b = true) (hx : VR ρ G x u) (hy : VR ρ G y v) :
    ∃ z, (eqGuard op t ox oy u v).run P w = .ok () w ∧ (binOp op t u v).run P w = .ok z w ∧ VR ρ G r z := by
  unfold binA at h
  split at h
  · rename_i k a k' b
    cases h
    rw [hx.int_inv, hy.int_inv]
    have := hcs _ (List.mem_singleton.2 rfl)
    rw [le_b, int_i] at this
    exact ⟨_, guard_int _ _ _ _ _ _ _ _ w, (run_sh t k k' _ _ (of_decide_eq_true this) w).1, .int _ _ _ (by rw [mkB_den]; rfl)⟩
  · rename_i k a k' b
    cases h
    rw [hx.int_inv, hy.int_inv]
    have := hcs _ (List.mem_singleton.2 rfl)
    rw [le_b, int_i] at this
    exact ⟨_, guard_int _ _ _ _ _ _ _ _ w, (run_sh t k k' _ _ (of_decide_eq_true this) w).2, .int _ _ _ (by rw [mkB_den]; rfl)⟩
  · rename_i k a k' b hne1 hne2
    split at h
    · rename_i hk
      subst hk
      rw [hx.int_inv, hy.int_inv]
      have hnz : ((mkU .not (mkB .eq b (.int 0))).den ρ).b = true → (b.den ρ).i ≠ 0 := fun h => by
        rw [not_b, eq_b, int_i] at h
        simpa using h
      have ar := run_arith (P := P) .add t k (a.den ρ).i (b.den ρ).i w
      have bi := run_bits (P := P) t k (a.den ρ).i (b.den ρ).i w
      have cm := run_cmp (P := P) t k (a.den ρ).i (b.den ρ).i w
      split at h
      · cases h; exact ⟨_, guard_int _ _ _ _ _ _ _ _ w, ar.1, .int _ _ _ (by rw [mkU_den, mkB_den]; rfl)⟩
      · cases h; exact ⟨_, guard_int _ _ _ _ _ _ _ _ w, ar.2.1, .int _ _ _ (by rw [mkU_den, mkB_den]; rfl)⟩
      · cases h; exact ⟨_, guard_int _ _ _ _ _ _ _ _ w, ar.2.2.1, .int _ _ _ (by rw [mkU_den, mkB_den]; rfl)⟩
      · cases h; exact ⟨_, guard_int _ _ _ _ _ _ _ _ w, ar.2.2.2.1 (hnz (hcs _ (List.mem_singleton.2 rfl))), .int _ _ _ (by rw [mkU_den, mkB_den]; rfl)⟩
      · cases h; exact ⟨_, guard_int _ _ _ _ _ _ _ _ w, ar.2.2.2.2 (hnz (hcs _ (List.mem_singleton.2 rfl))), .int _ _ _ (by rw [mkB_den]; rfl)⟩
      · cases h; exact ⟨_, guard_int _ _ _ _ _ _ _ _ w, bi.1, .int _ _ _ (by rw [mkB_den]; rfl)⟩
      · cases h; exact ⟨_, guard_int _ _ _ _ _ _ _ _ w, bi.2.1, .int _ _ _ (by rw [mkB_den]; rfl)⟩
      · cases h; exact ⟨_, guard_int _ _ _ _ _ _ _ _ w, bi.2.2.1, .int _ _ _ (by rw [mkB_den]; rfl)⟩
      · cases h; exact ⟨_, guard_int _ _ _ _ _ _ _ _ w, bi.2.2.2, .int _ _ _ (by rw [mkB_den]; rfl)⟩
      · cases h; exact ⟨_, guard_int _ _ _ _ _ _ _ _ w, cm.1, .bool _ _ (by rw [eq_b])⟩
      · cases h; exact ⟨_, guard_int _ _ _ _ _ _ _ _ w, cm.2.1, .bool _ _ (by rw [not_b, eq_b])⟩
      · cases h; exact ⟨_, guard_int _ _ _ _ _ _ _ _ w, cm.2.2.1, .bool _ _ (by rw [lt_b])⟩
      · cases h; exact ⟨_, guard_int _ _ _ _ _ _ _ _ w, cm.2.2.2.1, .bool _ _ (by rw [le_b])⟩
      · cases h; exact ⟨_, guard_int _ _ _ _ _ _ _ _ w, cm.2.2.2.2.1, .bool _ _ (by rw [lt_b])⟩
      · cases h; exact ⟨_, guard_int _ _ _ _ _ _ _ _ w, cm.2.2.2.2.2, .bool _ _ (by rw [le_b])⟩
      · cases h
    · cases h
  · rename_i a b
    rw [hx.str_inv, hy.str_inv]
    have so := run_sops (P := P) t (a.den ρ).s (b.den ρ).s w
    split at h
    · cases h
      have := hcs _ (List.mem_singleton.2 rfl)
      rw [le_b, int_i, mkB_den, mkU_den, mkU_den] at this
      exact ⟨_, guard_str _ _ _ _ _ _ w, so.1 (of_decide_eq_true this), .str _ _ (by rw [mkB_den]; rfl)⟩
    · cases h; exact ⟨_, guard_str _ _ _ _ _ _ w, so.2.1, .bool _ _ (by rw [mkB_den]; rfl)⟩
    · cases h; exact ⟨_, guard_str _ _ _ _ _ _ w, so.2.2.1, .bool _ _ (by rw [mkU_den, mkB_den]; rfl)⟩
    · cases h; exact ⟨_, guard_str _ _ _ _ _ _ w, so.2.2.2, .bool _ _ (by rw [mkB_den]; rfl)⟩
    · cases h
  · split at h
    · rename_i hu
      cases h
      obtain ⟨g, a, m, c, _, rfl, hlen, _, hmc, _, ha, _⟩ := hx.sl_inv
      cases hy
      obtain ⟨b, hb, hbn⟩ := equalIn_sn hu 9999 a m c w
      exact ⟨.bool b, guard_sn _ t ox oy a m c w, by simp only [binOp, Sem.run_bind, equal_eq, hb]; rfl, .boolu _ _ (fun e => by
        rw [le_b, int_i]
        have := hbn e
        have hc : c = 0 := by
          rcases Nat.eq_zero_or_pos c with h | h
          · exact h
          · rw [ha h] at this; cases this
        exact decide_eq_true (by omega))⟩
    · cases h
  · rename_i hn1 hn2 hn3
    cases he : eqlA P t x y with
    | none => rw [he] at h; cases h
    | some e =>
      rw [he] at h
      cases h
      obtain ⟨b, h1, h2, h3, h4⟩ := eql_ok w ox oy he hx hy (fun k a k' b hh => hn1 _ _ _ _ hh.1 hh.2) (fun a b hh => hn2 _ _ hh.1 hh.2)
      exact ⟨.bool b, h1 _, h2, .bool _ _ (by rw [h4]; rfl)⟩
  · rename_i hn1 hn2
    cases he : eqlA P t x y with
    | none => rw [he] at h; cases h
    | some e =>
      rw [he] at h
      cases h
      obtain ⟨b, h1, h2, h3, h4⟩ := eql_ok w ox oy he hx hy (fun k a k' b hh => hn1 _ _ _ _ hh.1 hh.2) (fun a b hh => hn2 _ _ hh.1 hh.2)
      exact ⟨.bool (!b), h1 _, h3, .bool _ _ (by rw [not_b, h4]; rfl)⟩
  · cases h
end
end Go.Proofs.YtkfjgggiopegbaaDoor
namespace Go.Proofs.YtkfjgggiopegbaaDoor
open Go.RowKit
section
variable {P : Program} {ρ : Env} {G : Gh}
theorem litN_i {e : SE} {n : Nat} (h : litN e = some n) (ρ : Env) : (e.den ρ).i = n := by
  unfold litN at h
  split at h
  · cases h; rfl
  · cases h
def OptR (ρ : Env) (G : Gh) : Option AV → Option Value → Prop
  | some a, some u => VR ρ G a u
  | none, none => True
  | _, _ => False
theorem bound_ok {x : Option AV} {d hi b : SE} {cs : List SE} {v : Option Value} (h : boundA x d hi = some (b, cs)) (hcs : ∀ c ∈ cs, (c.den ρ).b = true) (hv : OptR ρ G x v) :
    (x = none ∧ v = none ∧ b = d) ∨ (∃ k, v = some (.int k (b.den ρ).i) ∧ 0 ≤ (b.den ρ).i ∧ (b.den ρ).i ≤ (hi.den ρ).i ∧ x ≠ none) := by
  unfold boundA at h
  split at h
  · cases h
    cases v with
    | none => exact .inl ⟨rfl, rfl, rfl⟩
    | some u => exact hv.elim
  · rename_i k e
    cases h
    cases v with
    | none => exact hv.elim
    | some u =>
      have hu : u = .int k (b.den ρ).i := VR.int_inv hv
      have h1 := hcs _ (List.mem_cons_self ..)
      have h2 := hcs _ (List.mem_cons_of_mem _ (List.mem_cons_self ..))
      rw [le_b] at h1 h2
      rw [int_i] at h1
      exact .inr ⟨k, by rw [hu], of_decide_eq_true h1, of_decide_eq_true h2, by simp⟩
  · cases h
theorem run_bound (k : IntKind) (i : Int) (y : Nat) (code : BoundsCode) (w : World) (h0 : 0 ≤ i) (h1 : i ≤ y) : (Instr.sliceBound (.int k i) y code).run P w = .ok i.toNat w := by
  simp [Instr.sliceBound, asIntOf, h0, h1]
theorem mapEv {ev : Operand → AV} {ec : Operand → Value} (hev : ∀ x, VR ρ G (ev x) (ec x)) (l : Array Operand) : VRs ρ G (l.toList.map ev) (l.map ec) := by
  refine ⟨by simp, fun i a v h1 h2 => ?_⟩
  simp at h1 h2
  obtain ⟨x, hx, rfl⟩ := h1
  obtain ⟨y, hy, rfl⟩ := h2
  rw [hx] at hy; cases hy
  exact hev x
theorem mapParts {ev : Operand → AV} {ec : Operand → Value} (hev : ∀ x, VR ρ G (ev x) (ec x)) (l : Array (Nat × Operand)) : (l.toList.map fun p => (p.1, ev p.2)).length = ((l.map fun (i, x) => (i, ec x)).toList).length ∧
    ∀ (i : Nat) (p : Nat × AV) (q : Nat × Value), (l.toList.map fun p => (p.1, ev p.2))[i]? = some p → ((l.map fun (i, x) => (i, ec x)).toList)[i]? = some q → p.1 = q.1 ∧ VR ρ G p.2 q.2 := by
  refine ⟨by simp, fun i p q h1 h2 => ?_⟩
  simp at h1 h2
  obtain ⟨a, b, hab, rfl⟩ := h1
  obtain ⟨c, d, hcd, rfl⟩ := h2
  rw [hab] at hcd; cases hcd
  exact ⟨rfl, hev _⟩
theorem mapM_sizes (w : World) : ∀ (fs : List Field) (szs : List Nat), fs.mapM (fun f => sizeB P f.type) = some szs → (fs.mapM fun f => (do pure (f.offset, ← sizeOf f.type) : Sem (Nat × Nat))).run P w = .ok ((fs.zip szs).map fun p => (p.1.offset, p.2)) w
  | [], szs, h => by simp at h; subst h; rfl
  | f :: fs, szs, h => by
    rw [List.mapM_cons] at h
    simp only [bind, Option.bind_eq_some_iff, pure, Option.some.injEq] at h
    obtain ⟨n, h1, r, h2, rfl⟩ := h
    rw [List.mapM_cons]
    simp only [Sem.run_bind, size_ok h1 w, Result.andThen_ok, Sem.run_pure, mapM_sizes w fs r h2]
    rfl
theorem build_ok {t : TypeId} {z : AV} {parts : Array (Nat × Operand)} {ev : Operand → AV} {ec : Operand → Value} {r : AV} {cs : List SE} (w : World) (hev : ∀ x, VR ρ G (ev x) (ec x)) {d : TypeDesc} (hz : zeroA P t = some z) (hu : P.underlying t = some d)
    (h : (match d with
      | .struct fs => (match z.cells?, fs.toList.mapM (fun f => sizeB P f.type) with
        | some zc, some szs => (fillA (fun i => match fs[i]?, szs[i]? with | some f, some n => some (f.offset, n) | _, _ => none) zc (parts.toList.map fun p => (p.1, ev p.2))).map fun cs => (AV.agg cs, ([] : List SE))
        | _, _ => none)
      | .array _ e => (match sizeB P e, z.cells? with
        | some n, some zc => (fillA (fun i => some (i * n, n)) zc (parts.toList.map fun p => (p.1, ev p.2))).map fun cs => (.agg cs, [])
        | _, _ => none)
      | _ => none) = some (r, cs)) : ∃ u, (Instr.build t (parts.map fun (i, x) => (i, ec x))).run P w = .ok u w ∧ VR ρ G r u := by
  obtain ⟨v, hv, hzv⟩ := zero_ok (ρ := ρ) (G := G) hz w
  obtain ⟨hl, hp⟩ := mapParts hev parts
  unfold Instr.build
  rw [Sem.run_bind, hv, Result.andThen_ok, Sem.run_bind, run_underlying hu w, Result.andThen_ok]
  cases d with
  | struct fs =>
    simp only at h ⊢
    split at h
    · rename_i zc szs hzc hsz
      cases hf : fillA (fun i => match fs[i]?, szs[i]? with | some f, some n => some (f.offset, n) | _, _ => none) zc (parts.toList.map fun p => (p.1, ev p.2)) with
      | none => rw [hf] at h; cases h
      | some out =>
        rw [hf] at h
        cases h
        obtain ⟨arr, h1, h2⟩ := fill_ok _ _ _ out v.cells hl hp (cells_ok hzv hzc) hf
        have hm := mapM_sizes (P := P) w fs.toList szs hsz
        have hlen : szs.length = fs.toList.length := by
          clear hm hf h1 h2
          generalize fs.toList = l at hsz
          induction l generalizing szs with
          | nil => simp at hsz; subst hsz; rfl
          | cons f l ih =>
            rw [List.mapM_cons] at hsz
            simp only [bind, Option.bind_eq_some_iff, pure, Option.some.injEq] at hsz
            obtain ⟨n, _, r, hr, rfl⟩ := hsz
            simp [ih r hr]
        have hpl : (((fs.toList.zip szs).map fun p => (p.1.offset, p.2)).toArray[·]? : Nat → Option (Nat × Nat)) = fun i => match fs[i]?, szs[i]? with | some f, some n => some (f.offset, n) | _, _ => none := by
          funext i
          simp only [List.getElem?_toArray, List.getElem?_map, List.zip, List.getElem?_zipWith, Array.getElem?_toList]
          cases fs[i]? <;> cases szs[i]? <;> rfl
        have hma : (fs.mapM fun f => (do pure (f.offset, ← sizeOf f.type) : Sem (Nat × Nat))).run P w = .ok ((fs.toList.zip szs).map fun p => (p.1.offset, p.2)).toArray w := by
          rw [Array.mapM_eq_mapM_toList]
          rw [Sem.run_map, hm]
          rfl
        rw [Sem.run_bind, hma, Result.andThen_ok, hpl, h1]
        exact ⟨.agg arr, rfl, .agg _ _ h2.1 h2.2⟩
    · cases h
  | array k e =>
    simp only at h ⊢
    split at h
    · rename_i n zc hn hzc
      cases hf : fillA (fun i => some (i * n, n)) zc (parts.toList.map fun p => (p.1, ev p.2)) with
      | none => rw [hf] at h; cases h
      | some out =>
        rw [hf] at h
        cases h
        obtain ⟨arr, h1, h2⟩ := fill_ok _ _ _ out v.cells hl hp (cells_ok hzv hzc) hf
        rw [Sem.run_bind, size_ok hn w, Result.andThen_ok, h1]
        exact ⟨.agg arr, rfl, .agg _ _ h2.1 h2.2⟩
    · cases h
  | _ => cases h
end
end Go.Proofs.YtkfjgggiopegbaaDoor
namespace Go.Proofs.YtkfjgggiopegbaaDoor
open Go.RowKit
section
variable {P : Program} {ρ : Env} {G : Gh}
theorem lift_ok {s : Sem Value} {u : Value} {w : World} (h : s.run P w = .ok u w) : (do pure (.value (← s)) : Sem Next).run P w = .ok (.value u) w := by
  rw [Sem.run_bind, h]; rfl
theorem unop_ok {op : UnOp} {x r : AV} {cs : List SE} {u : Value} (w : World) (h : (match op, x with
    | .neg, .int k e => some (.int k (mkU (.wrap k) (mkB .sub (.int 0) e)), ([] : List SE))
    | .xor, .int k e => some (.int k (mkB (.bxor k) (.int (if k.signed then -1 else k.max)) e), [])
    | .not, .bool e => some (.bool (mkU .not e), [])
    | _, _ => none) = some (r, cs)) (hx : VR ρ G x u) : ∃ z, (Op.unary op u).run P w = .ok z w ∧ VR ρ G r z := by
  split at h
  · cases h; rw [hx.int_inv]; exact ⟨_, rfl, .int _ _ _ (by rw [mkU_den, mkB_den]; rfl)⟩
  · cases h; rw [hx.int_inv]; exact ⟨_, rfl, .int _ _ _ (by rw [mkB_den]; rfl)⟩
  · cases h; rw [hx.bool_inv]; exact ⟨_, rfl, .bool _ _ (by rw [mkU_den]; rfl)⟩
  · cases h
theorem conv_ok {s d : TypeId} {x r : AV} {cs : List SE} {u : Value} (w : World) (h : (match P.underlying s, P.underlying d, x with
    | some _, some (.int k), .int _ e => some (.int k (mkU (.wrap k) e), ([] : List SE))
    | some _, some .string, .str e => some (.str e, [])
    | _, _, _ => none) = some (r, cs)) (hx : VR ρ G x u) : ∃ z, (convert s d u).run P w = .ok z w ∧ VR ρ G r z := by
  split at h
  · rename_i ds k k' e h1 h2
    cases h
    rw [hx.int_inv]
    refine ⟨.int k (k.wrap (e.den ρ).i), ?_, .int _ _ _ (by rw [mkU_den]; rfl)⟩
    unfold convert
    rw [Sem.run_bind, run_underlying h1 w, Result.andThen_ok, Sem.run_bind, run_underlying h2 w, Result.andThen_ok]
    cases ds <;> rfl
  · rename_i ds e h1 h2
    cases h
    rw [hx.str_inv]
    refine ⟨.string (bytesOf (e.den ρ).s), ?_, .str _ _ rfl⟩
    unfold convert
    rw [Sem.run_bind, run_underlying h1 w, Result.andThen_ok, Sem.run_bind, run_underlying h2 w, Result.andThen_ok]
    cases ds <;> rfl
  · cases h
theorem fieldPlace_ok {f : Field} {n : Nat} (h : sizeB P f.type = some (n + 1)) (b o : Nat) (w : World) : (fieldPlace ⟨b, o, none⟩ f).run P w = .ok ⟨b, o + f.offset, none⟩ w := by
  unfold fieldPlace
  rw [Sem.run_bind, size_ok h w, Result.andThen_ok, if_neg (by omega)]
  simp [Addr.add]
theorem fieldAt_ok {t : TypeId} {x r : AV} {f : Nat} {cs : List SE} {u : Value} (w : World) (h : (match P.underlying t with
    | some (.struct fs) =>
      (match fs[f]? with
      | some fl => (match sizeB P fl.type, x with
        | some (_ + 1), .ptr b o => some (.ptr b (o + fl.offset), ([] : List SE))
        | some (_ + 1), .elt b s i j => some (.elt b s i (j + fl.offset), [])
        | some (_ + 1), .nelt b s i j ks x c => some (.nelt b s i j ks x (c + fl.offset), [])
        | _, _ => none)
      | none => none)
    | _ => none) = some (r, cs)) (hx : VR ρ G x u) : ∃ z, (Instr.fieldAt t u f).run P w = .ok z w ∧ VR ρ G r z := by
  split at h
  · rename_i fs hu
    split at h
    · rename_i fl hf
      unfold Instr.fieldAt
      rw [Sem.run_bind, run_underlying hu w, Result.andThen_ok]
      simp only [hf]
      split at h
      · rename_i n b o hs
        cases h
        obtain ⟨g, hg, rfl⟩ := hx.ptr_inv
        refine ⟨.pointer (some ⟨g.blk, g.off + o + fl.offset, none⟩), ?_, .ptr _ _ g _ hg (by rw [Nat.add_assoc])⟩
        rw [Sem.run_bind]
        show ((fieldPlace _ fl >>= fun a => pure (.pointer (some a)) : Sem Value)).run P w = _
        rw [Sem.run_bind, fieldPlace_ok hs]
        rfl
      · rename_i n b s i j hs
        cases h
        obtain ⟨g, hg, rfl⟩ := hx.elt_inv
        refine ⟨.pointer (some ⟨g.blk, g.off + (i.den ρ).i.toNat * s + j + fl.offset, none⟩), ?_, .elt _ _ _ _ g _ hg (by rw [Nat.add_assoc])⟩
        rw [Sem.run_bind]
        show ((fieldPlace _ fl >>= fun a => pure (.pointer (some a)) : Sem Value)).run P w = _
        rw [Sem.run_bind, fieldPlace_ok hs]
        rfl
      · rename_i n b s i j ks x c hs
        cases h
        obtain ⟨g, blk, off, m, cp, hg, hh, rfl⟩ := hx.nelt_inv
        refine ⟨.pointer (some ⟨blk, off + (x.den ρ).i.toNat * ks.length + c + fl.offset, none⟩), ?_, by rw [Nat.add_assoc]; exact .nelt _ _ _ _ _ _ _ g blk off m cp hg hh⟩
        rw [Sem.run_bind]
        show ((fieldPlace _ fl >>= fun a => pure (.pointer (some a)) : Sem Value)).run P w = _
        rw [Sem.run_bind, fieldPlace_ok hs]
        rfl
      · cases h
    · cases h
  · cases h
theorem field_ok {t : TypeId} {x r : AV} {f : Nat} {cs : List SE} {u : Value} (w : World) (h : (match P.underlying t, x with
    | some (.struct fs), .agg cs => (match fs[f]? with | some fl => (partA P fl.type cs fl.offset).map fun v => (v, ([] : List SE)) | none => none)
    | _, _ => none) = some (r, cs)) (hx : VR ρ G x u) : ∃ z, (Instr.field t u f).run P w = .ok z w ∧ VR ρ G r z := by
  split at h
  · rename_i fs ds hu
    split at h
    · rename_i fl hf
      cases hp : partA P fl.type ds fl.offset with
      | none => rw [hp] at h; cases h
      | some v =>
        rw [hp] at h
        cases h
        obtain ⟨vs, rfl, hvs⟩ := hx.agg_inv
        obtain ⟨z, hz, hr⟩ := part_ok hvs hp w
        refine ⟨z, ?_, hr⟩
        unfold Instr.field
        rw [Sem.run_bind, run_underlying hu w, Result.andThen_ok]
        simp only [hf, asAgg, Sem.run_bind, Sem.run_pure, Result.andThen_ok]
        exact hz
    · cases h
  · cases h
theorem addr_add (b o n : Nat) : (⟨b, o, none⟩ : Addr).add n = ⟨b, o + n, none⟩ := by
  unfold Addr.add; split <;> simp_all
theorem asIntOf_ok (k : IntKind) (n : Int) (w : World) : (asIntOf (.int k n)).run P w = .ok (k, n) w := rfl
theorem indexAt_ok {t : TypeId} {x i r : AV} {cs : List SE} {u v : Value} (w : World) (h : (match P.underlying t, x, i with
    | some (.slice el), .sl b s off len _, .int _ e =>
      (match sizeB P el with
      | some n => bif Nat.beq n s then
          (match litN (mkB .add off e) with
          | some q => some (.ptr b (q * s), [mkB .le (.int 0) e, ltE e len])
          | none => some (.elt b s (mkB .add off e) 0, [mkB .le (.int 0) e, ltE e len])) else none
      | none => none)
    | some (.slice el), .nsl b s i j ks len, .int _ e =>
      (match sizeB P el with
      | some n => bif Nat.beq n ks.length then some (.nelt b s i j ks e 0, [mkB .le (.int 0) e, ltE e len]) else none
      | none => none)
    | some (.array n el), .ptr b o, .int _ e =>
      (match sizeB P el, litN e with
      | some s, some q => bif Nat.blt q n then some (.ptr b (o + q * s), []) else none
      | _, _ => none)
    | _, _, _ => none) = some (r, cs)) (hcs : ∀ c ∈ cs, (c.den ρ).b = true) (hx : VR ρ G x u) (hi : VR ρ G i v) : ∃ z, (Instr.indexAt t u v).run P w = .ok z w ∧ VR ρ G r z := by
  split at h
  · rename_i el b s off len cap k e hu
    cases hs : sizeB P el with
    | none => rw [hs] at h; cases h
    | some n =>
      rw [hs] at h
      simp only at h
      cases hb : Nat.beq n s with
      | false => rw [hb] at h; cases h
      | true =>
        rw [hb] at h
        have hn : n = s := (beq_iff _ _).1 hb
        subst hn
        simp only [cond_true] at h
        obtain ⟨g, a, m, c, hg, rfl, hlen, hoff, hmc, hcap, ha, hbd⟩ := hx.sl_inv
        rw [hi.int_inv]
        have hc2 : 0 ≤ (e.den ρ).i ∧ (e.den ρ).i < (len.den ρ).i := by
          have h1 : ((mkB .le (.int 0) e).den ρ).b = true := hcs _ (by split at h <;> (cases h; simp))
          have h2 : ((ltE e len).den ρ).b = true := hcs _ (by split at h <;> (cases h; simp))
          rw [le_b, int_i] at h1
          rw [lt_b] at h2
          exact ⟨of_decide_eq_true h1, of_decide_eq_true h2⟩
        have hlt : (e.den ρ).i < m := by rw [← hlen]; exact hc2.2
        have hm0 : 0 < c := by omega
        rw [ha hm0]
        have hsum : ((mkB .add off e).den ρ).i = (off.den ρ).i + (e.den ρ).i := by rw [mkB_den]; rfl
        have hnat : ((mkB .add off e).den ρ).i.toNat = (off.den ρ).i.toNat + (e.den ρ).i.toNat := by rw [hsum]; omega
        have hrun : (Instr.indexAt t (.slice (some ⟨g.blk, g.off + (off.den ρ).i.toNat * n, none⟩) m c) (.int k (e.den ρ).i)).run P w = .ok (.pointer (some ⟨g.blk, g.off + ((mkB .add off e).den ρ).i.toNat * n, none⟩)) w := by
          unfold Instr.indexAt
          rw [Sem.run_bind, asIntOf_ok, Result.andThen_ok]
          simp only [Sem.run_bind, run_underlying hu w, Result.andThen_ok, Sem.run_pure]
          rw [if_pos ⟨hc2.1, hlt⟩]
          simp only [Sem.run_bind, size_ok hs w, Result.andThen_ok, Sem.run_pure, addr_add, hnat]
          rw [Nat.add_mul, Nat.add_assoc]
        split at h
        · rename_i q hq
          cases h
          have hqn := litN_i hq ρ
          refine ⟨_, hrun, .ptr _ _ g _ hg ?_⟩
          rw [hqn]; rfl
        · cases h
          exact ⟨_, hrun, .elt _ _ _ _ g _ hg rfl⟩
  · rename_i el b s i2 j ks len k e hu
    cases hs : sizeB P el with
    | none => rw [hs] at h; cases h
    | some n =>
      rw [hs] at h
      simp only at h
      cases hb : Nat.beq n ks.length with
      | false => rw [hb] at h; cases h
      | true =>
        rw [hb] at h
        have hn : n = ks.length := (beq_iff _ _).1 hb
        subst hn
        simp only [cond_true] at h
        cases h
        obtain ⟨g, a, m, c, hg, rfl, hh, hlen, hmc, ha⟩ := hx.nsl_inv
        rw [hi.int_inv]
        have h1 := hcs (mkB .le (.int 0) e) (by simp)
        have h2 := hcs (ltE e len) (by simp)
        rw [le_b, int_i] at h1
        rw [lt_b] at h2
        have h1 := of_decide_eq_true h1
        have h2 := of_decide_eq_true h2
        rw [hlen] at h2
        obtain ⟨blk, off, rfl⟩ := ha (by omega)
        refine ⟨.pointer (some ⟨blk, off + (e.den ρ).i.toNat * ks.length + 0, none⟩), ?_, .nelt _ _ _ _ _ _ _ g blk off m c hg hh⟩
        unfold Instr.indexAt
        rw [Sem.run_bind, asIntOf_ok, Result.andThen_ok]
        simp only [Sem.run_bind, run_underlying hu w, Result.andThen_ok, Sem.run_pure]
        rw [if_pos ⟨h1, h2⟩]
        simp only [Sem.run_bind, size_ok hs w, Result.andThen_ok, Sem.run_pure, addr_add, Nat.add_zero]
  · rename_i n el b o k e hu
    split at h
    · rename_i s q hs hq
      cases hb : Nat.blt q n with
      | false => rw [hb] at h; cases h
      | true =>
        rw [hb] at h
        simp only [cond_true] at h
        cases h
        obtain ⟨g, hg, rfl⟩ := hx.ptr_inv
        rw [hi.int_inv, litN_i hq ρ]
        have hlt : q < n := Nat.le_of_ble_eq_true hb
        refine ⟨.pointer (some ⟨g.blk, g.off + o + q * s, none⟩), ?_, .ptr _ _ g _ hg (by rw [Nat.add_assoc])⟩
        unfold Instr.indexAt
        rw [Sem.run_bind, asIntOf_ok, Result.andThen_ok]
        simp only [Sem.run_bind, run_underlying hu w, Result.andThen_ok, Sem.run_pure, Instr.sureAddr]
        rw [if_pos ⟨by omega, by omega⟩]
        simp only [Sem.run_bind, size_ok hs w, Result.andThen_ok, Sem.run_pure, addr_add, Int.toNat_natCast]
    · cases h
  · cases h
theorem index_ok {t : TypeId} {x i r : AV} {cs : List SE} {u v : Value} (w : World) (h : (match P.underlying t, x, i with
    | some (.array n el), .agg cs, .int _ e =>
      (match sizeB P el, litN e with
      | some s, some q => bif Nat.blt q n then (partA P el cs (q * s)).map fun v => (v, ([] : List SE)) else none
      | _, _ => none)
    | some .string, .str s, .int _ e => some (.int .u8 (mkB .byte s e), [mkB .le (.int 0) e, ltE e (mkU .slen s)])
    | _, _, _ => none) = some (r, cs)) (hcs : ∀ c ∈ cs, (c.den ρ).b = true) (hx : VR ρ G x u) (hi : VR ρ G i v) : ∃ z, (Instr.index t u v).run P w = .ok z w ∧ VR ρ G r z := by
  split at h
  · rename_i n el ds k e hu
    split at h
    · rename_i s q hs hq
      cases hb : Nat.blt q n with
      | false => rw [hb] at h; cases h
      | true =>
        rw [hb] at h
        simp only [cond_true] at h
        cases hp : partA P el ds (q * s) with
        | none => rw [hp] at h; cases h
        | some z0 =>
          rw [hp] at h
          cases h
          obtain ⟨vs, rfl, hvs⟩ := hx.agg_inv
          rw [hi.int_inv, litN_i hq ρ]
          have hlt : q < n := Nat.le_of_ble_eq_true hb
          obtain ⟨z, hz, hr⟩ := part_ok hvs hp w
          refine ⟨z, ?_, hr⟩
          unfold Instr.index
          rw [Sem.run_bind, asIntOf_ok, Result.andThen_ok, Sem.run_bind, run_underlying hu w, Result.andThen_ok]
          simp only
          rw [if_pos ⟨by omega, by omega⟩]
          simp only [Sem.run_bind, size_ok hs w, Result.andThen_ok, Int.toNat_natCast]
          exact hz
    · cases h
  · rename_i s k e hu
    cases h
    rw [hx.str_inv, hi.int_inv]
    have h1 := hcs (mkB .le (.int 0) e) (by simp)
    have h2 := hcs (ltE e (mkU .slen s)) (by simp)
    rw [le_b, int_i] at h1
    rw [lt_b, mkU_den] at h2
    have h1 : 0 ≤ (e.den ρ).i := of_decide_eq_true h1
    have h2 : (e.den ρ).i < (s.den ρ).s.length := of_decide_eq_true h2
    have hlt : (e.den ρ).i.toNat < (s.den ρ).s.length := by omega
    refine ⟨.int .u8 ((s.den ρ).s[(e.den ρ).i.toNat]).toNat, ?_, .int _ _ _ ?_⟩
    · unfold Instr.index
      rw [Sem.run_bind, asIntOf_ok, Result.andThen_ok, Sem.run_bind, run_underlying hu w, Result.andThen_ok]
      simp only [if_pos h1]
      have : (bytesOf (s.den ρ).s)[(e.den ρ).i.toNat]? = some ((s.den ρ).s[(e.den ρ).i.toNat]) := by
        rw [getElem?_pos _ _ (by rw [size_bytesOf]; exact hlt)]
        rfl
      rw [this]
      rfl
    · rw [mkB_den]
      show _ = (((s.den ρ).s[(e.den ρ).i.toNat]?.getD 0).toNat : Int)
      rw [List.getElem?_eq_getElem hlt]
      rfl
  · cases h
theorem bounds_ok {lo hi : Option AV} {vl vh : Option Value} {len cap : Nat} {d h l hiB : SE} {c1 c2 : List SE} (isS : Bool) (w : World) (h1 : boundA hi d hiB = some (h, c1)) (h2 : boundA lo (.int 0) h = some (l, c2)) (hc1 : ∀ c ∈ c1, (c.den ρ).b = true) (hc2 : ∀ c ∈ c2, (c.den ρ).b = true)
    (hvh : OptR ρ G hi vh) (hvl : OptR ρ G lo vl) (hd : (d.den ρ).i = len) (hB : (hiB.den ρ).i ≤ cap) (hlc : len ≤ cap) :
    0 ≤ (l.den ρ).i ∧ (l.den ρ).i ≤ (h.den ρ).i ∧ (h.den ρ).i ≤ cap ∧ (Instr.sliceBounds isS len cap vl vh none).run P w = .ok ((l.den ρ).i.toNat, (h.den ρ).i.toNat, cap) w := by
  rcases bound_ok h1 hc1 hvh with ⟨rfl, rfl, rfl⟩ | ⟨k, rfl, ha, hb, _⟩
  · rcases bound_ok h2 hc2 hvl with ⟨rfl, rfl, rfl⟩ | ⟨k', rfl, ha', hb', _⟩
    · refine ⟨by rw [int_i]; omega, by rw [int_i]; omega, by omega, ?_⟩
      simp [Instr.sliceBounds, int_i, hd]
    · refine ⟨ha', hb', by omega, ?_⟩
      have := run_bound (P := P) k' (l.den ρ).i len .sliceB w ha' (by omega)
      simp [Instr.sliceBounds, this, hd]
  · have hh := run_bound (P := P) k (h.den ρ).i cap (if isS then .sliceAcap else .sliceAlen) w ha (by omega)
    rcases bound_ok h2 hc2 hvl with ⟨rfl, rfl, rfl⟩ | ⟨k', rfl, ha', hb', _⟩
    · refine ⟨by rw [int_i]; omega, by rw [int_i]; omega, by omega, ?_⟩
      simp [Instr.sliceBounds, int_i, hh]
    · refine ⟨ha', hb', by omega, ?_⟩
      have := run_bound (P := P) k' (l.den ρ).i (h.den ρ).i.toNat .sliceB w ha' (by omega)
      simp [Instr.sliceBounds, Sem.run_bind, this, hh]
theorem optMap {ev : Operand → AV} {ec : Operand → Value} (hev : ∀ x, VR ρ G (ev x) (ec x)) (x : Option Operand) : OptR ρ G (x.map ev) (x.map ec) := by
  cases x with
  | none => trivial
  | some y => exact hev y
theorem bytes_extract (s : List UInt8) (l h : Nat) : (bytesOf s).extract l h = bytesOf ((s.take h).drop l) := by
  apply ByteArray.ext
  simp only [bytesOf, ByteArray.data_extract]
  apply Array.toList_inj.1 |> fun f => f ?_
  simp [List.drop_take, List.extract_eq_take_drop]
theorem slice_ok {t : TypeId} {x r : AV} {ev : Operand → AV} {ec : Operand → Value} {lo hi mx : Option Operand} {cs : List SE} {u : Value} (w : World) (hev : ∀ x, VR ρ G (ev x) (ec x)) (h : (match P.underlying t, x with
    | some .string, .str s =>
      (match mx, boundA (hi.map ev) (mkU .slen s) (mkU .slen s) with
      | none, some (h, c1) => (match boundA (lo.map ev) (.int 0) h with
        | some (l, c2) => some (.str (mkB .sdrop (mkB .stake s h) l), c1 ++ c2)
        | none => none)
      | _, _ => none)
    | some (.slice el), .sl b s off len cap =>
      (match sizeB P el, mx, cap, hi with
      | some n, none, some c, _ => bif Nat.beq n s then
          (match boundA (hi.map ev) len c with
          | some (h, c1) => (match boundA (lo.map ev) (.int 0) h with
            | some (l, c2) => some (.sl b s (mkB .add off l) (mkB .sub h l) (some (mkB .sub c l)), c1 ++ c2)
            | none => none)
          | none => none) else none
      | some n, none, none, _ => bif Nat.beq n s then
          (match boundA (hi.map ev) len len with
          | some (h, c1) => (match boundA (lo.map ev) (.int 0) h with
            | some (l, c2) => some (.sl b s (mkB .add off l) (mkB .sub h l) none, c1 ++ c2)
            | none => none)
          | none => none) else none
      | some n, some _, _, some _ => bif Nat.beq n s then
          (match boundA (mx.map ev) (cap.getD len) (cap.getD len) with
          | some (mm, c0) => (match boundA (hi.map ev) len mm with
            | some (h, c1) => (match boundA (lo.map ev) (.int 0) h with
              | some (l, c2) => some (.sl b s (mkB .add off l) (mkB .sub h l) (some (mkB .sub mm l)), c0 ++ (c1 ++ c2))
              | none => none)
            | none => none)
          | none => none) else none
      | _, _, _, _ => none)
    | some (.slice el), .nils =>
      (match sizeB P el, mx, boundA (hi.map ev) (.int 0) (.int 0) with
      | some _, none, some (h, c1) => (match boundA (lo.map ev) (.int 0) h with
        | some (_, c2) => some (.nils, c1 ++ c2)
        | none => none)
      | _, _, _ => none)
    | _, _ => none) = some (r, cs)) (hcs : ∀ c ∈ cs, (c.den ρ).b = true) (hx : VR ρ G x u) : ∃ z, (Instr.sliceAt t u (lo.map ec) (hi.map ec) (mx.map ec)).run P w = .ok z w ∧ VR ρ G r z := by
  have hsplit : ∀ c1 c2 : List SE, cs = c1 ++ c2 → (∀ c ∈ c1, (c.den ρ).b = true) ∧ (∀ c ∈ c2, (c.den ρ).b = true) := fun c1 c2 e => by
    subst e; exact ⟨fun c hc => hcs c (List.mem_append_left _ hc), fun c hc => hcs c (List.mem_append_right _ hc)⟩
  have key : ∀ (el : TypeId) (b s : Nat) (off len : SE) (cap cap' : Option SE) (hiB he l : SE) (c1 c2 : List SE), P.underlying t = some (.slice el) → sizeB P el = some s → VR ρ G (.sl b s off len cap) u → mx = none → boundA (hi.map ev) len hiB = some (he, c1) → boundA (lo.map ev) (.int 0) he = some (l, c2) →
      (∀ c ∈ c1, (c.den ρ).b = true) → (∀ c ∈ c2, (c.den ρ).b = true) → (hiB = len ∨ cap = some hiB) → (∀ e, cap' = some e → ∃ c, cap = some c ∧ e = mkB .sub c l) →
      ∃ z, (Instr.sliceAt t u (lo.map ec) (hi.map ec) (mx.map ec)).run P w = .ok z w ∧ VR ρ G (.sl b s (mkB .add off l) (mkB .sub he l) cap') z := by
    intro el b s off len cap cap' hiB he l c1 c2 hu hs hx hm hb1 hb2 hc1 hc2 hB hcap'
    subst hm
    obtain ⟨g, a, n, c, hg, rfl, hlen, hoff, hnc, hcap, ha, hbd⟩ := hx.sl_inv
    have hBc : (hiB.den ρ).i ≤ c := by
      rcases hB with rfl | hB
      · rw [hlen]; omega
      · rw [hcap _ hB]; omega
    obtain ⟨b0, b1, b2, b3⟩ := bounds_ok (P := P) (isS := true) w hb1 hb2 hc1 hc2 (optMap hev hi) (optMap hev lo) hlen hBc hnc
    have hl := Int.toNat_of_nonneg b0
    have hh := Int.toNat_of_nonneg (Int.le_trans b0 b1)
    have hsum : ((mkB .add off l).den ρ).i = (off.den ρ).i + (l.den ρ).i := by rw [mkB_den]; rfl
    have hsub : ((mkB .sub he l).den ρ).i = (he.den ρ).i - (l.den ρ).i := by rw [mkB_den]; rfl
    refine ⟨.slice (if c = (l.den ρ).i.toNat then a else a.map (·.add ((l.den ρ).i.toNat * s))) ((he.den ρ).i.toNat - (l.den ρ).i.toNat) (c - (l.den ρ).i.toNat), ?_, .sl _ _ _ _ _ g _ _ _ hg ?_ ?_ ?_ ?_ ?_ ?_⟩
    · unfold Instr.sliceAt
      rw [Sem.run_bind, run_underlying hu w, Result.andThen_ok]
      show (Instr.slice t _ _ _ _).run P w = _
      unfold Instr.slice
      rw [Sem.run_bind, run_underlying hu w, Result.andThen_ok]
      simp only [Option.map_none]
      rw [Sem.run_bind, b3, Result.andThen_ok, Sem.run_bind, size_ok hs w, Result.andThen_ok]
      rfl
    · rw [hsub]; omega
    · rw [hsum]; omega
    · omega
    · intro e hee
      obtain ⟨c0, hc0, rfl⟩ := hcap' e hee
      rw [mkB_den]
      show (c0.den ρ).i - (l.den ρ).i = _
      rw [hcap _ hc0]
      omega
    · intro hpos
      rw [if_neg (by omega), ha (by omega), hsum]
      have : ((off.den ρ).i + (l.den ρ).i).toNat = (off.den ρ).i.toNat + (l.den ρ).i.toNat := by omega
      simp only [Option.map_some, addr_add, this, Nat.add_mul, Nat.add_assoc]
    · have : ((mkB .add off l).den ρ).i.toNat + (c - (l.den ρ).i.toNat) ≤ (off.den ρ).i.toNat + c := by rw [hsum]; omega
      exact Nat.le_trans (Nat.mul_le_mul_right s this) hbd
  split at h
  · rename_i s hu
    split at h
    · rename_i hh c1 hb1
      split at h
      · rename_i l c2 hb2
        cases h
        obtain ⟨k1, k2⟩ := hsplit c1 c2 rfl
        rw [hx.str_inv]
        have hsl : ((mkU .slen s).den ρ).i = (s.den ρ).s.length := by rw [mkU_den]; rfl
        obtain ⟨b0, b1, b2, b3⟩ := bounds_ok (P := P) (isS := false) (len := (s.den ρ).s.length) (cap := (s.den ρ).s.length) w hb1 hb2 k1 k2 (optMap hev hi) (optMap hev lo) hsl (by rw [hsl]; exact Int.le_refl _) (Nat.le_refl _)
        refine ⟨.string ((bytesOf (s.den ρ).s).extract (l.den ρ).i.toNat (hh.den ρ).i.toNat), ?_, .str _ _ ?_⟩
        · unfold Instr.sliceAt
          rw [Sem.run_bind, run_underlying hu w, Result.andThen_ok]
          show (Instr.slice t _ _ _ _).run P w = _
          unfold Instr.slice
          rw [Sem.run_bind, run_underlying hu w, Result.andThen_ok]
          simp only [Option.map_none, Option.isSome_none, Bool.false_eq_true, if_false, size_bytesOf]
          rw [Sem.run_bind]
          simp only [Sem.run_pure]
          first | rw [b3, Result.andThen_ok] | (rw [Sem.run_bind, b3]; rfl)
        · rw [bytes_extract, mkB_den, mkB_den]; rfl
      · cases h
    · cases h
  · rename_i el b s off len cap hu
    split at h
    · rename_i n c hs
      cases hb : Nat.beq n s with
      | false => rw [hb] at h; cases h
      | true =>
        rw [hb] at h
        have hn : n = s := (beq_iff _ _).1 hb
        subst hn
        simp only [cond_true] at h
        split at h
        · rename_i hh c1 hb1
          split at h
          · rename_i l c2 hb2
            cases h
            obtain ⟨k1, k2⟩ := hsplit c1 c2 rfl
            exact key el b n off len (some c) _ c hh l c1 c2 hu hs hx rfl hb1 hb2 k1 k2 (.inr rfl) (fun e he => ⟨c, rfl, by cases he; rfl⟩)
          · cases h
        · cases h
    · rename_i n hs
      cases hb : Nat.beq n s with
      | false => rw [hb] at h; cases h
      | true =>
        rw [hb] at h
        have hn : n = s := (beq_iff _ _).1 hb
        subst hn
        simp only [cond_true] at h
        split at h
        · rename_i hh c1 hb1
          split at h
          · rename_i l c2 hb2
            cases h
            obtain ⟨k1, k2⟩ := hsplit c1 c2 rfl
            exact key el b n off len none none len hh l c1 c2 hu hs hx rfl hb1 hb2 k1 k2 (.inl rfl) (fun e he => by cases he)
          · cases h
        · cases h
    · rename_i cap _ _ cap2 _ n m ho hs
      cases hb : Nat.beq n s with
      | false => rw [hb] at h; cases h
      | true =>
        rw [hb] at h
        have hn : n = s := (beq_iff _ _).1 hb
        subst hn
        simp only [cond_true] at h
        split at h
        · rename_i mm c0 hb0
          split at h
          · rename_i hh c1 hb1
            split at h
            · rename_i l c2 hb2
              cases h
              obtain ⟨k0, k12⟩ := hsplit c0 (c1 ++ c2) rfl
              have k1 : ∀ c ∈ c1, (c.den ρ).b = true := fun c hc => k12 c (List.mem_append_left _ hc)
              have k2 : ∀ c ∈ c2, (c.den ρ).b = true := fun c hc => k12 c (List.mem_append_right _ hc)
              obtain ⟨g, a, nn, c, hg, rfl, hlen, hoff, hnc, hcap, ha, hbd⟩ := hx.sl_inv
              have hC : ((cap.getD len).den ρ).i ≤ c := by
                cases hcp : cap with
                | none => rw [Option.getD_none, hlen]; omega
                | some e => rw [Option.getD_some, hcap e hcp]; exact Int.le_refl _
              rcases bound_ok (v := some (ec m)) hb0 k0 (hev m) with ⟨hx0, _⟩ | ⟨km, hkm, m0, m1, _⟩
              · cases hx0
              rcases bound_ok (v := some (ec ho)) hb1 k1 (hev ho) with ⟨hx0, _⟩ | ⟨kh, hkh, h0, h1, _⟩
              · cases hx0
              have hkm : ec m = .int km (mm.den ρ).i := Option.some.inj hkm
              have hkh : ec ho = .int kh (hh.den ρ).i := Option.some.inj hkh
              have rm := run_bound (P := P) km (mm.den ρ).i c .slice3Acap w m0 (by omega)
              have rh := run_bound (P := P) kh (hh.den ρ).i (mm.den ρ).i.toNat .slice3B w h0 (by omega)
              have b : 0 ≤ (l.den ρ).i ∧ (l.den ρ).i ≤ (hh.den ρ).i ∧ (Instr.sliceBounds true nn c (lo.map ec) (some (ec ho)) (some (ec m))).run P w = .ok ((l.den ρ).i.toNat, (hh.den ρ).i.toNat, (mm.den ρ).i.toNat) w := by
                rcases bound_ok hb2 k2 (optMap hev lo) with ⟨_, hl0, rfl⟩ | ⟨kl, hl0, l0, l1, _⟩
                · refine ⟨by rw [int_i]; omega, by rw [int_i]; omega, ?_⟩
                  rw [hl0, hkm, hkh]
                  simp [Instr.sliceBounds, Sem.run_bind, int_i, rm, rh]
                · refine ⟨l0, l1, ?_⟩
                  rw [hl0, hkm, hkh]
                  have rl := run_bound (P := P) kl (l.den ρ).i (hh.den ρ).i.toNat .slice3C w l0 (by omega)
                  simp [Instr.sliceBounds, Sem.run_bind, rm, rh, rl]
              obtain ⟨b0, b1, b3⟩ := b
              have hl := Int.toNat_of_nonneg b0
              have hhh := Int.toNat_of_nonneg h0
              have hmm := Int.toNat_of_nonneg m0
              have hsum : ((mkB .add off l).den ρ).i = (off.den ρ).i + (l.den ρ).i := by rw [mkB_den]; rfl
              have hsub : ((mkB .sub hh l).den ρ).i = (hh.den ρ).i - (l.den ρ).i := by rw [mkB_den]; rfl
              have hsub2 : ((mkB .sub mm l).den ρ).i = (mm.den ρ).i - (l.den ρ).i := by rw [mkB_den]; rfl
              refine ⟨.slice (if (mm.den ρ).i.toNat = (l.den ρ).i.toNat then a else a.map (·.add ((l.den ρ).i.toNat * n))) ((hh.den ρ).i.toNat - (l.den ρ).i.toNat) ((mm.den ρ).i.toNat - (l.den ρ).i.toNat), ?_, .sl _ _ _ _ _ g _ _ _ hg ?_ ?_ ?_ ?_ ?_ ?_⟩
              · unfold Instr.sliceAt
                rw [Sem.run_bind, run_underlying hu w, Result.andThen_ok]
                show (Instr.slice t _ _ _ _).run P w = _
                unfold Instr.slice
                rw [Sem.run_bind, run_underlying hu w, Result.andThen_ok]
                simp only [Option.map_some]
                rw [Sem.run_bind, b3, Result.andThen_ok, Sem.run_bind, size_ok hs w, Result.andThen_ok]
                rfl
              · rw [hsub]; omega
              · rw [hsum]; omega
              · omega
              · intro e hee
                cases hee
                rw [hsub2]
                omega
              · intro hpos
                rw [if_neg (by omega), ha (by omega), hsum]
                have : ((off.den ρ).i + (l.den ρ).i).toNat = (off.den ρ).i.toNat + (l.den ρ).i.toNat := by omega
                simp only [Option.map_some, addr_add, this, Nat.add_mul, Nat.add_assoc]
              · have : ((mkB .add off l).den ρ).i.toNat + ((mm.den ρ).i.toNat - (l.den ρ).i.toNat) ≤ (off.den ρ).i.toNat + c := by rw [hsum]; omega
                exact Nat.le_trans (Nat.mul_le_mul_right n this) hbd
            · cases h
          · cases h
        · cases h
    · cases h
  · rename_i el hu
    split at h
    · rename_i n hh c1 hs hb1
      split at h
      · rename_i l c2 hb2
        cases h
        obtain ⟨k1, k2⟩ := hsplit c1 c2 rfl
        cases hx
        obtain ⟨b0, b1, b2, b3⟩ := bounds_ok (P := P) (isS := true) (len := 0) (cap := 0) w hb1 hb2 k1 k2 (optMap hev hi) (optMap hev lo) (by rw [int_i]; rfl) (by rw [int_i]; exact Int.le_refl _) (Nat.le_refl _)
        have e1 : (l.den ρ).i.toNat = 0 := by omega
        have e2 : (hh.den ρ).i.toNat = 0 := by omega
        rw [e1, e2] at b3
        refine ⟨.slice none 0 0, ?_, .nils⟩
        unfold Instr.sliceAt
        rw [Sem.run_bind, run_underlying hu w, Result.andThen_ok]
        show (Instr.slice t _ _ _ _).run P w = _
        unfold Instr.slice
        rw [Sem.run_bind, run_underlying hu w, Result.andThen_ok]
        simp only [Option.map_none]
        rw [Sem.run_bind, b3, Result.andThen_ok, Sem.run_bind, size_ok hs w, Result.andThen_ok]
        rfl
      · cases h
    · cases h
  · cases h
end
end Go.Proofs.YtkfjgggiopegbaaDoor
namespace Go.Proofs.YtkfjgggiopegbaaDoor
open Go.RowKit
section
variable {P : Program} {ρ : Env} {G : Gh}
theorem map1 {α β : Type} {f : α → β} {l : List α} {b : β} (h : l.map f = [b]) : ∃ y, l = [y] ∧ f y = b := by
  cases l with
  | nil => simp at h
  | cons y r => cases r with
    | nil => exact ⟨y, rfl, by simpa using h⟩
    | cons z r => simp at h
theorem map2 {α β : Type} {f : α → β} {l : List α} {b c : β} (h : l.map f = [b, c]) : ∃ y z, l = [y, z] ∧ f y = b ∧ f z = c := by
  cases l with
  | nil => simp at h
  | cons y r =>
    simp only [List.map_cons, List.cons.injEq] at h
    obtain ⟨z, rfl, hz⟩ := map1 h.2
    exact ⟨y, z, rfl, h.1, hz⟩
theorem tup2 {a b : AV} {u v : Value} (h : VR ρ G a u) (k : VR ρ G b v) : VR ρ G (.tup [a, b]) (.tuple #[u, v]) := by
  have := VRs.cons (xs := [b]) (vs := [v]) h (VRs.cons (vs := []) k VRs.nil)
  exact .tup _ _ this.1 this.2
theorem assert_ok {t a : TypeId} {ok : Bool} {x r : AV} {cs : List SE} {u : Value} (w : World) (h : (match P.underlying a, x with
    | some (.interface _), _ => none
    | some _, .iface t v => if t = a then some (if ok then .tup [v, .bool (.bool true)] else v, ([] : List SE)) else if ok then (zeroA P a).map fun z => (.tup [z, .bool (.bool false)], []) else none
    | some _, .nili => if ok then (zeroA P a).map fun z => (.tup [z, .bool (.bool false)], []) else none
    | _, _ => none) = some (r, cs)) (hx : VR ρ G x u) : ∃ z, (Instr.typeAssert u t a ok).run P w = .ok z w ∧ VR ρ G r z := by
  have bt : ∀ b, VR ρ G (.bool (.bool b)) (.bool b) := fun b => .bool _ _ rfl
  split at h
  · cases h
  · rename_i d t' v hni hu
    obtain ⟨u', rfl, hr⟩ := hx.iface_inv
    unfold Instr.typeAssert
    rw [Sem.run_bind, run_underlying hu w, Result.andThen_ok]
    split at h
    · rename_i he
      subst he
      cases h
      cases ok with
      | true =>
        refine ⟨.tuple #[u', .bool true], ?_, tup2 hr (bt true)⟩
        cases d <;> first | (exact (hni _ rfl).elim) | (simp; done) | (simp only [if_true]; rfl)
      | false =>
        refine ⟨u', ?_, hr⟩
        cases d <;> first | (exact (hni _ rfl).elim) | (simp; done) | (simp only [if_true]; rfl)
    · rename_i he
      cases ok with
      | false => cases h
      | true =>
        simp only [if_true] at h
        cases hz : zeroA P a with
        | none => rw [hz] at h; cases h
        | some z =>
          rw [hz] at h
          cases h
          obtain ⟨v0, hv0, hr0⟩ := zero_ok (ρ := ρ) (G := G) hz w
          refine ⟨.tuple #[v0, .bool false], ?_, tup2 hr0 (bt false)⟩
          cases d <;> first | (exact (hni _ rfl).elim) | (simp [he, hv0]; done)
  · rename_i d hni hu
    cases ok with
    | false => cases h
    | true =>
      simp only [if_true] at h
      cases hz : zeroA P a with
      | none => rw [hz] at h; cases h
      | some z =>
        rw [hz] at h
        cases h
        cases hx
        obtain ⟨v0, hv0, hr0⟩ := zero_ok (ρ := ρ) (G := G) hz w
        refine ⟨.tuple #[v0, .bool false], ?_, tup2 hr0 (bt false)⟩
        unfold Instr.typeAssert
        rw [Sem.run_bind, run_underlying hu w, Result.andThen_ok]
        cases d <;> first | (exact (hni _ rfl).elim) | (simp [hv0]; done)
  · cases h
theorem goInt_ok (e : SE) (n : Nat) (h : (e.den ρ).i = n) : VR ρ G (i64 e) (goInt n) := .int _ _ _ h.symm
theorem len_ok {t : TypeId} {x r : AV} {cs : List SE} {u : Value} {ty : TypeId} (w : World) (h : (match P.underlying t, x with
      | some .string, .str s => some (i64 (mkU .slen s), ([] : List SE))
      | some (.array n _), _ => some (i64 (.int n), [])
      | some (.slice _), .sl _ _ _ len _ => some (i64 len, [])
      | some (.slice _), .nils => some (i64 (.int 0), [])
      | some (.slice _), .nsl _ _ _ _ _ len => some (i64 len, [])
      | _, _ => none) = some (r, cs)) (hx : VR ρ G x u) : ∃ z, (Builtin.len_ #[t] ty #[u]).run P w = .ok z w ∧ VR ρ G r z := by
  unfold Builtin.len_
  simp only [List.getElem?_toArray, List.getElem?_cons_zero]
  split at h
  · rename_i s hu
    cases h
    rw [hx.str_inv]
    refine ⟨goInt (s.den ρ).s.length, ?_, goInt_ok _ _ (by rw [mkU_den]; rfl)⟩
    rw [Sem.run_bind, run_underlying hu w, Result.andThen_ok]
    rfl
  · rename_i n e hu
    cases h
    refine ⟨goInt n, ?_, goInt_ok _ _ rfl⟩
    rw [Sem.run_bind, run_underlying hu w, Result.andThen_ok]
    rfl
  · rename_i e b s off len cap hu
    cases h
    obtain ⟨g, a, n, c, hg, rfl, hlen, _⟩ := hx.sl_inv
    refine ⟨goInt n, ?_, goInt_ok _ _ hlen⟩
    rw [Sem.run_bind, run_underlying hu w, Result.andThen_ok]
    rfl
  · rename_i e hu
    cases h
    cases hx
    refine ⟨goInt 0, ?_, goInt_ok _ _ rfl⟩
    rw [Sem.run_bind, run_underlying hu w, Result.andThen_ok]
    rfl
  · rename_i e b s i j ks len hu
    cases h
    obtain ⟨g, a, n, c, hg, rfl, _, hlen, _⟩ := hx.nsl_inv
    refine ⟨goInt n, ?_, goInt_ok _ _ hlen⟩
    rw [Sem.run_bind, run_underlying hu w, Result.andThen_ok]
    rfl
  · cases h
set_option maxHeartbeats 1000000 in
theorem opV_ok {o : Oper} {ev : Operand → AV} {ec : Operand → Value} {r : AV} {cs : List SE} (w : World) (hev : ∀ x, VR ρ G (ev x) (ec x)) (h : opV P o ev = some (r, cs)) (hcs : ∀ c ∈ cs, (c.den ρ).b = true) :
    ∃ z, (execOp ec o).run P w = .ok (.value z) w ∧ VR ρ G r z := by
  obtain ⟨dst, op, ty, pos, after, guard⟩ := o
  unfold opV at h
  unfold execOp
  simp only at h ⊢
  have fin : ∀ (s : Sem Value), (∃ z, s.run P w = .ok z w ∧ VR ρ G r z) → ∃ z, (do pure (.value (← s)) : Sem Next).run P w = .ok (.value z) w ∧ VR ρ G r z := fun s ⟨z, h1, h2⟩ => ⟨z, lift_ok h1, h2⟩
  cases op with
  | move x => cases h; exact ⟨_, rfl, hev x⟩
  | assign x => cases h; exact ⟨_, rfl, hev x⟩
  | build t parts =>
    simp only at h ⊢
    refine fin _ ?_
    split at h
    · rename_i z fs hz hu; exact build_ok w hev hz hu h
    · rename_i z n e hz hu; exact build_ok w hev hz hu h
    · cases h
  | nilCheck x =>
    simp only at h ⊢
    have hx := hev x
    split at h
    · rename_i b o hv; cases h; rw [hv] at hx; obtain ⟨g, hg, he⟩ := hx.ptr_inv; rw [he]; exact ⟨_, rfl, .ptr _ _ g _ hg rfl⟩
    · rename_i b s i j hv; cases h; rw [hv] at hx; obtain ⟨g, hg, he⟩ := hx.elt_inv; rw [he]; exact ⟨_, rfl, .elt _ _ _ _ g _ hg rfl⟩
    · rename_i b s i j ks x c hv; cases h; rw [hv] at hx; obtain ⟨g, blk, off, m, cp, hg, hh, he⟩ := hx.nelt_inv; rw [he]; exact ⟨_, rfl, .nelt _ _ _ _ _ _ _ g blk off m cp hg hh⟩
    · rename_i f a b hv; cases h; rw [hv] at hx; obtain ⟨vf, vc, he, h1, h2⟩ := hx.func_inv; rw [he]; exact ⟨_, rfl, .func _ _ _ _ _ h1.1 h2.1 h1.2 h2.2⟩
    · cases h
  | binOp op t x y yt =>
    simp only at h ⊢
    obtain ⟨z, h1, h2, h3⟩ := bin_ok w x y h hcs (hev x) (hev y)
    exact fin _ ⟨z, by rw [Sem.run_bind, h1, Result.andThen_ok, h2], h3⟩
  | unOp op t x => exact fin _ (unop_ok w h (hev x))
  | convert s d x => exact fin _ (conv_ok w h (hev x))
  | makeInterface t x =>
    simp only at h ⊢
    refine fin _ ?_
    split at h
    · cases h
    · rename_i d hni hu
      cases h
      refine ⟨.iface t (ec x), ?_, .iface _ _ _ (hev x)⟩
      unfold Instr.makeInterface
      rw [Sem.run_bind, run_underlying hu w, Result.andThen_ok]
      cases d <;> first | rfl | (exact (hni _ rfl).elim)
    · cases h
  | makeFunc fn first cap =>
    cases h
    exact fin _ ⟨_, rfl, .func _ _ _ _ _ (mapEv hev first).1 (mapEv hev cap).1 (mapEv hev first).2 (mapEv hev cap).2⟩
  | fieldAddr t x f => exact fin _ (fieldAt_ok w h (hev x))
  | field t x f => exact fin _ (field_ok w h (hev x))
  | indexAddr t x i => exact fin _ (indexAt_ok w h hcs (hev x) (hev i))
  | index t x i => exact fin _ (index_ok w h hcs (hev x) (hev i))
  | slice t x lo hi mx => exact fin _ (slice_ok w hev h hcs (hev x))
  | extract x i =>
    simp only at h ⊢
    refine fin _ ?_
    have hx := hev x
    split at h
    · rename_i vs hv
      rw [hv] at hx
      obtain ⟨us, he, hus⟩ := hx.tup_inv
      rw [he]
      cases hi : vs[i]? with
      | none => rw [hi] at h; cases h
      | some a =>
        rw [hi] at h
        cases h
        obtain ⟨u, hu, hr⟩ := hus.get hi
        exact ⟨u, by simp [Instr.extract, hu], hr⟩
    · cases h
  | typeAssert x t a ok => exact fin _ (assert_ok w h (hev x))
  | call c =>
    obtain ⟨callee, args, argTypes⟩ := c
    cases callee with
    | builtin b =>
      simp only at h ⊢
      obtain ⟨args⟩ := args
      obtain ⟨argTypes⟩ := argTypes
      simp only at h
      split at h
      · rename_i x t ha
        obtain ⟨y, rfl, rfl⟩ := map1 ha
        obtain ⟨z, hz, hr⟩ := len_ok (ty := ty) w h (hev y)
        refine ⟨z, ?_, hr⟩
        simp [resolve, invoke, builtin, hz]
      · rename_i k a k' b ha
        obtain ⟨y, y', rfl, h1, h2⟩ := map2 ha
        cases h
        have e1 := hev y
        have e2 := hev y'
        rw [h1] at e1
        rw [h2] at e2
        refine ⟨.int k (if (b.den ρ).i < (a.den ρ).i then (b.den ρ).i else (a.den ρ).i), ?_, .int _ _ _ ?_⟩
        · simp [resolve, invoke, builtin, e1.int_inv, e2.int_inv, Builtin.min_, Builtin.min2]
        · rw [mkT_den]
          simp only [evT, lt_b, decide_eq_true_eq]
          split <;> rfl
      · rename_i k a k' b ha
        obtain ⟨y, y', rfl, h1, h2⟩ := map2 ha
        cases h
        have e1 := hev y
        have e2 := hev y'
        rw [h1] at e1
        rw [h2] at e2
        refine ⟨.int k (if (a.den ρ).i < (b.den ρ).i then (b.den ρ).i else (a.den ρ).i), ?_, .int _ _ _ ?_⟩
        · simp [resolve, invoke, builtin, e1.int_inv, e2.int_inv, Builtin.max_, Builtin.max2]
        · rw [mkT_den]
          simp only [evT, lt_b, decide_eq_true_eq]
          split <;> rfl
      · cases h
    | _ => cases h
  | _ => cases h
end
end Go.Proofs.YtkfjgggiopegbaaDoor
namespace Go.Proofs.YtkfjgggiopegbaaDoor
open Go.RowKit
section
variable {P : Program} {ρ : Env} {G : Gh}
theorem ck_ok (k : CK) (e : SE) (d : DV) (h : e.den ρ = d) : VR ρ G (k.av e) (k.val d) := by
  subst h
  cases k
  · exact .int _ _ _ rfl
  · exact .bool _ _ rfl
  · exact .str _ _ rfl
theorem cell_of_heap {w : World} {b : Nat} {arr : Array Value} {t : TypeId} {f : Nat × Nat} (h : w.heap[b]? = some (.cells arr t f)) (o : Nat) : w.cell? ⟨b, o, none⟩ = arr[o]? := by simp [World.cell?, h]
theorem loadAgg_ok {t : TypeId} {n : Nat} (hg : isAggB P t = some true) (hs : sizeB P t = some n) (w : World) (b o : Nat) (vs : List Value) (hl : vs.length = n) (hv : ∀ (j : Nat) (v : Value), vs[j]? = some v → w.cell? ⟨b, o + j, none⟩ = some v) :
    (Instr.loadAt t (.pointer (some ⟨b, o, none⟩))).run P w = .ok (.agg vs.toArray) w := by
  unfold Instr.loadAt Instr.sureAddr
  rw [Sem.run_bind, Sem.run_pure, Result.andThen_ok]
  unfold loadVar
  rw [Sem.run_bind, isAgg_ok hg w, Result.andThen_ok]
  simp only [if_true, Sem.run_bind, size_ok hs w, Result.andThen_ok]
  have hl' : (loadCells ⟨b, o, none⟩ n).run P w = .ok vs.toArray w := by
    rw [← hl]
    exact run_loadCells_list (P := P) w ⟨b, o, none⟩ vs (fun j v h => by rw [addr_add]; exact hv j v h)
  rw [hl']
  rfl
theorem load1_ok {t : TypeId} (hg : isAggB P t = some false) (w : World) (b o : Nat) (v : Value) (hv : w.cell? ⟨b, o, none⟩ = some v) :
    (Instr.loadAt t (.pointer (some ⟨b, o, none⟩))).run P w = .ok v w := by
  unfold Instr.loadAt Instr.sureAddr
  rw [Sem.run_bind, Sem.run_pure, Result.andThen_ok]
  unfold loadVar
  rw [Sem.run_bind, isAgg_ok hg w, Result.andThen_ok]
  simp [load, Sem.run, hv]
theorem rowCells_ok {ks : List CK} {r : SE} {d : DV} (hr : r.den ρ = d) (j n : Nat) (hjn : j + n ≤ ks.length) :
    VRs ρ G (((ks.drop j).take n).zipIdx.map fun p => p.1.av (cellE ks r (j + p.2))) (((ks.drop j).take n).zipIdx.map fun p => p.1.val (cellD ks d (j + p.2))).toArray := by
  refine VRs.of_list (by simp) fun i a v h1 h2 => ?_
  simp only [List.getElem?_map, Option.map_eq_some_iff] at h1 h2
  obtain ⟨p, hp, rfl⟩ := h1
  obtain ⟨q, hq, rfl⟩ := h2
  rw [hp] at hq; cases hq
  exact ck_ok _ _ _ (by rw [cellE_den, hr])
def RowAt (ρ : Env) (w : World) (b o : Nat) (ks : List CK) (e : SE) : Prop := ∀ (i j : Nat) (d : DV) (k : CK), (e.den ρ).l[i]? = some d → ks[j]? = some k → w.cell? ⟨b, o + i * ks.length + j, none⟩ = some (k.val (cellD ks d j))
theorem row_at {M : Me} {w : World} {b : Nat} {ks : List CK} {e : SE} {g : GI} (hM : ∀ b o, hget M.hp b = some o → ∃ g, G b = some g ∧ OR ρ G w g o) (hg : G b = some g) (h : hget M.hp b = some (.rows ks e) ∨ hget M.hp b = some (.ro ks e)) : RowAt ρ w g.blk g.off ks e := by
  rcases h with h | h
  · obtain ⟨g', hg', h0, h1, h2, h3⟩ := hM b _ h
    rw [hg] at hg'; cases hg'
    intro i j d k hi hj
    by_cases hz : g.sz = 0
    · rw [h2 hz] at hi; simp at hi
    · obtain ⟨arr, t, hh, _, _, hx⟩ := h3 hz
      rw [cell_of_heap hh, h0, Nat.zero_add]
      exact hx i j d k hi hj
  · obtain ⟨g', hg', h1, h2⟩ := hM b _ h
    rw [hg] at hg'; cases hg'
    exact h2
theorem len_den (e : SE) : ((mkU .len e).den ρ).i = (e.den ρ).l.length := by rw [mkU_den]; rfl
theorem readRow_ok {w : World} {t : TypeId} {g : Bool} {n b o i j : Nat} {ks : List CK} {e re : SE} {r : AV} {cs cs0 : List SE} (hg : isAggB P t = some g) (hs : sizeB P t = some n) (hrow : RowAt ρ w b o ks e) (hjn : j + n ≤ ks.length) (hlt : i < (e.den ρ).l.length) (hre : re.den ρ = (e.den ρ).l[i]?.getD (.int 0))
    (h : (bif g then some (AV.agg (((ks.drop j).take n).zipIdx.map fun p => p.1.av (cellE ks re (j + p.2))), cs0) else (ks[j]?).map fun k => (k.av (cellE ks re j), cs0)) = some (r, cs)) :
    ∃ z, (Instr.loadAt t (.pointer (some ⟨b, o + i * ks.length + j, none⟩))).run P w = .ok z w ∧ VR ρ G r z := by
  have hd : (e.den ρ).l[i]? = some ((e.den ρ).l[i]?.getD (.int 0)) := by rw [List.getElem?_eq_getElem hlt]; rfl
  cases g with
  | true =>
    simp only [cond_true] at h
    cases h
    have hv := rowCells_ok (ρ := ρ) (G := G) (ks := ks) hre j n hjn
    refine ⟨.agg (((ks.drop j).take n).zipIdx.map fun p => p.1.val (cellD ks ((e.den ρ).l[i]?.getD (.int 0)) (j + p.2))).toArray, loadAgg_ok hg hs w _ _ _ (by simp; omega) fun q v hq => ?_, .agg _ _ hv.1 hv.2⟩
    simp only [List.getElem?_map, Option.map_eq_some_iff] at hq
    obtain ⟨p, hp, rfl⟩ := hq
    rw [List.getElem?_zipIdx] at hp
    simp only [Option.map_eq_some_iff] at hp
    obtain ⟨k, hk, rfl⟩ := hp
    rw [List.getElem?_take] at hk
    split at hk
    · rw [List.getElem?_drop] at hk
      have := hrow i (j + q) _ k hd hk
      simp only [Nat.zero_add]
      rw [← this]
      congr 2
      omega
    · cases hk
  | false =>
    simp only [cond_false] at h
    cases hk : ks[j]? with
    | none => rw [hk] at h; cases h
    | some k =>
      rw [hk] at h
      cases h
      exact ⟨_, load1_ok hg w _ _ _ (hrow i j _ k hd hk), ck_ok _ _ _ (by rw [cellE_den, hre])⟩
theorem nest_at {M : Me} {w : World} {b : Nat} {ns : List NK} {e : SE} {g : GI} (hM : ∀ b o, hget M.hp b = some o → ∃ g, G b = some g ∧ OR ρ G w g o) (hg : G b = some g) (h : hget M.hp b = some (.nrows ns e) ∨ hget M.hp b = some (.nro ns e)) : NAt w g ns (e.den ρ).l := by
  rcases h with h | h
  · obtain ⟨g', hg', _, _, _, _, hn⟩ := hM b _ h
    rw [hg] at hg'; cases hg'
    exact hn
  · obtain ⟨g', hg', _, hn⟩ := hM b _ h
    rw [hg] at hg'; cases hg'
    exact hn
theorem nav_ok {w : World} {g : GI} {b s : Nat} {i re : SE} {j : Nat} {k : NK} {v : Value} {d : DV} (hg : G b = some g) (hre : re.den ρ = d) (hk : k.ok w g ((i.den ρ).i.toNat * s + j) (cellN d j) v) : VR ρ G (k.av b s i j re) v := by
  have hd : (mkB .idx re (.int j)).den ρ = cellN d j := by rw [mkB_den, ← hre]; rfl
  cases k with
  | pl k =>
    have hk : v = k.val (cellN d j) := hk
    rw [hk]
    exact ck_ok k _ _ hd
  | sub ks =>
    obtain ⟨h1, _, a, n, c, rfl, h2, h3, h4, _⟩ := hk
    refine .nsl _ _ _ _ _ _ g a n c hg h1 ?_ h3 h4
    rw [len_den, hd, h2]
theorem readN_ok {w : World} {t : TypeId} {g : Bool} {n b j : Nat} {gi : GI} {ns : List NK} {e i : SE} {r : AV} {cs : List SE} (hg : isAggB P t = some g) (hs : sizeB P t = some n) (hgi : G b = some gi) (hat : NAt w gi ns (e.den ρ).l) (h : readN g n b ns e i j = some (r, cs)) (hcs : ∀ c ∈ cs, (c.den ρ).b = true) :
    ∃ z, (Instr.loadAt t (.pointer (some ⟨gi.blk, gi.off + (i.den ρ).i.toNat * ns.length + j, none⟩))).run P w = .ok z w ∧ VR ρ G r z := by
  unfold readN at h
  cases hb : Nat.ble (j + n) ns.length with
  | false => rw [hb] at h; cases h
  | true =>
    rw [hb] at h
    simp only [cond_true] at h
    have hjn := Nat.le_of_ble_eq_true hb
    have hc : (mkB .le (.int 0) i) ∈ cs ∧ (ltE i (mkU .len e)) ∈ cs := by
      cases g <;> simp only [cond_true, cond_false] at h
      · cases hk : ns[j]? with
        | none => rw [hk] at h; cases h
        | some k => rw [hk] at h; cases h; simp
      · cases h; simp
    have h0 := hcs _ hc.1
    have hlt := hcs _ hc.2
    rw [le_b, int_i] at h0
    rw [lt_b, len_den] at hlt
    have h0 := of_decide_eq_true h0
    have hlt := of_decide_eq_true hlt
    generalize hi : (i.den ρ).i.toNat = m at *
    have hml : m < (e.den ρ).l.length := by omega
    have hre : (mkB .idx e i).den ρ = (e.den ρ).l[m]?.getD (.int 0) := by rw [mkB_den, ← hi]; rfl
    have hd : (e.den ρ).l[m]? = some ((e.den ρ).l[m]?.getD (.int 0)) := by rw [List.getElem?_eq_getElem hml]; rfl
    have cell : ∀ (q : Nat) (k : NK), ns[q]? = some k → ∃ v, w.cell? ⟨gi.blk, gi.off + m * ns.length + q, none⟩ = some v ∧ VR ρ G (k.av b ns.length i q (mkB .idx e i)) v := fun q k hq => by
      obtain ⟨v, hv, hk⟩ := hat m q _ k hd hq
      exact ⟨v, hv, nav_ok hgi hre (by rw [hi]; exact hk)⟩
    cases g with
    | true =>
      simp only [cond_true] at h
      cases h
      have hex : ∃ vs : List Value, vs.length = n ∧ ∀ q, q < n → ∃ k v, ns[j + q]? = some k ∧ vs[q]? = some v ∧ w.cell? ⟨gi.blk, gi.off + m * ns.length + (j + q), none⟩ = some v ∧ VR ρ G (k.av b ns.length i (j + q) (mkB .idx e i)) v := by
        have : ∀ p, p ≤ n → ∃ vs : List Value, vs.length = p ∧ ∀ q, q < p → ∃ k v, ns[j + q]? = some k ∧ vs[q]? = some v ∧ w.cell? ⟨gi.blk, gi.off + m * ns.length + (j + q), none⟩ = some v ∧ VR ρ G (k.av b ns.length i (j + q) (mkB .idx e i)) v := by
          intro p
          induction p with
          | zero => intro _; exact ⟨[], rfl, fun q hq => by omega⟩
          | succ p ih =>
            intro hp
            obtain ⟨vs, hl, hv⟩ := ih (by omega)
            obtain ⟨v, h1, h2⟩ := cell (j + p) ns[j + p] (List.getElem?_eq_getElem (by omega))
            refine ⟨vs ++ [v], by simp [hl], fun q hq => ?_⟩
            rcases Nat.lt_or_ge q p with h | h
            · obtain ⟨k, u, a1, a2, a3, a4⟩ := hv q h
              exact ⟨k, u, a1, by rw [List.getElem?_append_left (by omega)]; exact a2, a3, a4⟩
            · have : q = p := by omega
              subst this
              exact ⟨_, v, List.getElem?_eq_getElem (by omega), by rw [List.getElem?_append_right (by omega)]; simp [hl], h1, h2⟩
        exact this n (Nat.le_refl _)
      obtain ⟨vs, hl, hv⟩ := hex
      refine ⟨.agg vs.toArray, loadAgg_ok hg hs w _ _ _ hl fun q v hq => ?_, ?_⟩
      · have hqn : q < n := by have := (List.getElem?_eq_some_iff.1 hq).1; omega
        obtain ⟨k, u, _, a2, a3, _⟩ := hv q hqn
        rw [hq] at a2; cases a2
        rw [Nat.add_assoc]
        exact a3
      · refine .agg _ _ (by simp; omega) fun q a v h1 h2 => ?_
        rw [List.getElem?_toArray] at h2
        have hqn : q < n := by have := (List.getElem?_eq_some_iff.1 h2).1; omega
        obtain ⟨k, u, a1, a2, _, a4⟩ := hv q hqn
        rw [h2] at a2; cases a2
        simp only [List.getElem?_map, Option.map_eq_some_iff] at h1
        obtain ⟨p, hp, rfl⟩ := h1
        rw [List.getElem?_zipIdx] at hp
        simp only [Option.map_eq_some_iff] at hp
        obtain ⟨k', hk', rfl⟩ := hp
        rw [List.getElem?_take, if_pos hqn, List.getElem?_drop, a1] at hk'
        cases hk'
        simpa using a4
    | false =>
      simp only [cond_false] at h
      cases hk : ns[j]? with
      | none => rw [hk] at h; cases h
      | some k =>
        rw [hk] at h
        cases h
        obtain ⟨v, h1, h2⟩ := cell j k hk
        exact ⟨v, load1_ok hg w _ _ _ h1, h2⟩
theorem readS_ok {w : World} {t : TypeId} {g : Bool} {n s j c blk off n0 c0 : Nat} {gi : GI} {ns : List NK} {e i x : SE} {ks : List CK} {r : AV} {cs : List SE} (hg : isAggB P t = some g) (hs : sizeB P t = some n) (hat : NAt w gi ns (e.den ρ).l) (hh : gi.hd ((i.den ρ).i.toNat * s + j) = some (.slice (some ⟨blk, off, none⟩) n0 c0)) (h : readS g n s ns e i j ks x c = some (r, cs)) (hcs : ∀ c ∈ cs, (c.den ρ).b = true) :
    ∃ z, (Instr.loadAt t (.pointer (some ⟨blk, off + (x.den ρ).i.toNat * ks.length + c, none⟩))).run P w = .ok z w ∧ VR ρ G r z := by
  unfold readS at h
  cases hb : (Nat.beq s ns.length && (decide (ns[j]? = some (.sub ks)) && Nat.ble (c + n) ks.length)) with
  | false => rw [hb] at h; cases h
  | true =>
    rw [hb] at h
    simp only [cond_true] at h
    simp only [Bool.and_eq_true, beq_iff, decide_eq_true_eq] at hb
    obtain ⟨rfl, hj, hb⟩ := hb
    have hc : ∀ y, (y = mkB .le (.int 0) i ∨ y = ltE i (mkU .len e) ∨ y = mkB .le (.int 0) x ∨ y = ltE x (mkU .len (mkB .idx (mkB .idx e i) (.int j)))) → y ∈ cs := by
      intro y hy
      cases g <;> simp only [cond_true, cond_false] at h
      · cases hk : ks[c]? with
        | none => rw [hk] at h; cases h
        | some k => rw [hk] at h; cases h; simpa using hy
      · cases h; simpa using hy
    have h0 := hcs _ (hc _ (.inl rfl))
    have h1 := hcs _ (hc _ (.inr (.inl rfl)))
    have h2 := hcs _ (hc _ (.inr (.inr (.inl rfl))))
    have h3 := hcs _ (hc _ (.inr (.inr (.inr rfl))))
    rw [le_b, int_i] at h0 h2
    rw [lt_b, len_den] at h1 h3
    have h0 := of_decide_eq_true h0
    have h1 := of_decide_eq_true h1
    have h2 := of_decide_eq_true h2
    have h3 := of_decide_eq_true h3
    have hml : (i.den ρ).i.toNat < (e.den ρ).l.length := by omega
    have hre : (mkB .idx e i).den ρ = (e.den ρ).l[(i.den ρ).i.toNat]?.getD (.int 0) := by rw [mkB_den]; rfl
    have hd : (e.den ρ).l[(i.den ρ).i.toNat]? = some ((e.den ρ).l[(i.den ρ).i.toNat]?.getD (.int 0)) := by rw [List.getElem?_eq_getElem hml]; rfl
    obtain ⟨v, _, k1, _, a, n', c', rfl, k2, k3, k4, k5⟩ := hat _ j _ _ hd hj
    rw [hh] at k1; cases k1
    have hl : (mkB .idx (mkB .idx e i) (.int j)).den ρ = cellN ((e.den ρ).l[(i.den ρ).i.toNat]?.getD (.int 0)) j := by rw [mkB_den, hre]; rfl
    refine readRow_ok (G := G) (i := (x.den ρ).i.toNat) (e := mkB .idx (mkB .idx e i) (.int j)) hg hs (fun i' j' d k hi' hj' => ?_) (Nat.le_of_ble_eq_true hb) (by omega) (by rw [mkB_den]; rfl) h
    rw [hl] at hi'
    obtain ⟨blk', off', he, hcell⟩ := k5 i' j' d k hi' hj'
    cases he
    exact hcell
theorem read_ok {M : Me} {w : World} {t : TypeId} {a r : AV} {cs : List SE} {u : Value} (hM : ∀ b o, hget M.hp b = some o → ∃ g, G b = some g ∧ OR ρ G w g o) (h : readA P M.hp t a = some (r, cs)) (hcs : ∀ c ∈ cs, (c.den ρ).b = true) (ha : VR ρ G a u) :
    ∃ z, (Instr.loadAt t u).run P w = .ok z w ∧ VR ρ G r z := by
  unfold readA at h
  split at h
  · rename_i g n hg hs
    have rowc : ∀ (b o : Nat) (gi : GI) (ks : List CK) (e : SE), G b = some gi → (hget M.hp b = some (.rows ks e) ∨ hget M.hp b = some (.ro ks e)) → (let s := ks.length; let i := o / s; let j := o % s; bif Nat.ble (j + n) s then
          let r := mkB .idx e (.int i)
          bif g then some (AV.agg (((ks.drop j).take n).zipIdx.map fun p => p.1.av (cellE ks r (j + p.2))), [ltE (.int i) (mkU .len e)])
          else (ks[j]?).map fun k => (k.av (cellE ks r j), [ltE (.int i) (mkU .len e)])
        else none) = some (r, cs) → ∃ z, (Instr.loadAt t (.pointer (some ⟨gi.blk, gi.off + o, none⟩))).run P w = .ok z w ∧ VR ρ G r z := by
      intro b o gi ks e hgi hrow h
      simp only at h
      cases hb : Nat.ble (o % ks.length + n) ks.length with
      | false => rw [hb] at h; cases h
      | true =>
        rw [hb] at h
        simp only [cond_true] at h
        have hc : (ltE (.int (o / ks.length : Nat)) (mkU .len e)) ∈ cs := by
          cases g <;> simp only [cond_true, cond_false] at h
          · cases hk : ks[o % ks.length]? with
            | none => rw [hk] at h; cases h
            | some k => rw [hk] at h; cases h; simp
          · cases h; simp
        have hlt := hcs _ hc
        rw [lt_b, int_i, len_den] at hlt
        have hlt : o / ks.length < (e.den ρ).l.length := by have := of_decide_eq_true hlt; omega
        have := readRow_ok (G := G) hg hs (row_at hM hgi hrow) (Nat.le_of_ble_eq_true hb) hlt (by rw [mkB_den]; rfl) h
        rwa [Nat.add_assoc, Nat.mul_comm, Nat.div_add_mod] at this
    have nestp : ∀ (b o : Nat) (gi : GI) (ns : List NK) (e : SE), G b = some gi → (hget M.hp b = some (.nrows ns e) ∨ hget M.hp b = some (.nro ns e)) → readN g n b ns e (.int (o / ns.length : Nat)) (o % ns.length) = some (r, cs) → ∃ z, (Instr.loadAt t (.pointer (some ⟨gi.blk, gi.off + o, none⟩))).run P w = .ok z w ∧ VR ρ G r z := by
      intro b o gi ns e hgi hrow h
      have := readN_ok hg hs hgi (nest_at hM hgi hrow) h hcs
      rw [int_i, Int.toNat_natCast] at this
      rwa [Nat.add_assoc, Nat.mul_comm, Nat.div_add_mod] at this
    split at h
    · -- a pointer at a known place
      rename_i b o
      obtain ⟨gi, hgi, rfl⟩ := ha.ptr_inv
      split at h
      · -- cells
        rename_i ds hob
        obtain ⟨gi', hgi', hor⟩ := hM b _ hob
        rw [hgi] at hgi'; cases hgi'
        obtain ⟨hoff, arr, ty, hheap, hsz, hlen, hvr⟩ := hor
        rw [hoff, Nat.zero_add]
        cases hb : Nat.ble (o + n) ds.length with
        | false => rw [hb] at h; cases h
        | true =>
          rw [hb] at h
          simp only [cond_true] at h
          have hle := Nat.le_of_ble_eq_true hb
          cases g with
          | true =>
            cases h
            refine ⟨.agg (arr.toList.drop o |>.take n).toArray, loadAgg_ok hg hs w _ _ _ (by simp; omega) fun j v hj => ?_, ?_⟩
            · rw [cell_of_heap hheap]
              rw [List.getElem?_take] at hj
              split at hj
              · rwa [List.getElem?_drop, Array.getElem?_toList] at hj
              · cases hj
            · refine .agg _ _ (by simp; omega) fun i a v h1 h2 => ?_
              rw [List.getElem?_toArray] at h2
              rw [List.getElem?_take] at h1 h2
              split at h1
              · rename_i hin
                rw [if_pos hin] at h2
                rw [List.getElem?_drop] at h1 h2
                rw [Array.getElem?_toList] at h2
                exact hvr _ a v h1 h2
              · cases h1
          | false =>
            simp only [cond_false] at h
            cases hd : ds[o]? with
            | none => rw [hd] at h; cases h
            | some a =>
              rw [hd] at h
              cases h
              have hlt : o < arr.size := by have := (List.getElem?_eq_some_iff.1 hd).1; omega
              exact ⟨arr[o], load1_ok hg w _ _ _ (by rw [cell_of_heap hheap]; simp [hlt]), hvr o _ _ hd (by simp [hlt])⟩
      · -- cells that are read alone
        rename_i ds hob
        obtain ⟨gi', hgi', hor⟩ := hM b _ hob
        rw [hgi] at hgi'; cases hgi'
        cases g with
        | true => cases h
        | false =>
          simp only [cond_false] at h
          cases hd : ds[o]? with
          | none => rw [hd] at h; cases h
          | some a =>
            rw [hd] at h
            cases h
            obtain ⟨v, hv, hr⟩ := hor o _ hd
            exact ⟨v, load1_ok hg w _ _ _ hv, hr⟩
      · rename_i ks e hob; exact rowc b o gi ks e hgi (.inl hob) h
      · rename_i ks e hob; exact rowc b o gi ks e hgi (.inr hob) h
      · rename_i ns e hob; exact nestp b o gi ns e hgi (.inl hob) h
      · rename_i ns e hob; exact nestp b o gi ns e hgi (.inr hob) h
      · cases h
    · -- a pointer into a row
      rename_i b s i j
      obtain ⟨gi, hgi, rfl⟩ := ha.elt_inv
      have main : ∀ (ks : List CK) (e : SE), (hget M.hp b = some (.rows ks e) ∨ hget M.hp b = some (.ro ks e)) → (bif Nat.beq s ks.length && Nat.ble (j + n) s then
          let r := mkB .idx e i
          bif g then some (AV.agg (((ks.drop j).take n).zipIdx.map fun p => p.1.av (cellE ks r (j + p.2))), [mkB .le (.int 0) i, ltE i (mkU .len e)])
          else (ks[j]?).map fun k => (k.av (cellE ks r j), [mkB .le (.int 0) i, ltE i (mkU .len e)])
        else none) = some (r, cs) → ∃ z, (Instr.loadAt t (.pointer (some ⟨gi.blk, gi.off + (i.den ρ).i.toNat * s + j, none⟩))).run P w = .ok z w ∧ VR ρ G r z := by
        clear h
        intro ks e hrow h
        cases hb : (Nat.beq s ks.length && Nat.ble (j + n) s) with
        | false => rw [hb] at h; cases h
        | true =>
          rw [hb] at h
          simp only [cond_true] at h
          simp only [Bool.and_eq_true, beq_iff] at hb
          obtain ⟨rfl, hb⟩ := hb
          have hc : (mkB .le (.int 0) i) ∈ cs ∧ (ltE i (mkU .len e)) ∈ cs := by
            cases g <;> simp only [cond_true, cond_false] at h
            · cases hk : ks[j]? with
              | none => rw [hk] at h; cases h
              | some k => rw [hk] at h; cases h; simp
            · cases h; simp
          have h0 := hcs _ hc.1
          have hlt := hcs _ hc.2
          rw [le_b, int_i] at h0
          rw [lt_b, len_den] at hlt
          have h0 := of_decide_eq_true h0
          have hlt := of_decide_eq_true hlt
          exact readRow_ok (G := G) (i := (i.den ρ).i.toNat) hg hs (row_at hM hgi hrow) (Nat.le_of_ble_eq_true hb) (by omega) (by rw [mkB_den]; rfl) h
      split at h
      · rename_i ks e hob; exact main ks e (.inl hob) h
      · rename_i ks e hob; exact main ks e (.inr hob) h
      · rename_i ns e hob
        cases hb : Nat.beq s ns.length with
        | false => rw [hb] at h; cases h
        | true =>
          rw [hb] at h
          have hb := (beq_iff _ _).1 hb
          subst hb
          exact readN_ok hg hs hgi (nest_at hM hgi (.inl hob)) h hcs
      · rename_i ns e hob
        cases hb : Nat.beq s ns.length with
        | false => rw [hb] at h; cases h
        | true =>
          rw [hb] at h
          have hb := (beq_iff _ _).1 hb
          subst hb
          exact readN_ok hg hs hgi (nest_at hM hgi (.inr hob)) h hcs
      · cases h
    · -- a pointer into a row of a nested row
      rename_i b s i j ks x c
      obtain ⟨gi, blk, off, m, cp, hgi, hh, rfl⟩ := ha.nelt_inv
      split at h
      · rename_i ns e hob; exact readS_ok hg hs (nest_at hM hgi (.inl hob)) hh h hcs
      · rename_i ns e hob; exact readS_ok hg hs (nest_at hM hgi (.inr hob)) hh h hcs
      · cases h
    · cases h
  · cases h
end
end Go.Proofs.YtkfjgggiopegbaaDoor
namespace Go.Proofs.YtkfjgggiopegbaaDoor
open Go.RowKit
section
variable {P : Program} {ρ : Env} {G : Gh}
theorem newRow_ok (t : TypeId) (cs : Array Value) (w : World) : (newRow t cs).run P w = .ok ⟨w.heap.size, 0, none⟩ (w.alloc (.cells cs t)) := by
  unfold newRow
  rw [Sem.run_bind, run_newObj_alloc]; rfl
theorem newVar_ok (t : TypeId) (v : Value) (w : World) : (newVar t v).run P w = .ok ⟨w.heap.size, 0, none⟩ (w.alloc (.cells v.cells t)) := newRow_ok t _ w
theorem or_cells {cs : List AV} {arr : Array Value} (h : VRs ρ G cs arr) (w : World) (t : TypeId) {G' : Gh} (hG : G.le G') : OR ρ G' (w.alloc (.cells arr t)) ⟨w.heap.size, 0, arr.size, default⟩ (.cells cs) :=
  ⟨rfl, arr, t, alloc_new w _, rfl, Nat.le_of_eq h.1.symm, fun i a v h1 h2 => (h.2 i a v h1 h2).mono hG⟩
theorem rep_flat (zc : List AV) (z : Array Value) (n len : Nat) (hn : zc.length = n) (h : VRs ρ G zc z) : VRs ρ G (List.replicate len zc).flatten ((Array.range (len * n)).map (z[· % z.size]!)) := by
  have hz : z.size = n := by rw [h.1, hn]
  refine ⟨by simp [hn], fun i a v h1 h2 => ?_⟩
  have hi : i < len * n := by
    have := (Array.getElem?_eq_some_iff.1 h2).1
    simpa using this
  have hn0 : 0 < n := by
    rcases Nat.eq_zero_or_pos n with h0 | h0
    · rw [h0] at hi; simp at hi
    · exact h0
  have hm : i % n < n := Nat.mod_lt _ hn0
  have hlist : (List.replicate len zc).flatten[i]? = zc[i % n]? := by
    clear h1 h2
    induction len generalizing i with
    | zero => simp at hi
    | succ len ih =>
      rw [List.replicate_succ, List.flatten_cons, List.getElem?_append, hn]
      split
      · rename_i hlt; rw [Nat.mod_eq_of_lt hlt]
      · rename_i hge
        rw [ih (i - n) (by rw [Nat.succ_mul] at hi; omega) (Nat.mod_lt _ hn0)]
        rw [← Nat.mod_eq_sub_mod (by omega)]
  rw [hlist] at h1
  simp only [Array.getElem?_map, Array.getElem?_range, hi, Option.map_eq_some_iff] at h2
  have hv : z[i % n]? = some v := by
    rw [hz] at h2
    simp at h2
    have := h2.symm
    rw [getElem!_pos z (i % n) (by rw [hz]; exact hm)] at this
    rw [this]
    exact getElem?_pos z (i % n) (by rw [hz]; exact hm)
  exact h.2 _ a v h1 hv
theorem ckOf_val {a : AV} {k : CK} {v : Value} (h : ckOf a = some k) (hv : VR ρ G a v) : v = k.val ((seOf a).den ρ) := by
  unfold ckOf at h
  split at h
  · cases h; exact hv.int_inv
  · cases h; exact hv.bool_inv
  · cases h; exact hv.str_inv
  · cases h
theorem mapM_get {α β : Type} {f : α → Option β} : ∀ {l : List α} {r : List β}, l.mapM f = some r → l.length = r.length ∧ ∀ (i : Nat) (b : β), r[i]? = some b → ∃ a, l[i]? = some a ∧ f a = some b
  | [], r, h => by simp at h; subst h; exact ⟨rfl, fun i b h => by simp at h⟩
  | a :: l, r, h => by
    rw [List.mapM_cons] at h
    simp only [bind, Option.bind_eq_some_iff, pure, Option.some.injEq] at h
    obtain ⟨b, hb, r', hr, rfl⟩ := h
    obtain ⟨h1, h2⟩ := mapM_get hr
    refine ⟨by simp [h1], fun i c hc => ?_⟩
    cases i with
    | zero => simp at hc; subst hc; exact ⟨a, rfl, hb⟩
    | succ i => exact h2 i c (by simpa using hc)
theorem foldr_cons_den (cs : List AV) : ((cs.foldr (fun v r => SE.bin .cons (seOf v) r) .nil).den ρ) = .list (cs.map fun v => (seOf v).den ρ) := by
  induction cs with
  | nil => rfl
  | cons c r ih => simp only [List.foldr_cons, SE.den, evB, ih, DV.l, List.map_cons]
theorem rowE_ok {cs : List AV} {ks : List CK} {arr : Array Value} (hk : cs.mapM ckOf = some ks) (h : VRs ρ G cs arr) : ∀ (j : Nat) (k : CK), ks[j]? = some k → arr[j]? = some (k.val (cellD ks ((rowE cs).den ρ) j)) := by
  intro j k hj
  obtain ⟨hl, hg⟩ := mapM_get hk
  obtain ⟨a, ha, hka⟩ := hg j k hj
  obtain ⟨v, hv, hr⟩ := h.get ha
  rw [hv, ckOf_val hka hr]
  congr 2
  match cs, ks, hl, ha, hj with
  | [x], [k0], _, ha, hj =>
    have : j = 0 := by have := (List.getElem?_eq_some_iff.1 hj).1; simp at this; exact this
    subst this
    simp at ha
    subst ha
    rfl
  | x :: y :: r, k0 :: k1 :: r', _, ha, hj =>
    show _ = ((((x :: y :: r).foldr (fun v r => SE.bin .cons (seOf v) r) .nil).den ρ).l[j]?).getD (.int 0)
    rw [foldr_cons_den]
    simp only [DV.l, List.getElem?_map, ha, Option.map_some, Option.getD_some]
theorem small_wrap (n : Nat) (h : n ≤ 1000000) : IntKind.i64.wrap n = n := IntWalk.i64_in _ (by omega)
theorem map_r0 {α : Type} (f : Nat → α) : (Array.range 0).map f = #[] := by simp
theorem makeSlice_run {t el : TypeId} {inf : TypeInfo} {z : Value} (hu : P.underlying t = some (.slice el)) (hi : P.info? el = some inf) (hz : inf.zero = some z) (hb : inf.bytes ≤ 10000) (la lb : Nat) (hab : la ≤ lb) (hl : lb ≤ 1000000) (hzs : z.cells.size = inf.size) (w : World) :
    (Instr.makeSlice t (.int .i64 la) (.int .i64 lb)).run P w = .ok (.slice (some ⟨w.heap.size, 0, none⟩) la lb) (w.alloc (.cells ((Array.range (lb * inf.size)).map (z.cells[· % z.cells.size]!)) el)) := by
  have hmul : inf.bytes * lb ≤ 10000000000 := Nat.le_trans (Nat.mul_le_mul hb hl) (by decide)
  have hmul2 : ¬ ((inf.bytes : Int) * (lb : Int) > 2 ^ 48) := by
    have : ((inf.bytes * lb : Nat) : Int) ≤ 10000000000 := Int.ofNat_le.2 hmul
    rw [Int.natCast_mul] at this
    omega
  unfold Instr.makeSlice
  rw [Sem.run_bind, run_underlying hu w, Result.andThen_ok]
  simp only [asInt, asIntOf, Sem.run_bind, Sem.run_pure, Result.andThen_ok, typeInfo, run_program, hi]
  rw [small_wrap la (by omega), small_wrap lb hl]
  have hcond : ((decide ((lb : Int) < 0) || decide ((inf.bytes : Int) * (lb : Int) > 2 ^ 48)) || decide ((la : Int) < 0) || decide ((la : Int) > (lb : Int))) = false := by
    simp only [Bool.or_eq_false_iff, decide_eq_false_iff_not]
    exact ⟨⟨⟨by omega, hmul2⟩, by omega⟩, by omega⟩
  rw [hcond]
  simp only [Bool.false_eq_true, if_false, Sem.run_pure, Result.andThen_ok, run_askRoom, sizeOf, typeInfo, Sem.run_bind, run_program, hi, Int.toNat_natCast, zeroValue]
  by_cases h0 : lb * inf.size = 0
  · simp only [h0, if_true, Sem.run_bind, Sem.run_pure, Result.andThen_ok, newRow_ok, map_r0]
  · simp only [h0, if_false, Sem.run_bind, run_program, Sem.run_pure, Result.andThen_ok, hi, hz, newRow_ok]
def Lays (P : Program) (ρ : Env) (G : Gh) (s : Sem Next) (w : World) (ob : Ob) (f : Nat → AV) : Prop :=
  ∃ z obj sz, s.run P w = .ok (.value z) (w.alloc obj) ∧ ob.own = true ∧ ∀ (G' : Gh) (c : Nat), G.le G' → G' c = some ⟨w.heap.size, 0, sz, default⟩ → OR ρ G' (w.alloc obj) ⟨w.heap.size, 0, sz, default⟩ ob ∧ VR ρ G' (f c) z
set_option maxHeartbeats 1000000 in
theorem opA_ok {o : Oper} {ev : Operand → AV} {ec : Operand → Value} {ob : Ob} {f : Nat → AV} {cs : List SE} (w : World) (hev : ∀ x, VR ρ G (ev x) (ec x)) (h : opA P o ev = some (ob, f, cs)) (hcs : ∀ c ∈ cs, (c.den ρ).b = true) : Lays P ρ G (execOp ec o) w ob f := by
  obtain ⟨dst, op, ty, pos, after, guard⟩ := o
  unfold opA at h
  unfold execOp
  simp only at h ⊢
  have lift : ∀ {s : Sem Value} {u : Value} {w' : World}, s.run P w = .ok u w' → (do pure (.value (← s)) : Sem Next).run P w = .ok (.value u) w' := fun h => by rw [Sem.run_bind, h]; rfl
  cases op with
  | alloc t =>
    simp only at h ⊢
    split at h
    · rename_i z hz
      split at h
      · rename_i zc hzc
        cases h
        obtain ⟨v, hv, hr⟩ := zero_ok (ρ := ρ) (G := G) hz w
        have hc := cells_ok hr hzc
        refine ⟨.pointer (some ⟨w.heap.size, 0, none⟩), .cells v.cells t, v.cells.size, lift ?_, rfl, fun G' c hG hc' => ⟨or_cells hc w t hG, .ptr _ _ _ _ hc' rfl⟩⟩
        unfold Instr.alloc
        rw [Sem.run_bind, hv, Result.andThen_ok]
        simp only [Sem.run_bind, newVar_ok, Result.andThen_ok]
        rfl
      · cases h
    · cases h
  | box t x =>
    simp only at h ⊢
    split at h
    · rename_i xc hxc
      cases h
      have hc := cells_ok (hev x) hxc
      refine ⟨.pointer (some ⟨w.heap.size, 0, none⟩), .cells (ec x).cells t, (ec x).cells.size, lift ?_, rfl, fun G' c hG hc' => ⟨or_cells hc w t hG, .ptr _ _ _ _ hc' rfl⟩⟩
      unfold Instr.box
      rw [Sem.run_bind, newVar_ok]; rfl
    · cases h
  | buildSlice t len parts =>
    simp only at h ⊢
    split at h
    · rename_i el hu
      split at h
      · rename_i n z hs hz
        split at h
        · rename_i zc hzc
          cases hb : (Nat.ble (len * n) 1000000 && Nat.beq zc.length n) with
          | false => rw [hb] at h; cases h
          | true =>
            rw [hb] at h
            simp only [cond_true] at h
            simp only [Bool.and_eq_true, beq_iff, Nat.ble_eq] at hb
            obtain ⟨v, hv, hr⟩ := zero_ok (ρ := ρ) (G := G) hz w
            have hc := cells_ok hr hzc
            cases hf : fillA (fun i => some (i * n, n)) (List.replicate len zc).flatten (parts.toList.map fun p => (p.1, ev p.2)) with
            | none => rw [hf] at h; cases h
            | some out =>
              rw [hf] at h
              cases h
              obtain ⟨hl, hp⟩ := mapParts hev parts
              obtain ⟨arr, h1, h2⟩ := fill_ok _ _ _ out _ hl hp (rep_flat zc v.cells n len hb.2 hc) hf
              have hsz : arr.size = len * n := by
                have e1 := h2.1
                have : out.length = len * n := by
                  have hx : ∀ (ps : List (Nat × AV)) (cs out : List AV), fillA (fun i => some (i * n, n)) cs ps = some out → out.length = cs.length := by
                    intro ps
                    induction ps with
                    | nil => intro cs out h; cases h; rfl
                    | cons p r ih =>
                      intro cs out h
                      obtain ⟨i, a⟩ := p
                      unfold fillA at h
                      simp only at h
                      split at h
                      · rename_i vc hvc
                        cases hb' : (Nat.beq vc.length n && Nat.ble (i * n + n) cs.length) with
                        | false => rw [hb'] at h; cases h
                        | true => rw [hb'] at h; rw [ih _ _ h, setMany_length]
                      · cases h
                  rw [hx _ _ _ hf]; simp [hb.2]
                omega
              refine ⟨.slice (some ⟨w.heap.size, 0, none⟩) len len, .cells arr el, arr.size, lift ?_, rfl, fun G' c hG hc' => ⟨or_cells h2 w el hG, .sl _ _ _ _ _ _ _ _ _ hc' rfl (Int.le_refl _) (Nat.le_refl _) (fun e he => by cases he; rfl) (fun _ => by simp [int_i]) (by simp [int_i, hsz])⟩⟩
              unfold Instr.buildSlice
              rw [Sem.run_bind, run_underlying hu w, Result.andThen_ok]
              simp only
              rw [Sem.run_bind, size_ok hs w, Result.andThen_ok]
              rw [if_neg (by omega)]
              by_cases h0 : len * n = 0
              · have hre : (Array.range (len * n)).map (v.cells[· % v.cells.size]!) = #[] := by rw [h0]; exact map_r0 _
                rw [hre] at h1
                simp only [h0, if_true, Sem.run_bind, Sem.run_pure, Result.andThen_ok]
                rw [map_r0, h1]
                simp only [Sem.run_bind, newRow_ok, Result.andThen_ok]
                rfl
              · simp only [h0, if_false, Sem.run_bind, hv, Sem.run_pure, Result.andThen_ok]
                rw [h1]
                simp only [Sem.run_bind, newRow_ok, Result.andThen_ok]
                rfl
        · cases h
      · cases h
    · cases h
  | makeSlice t l c =>
    simp only at h ⊢
    split at h
    · rename_i el a b hu hel hec
      split at h
      · rename_i inf z hi hz
        split at h
        · rename_i zc hzc
          cases hb : (Nat.beq zc.length inf.size && Nat.ble inf.bytes 10000) with
          | false => rw [hb] at h; cases h
          | true =>
            rw [hb] at h
            simp only [cond_true] at h
            simp only [Bool.and_eq_true, beq_iff, Nat.ble_eq] at hb
            obtain ⟨z0, hz0⟩ : ∃ z0, inf.zero = some z0 := by
              unfold zeroA at hz
              rw [hi] at hz
              simp only at hz
              cases hq : inf.zero with
              | none => rw [hq] at hz; cases hz
              | some x => exact ⟨x, rfl⟩
            have hr : VR ρ G z z0 := by
              unfold zeroA at hz
              rw [hi] at hz
              simp only [hz0, Option.map_some, Option.some.injEq] at hz
              rw [← hz]; exact litV_ok z0
            have hc := cells_ok hr hzc
            have hzs : z0.cells.size = inf.size := by rw [hc.1, hb.1]
            have e1 := hev l
            have e2 := hev c
            rw [hel] at e1
            rw [hec] at e2
            split at h
            · rename_i la lb hla hlb
              have hla := litSh_ok hla
              have hlb := litSh_ok hlb
              cases hb2 : (Nat.ble la lb && Nat.ble lb 1000000) with
              | false => rw [hb2] at h; cases h
              | true =>
                rw [hb2] at h
                simp only [cond_true] at h
                simp only [Bool.and_eq_true, Nat.ble_eq] at hb2
                cases h
                have hrf := rep_flat zc z0.cells inf.size lb hb.1 hc
                refine ⟨.slice (some ⟨w.heap.size, 0, none⟩) la lb, _, _, lift ?_, rfl, fun G' c hG hc' => ⟨or_cells hrf w el hG, .sl _ _ _ _ _ _ _ _ _ hc' rfl (Int.le_refl _) hb2.1 (fun e he => by cases he; rfl) (fun _ => by simp [int_i]) (by simp [int_i])⟩⟩
                rw [e1.int_inv, e2.int_inv, litN_i hla ρ, litN_i hlb ρ]
                exact makeSlice_run hu hi hz0 hb.2 la lb hb2.1 hb2.2 hzs w
            · split at h
              · rename_i heq
                subst heq
                split at h
                · rename_i k ks hks
                  cases h
                  have h0 := hcs (mkB .le (.int 0) a) (by simp)
                  have h1 := hcs (mkB .le a (.int 1000000)) (by simp)
                  rw [le_b, int_i] at h0 h1
                  have h0 := of_decide_eq_true h0
                  have h1 := of_decide_eq_true h1
                  obtain ⟨n, hn⟩ := Int.eq_ofNat_of_zero_le h0
                  have hkl : (k :: ks).length = inf.size := by rw [← (mapM_get hks).1, hb.1]
                  have hrf := rep_flat zc z0.cells inf.size n hb.1 hc
                  have hden : ((mkB .rep a (rowE zc)).den ρ).l = List.replicate n ((rowE zc).den ρ) := by rw [mkB_den]; simp [evB, DV.l, hn]
                  have hs0 : inf.size ≠ 0 := by rw [← hkl]; simp
                  refine ⟨.slice (some ⟨w.heap.size, 0, none⟩) n n, .cells ((Array.range (n * inf.size)).map (z0.cells[· % z0.cells.size]!)) el, n * inf.size, lift ?_, rfl, fun G' c hG hc' => ⟨⟨rfl, by simp, fun hz => ?_, fun _ => ⟨_, el, alloc_new w _, by simp, ?_, fun i j d k' hi' hj => ?_⟩⟩, .sl _ _ _ _ _ _ _ _ _ hc' hn (Int.le_refl _) (Nat.le_refl _) (fun e he => by cases he; exact hn) (fun _ => by simp [int_i]) (by simp [int_i])⟩⟩
                  · rw [e1.int_inv, e2.int_inv, hn]
                    exact makeSlice_run hu hi hz0 hb.2 n n (Nat.le_refl _) (by omega) hzs w
                  · rw [hden]
                    have : n = 0 := by
                      simp only at hz
                      rcases Nat.mul_eq_zero.1 hz with h | h
                      · exact h
                      · exact absurd h hs0
                    subst this; rfl
                  · rw [hden, hkl]; simp
                  · rw [hden] at hi'
                    rw [List.getElem?_replicate] at hi'
                    split at hi'
                    · rename_i hin
                      cases hi'
                      rw [hkl]
                      have hjl : j < inf.size := by rw [← hkl]; exact (List.getElem?_eq_some_iff.1 hj).1
                      have hlt : i * inf.size + j < n * inf.size := by
                        have : (i + 1) * inf.size ≤ n * inf.size := Nat.mul_le_mul_right _ hin
                        rw [Nat.succ_mul] at this
                        omega
                      have hmod : (i * inf.size + j) % inf.size = j := by rw [Nat.mul_comm, Nat.mul_add_mod, Nat.mod_eq_of_lt hjl]
                      have hget := rowE_ok hks hc j k' hj
                      rw [Array.getElem?_map, Array.getElem?_range]
                      simp only [hlt, if_true, Option.map_some, hzs, hmod]
                      rw [getElem!_pos z0.cells j (by rw [hzs]; exact hjl)]
                      rw [getElem?_pos z0.cells j (by rw [hzs]; exact hjl)] at hget
                      exact hget
                    · cases hi'
                · cases h
              · cases h
        · cases h
      · cases h
    · cases h
  | makeMap t r =>
    cases r with
    | none =>
      cases h
      refine ⟨.map (some w.heap.size), .map #[] 0, 1, lift ?_, rfl, fun G' c hG hc' => ⟨⟨#[], 0, alloc_new w _, rfl, fun i p m h => by simp at h⟩, .map _ _ hc'⟩⟩
      simp [Instr.makeMap]
    | some x => cases h
  | _ => cases h
end
end Go.Proofs.YtkfjgggiopegbaaDoor
namespace Go.Proofs.YtkfjgggiopegbaaDoor
open Go.RowKit
section
variable {P : Program} {ρ : Env} {G : Gh}
theorem one_ok {a : AV} {v : Value} (h : VR ρ G a v) (h1 : a.one = true) : v.oneCell' = true := by
  cases h <;> first | rfl | cases h1
theorem setCell_heap (w : World) (b o : Nat) (v : Value) : (w.setCell ⟨b, o, none⟩ v).heap.size = w.heap.size ∧ (∀ k, k ≠ b → (w.setCell ⟨b, o, none⟩ v).heap[k]? = w.heap[k]?) ∧ ∀ arr t f, w.heap[b]? = some (.cells arr t f) → (w.setCell ⟨b, o, none⟩ v).heap[b]? = some (.cells (arr.setIfInBounds o v) t f) := by
  refine ⟨by simp [World.setCell], fun k hk => ?_, fun arr t f h => ?_⟩
  · simp only [World.setCell, Array.getElem?_modify]
    rw [if_neg (by omega)]
  · simp [World.setCell, Array.getElem?_modify, h]
theorem setCells_heap (b : Nat) : ∀ (vs : List Value) (o : Nat) (w : World), (w.setCells b o vs).heap.size = w.heap.size ∧ (w.setCells b o vs).os = w.os ∧ (w.setCells b o vs).tape = w.tape ∧ (w.setCells b o vs).output = w.output ∧ (∀ k, k ≠ b → (w.setCells b o vs).heap[k]? = w.heap[k]?) ∧ ∀ arr t f, w.heap[b]? = some (.cells arr t f) → (w.setCells b o vs).heap[b]? = some (.cells (setManyV arr o vs) t f)
  | [], o, w => ⟨rfl, rfl, rfl, rfl, fun _ _ => rfl, fun _ _ _ h => h⟩
  | v :: r, o, w => by
    obtain ⟨h1, h2, h3, h4, h5, h6⟩ := setCells_heap b r (o + 1) (w.setCell ⟨b, o, none⟩ v)
    obtain ⟨k1, k2, k3⟩ := setCell_heap w b o v
    refine ⟨h1.trans k1, h2, h3, h4, fun k hk => (h5 k hk).trans (k2 k hk), fun arr t f h => ?_⟩
    exact h6 _ t f (k3 arr t f h)
theorem storeCells_ok {w : World} {b o n : Nat} {arr : Array Value} {t : Tz n} (hb : w.heap[b]? = some (.cells arr t.ty t.fz)) (hn : arr.size = n) (vs : List Value) (hle : o + vs.length ≤ arr.size) (h1 : ∀ v ∈ vs, v.oneCell' = true) : (storeCells ⟨b, o, none⟩ vs).run P w = .ok () (w.setCells b o vs) := by
  have := run_storeCells_cells (P := P) b o vs 0 w (fun j hj => by rw [cell_of_heap hb]; simp; omega) (fun j hj => by
    obtain ⟨ty, ⟨lo, hi⟩, ok⟩ := t
    have := ok (o + (0 + j)) (by omega)
    simp only at hb this
    simp only [World.frozen?, hb, Bool.and_eq_false_iff, decide_eq_false_iff_not]
    omega) h1
  simpa using this
theorem storeAt_ok {t0 : TypeId} {n : Nat} (hs : sizeB P t0 = some n) {w : World} {b o : Nat} {arr : Array Value} {m : Nat} {t : Tz m} (hb : w.heap[b]? = some (.cells arr t.ty t.fz)) (hm : arr.size = m) (v : Value) (hn : v.cells.size = n) (hle : o + n ≤ arr.size) (h1 : ∀ u ∈ v.cells.toList, u.oneCell' = true) :
    (Instr.storeAt t0 (.pointer (some ⟨b, o, none⟩)) v).run P w = .ok () (w.setCells b o v.cells.toList) := by
  unfold Instr.storeAt Instr.sureAddr
  rw [Sem.run_bind, Sem.run_pure, Result.andThen_ok]
  unfold storeVar
  rw [Sem.run_bind, size_ok hs w, Result.andThen_ok]
  simp only [hn, ne_eq, not_true_eq_false, if_false]
  exact storeCells_ok hb hm _ (by simp [hn]; exact hle) h1
theorem all_one {cs : List AV} {vs : Array Value} (h : VRs ρ G cs vs) (h1 : cs.all AV.one = true) : ∀ u ∈ vs.toList, u.oneCell' = true := by
  intro u hu
  obtain ⟨i, hi⟩ := List.getElem?_of_mem hu
  rw [Array.getElem?_toList] at hi
  have hlt : i < cs.length := by rw [← h.1]; exact (Array.getElem?_eq_some_iff.1 hi).1
  exact one_ok (h.2 i _ u (List.getElem?_eq_getElem hlt) hi) (List.all_eq_true.1 h1 _ (List.getElem_mem hlt))
theorem setManyV_get (vs : List Value) : ∀ (arr : Array Value) (o i : Nat), o + vs.length ≤ arr.size → (setManyV arr o vs)[i]? = if o ≤ i ∧ i < o + vs.length then vs[i - o]? else arr[i]? := by
  induction vs with
  | nil => intro arr o i h; simp only [setManyV, List.length_nil]; rw [if_neg (by omega)]
  | cons v r ih =>
    intro arr o i h
    simp only [List.length_cons] at h ⊢
    rw [setManyV, ih _ _ _ (by rw [Array.size_setIfInBounds]; omega)]
    by_cases h1 : o + 1 ≤ i ∧ i < o + 1 + r.length
    · rw [if_pos h1, if_pos (by omega)]
      have : i - o = (i - (o + 1)) + 1 := by omega
      rw [this, List.getElem?_cons_succ]
    · rw [if_neg h1, Array.getElem?_setIfInBounds]
      by_cases h2 : o = i
      · subst h2
        rw [if_pos rfl, if_pos (by omega), if_pos (by omega)]
        simp
      · rw [if_neg h2, if_neg (by omega)]
theorem store_ok {M : Me} {w : World} {t : TypeId} {a v : AV} {b : Nat} {ob : Ob} {cs : List SE} {u x : Value} (hM : MR ρ G M w) (h : storeA P M.hp t a v = some (b, ob, cs)) (hcs : ∀ c ∈ cs, (c.den ρ).b = true) (ha : VR ρ G a u) (hv : VR ρ G v x) :
    ∃ w', (Instr.storeAt t u x).run P w = .ok () w' ∧ MR ρ G { M with hp := hset M.hp b ob } w' ∧ Stp ρ G M w G { M with hp := hset M.hp b ob } w' := by
  unfold storeA at h
  split at h
  · rename_i n hs
    split at h
    · cases h
    · rename_i vc hvc
      cases hb : (Nat.beq vc.length n && vc.all AV.one) with
      | false => rw [hb] at h; cases h
      | true =>
        rw [hb] at h
        simp only [cond_true] at h
        simp only [Bool.and_eq_true, beq_iff] at hb
        have hc := cells_ok hv hvc
        have hone := all_one hc hb.2
        have hsz : x.cells.size = n := by rw [hc.1, hb.1]
        split at h
        · rename_i b' o
          obtain ⟨g, hg, rfl⟩ := ha.ptr_inv
          split at h
          · rename_i ds hob
            cases hl : Nat.ble (o + n) ds.length with
            | false => rw [hl] at h; cases h
            | true =>
              rw [hl] at h
              simp only [cond_true] at h
              cases h
              have hl := Nat.le_of_ble_eq_true hl
              obtain ⟨g', hg', hoff, arr, ty, hheap, hsize, hlen, hvr⟩ := hM.ob _ _ hob
              rw [hg] at hg'; cases hg'
              rw [hoff, Nat.zero_add]
              obtain ⟨k1, k2, k3, k4, k5, k6⟩ := setCells_heap g.blk x.cells.toList o w
              have hp := setMany_p vc x.cells.toList ds arr o ⟨hlen, hvr⟩ (by simpa using hc)
              refine ⟨_, storeAt_ok hs hheap hsize x hsz (by omega) hone, hM.turn (.cells (setMany ds o vc)) hob hg rfl rfl trivial k2 k3 k4 (Nat.le_of_eq k1.symm) (fun k _ hk => k5 k hk) ⟨hoff, _, ty, k6 arr _ _ hheap, by rw [setManyV_size]; exact hsize, hp.1, hp.2⟩⟩
          · cases h
        · rename_i b' s i
          obtain ⟨g, hg, rfl⟩ := ha.elt_inv
          split at h
          · rename_i ks e hob
            cases hl : (Nat.beq s ks.length && Nat.beq n s) with
            | false => rw [hl] at h; cases h
            | true =>
              rw [hl] at h
              simp only [cond_true] at h
              simp only [Bool.and_eq_true, beq_iff] at hl
              split at h
              · rename_i hks
                cases h
                obtain ⟨rfl, rfl⟩ := hl
                have h0 := hcs (mkB .le (.int 0) i) (by simp)
                have h1 := hcs (ltE i (mkU .len e)) (by simp)
                rw [le_b, int_i] at h0
                rw [lt_b, len_den] at h1
                have h0 := of_decide_eq_true h0
                have h1 := of_decide_eq_true h1
                obtain ⟨g', hg', hoff, hkn, hz, hreal⟩ := hM.ob _ _ hob
                rw [hg] at hg'; cases hg'
                have hpos : 0 < (e.den ρ).l.length := by omega
                have hsz0 : g.sz ≠ 0 := fun hz0 => by rw [hz hz0] at hpos; simp at hpos
                obtain ⟨arr, ty, hheap, hsize, hlen, hvr⟩ := hreal hsz0
                rw [hoff, Nat.zero_add, Nat.add_zero]
                obtain ⟨q, hq⟩ := Int.eq_ofNat_of_zero_le h0
                have hqn : (i.den ρ).i.toNat = q := by omega
                have hql : q < (e.den ρ).l.length := by omega
                rw [hqn]
                have hfit : q * ks.length + ks.length ≤ arr.size := by
                  have : (q + 1) * ks.length ≤ (e.den ρ).l.length * ks.length := Nat.mul_le_mul_right _ hql
                  rw [Nat.succ_mul] at this
                  omega
                obtain ⟨k1, k2, k3, k4, k5, k6⟩ := setCells_heap g.blk x.cells.toList (q * ks.length) w
                have hden : ((mkT .set e i (rowE vc)).den ρ).l = (e.den ρ).l.set q ((rowE vc).den ρ) := by rw [mkT_den]; simp [evT, DV.l, hqn]
                refine ⟨_, storeAt_ok hs hheap hsize x hsz hfit hone, hM.turn (.rows ks (mkT .set e i (rowE vc))) hob hg rfl rfl hsz0 k2 k3 k4 (Nat.le_of_eq k1.symm) (fun k _ hk => k5 k hk) ⟨hoff, hkn, fun h => absurd h hsz0, fun _ => ⟨_, ty, k6 arr _ _ hheap, by rw [setManyV_size]; exact hsize, by rw [hden, List.length_set, setManyV_size]; exact hlen, fun i' j d k hi hj => ?_⟩⟩⟩
                have hjl : j < ks.length := (List.getElem?_eq_some_iff.1 hj).1
                rw [setManyV_get _ _ _ _ (by simp [hsz]; exact hfit)]
                rw [hden, List.getElem?_set] at hi
                have hxl : x.cells.toList.length = ks.length := by simp [hsz]
                by_cases hqi : q = i'
                · subst hqi
                  rw [if_pos rfl, if_pos hql] at hi
                  cases hi
                  rw [if_pos (by rw [hxl]; omega), Nat.add_sub_cancel_left, Array.getElem?_toList]
                  exact rowE_ok hks hc j k hj
                · rw [if_neg hqi] at hi
                  rw [if_neg]
                  · exact hvr i' j d k hi hj
                  · rw [hxl]
                    intro hh
                    rcases Nat.lt_or_gt_of_ne hqi with hlt | hgt
                    · have : (q + 1) * ks.length ≤ i' * ks.length := Nat.mul_le_mul_right _ hlt
                      rw [Nat.succ_mul] at this
                      omega
                    · have : (i' + 1) * ks.length ≤ q * ks.length := Nat.mul_le_mul_right _ hgt
                      rw [Nat.succ_mul] at this
                      omega
              · cases h
          · cases h
        · cases h
  · cases h
end
end Go.Proofs.YtkfjgggiopegbaaDoor
namespace Go.Proofs.YtkfjgggiopegbaaDoor
open Go.RowKit
section
variable {P : Program} {ρ : Env} {G : Gh}
structure Src (P : Program) (w : World) (size : Nat) (u : Value) (m : Nat) (news : List Value) : Prop where
  len : ∀ w' : World, (Builtin.lenOf u).run P w' = .ok m w'
  first : ∀ w' : World, w'.heap = w.heap → (Builtin.firstCells size m u).run P w' = .ok news.toArray w'
  size : news.length = m * size
theorem src_slice {w : World} {size : Nat} {a : Option Addr} {m c : Nat} {news : List Value} (hl : news.length = m * size) (h : ∀ (j : Nat) (v : Value), news[j]? = some v → ∃ b o, a = some ⟨b, o, none⟩ ∧ w.cell? ⟨b, o + j, none⟩ = some v) : Src P w size (.slice a m c) m news := by
  refine ⟨fun w' => rfl, fun w' hw => ?_, hl⟩
  cases a with
  | none =>
    have : news = [] := by
      cases news with
      | nil => rfl
      | cons v r => obtain ⟨b, o, h, _⟩ := h 0 v rfl; cases h
    subst this
    rfl
  | some a =>
    unfold Builtin.firstCells
    rw [← hl]
    refine run_loadCells_list (P := P) w' a news fun j v hj => ?_
    obtain ⟨b, o, h1, h2⟩ := h j v hj
    cases h1
    rw [addr_add, cell_same (w := w) (by rw [hw]), h2]
theorem append_room {t xt e e2 : TypeId} {ty : TypeId} {inf : TypeInfo} {w : World} {u : Value} {m : Nat} {news : List Value} (ht : P.underlying t = some (.slice e)) (hx : P.underlying xt = some (.slice e2)) (hi : P.info? e = some inf) (hs : Src P w inf.size u m news)
    {b o sLen sCap : Nat} {arr : Array Value} {sz : Nat} {tt : Tz sz} (hb : w.heap[b]? = some (.cells arr tt.ty tt.fz)) (hsz : arr.size = sz) (hroom : sLen + m ≤ sCap) (hfit : o + sLen * inf.size + news.length ≤ arr.size) (h1 : ∀ v ∈ news, v.oneCell' = true) :
    (Builtin.append_ #[t, xt] ty #[.slice (some ⟨b, o, none⟩) sLen sCap, u]).run P w = .ok (.slice (some ⟨b, o, none⟩) (sLen + m) sCap) (w.setCells b (o + sLen * inf.size) news) := by
  have hst := storeCells_ok (P := P) hb hsz news hfit h1
  have hf := hs.first w rfl
  have hl := hs.len w
  simp [Builtin.append_, run_underlying ht, run_underlying hx, sizeOf, typeInfo, hi, hl, hroom, hf, addr_add, hst]
theorem append_grow {t xt e e2 : TypeId} {ty : TypeId} {inf : TypeInfo} {z : Value} {w : World} {u : Value} {m : Nat} {news olds : List Value} (ht : P.underlying t = some (.slice e)) (hx : P.underlying xt = some (.slice e2)) (hi : P.info? e = some inf) (hz : inf.zero = some z) (hs : Src P w inf.size u m news)
    {a : Option Addr} {sLen sCap : Nat} (ho : Src P w inf.size (.slice a sLen sCap) sLen olds) (hg : sCap < sLen + m) (hm : sLen + m ≤ 4294967296) (hb : inf.bytes ≤ 10000) :
    ∃ q, (Builtin.append_ #[t, xt] ty #[.slice a sLen sCap, u]).run P w = .ok (.slice (some ⟨w.heap.size, 0, none⟩) (sLen + m) (sLen + m + q)) (w.drew.alloc (.cells (olds.toArray ++ news.toArray ++ Builtin.zeroCells z.cells q) e)) := by
  have hn : ¬ (sLen + m ≤ sCap) := by omega
  have h63' : ¬ (9223372036854775807 < ((sLen : Int) + (m : Int))) := by omega
  have hfit : Builtin.nextslicecap (sLen + m) sCap * inf.bytes ≤ 281474976710656 := growslice_fits hg (by
    have : (sLen + m) * inf.bytes ≤ 4294967296 * 10000 := Nat.mul_le_mul hm hb
    omega)
  have h48' : ¬ (281474976710656 < Builtin.nextslicecap (sLen + m) sCap * inf.bytes) := by omega
  have hl := hs.len w
  have hf := hs.first w.drew rfl
  have hfo := ho.first w.drew rfl
  have hge := grownCap_ge w (sLen + m) sCap e
  refine ⟨grownCap w (sLen + m) sCap e - (sLen + m), ?_⟩
  have hcap : sLen + m + (grownCap w (sLen + m) sCap e - (sLen + m)) = grownCap w (sLen + m) sCap e := by omega
  rw [hcap]
  simp [Builtin.append_, run_underlying ht, run_underlying hx, sizeOf, typeInfo, zeroValue, hi, hz, hl, hn, h63', h48', Question.forced, hfo, hf, newRow, grownCap]
  generalize Builtin.zeroCells _ _ = Z
  have : olds.toArray ++ (news.toArray ++ Z) = (olds ++ news).toArray ++ Z := by apply Array.ext'; simp
  rw [this]
theorem zeroCells_size (z : Array Value) (q : Nat) : (Builtin.zeroCells z q).size = q * z.size := by simp [Builtin.zeroCells]
theorem srcCells_ok {M : Me} {w : World} {n : Nat} {x : AV} {xs : List AV} {u : Value} (hM : ObR ρ G M w) (h : srcCells M.hp n x = some xs) (hx : VR ρ G x u) (hn : 0 < n) : ∃ news : List Value, Src P w n u (xs.length / n) news ∧ VRs ρ G xs news.toArray := by
  unfold srcCells at h
  split at h
  · cases h
    cases hx
    refine ⟨[], ?_, VRs.nil⟩
    show Src P w n _ (0 / n) _
    rw [Nat.zero_div]
    exact src_slice (by simp) (fun j v h => by simp at h)
  · rename_i b s off len cap
    split at h
    · rename_i cs o l hob ho hl
      cases hb : (Nat.beq s n && Nat.ble ((o + l) * s) cs.length) with
      | false => rw [hb] at h; cases h
      | true =>
        rw [hb] at h
        simp only [cond_true, Option.some.injEq] at h
        simp only [Bool.and_eq_true, beq_iff, Nat.ble_eq] at hb
        obtain ⟨rfl, hle⟩ := hb
        obtain ⟨g, a, m, c, hg, rfl, hlen, hoff, hmc, hcap, ha, hbd⟩ := hx.sl_inv
        obtain ⟨g', hg', hgo, arr, ty, hheap, hsize, hlen', hvr⟩ := hM _ _ hob
        rw [hg] at hg'; cases hg'
        have e1 : (off.den ρ).i = o := litN_i ho ρ
        have e2 : m = l := by have := litN_i hl ρ; omega
        subst e2
        have hxl : xs.length = m * s := by
          rw [← h, List.length_take, List.length_drop]
          rw [Nat.add_mul] at hle
          omega
        have hdiv : xs.length / s = m := by rw [hxl, Nat.mul_div_cancel _ hn]
        rw [hdiv]
        refine ⟨((arr.toList.drop (o * s)).take (m * s)), src_slice ?_ (fun j v hj => ?_), ?_⟩
        · rw [List.length_take, List.length_drop, Array.length_toList]
          rw [Nat.add_mul] at hle
          omega
        · rw [List.getElem?_take] at hj
          split at hj
          · rename_i hjl
            rw [List.getElem?_drop, Array.getElem?_toList] at hj
            have hm0 : 0 < m := by
              rcases Nat.eq_zero_or_pos m with h0 | h0
              · rw [h0, Nat.zero_mul] at hjl; omega
              · exact h0
            refine ⟨_, _, ha (by omega), ?_⟩
            rw [cell_of_heap hheap, hgo, e1]
            simpa [Int.toNat_natCast] using hj
          · cases hj
        · refine ⟨?_, fun i a' v h1 h2 => ?_⟩
          · rw [hxl]
            simp only [List.size_toArray, List.length_take, List.length_drop, Array.length_toList]
            rw [Nat.add_mul] at hle
            omega
          · rw [← h] at h1
            rw [List.getElem?_toArray] at h2
            rw [List.getElem?_take] at h1 h2
            split at h1
            · rename_i hin
              rw [if_pos hin] at h2
              rw [List.getElem?_drop] at h1 h2
              rw [Array.getElem?_toList] at h2
              exact hvr _ a' v h1 h2
            · cases h1
    · cases h
  · cases h
def rowVals (ks : List CK) (l : List DV) : List Value := l.flatMap fun d => ks.zipIdx.map fun p => p.1.val (cellD ks d p.2)
theorem rowVals_length (ks : List CK) (l : List DV) : (rowVals ks l).length = l.length * ks.length := by
  unfold rowVals
  induction l with
  | nil => simp
  | cons d r ih => simp only [List.flatMap_cons, List.length_append, List.length_map, List.length_zipIdx, ih, List.length_cons, Nat.succ_mul]; omega
theorem rowVals_get (ks : List CK) : ∀ (l : List DV) (i j : Nat) (d : DV) (k : CK), l[i]? = some d → ks[j]? = some k → (rowVals ks l)[i * ks.length + j]? = some (k.val (cellD ks d j))
  | [], i, j, d, k, h, _ => by simp at h
  | d' :: r, 0, j, d, k, h, hk => by
    simp at h
    subst h
    have hj := (List.getElem?_eq_some_iff.1 hk).1
    simp only [rowVals, List.flatMap_cons, Nat.zero_mul, Nat.zero_add]
    rw [List.getElem?_append_left (by simp; exact hj)]
    simp [List.getElem?_zipIdx, hk]
  | d' :: r, i + 1, j, d, k, h, hk => by
    have := rowVals_get ks r i j d k (by simpa using h) hk
    simp only [rowVals, List.flatMap_cons] at this ⊢
    rw [List.getElem?_append_right (by simp [Nat.succ_mul]; omega)]
    rw [← this]
    congr 1
    simp [Nat.succ_mul]
    omega
theorem rowVals_inv (ks : List CK) (l : List DV) (q : Nat) (v : Value) (h : (rowVals ks l)[q]? = some v) : ∃ i j d k, q = i * ks.length + j ∧ l[i]? = some d ∧ ks[j]? = some k ∧ v = k.val (cellD ks d j) := by
  have hq := (List.getElem?_eq_some_iff.1 h).1
  rw [rowVals_length] at hq
  have hk : 0 < ks.length := by
    rcases Nat.eq_zero_or_pos ks.length with h0 | h0
    · rw [h0] at hq; simp at hq
    · exact h0
  have hi : q / ks.length < l.length := (Nat.div_lt_iff_lt_mul hk).2 hq
  have hj : q % ks.length < ks.length := Nat.mod_lt _ hk
  have he : q = q / ks.length * ks.length + q % ks.length := by rw [Nat.mul_comm]; exact (Nat.div_add_mod q ks.length).symm
  have := rowVals_get ks l (q / ks.length) (q % ks.length) _ _ (List.getElem?_eq_getElem hi) (List.getElem?_eq_getElem hj)
  rw [← he, h] at this
  exact ⟨_, _, _, _, he, List.getElem?_eq_getElem hi, List.getElem?_eq_getElem hj, by cases this; rfl⟩
theorem rowVals_append (ks : List CK) (a b : List DV) : rowVals ks (a ++ b) = rowVals ks a ++ rowVals ks b := by simp [rowVals]
theorem ck_one (k : CK) (d : DV) : (k.val d).oneCell' = true := by cases k <;> rfl
theorem rowVals_one (ks : List CK) (l : List DV) : ∀ v ∈ rowVals ks l, v.oneCell' = true := by
  intro v hv
  obtain ⟨q, hq⟩ := List.getElem?_of_mem hv
  obtain ⟨i, j, d, k, _, _, _, rfl⟩ := rowVals_inv ks l q v hq
  exact ck_one _ _
theorem row_prefix {ks : List CK} {l : List DV} {arr : Array Value} (h : ∀ q, q < l.length * ks.length → arr[q]? = (rowVals ks l)[q]?) : ∀ (i j : Nat) (d : DV) (k : CK), l[i]? = some d → ks[j]? = some k → arr[i * ks.length + j]? = some (k.val (cellD ks d j)) := by
  intro i j d k hi hj
  have hjl := (List.getElem?_eq_some_iff.1 hj).1
  have hil := (List.getElem?_eq_some_iff.1 hi).1
  rw [h]
  · exact rowVals_get ks l i j d k hi hj
  · have : (i + 1) * ks.length ≤ l.length * ks.length := Nat.mul_le_mul_right _ hil
    rw [Nat.succ_mul] at this
    omega
theorem prefix_row {ks : List CK} {l : List DV} {arr : Array Value} (h : ∀ (i j : Nat) (d : DV) (k : CK), l[i]? = some d → ks[j]? = some k → arr[i * ks.length + j]? = some (k.val (cellD ks d j))) : ∀ q, q < l.length * ks.length → arr[q]? = (rowVals ks l)[q]? := by
  intro q hq
  obtain ⟨i, j, d, k, rfl, hi, hj, hv⟩ := rowVals_inv ks l q _ (List.getElem?_eq_getElem (by rw [rowVals_length]; exact hq))
  rw [h i j d k hi hj, List.getElem?_eq_getElem (by rw [rowVals_length]; exact hq), hv]
theorem srcRows_ok {M : Me} {w : World} {n : Nat} {x : AV} {ks : List CK} {e L : SE} {cs : List SE} {u : Value} (hM : ObR ρ G M w) (h : srcRows M.hp n x = some (ks, e, L, cs)) (hcs : ∀ c ∈ cs, (c.den ρ).b = true) (hx : VR ρ G x u) (hel : (e.den ρ).l.length = (L.den ρ).i) :
    ks.length = n ∧ ks ≠ [] ∧ Src P w n u (e.den ρ).l.length (rowVals ks (e.den ρ).l) := by
  unfold srcRows at h
  split at h
  · rename_i b s off len cap
    obtain ⟨g, a, m, c, hg, rfl, hlen, hoff, hmc, hcap, ha, hbd⟩ := hx.sl_inv
    have main : ∀ (ks' : List CK) (e' : SE), (hget M.hp b = some (.rows ks' e') ∨ hget M.hp b = some (.ro ks' e')) → (bif Nat.beq s ks'.length && Nat.beq s n then
        (if off = .int 0 ∧ (len = .un .len e' ∨ (len = lenE e' ∨ len = lenL e')) then some (ks', e', len, []) else some (ks', mkB .take (mkB .drop e' off) len, len, [mkB .le (.int 0) len, mkB .le (mkB .add off len) (mkU .len e')])) else none) = some (ks, e, L, cs) → ks.length = n ∧ ks ≠ [] ∧ Src P w n (.slice a m c) (e.den ρ).l.length (rowVals ks (e.den ρ).l) := by
      clear h
      intro ks' e' hrow h
      have hrn := row_at hM hg hrow
      have hkn : ks' ≠ [] := by
        rcases hrow with hr | hr
        · obtain ⟨g', _, ho⟩ := hM _ _ hr; exact ho.2.1
        · obtain ⟨g', _, ho⟩ := hM _ _ hr; exact ho.1
      cases hb : (Nat.beq s ks'.length && Nat.beq s n) with
      | false => rw [hb] at h; cases h
      | true =>
        rw [hb] at h
        simp only [cond_true] at h
        simp only [Bool.and_eq_true, beq_iff] at hb
        obtain ⟨rfl, rfl⟩ := hb
        have fin : ∀ (o : Nat) (l : List DV), ks'.length = ks'.length → (off.den ρ).i = o → l.length = m → (∀ (i : Nat) (d : DV), l[i]? = some d → (e'.den ρ).l[o + i]? = some d) → Src P w ks'.length (.slice a m c) m (rowVals ks' l) := by
          intro o l _ hoe hlm hsub
          refine src_slice (by rw [rowVals_length, hlm]) fun q v hq => ?_
          obtain ⟨i, j, d, k, rfl, hi, hj, rfl⟩ := rowVals_inv ks' l q v hq
          have hil := (List.getElem?_eq_some_iff.1 hi).1
          refine ⟨_, _, ha (by omega), ?_⟩
          have := hrn (o + i) j d k (hsub i d hi) hj
          rw [← this, hoe, Int.toNat_natCast]
          congr 2
          rw [Nat.add_mul]
          omega
        split at h
        · rename_i hwhole
          cases h
          obtain ⟨h1, h2⟩ := hwhole
          have hml : (e.den ρ).l.length = m := by
            rcases h2 with h2 | h2 | h2
            · rw [h2] at hlen; have : ((SE.un UO.len e).den ρ).i = (e.den ρ).l.length := rfl; omega
            · have := lenE_den ρ e; rw [h2] at hlen; omega
            · rw [h2, lenL_den] at hlen; simp only [DV.i] at hlen; omega
          refine ⟨rfl, hkn, ?_⟩
          rw [hml]
          exact fin 0 _ rfl (by rw [h1]; rfl) hml (fun i d hi => by rw [Nat.zero_add]; exact hi)
        · cases h
          have c1 := hcs (mkB .le (.int 0) L) (by simp)
          have c2 := hcs (mkB .le (mkB .add off L) (mkU .len e')) (by simp)
          rw [le_b] at c1 c2
          rw [int_i] at c1
          rw [len_den, mkB_den] at c2
          have c1 := of_decide_eq_true c1
          have c2 : (off.den ρ).i + (L.den ρ).i ≤ (e'.den ρ).l.length := of_decide_eq_true c2
          obtain ⟨o, ho⟩ := Int.eq_ofNat_of_zero_le hoff
          have hden : ((mkB .take (mkB .drop e' off) L).den ρ).l = ((e'.den ρ).l.drop o).take m := by
            rw [mkB_den, mkB_den]
            simp only [evB, DV.l]
            rw [ho, hlen]; simp
          refine ⟨rfl, hkn, ?_⟩
          rw [hden]
          have hlm : (((e'.den ρ).l.drop o).take m).length = m := by
            rw [List.length_take, List.length_drop]; omega
          rw [hlm]
          exact fin o _ rfl ho hlm (fun i d hi => by
            rw [List.getElem?_take] at hi
            split at hi
            · rwa [List.getElem?_drop] at hi
            · cases hi)
    split at h
    · rename_i ks' e' hob; exact main ks' e' (.inl hob) h
    · rename_i ks' e' hob; exact main ks' e' (.inr hob) h
    · cases h
  · cases h
end
end Go.Proofs.YtkfjgggiopegbaaDoor
namespace Go.Proofs.YtkfjgggiopegbaaDoor
open Go.RowKit
section
variable {P : Program} {ρ : Env} {G : Gh}
def Does (P : Program) (ρ : Env) (G : Gh) (M : Me) (w : World) (s : Sem Value) (r : AV) (M' : Me) : Prop :=
  ∃ z w' G', s.run P w = .ok z w' ∧ MR ρ G' M' w' ∧ Stp ρ G M w G' M' w' ∧ VR ρ G' r z
theorem zero_cells {el : TypeId} {inf : TypeInfo} {zc : List AV} (hi : P.info? el = some inf) (h : (zeroA P el).bind AV.cells? = some zc) : ∃ z, inf.zero = some z ∧ z.cells.size = zc.length := by
  unfold zeroA at h
  rw [hi] at h
  simp only at h
  cases hz : inf.zero with
  | none => rw [hz] at h; cases h
  | some z =>
    rw [hz] at h
    simp only [Option.map_some, Option.bind_some] at h
    exact ⟨z, rfl, (cells_ok (ρ := ⟨fun _ => .int 0, ⟨fun _ d => d, 0⟩⟩) (G := fun _ => none) (litV_ok z) h).1⟩
theorem stp_drew_new {M : Me} {w w' : World} {G' : Gh} {M' : Me} (h : Stp ρ G M w.drew G' M' w') : Stp ρ G M w G' M' w' := ⟨h.gh, h.os, h.tape, h.output, h.size, h.keep, h.mine, h.nb, h.old, h.seen⟩
theorem grown_cells {M : Me} {w : World} (hM : MR ρ G M w) {co cn : List AV} {olds news : List Value} (ho : VRs ρ G co olds.toArray) (hn : VRs ρ G cn news.toArray) {n k q : Nat} (hl : olds.length + news.length = k * n) (z : Array Value) (hz : z.size = n) (e : TypeId) :
    ∃ G', MR ρ G' { M with hp := hset M.hp M.nb (.cells (co ++ cn)), nb := M.nb + 1 } (w.drew.alloc (.cells (olds.toArray ++ news.toArray ++ Builtin.zeroCells z q) e)) ∧ Stp ρ G M w G' { M with hp := hset M.hp M.nb (.cells (co ++ cn)), nb := M.nb + 1 } (w.drew.alloc (.cells (olds.toArray ++ news.toArray ++ Builtin.zeroCells z q) e)) ∧
      VR ρ G' (.sl M.nb n (.int 0) (.int k) none) (.slice (some ⟨w.heap.size, 0, none⟩) k (k + q)) := by
  have hsz : (olds.toArray ++ news.toArray ++ Builtin.zeroCells z q).size = (k + q) * n := by
    simp only [Array.size_append, List.size_toArray, zeroCells_size, hz]
    rw [Nat.add_mul]; omega
  have happ := ho.append hn
  obtain ⟨h1, h2⟩ := hM.drew.new (w' := w.drew.alloc (.cells (olds.toArray ++ news.toArray ++ Builtin.zeroCells z q) e)) (.cells (co ++ cn)) ⟨w.heap.size, 0, (k + q) * n, default⟩ (Nat.le_refl _) ⟨rfl, _, e, alloc_new w.drew _, hsz, by rw [hsz, ← happ.1]; simp; rw [hl, Nat.add_mul]; omega, fun i a v x y => by
      have hi : i < (co ++ cn).length := (List.getElem?_eq_some_iff.1 x).1
      rw [← happ.1] at hi
      rw [Array.getElem?_append, if_pos hi] at y
      exact (happ.2 i a v x y).mono (Gh.le_add hM.no)⟩ rfl rfl rfl (by simp) (alloc_more w.drew _)
  exact ⟨_, h1, stp_drew_new h2, .sl _ _ _ _ _ _ _ _ _ (by simp [Gh.add]; rfl) rfl (Int.le_refl _) (by omega) (fun e he => by cases he) (fun _ => by simp [int_i]) (by simp [int_i])⟩
theorem grown_rows {M : Me} {w : World} (hM : MR ρ G M w) {ks : List CK} {E L : SE} {olds news : List Value} {l1 l2 : List DV} (hks : ks ≠ []) (ho : olds = rowVals ks l1) (hn : news = rowVals ks l2) (hE : (E.den ρ).l = l1 ++ l2) {q : Nat} (z : Array Value) (hz : z.size = ks.length) (e : TypeId) (hL : (L.den ρ).i = l1.length + l2.length) :
    ∃ G', MR ρ G' { M with hp := hset M.hp M.nb (.rows ks E), nb := M.nb + 1 } (w.drew.alloc (.cells (olds.toArray ++ news.toArray ++ Builtin.zeroCells z q) e)) ∧ Stp ρ G M w G' { M with hp := hset M.hp M.nb (.rows ks E), nb := M.nb + 1 } (w.drew.alloc (.cells (olds.toArray ++ news.toArray ++ Builtin.zeroCells z q) e)) ∧
      VR ρ G' (.sl M.nb ks.length (.int 0) L none) (.slice (some ⟨w.heap.size, 0, none⟩) (l1.length + l2.length) (l1.length + l2.length + q)) := by
  subst ho hn
  have hk0 : 0 < ks.length := by cases ks with | nil => exact absurd rfl hks | cons _ _ => simp
  have hsz : ((rowVals ks l1).toArray ++ (rowVals ks l2).toArray ++ Builtin.zeroCells z q).size = (l1.length + l2.length + q) * ks.length := by
    simp only [Array.size_append, List.size_toArray, zeroCells_size, hz, rowVals_length]
    rw [Nat.add_mul, Nat.add_mul]
  obtain ⟨h1, h2⟩ := hM.drew.new (w' := w.drew.alloc (.cells ((rowVals ks l1).toArray ++ (rowVals ks l2).toArray ++ Builtin.zeroCells z q) e)) (.rows ks E) ⟨w.heap.size, 0, (l1.length + l2.length + q) * ks.length, default⟩ (Nat.le_refl _)
    ⟨rfl, hks, fun h => by
      rw [hE]
      rcases Nat.mul_eq_zero.1 h with h | h
      · have e1 : l1 = [] := List.eq_nil_of_length_eq_zero (by omega)
        have e2 : l2 = [] := List.eq_nil_of_length_eq_zero (by omega)
        rw [e1, e2]; rfl
      · omega, fun _ => ⟨_, e, alloc_new w.drew _, hsz, by rw [hsz, hE, List.length_append]; exact Nat.mul_le_mul_right _ (by omega), by
      rw [hE]
      refine row_prefix fun x hx => ?_
      rw [rowVals_append]
      have hlen : x < (rowVals ks l1).length + (rowVals ks l2).length := by
        rw [rowVals_length, rowVals_length, ← Nat.add_mul]
        rwa [List.length_append] at hx
      rw [Array.getElem?_append, if_pos (by simpa using hlen)]
      simp⟩⟩ rfl rfl rfl (by simp) (alloc_more w.drew _)
  exact ⟨_, h1, stp_drew_new h2, .sl _ _ _ _ _ _ _ _ _ (by simp [Gh.add]; rfl) (by rw [hL]; omega) (Int.le_refl _) (by omega) (fun e he => by cases he) (fun _ => by simp [int_i]) (by simp [int_i])⟩
theorem destK_inv {n : Nat} {hp : List (Nat × Ob)} {s : AV} {d : DK} (h : destK hp n s = some d) :
    (d = .zero ∧ (s = .nils ∨ ∃ b off len cap, s = .sl b n off len (some cap) ∧ litN len = some 0 ∧ litN cap = some 0)) ∨
    (∃ b o l c cs off len cap, d = .fixed b o l c cs ∧ s = .sl b n off len (some cap) ∧ litN off = some o ∧ litN len = some l ∧ litN cap = some c ∧ hget hp b = some (.cells cs)) ∨
    (∃ b l cs off len, d = .tip b l cs ∧ s = .sl b n off len none ∧ litN off = some 0 ∧ litN len = some l ∧ hget hp b = some (.cells cs) ∧ l * n = cs.length) ∨
    (∃ b ks e len off cap, d = .rows b ks e len ∧ s = .sl b n off len cap ∧ litN off = some 0 ∧ hget hp b = some (.rows ks e) ∧ ks.length = n) := by
  unfold destK at h
  split at h
  · cases h; exact .inl ⟨rfl, .inl rfl⟩
  · rename_i b s' off len cap
    cases hb : Nat.beq s' n with
    | false => rw [hb] at h; cases h
    | true =>
      rw [hb] at h
      simp only [cond_true] at h
      have hb := (beq_iff _ _).1 hb
      subst hb
      split at h
      · rename_i h1 h2
        cases h
        cases hc : cap with
        | none => rw [hc] at h2; cases h2
        | some ce => rw [hc] at h2; exact .inl ⟨rfl, .inr ⟨b, off, len, ce, rfl, h1, h2⟩⟩
      · cases h1 : hget hp b with
        | none => rw [h1] at h; cases h
        | some ob =>
          rw [h1] at h
          cases h2 : litN off with
          | none => rw [h2] at h; cases ob <;> cases h
          | some o =>
            rw [h2] at h
            cases ob with
            | cells cs =>
              cases h3 : litN len with
              | none => rw [h3] at h; cases cap <;> cases h
              | some l =>
                rw [h3] at h
                cases cap with
                | some c =>
                  cases hc : litN c with
                  | none => simp only [hc] at h; cases h
                  | some c' =>
                    simp only [hc, Option.some.injEq] at h
                    exact .inr (.inl ⟨b, o, l, c', cs, off, len, c, h.symm, rfl, h2, h3, hc, h1⟩)
                | none =>
                  cases o with
                  | succ o => cases h
                  | zero =>
                    simp only at h
                    cases hq : Nat.beq (l * s') cs.length with
                    | false => rw [hq] at h; cases h
                    | true =>
                      rw [hq] at h
                      simp only [cond_true, Option.some.injEq] at h
                      exact .inr (.inr (.inl ⟨b, l, cs, off, len, h.symm, rfl, h2, h3, h1, (beq_iff _ _).1 hq⟩))
            | rows ks e =>
              cases o with
              | succ o => cases litN len <;> cases cap <;> cases h
              | zero =>
                have h : (bif Nat.beq ks.length s' then some (DK.rows b ks e len) else none) = some d := by
                  cases hl : litN len <;> cases cap <;> simpa [hl] using h
                cases hq : Nat.beq ks.length s' with
                | false => rw [hq] at h; cases h
                | true =>
                  rw [hq] at h
                  simp only [cond_true, Option.some.injEq] at h
                  exact .inr (.inr (.inr ⟨b, ks, e, len, off, cap, h.symm, rfl, h2, h1, (beq_iff _ _).1 hq⟩))
            | _ => cases h
  · cases h
theorem zero_dest {n : Nat} {hp : List (Nat × Ob)} {s : AV} {u : Value} (h : destK hp n s = some .zero) (hs : VR ρ G s u) : ∃ a, u = .slice a 0 0 := by
  rcases destK_inv h with ⟨_, rfl | ⟨b, off, len, cap, rfl, h1, h2⟩⟩ | ⟨_, _, _, _, _, _, _, _, h, _⟩ | ⟨_, _, _, _, _, h, _⟩ | ⟨_, _, _, _, _, _, h, _⟩
  · cases hs; exact ⟨none, rfl⟩
  · obtain ⟨g, a, m, c, hg, rfl, hlen, hoff, hmc, hcap, ha, hbd⟩ := hs.sl_inv
    have e1 := litN_i h1 ρ
    have e2 := litN_i h2 ρ
    have e3 := hcap cap rfl
    have : m = 0 := by omega
    have : c = 0 := by omega
    subst_vars
    exact ⟨a, rfl⟩
  · cases h
  · cases h
  · cases h
theorem append_same {t xt e e2 : TypeId} {ty : TypeId} {inf : TypeInfo} {w : World} {u : Value} {a : Option Addr} {n c : Nat} (ht : P.underlying t = some (.slice e)) (hx : P.underlying xt = some (.slice e2)) (hi : P.info? e = some inf) (hs : Src P w inf.size u 0 []) (hnc : n ≤ c) :
    (Builtin.append_ #[t, xt] ty #[.slice a n c, u]).run P w = .ok (.slice a n c) w := by
  have hl := hs.len w
  have hf := hs.first w rfl
  cases a <;> simp [Builtin.append_, run_underlying ht, run_underlying hx, sizeOf, typeInfo, hi, hl, hnc, hf, storeCells]
theorem rowsOf_ok {ks : List CK} {n : Nat} (hn : 0 < n) (hk : ks.length = n) : ∀ (f : Nat) (cs : List AV) (vs : List Value), cs.length ≤ f → allData ks n f cs = true → VRs ρ G cs vs.toArray →
    ∃ l : List DV, (((chunk n f cs).foldr (fun r e => SE.bin .cons (rowE r) e) .nil).den ρ) = .list l ∧ vs = rowVals ks l ∧ l = (chunk n f cs).map (fun r => (rowE r).den ρ)
  | 0, cs, vs, h, ha, hv => by
    have : cs = [] := List.eq_nil_of_length_eq_zero (by omega)
    subst this
    have : vs = [] := List.eq_nil_of_length_eq_zero (by have := hv.1; simpa using this)
    subst this
    exact ⟨[], rfl, rfl, rfl⟩
  | f + 1, [], vs, h, ha, hv => by
    have : vs = [] := List.eq_nil_of_length_eq_zero (by have := hv.1; simpa using this)
    subst this
    exact ⟨[], rfl, rfl, rfl⟩
  | f + 1, c :: r, vs, h, ha, hv => by
    unfold allData at ha
    simp only [Bool.and_eq_true, decide_eq_true_eq] at ha
    obtain ⟨h1, h2⟩ := ha
    have hvl : vs.length = (c :: r).length := by have := hv.1; simpa using this
    have hfirst : VRs ρ G ((c :: r).take n) (vs.take n).toArray := by
      refine ⟨by simp [hvl], fun i a v x y => ?_⟩
      rw [List.getElem?_toArray] at y
      rw [List.getElem?_take] at x y
      split at x
      · rename_i hin; rw [if_pos hin] at y; exact hv.2 i a v x (by simpa using y)
      · cases x
    have hrest : VRs ρ G ((c :: r).drop n) (vs.drop n).toArray := by
      refine ⟨by simp [hvl], fun i a v x y => ?_⟩
      rw [List.getElem?_toArray] at y
      rw [List.getElem?_drop] at x y
      exact hv.2 _ a v x (by simpa using y)
    obtain ⟨l, hl, hvs, hmap⟩ := rowsOf_ok hn hk f ((c :: r).drop n) (vs.drop n) (by rw [List.length_drop]; simp at h ⊢; omega) h2 hrest
    have hrow := rowE_ok h1 hfirst
    have hlen : ((c :: r).take n).length = n := by rw [(mapM_get h1).1, hk]
    have htake : vs.take n = rowVals ks [(rowE ((c :: r).take n)).den ρ] := by
      apply List.ext_getElem?
      intro j
      by_cases hj : j < n
      · have := hrow j _ (List.getElem?_eq_getElem (by omega))
        rw [List.getElem?_toArray] at this
        rw [this]
        have := rowVals_get ks [(rowE ((c :: r).take n)).den ρ] 0 j _ _ rfl (List.getElem?_eq_getElem (by omega : j < ks.length))
        rw [Nat.zero_mul, Nat.zero_add] at this
        exact this.symm
      · rw [List.getElem?_eq_none (by rw [List.length_take]; omega), List.getElem?_eq_none (by rw [rowVals_length]; simp; omega)]
    refine ⟨(rowE ((c :: r).take n)).den ρ :: l, ?_, ?_, ?_⟩
    · show evB .cons _ _ = _
      show DV.list ((rowE ((c :: r).take n)).den ρ :: ((((chunk n f ((c :: r).drop n)).foldr (fun r e => SE.bin .cons (rowE r) e) .nil).den ρ)).l) = _
      rw [hl]; rfl
    · rw [← List.take_append_drop n vs, htake, hvs]
      rw [show (rowE ((c :: r).take n)).den ρ :: l = [(rowE ((c :: r).take n)).den ρ] ++ l from rfl, rowVals_append]
    · show _ = (rowE ((c :: r).take n)).den ρ :: (chunk n f ((c :: r).drop n)).map (fun r => (rowE r).den ρ)
      rw [hmap]
end
end Go.Proofs.YtkfjgggiopegbaaDoor
namespace Go.Proofs.YtkfjgggiopegbaaDoor
open Go.RowKit
section
variable {P : Program} {ρ : Env} {G : Gh}
theorem hdel_sub {hp : List (Nat × Ob)} {b : Nat} : ∀ c o, hget (hdel hp b) c = some o → hget hp c = some o := fun c o h => by
  rw [hget_hdel] at h
  split at h
  · cases h
  · exact h
theorem le32 {q : SE} (h : ((mkB .le q (.int 4294967296)).den ρ).b = true) : (q.den ρ).i ≤ 4294967296 := by
  rw [le_b, int_i] at h
  exact of_decide_eq_true h
theorem rows_app {t xt el el2 : TypeId} {ty : TypeId} {M : Me} {w : World} {b n m : Nat} {off len E L : SE} {cap : Option SE} {ks : List CK} {e : SE} {u v z : Value} {inf : TypeInfo} {l2 : List DV} (hM : MR ρ G M w) (hu : P.underlying t = some (.slice el)) (hu2 : P.underlying xt = some (.slice el2)) (hinf : P.info? el = some inf) (hsize : inf.size = n) (hbytes : inf.bytes ≤ 10000) (hz : inf.zero = some z) (hzs : z.cells.size = n)
    (hob : hget M.hp b = some (.rows ks e)) (hkn : ks.length = n) (hs : VR ρ G (.sl b n off len cap) u) (ho : litN off = some 0) (hlen : (len.den ρ).i = (e.den ρ).l.length) (hsrc : Src P w n v m (rowVals ks l2)) (hl2 : l2.length = m) (hE : (E.den ρ).l = (e.den ρ).l ++ l2) (hL : (L.den ρ).i = (e.den ρ).l.length + m) (hle : (e.den ρ).l.length + m ≤ 4294967296) :
    Does P ρ G M w (Builtin.append_ #[t, xt] ty #[u, v]) (.sl M.nb n (.int 0) L none) { M with hp := hset (hdel M.hp b) M.nb (.rows ks E), nb := M.nb + 1 } := by
  subst hkn
  obtain ⟨g, a, m', c', hg, rfl, hlen', hoff, hmc, hcap, ha, hbd⟩ := hs.sl_inv
  have hml : m' = (e.den ρ).l.length := by omega
  subst hml
  have e0 : (off.den ρ).i.toNat = 0 := by rw [litN_i ho ρ]; rfl
  obtain ⟨g', hg', hgo, hks, hvirt, hreal⟩ := hM.ob _ _ hob
  rw [hg] at hg'; cases hg'
  rw [e0, Nat.zero_mul, hgo] at ha
  rw [e0, Nat.zero_add] at hbd
  have hk0 : 0 < ks.length := by cases ks with | nil => exact absurd rfl hks | cons _ _ => simp
  rw [← hsize] at hsrc
  by_cases hm : m = 0
  · subst hm
    have hl2 : l2 = [] := List.eq_nil_of_length_eq_zero hl2
    subst hl2
    rw [List.append_nil] at hE
    have hrun := append_same (ty := ty) hu hu2 hinf hsrc hmc (a := a)
    by_cases hz0 : g.sz = 0
    · have hnil := hvirt hz0
      have hc0 : c' = 0 := by
        rw [hz0] at hbd
        rcases Nat.mul_eq_zero.1 (Nat.le_zero.1 hbd) with h | h
        · exact h
        · omega
      obtain ⟨hM1, hS1⟩ := hM.drop (hdel M.hp b) (fun c o h => hdel_sub c o h)
      obtain ⟨h1, h2⟩ := hM1.new (w' := w) (.rows ks E) ⟨w.heap.size, 0, 0, default⟩ (Nat.le_refl _) ⟨rfl, hks, fun _ => by rw [hE, hnil], fun h => absurd rfl h⟩ rfl rfl rfl (Nat.le_refl _) (fun _ _ => rfl)
      exact ⟨_, w, _, hrun, h1, hS1.trans h2, .sl _ _ _ _ _ ⟨w.heap.size, 0, 0, default⟩ _ _ _ (by simp [Gh.add]) (by rw [hL]; rfl) (Int.le_refl _) hmc (fun e he => by cases he) (fun h => by omega) (by rw [int_i]; simp [hc0])⟩
    · obtain ⟨arr, tt, hheap, hasz, hfit, hvr⟩ := hreal hz0
      obtain ⟨h1, h2⟩ := hM.move (w' := w) (g2 := ⟨g.blk, 0, g.sz, default⟩) (.rows ks E) hob hg rfl hz0 rfl rfl rfl rfl (Nat.le_refl _) (fun _ _ _ => rfl) ⟨rfl, hks, fun h => absurd h hz0, fun _ => ⟨arr, tt, hheap, hasz, by rw [hE]; exact hfit, by rw [hE]; exact hvr⟩⟩
      exact ⟨_, w, _, hrun, h1, h2, .sl _ _ _ _ _ ⟨g.blk, 0, g.sz, default⟩ _ _ _ (by simp [Gh.add]) (by rw [hL]; rfl) (Int.le_refl _) hmc (fun e he => by cases he) (fun h => by rw [ha h]; simp [int_i]) (by rw [int_i]; simpa using hbd)⟩
  · by_cases hr : (e.den ρ).l.length + m ≤ c'
    · have hz0 : g.sz ≠ 0 := fun h => by
        rw [h] at hbd
        rcases Nat.mul_eq_zero.1 (Nat.le_zero.1 hbd) with h | h <;> omega
      obtain ⟨arr, tt, hheap, hasz, hfit, hvr⟩ := hreal hz0
      rw [ha (by omega)]
      have hnl := hsrc.size
      have hfit2 : ((e.den ρ).l.length + m) * ks.length ≤ arr.size := by rw [hasz]; exact Nat.le_trans (Nat.mul_le_mul_right _ hr) hbd
      rw [Nat.add_mul] at hfit2
      have hrun := append_room (ty := ty) hu hu2 hinf hsrc hheap hasz (o := 0 + 0) (sLen := (e.den ρ).l.length) (sCap := c') hr (by rw [hnl, hsize]; omega) (rowVals_one ks l2)
      rw [hsize] at hrun hnl
      simp only [Nat.add_zero, Nat.zero_add] at hrun ⊢
      obtain ⟨k1, k2, k3, k4, k5, k6⟩ := setCells_heap g.blk (rowVals ks l2) ((e.den ρ).l.length * ks.length) w
      obtain ⟨h1, h2⟩ := hM.move (w' := w.setCells g.blk ((e.den ρ).l.length * ks.length) (rowVals ks l2)) (g2 := ⟨g.blk, 0, g.sz, default⟩) (.rows ks E) hob hg rfl hz0 rfl k2 k3 k4 (Nat.le_of_eq k1.symm) (fun k _ hk => k5 k hk) ⟨rfl, hks, fun h => absurd h hz0, fun _ => ⟨_, tt, k6 arr _ _ hheap, by rw [setManyV_size]; exact hasz, by rw [hE, List.length_append, hl2, Nat.add_mul, setManyV_size]; exact hfit2, by
        rw [hE]
        refine row_prefix fun q hq => ?_
        rw [setManyV_get _ _ _ _ (by rw [hnl]; exact hfit2), rowVals_append, List.getElem?_append, rowVals_length ks l2, rowVals_length ks (e.den ρ).l]
        rw [List.length_append, Nat.add_mul] at hq
        by_cases hq2 : q < (e.den ρ).l.length * ks.length
        · rw [if_neg (fun hh => by omega), if_pos hq2]
          exact prefix_row hvr q hq2
        · rw [if_pos ⟨by omega, by omega⟩, if_neg hq2]⟩⟩
      exact ⟨_, _, _, hrun, h1, h2, .sl _ _ _ _ _ ⟨g.blk, 0, g.sz, default⟩ _ _ _ (by simp [Gh.add]) (by rw [hL]; omega) (Int.le_refl _) hr (fun e he => by cases he) (fun _ => by simp [int_i]) (by rw [int_i]; simpa using hbd)⟩
    · obtain ⟨hM1, hS1⟩ := hM.drop (hdel M.hp b) (fun c o h => hdel_sub c o h)
      have os : Src P w inf.size (.slice a (e.den ρ).l.length c') (e.den ρ).l.length (rowVals ks (e.den ρ).l) := by
        refine src_slice (by rw [rowVals_length, hsize]) fun q v hq => ?_
        obtain ⟨i, j, d, k, rfl, hi, hj, rfl⟩ := rowVals_inv ks _ q v hq
        have hil := (List.getElem?_eq_some_iff.1 hi).1
        have hz0 : g.sz ≠ 0 := fun h => by rw [hvirt h] at hil; simp at hil
        obtain ⟨arr, tt, hheap, hasz, hfit, hvr⟩ := hreal hz0
        exact ⟨_, _, ha (by omega), by rw [cell_of_heap hheap]; simpa using hvr i j d k hi hj⟩
      obtain ⟨q, hrun⟩ := append_grow (ty := ty) hu hu2 hinf hz hsrc os (by omega) hle hbytes
      obtain ⟨G', h1, h2, h3⟩ := grown_rows hM1 (E := E) (L := L) hks rfl rfl hE (q := q) z.cells hzs el (by rw [hL, hl2])
      rw [hl2] at h3
      exact ⟨_, _, G', hrun, h1, hS1.trans h2, h3⟩
set_option maxHeartbeats 2000000 in
theorem append_ok {t xt : TypeId} {ty : TypeId} {M M' : Me} {w : World} {s x r : AV} {cs : List SE} {u v : Value} (hM : MR ρ G M w) (h : appendA P t xt M s x = some (r, M', cs)) (hcs : ∀ c ∈ cs, (c.den ρ).b = true) (hs : VR ρ G s u) (hx : VR ρ G x v) :
    Does P ρ G M w (Builtin.append_ #[t, xt] ty #[u, v]) r M' := by
  unfold appendA at h
  split at h
  · rename_i el el2 hu hu2
    split at h
    · rename_i n inf zc hsz hinf hzc
      have hsize : inf.size = n + 1 := by unfold sizeB at hsz; rw [hinf] at hsz; simpa using hsz
      cases hb : (Nat.ble inf.bytes 10000 && Nat.beq zc.length (n + 1)) with
      | false => rw [hb] at h; cases h
      | true =>
        rw [hb] at h
        simp only [cond_true] at h
        simp only [Bool.and_eq_true, beq_iff, Nat.ble_eq] at hb
        obtain ⟨hbytes, hzl⟩ := hb
        obtain ⟨z, hz, hzs⟩ := zero_cells hinf hzc
        rw [hzl] at hzs
        split at h
        · -- a source known cell by cell
          rename_i xs hxs
          obtain ⟨news, hsrc0, hnv⟩ := srcCells_ok (P := P) hM.ob hxs hx (Nat.succ_pos n)
          have hsrc : Src P w inf.size v (xs.length / (n + 1)) news := by rw [hsize]; exact hsrc0
          clear hsrc0
          cases hm : Nat.beq (xs.length / (n + 1)) 0 with
          | true =>
            rw [hm] at h
            simp only [cond_true] at h
            have hm := (beq_iff _ _).1 hm
            rw [hm] at hsrc
            have hnil : news = [] := List.eq_nil_of_length_eq_zero (by have := hsrc.size; simpa using this)
            subst hnil
            cases hs with
            | nils => cases h; exact ⟨_, w, G, append_same hu hu2 hinf hsrc (Nat.le_refl _), hM, Stp.refl _ _ _ _, .nils⟩
            | sl b s' off len cap g a n' c h0 h1 h2 h3 h4 h5 h6 => cases h; exact ⟨_, w, G, append_same hu hu2 hinf hsrc h3, hM, Stp.refl _ _ _ _, .sl b s' off len cap g a n' c h0 h1 h2 h3 h4 h5 h6⟩
            | _ => cases h
          | false =>
            rw [hm] at h
            simp only [cond_false] at h
            have hm0 : xs.length / (n + 1) ≠ 0 := fun e => by rw [e] at hm; cases hm
            generalize hmm : xs.length / (n + 1) = m at h hsrc hm0
            cases hb : (Nat.beq (m * (n + 1)) xs.length && xs.all AV.one) with
            | false => rw [hb] at h; cases h
            | true =>
              rw [hb] at h
              simp only [cond_true] at h
              simp only [Bool.and_eq_true, beq_iff] at hb
              obtain ⟨hxl, hone⟩ := hb
              have hnone : ∀ q ∈ news, q.oneCell' = true := by have := all_one hnv hone; simpa using this
              have hnl : news.length = m * (n + 1) := by rw [hsrc.size, hsize]
              split at h
              · -- nothing there
                rename_i hd
                cases h
                obtain ⟨a, rfl⟩ := zero_dest hd hs
                have hle := le32 (hcs _ (List.mem_singleton.2 rfl))
                rw [int_i] at hle
                obtain ⟨q, hrun⟩ := append_grow (ty := ty) hu hu2 hinf hz hsrc (a := a) (sLen := 0) (sCap := 0) (olds := []) (src_slice (by simp) (fun j v h => by simp at h)) (by omega) (by omega) hbytes
                obtain ⟨G', h1, h2, h3⟩ := grown_cells hM (co := []) VRs.nil hnv (n := n + 1) (k := m) (q := q) (by simp [hnl]) z.cells hzs el
                simp only [Nat.zero_add, List.nil_append] at hrun h1 h2 h3
                exact ⟨_, _, G', hrun, h1, h2, h3⟩
              · -- a row of a known room
                rename_i b o l c ds hdk
                rcases destK_inv hdk with ⟨hd, _⟩ | ⟨b', o', l', c', cs', off, len, cap, hd, rfl, ho, hl, hc, hob⟩ | ⟨_, _, _, _, _, hd, _⟩ | ⟨_, _, _, _, _, _, hd, _⟩
                · cases hd
                · cases hd
                  obtain ⟨g, a, m', c', hg, rfl, hlen, hoff, hmc, hcap, ha, hbd⟩ := hs.sl_inv
                  have e1 := litN_i ho ρ
                  have e2 := litN_i hl ρ
                  have e3 := litN_i hc ρ
                  have e4 := hcap cap rfl
                  have em : m' = l := by omega
                  have ec : c' = c := by omega
                  subst em ec
                  obtain ⟨g', hg', hgo, arr, tt, hheap, hasz, hdl, hvr⟩ := hM.ob _ _ hob
                  rw [hg] at hg'; cases hg'
                  rw [e1, Int.toNat_natCast] at ha hbd
                  rw [hgo, Nat.zero_add] at ha
                  have osrc : m' * (n + 1) + o * (n + 1) ≤ arr.size → Src P w inf.size (.slice a m' c') m' ((arr.toList.drop (o * (n + 1))).take (m' * (n + 1))) := fun hle => by
                    refine src_slice (by rw [List.length_take, List.length_drop, Array.length_toList, hsize]; omega) fun j v hj => ?_
                    rw [List.getElem?_take] at hj
                    split at hj
                    · rename_i hjl
                      rw [List.getElem?_drop, Array.getElem?_toList] at hj
                      have hm0 : 0 < m' := by
                        rcases Nat.eq_zero_or_pos m' with h0 | h0
                        · rw [h0, Nat.zero_mul] at hjl; omega
                        · exact h0
                      exact ⟨_, _, ha (by omega), by rw [cell_of_heap hheap]; exact hj⟩
                    · cases hj
                  cases hr : Nat.ble (m' + m) c' with
                  | true =>
                    rw [hr] at h
                    simp only [cond_true] at h
                    have hr := Nat.le_of_ble_eq_true hr
                    cases hq : Nat.ble ((o + m' + m) * (n + 1)) ds.length with
                    | false => rw [hq] at h; cases h
                    | true =>
                      rw [hq] at h
                      simp only [cond_true] at h
                      cases h
                      have hq := Nat.le_of_ble_eq_true hq
                      have hmul : (o + m' + m) * (n + 1) = o * (n + 1) + m' * (n + 1) + m * (n + 1) := by rw [Nat.add_mul, Nat.add_mul]
                      rw [ha (by omega)]
                      have hrun := append_room (ty := ty) hu hu2 hinf hsrc hheap hasz (o := o * (n + 1)) (sLen := m') (sCap := c') hr (by rw [hsize, hnl]; omega) hnone
                      rw [hsize] at hrun
                      obtain ⟨k1, k2, k3, k4, k5, k6⟩ := setCells_heap g.blk news (o * (n + 1) + m' * (n + 1)) w
                      have hp := setMany_p xs news ds arr ((o + m') * (n + 1)) ⟨hdl, hvr⟩ hnv
                      rw [Nat.add_mul] at hp ⊢
                      obtain ⟨h1, h2⟩ := hM.turn (w' := w.setCells g.blk (o * (n + 1) + m' * (n + 1)) news) (.cells (setMany ds (o * (n + 1) + m' * (n + 1)) xs)) hob hg rfl rfl trivial k2 k3 k4 (Nat.le_of_eq k1.symm) (fun k _ hk => k5 k hk) ⟨hgo, _, tt, k6 arr _ _ hheap, by rw [setManyV_size]; exact hasz, hp.1, hp.2⟩
                      exact ⟨_, _, G, hrun, h1, h2, .sl _ _ _ _ _ g _ _ _ hg rfl (Int.natCast_nonneg o) hr (fun e he => by cases he; rfl) (fun _ => by rw [hgo, Nat.zero_add]; rfl) hbd⟩
                  | false =>
                    rw [hr] at h
                    simp only [cond_false] at h
                    cases hq : Nat.ble ((o + m') * (n + 1)) ds.length with
                    | false => rw [hq] at h; cases h
                    | true =>
                      rw [hq] at h
                      simp only [cond_true] at h
                      cases h
                      have hq := Nat.le_of_ble_eq_true hq
                      rw [Nat.add_mul] at hq
                      have hle := le32 (hcs _ (List.mem_singleton.2 rfl))
                      rw [int_i] at hle
                      have hgt : c' < m' + m := by
                        rcases Nat.lt_or_ge c' (m' + m) with h0 | h0
                        · exact h0
                        · rw [Nat.ble_eq_true_of_le h0] at hr; cases hr
                      have os := osrc (by omega)
                      obtain ⟨q, hrun⟩ := append_grow (ty := ty) hu hu2 hinf hz hsrc os hgt (by omega) hbytes
                      have hov : VRs ρ G ((ds.drop (o * (n + 1))).take (m' * (n + 1))) ((arr.toList.drop (o * (n + 1))).take (m' * (n + 1))).toArray := by
                        refine ⟨by simp; omega, fun i a' v x y => ?_⟩
                        rw [List.getElem?_toArray] at y
                        rw [List.getElem?_take] at x y
                        split at x
                        · rename_i hin
                          rw [if_pos hin] at y
                          rw [List.getElem?_drop] at x y
                          rw [Array.getElem?_toList] at y
                          exact hvr _ a' v x y
                        · cases x
                      obtain ⟨G', h1, h2, h3⟩ := grown_cells hM hov hnv (n := n + 1) (k := m' + m) (q := q) (by rw [os.size, hsize, hnl, Nat.add_mul]) z.cells hzs el
                      exact ⟨_, _, G', hrun, h1, h2, h3⟩
                · cases hd
                · cases hd
              · -- the tip of a row
                rename_i b l ds hdk
                rcases destK_inv hdk with ⟨hd, _⟩ | ⟨_, _, _, _, _, _, _, _, hd, _⟩ | ⟨b', l', cs', off, len, hd, rfl, ho, hl, hob, hll⟩ | ⟨_, _, _, _, _, _, hd, _⟩
                · cases hd
                · cases hd
                · cases hd
                  cases h
                  obtain ⟨g, a, m', c', hg, rfl, hlen, hoff, hmc, hcap, ha, hbd⟩ := hs.sl_inv
                  have e1 := litN_i ho ρ
                  have e2 := litN_i hl ρ
                  have em : m' = l := by omega
                  subst em
                  obtain ⟨g', hg', hgo, arr, tt, hheap, hasz, hdl, hvr⟩ := hM.ob _ _ hob
                  rw [hg] at hg'; cases hg'
                  have e0 : (off.den ρ).i.toNat = 0 := by rw [e1]; rfl
                  rw [e0, Nat.zero_mul, hgo] at ha
                  rw [e0, Nat.zero_add] at hbd
                  have hle := le32 (hcs _ (List.mem_singleton.2 rfl))
                  rw [int_i] at hle
                  by_cases hr : m' + m ≤ c'
                  · rw [ha (by omega)]
                    have hfit : (m' + m) * (n + 1) ≤ arr.size := by rw [hasz]; exact Nat.le_trans (Nat.mul_le_mul_right _ hr) hbd
                    rw [Nat.add_mul] at hfit
                    have hrun := append_room (ty := ty) hu hu2 hinf hsrc hheap hasz (o := 0 + 0) (sLen := m') (sCap := c') hr (by rw [hsize, hnl]; omega) hnone
                    rw [hsize] at hrun
                    simp only [Nat.add_zero, Nat.zero_add] at hrun ⊢
                    obtain ⟨k1, k2, k3, k4, k5, k6⟩ := setCells_heap g.blk news (m' * (n + 1)) w
                    have hnb := hM.no
                    have hcat : ∀ (i : Nat) (a' : AV) (v : Value), (ds ++ xs)[i]? = some a' → (setManyV arr (m' * (n + 1)) news)[i]? = some v → VR ρ G a' v := fun i a' v x y => by
                      rw [setManyV_get _ _ _ _ (by rw [hnl]; omega)] at y
                      rw [List.getElem?_append] at x
                      split at x
                      · rw [if_neg (by omega)] at y; exact hvr i a' v x y
                      · rename_i hge
                        have hil : i - ds.length < xs.length := (List.getElem?_eq_some_iff.1 x).1
                        rw [if_pos (by rw [hnl]; omega), hll] at y
                        exact hnv.2 _ a' v x (by simpa using y)
                    obtain ⟨h1, h2⟩ := hM.move (w' := w.setCells g.blk (m' * (n + 1)) news) (g2 := ⟨g.blk, 0, g.sz, default⟩) (.cells (ds ++ xs)) hob hg rfl trivial rfl k2 k3 k4 (Nat.le_of_eq k1.symm) (fun k _ hk => k5 k hk) ⟨rfl, _, tt, k6 arr _ _ hheap, by rw [setManyV_size]; exact hasz, by rw [List.length_append, setManyV_size]; omega, fun i a' v x y => (hcat i a' v x y).mono (Gh.le_add hnb)⟩
                    exact ⟨_, _, _, hrun, h1, h2, .sl _ _ _ _ _ ⟨g.blk, 0, g.sz, default⟩ _ _ _ (by simp [Gh.add]) rfl (Int.le_refl _) hr (fun e he => by cases he) (fun _ => by simp [int_i]) (by rw [int_i]; simpa using hbd)⟩
                  · obtain ⟨hM1, hS1⟩ := hM.drop (hdel M.hp b) (fun c o h => hdel_sub c o h)
                    have os : Src P w inf.size (.slice a m' c') m' ((arr.toList).take (m' * (n + 1))) := by
                      refine src_slice (by rw [List.length_take, Array.length_toList, hsize]; omega) fun j v hj => ?_
                      rw [List.getElem?_take] at hj
                      split at hj
                      · rename_i hjl
                        rw [Array.getElem?_toList] at hj
                        have hm0 : 0 < m' := by
                          rcases Nat.eq_zero_or_pos m' with h0 | h0
                          · rw [h0, Nat.zero_mul] at hjl; omega
                          · exact h0
                        exact ⟨_, _, ha (by omega), by rw [cell_of_heap hheap]; simpa using hj⟩
                      · cases hj
                    obtain ⟨q, hrun⟩ := append_grow (ty := ty) hu hu2 hinf hz hsrc os (by omega) (by omega) hbytes
                    have hov : VRs ρ G ds (arr.toList.take (m' * (n + 1))).toArray := by
                      refine ⟨by simp; omega, fun i a' v x y => ?_⟩
                      rw [List.getElem?_toArray, List.getElem?_take] at y
                      split at y
                      · rw [Array.getElem?_toList] at y; exact hvr _ a' v x y
                      · cases y
                    obtain ⟨G', h1, h2, h3⟩ := grown_cells hM1 hov hnv (n := n + 1) (k := m' + m) (q := q) (by rw [os.size, hsize, hnl, Nat.add_mul]) z.cells hzs el
                    exact ⟨_, _, G', hrun, h1, hS1.trans h2, h3⟩
                · cases hd
              · -- a row of plain data
                rename_i b ks e len hdk
                rcases destK_inv hdk with ⟨hd, _⟩ | ⟨_, _, _, _, _, _, _, _, hd, _⟩ | ⟨_, _, _, _, _, hd, _⟩ | ⟨b', ks', e', len', off, cap, hd, rfl, ho, hob, hkl⟩
                · cases hd
                · cases hd
                · cases hd
                · cases hd
                  cases hall : allData ks (n + 1) xs.length xs with
                  | false => rw [hall] at h; cases h
                  | true =>
                    rw [hall] at h
                    simp only [cond_true] at h
                    cases h
                    have c1 := hcs (mkB .eq len (mkU .len e)) (by simp)
                    have c2 := le32 (hcs (mkB .le (mkB .add len (.int m)) (.int 4294967296)) (by simp))
                    rw [eq_b, len_den] at c1
                    have c1 := of_decide_eq_true c1
                    have hadd : ((mkB .add len (.int m)).den ρ).i = (len.den ρ).i + m := by rw [mkB_den]; rfl
                    rw [hadd, c1] at c2
                    obtain ⟨l2, hl2, hnews, hmap⟩ := rowsOf_ok (Nat.succ_pos n) hkl xs.length xs news (Nat.le_refl _) hall hnv
                    have hll : l2.length = m := by
                      have := congrArg List.length hnews
                      rw [rowVals_length, hnl, hkl] at this
                      exact (Nat.eq_of_mul_eq_mul_right (Nat.succ_pos n) this).symm
                    rw [hnews, hsize] at hsrc
                    refine rows_app hM hu hu2 hinf hsize hbytes hz hzs hob hkl hs ho c1 hsrc hll ?_ (by rw [hadd, c1]) (by omega)
                    split
                    · rename_i r0 hr0
                      rw [mkB_den]
                      rw [hr0] at hmap
                      rw [hmap]
                      rfl
                    · rw [mkB_den]
                      show (e.den ρ).l ++ ((rowsOf (n + 1) xs).den ρ).l = _
                      rw [show (rowsOf (n + 1) xs).den ρ = .list l2 from hl2]
                      rfl
              · cases h
        · -- a source that is a row of plain data
          split at h
          · rename_i ks e' L cs' hsr
            split at h
            · rename_i hdk
              cases h
              have c1 := hcs (mkB .eq (mkU .len e') L) (by simp)
              have c2 := le32 (hcs (mkB .le L (.int 4294967296)) (by simp))
              rw [eq_b, len_den] at c1
              have c1 := of_decide_eq_true c1
              obtain ⟨hkl, hks, hsrc⟩ := srcRows_ok (P := P) hM.ob hsr (fun c hc => hcs c (by simp [hc])) hx c1
              obtain ⟨a, rfl⟩ := zero_dest hdk hs
              by_cases hm : (e'.den ρ).l.length = 0
              · have hnil : (e'.den ρ).l = [] := List.eq_nil_of_length_eq_zero hm
                rw [hnil, ← hsize] at hsrc
                have hrun := append_same (ty := ty) hu hu2 hinf hsrc (Nat.le_refl 0) (a := a)
                obtain ⟨h1, h2⟩ := hM.new (w' := w) (.rows ks e') ⟨w.heap.size, 0, 0, default⟩ (Nat.le_refl _) ⟨rfl, hks, fun _ => hnil, fun h => absurd rfl h⟩ rfl rfl rfl (Nat.le_refl _) (fun _ _ => rfl)
                exact ⟨_, w, _, hrun, h1, h2, .sl _ _ _ _ _ ⟨w.heap.size, 0, 0, default⟩ _ _ _ (by simp [Gh.add]) (by rw [← c1, hm]) (Int.le_refl _) (Nat.le_refl _) (fun e he => by cases he) (fun h => by omega) (by rw [int_i]; simp)⟩
              · rw [← hsize] at hsrc
                obtain ⟨q, hrun⟩ := append_grow (ty := ty) hu hu2 hinf hz hsrc (a := a) (sLen := 0) (sCap := 0) (olds := []) (src_slice (by simp) (fun j v h => by simp at h)) (by omega) (by omega) hbytes
                obtain ⟨G', h1, h2, h3⟩ := grown_rows hM (E := e') (L := L) (l1 := []) (l2 := (e'.den ρ).l) hks (by rfl) rfl rfl (q := q) z.cells (by rw [hzs, hkl]) el (by rw [← c1, List.length_nil, Int.natCast_zero, Int.zero_add])
                rw [hkl] at h3
                simp only [Nat.zero_add, List.length_nil] at hrun h1 h2 h3
                exact ⟨_, _, G', hrun, h1, h2, h3⟩
            · rename_i b ks' e len hdk
              rcases destK_inv hdk with ⟨hd, _⟩ | ⟨_, _, _, _, _, _, _, _, hd, _⟩ | ⟨_, _, _, _, _, hd, _⟩ | ⟨b', ks2, e2, len', off, cap, hd, rfl, ho, hob, hkl2⟩
              · cases hd
              · cases hd
              · cases hd
              · cases hd
                split at h
                · rename_i hkk
                  subst hkk
                  cases h
                  have c0 := hcs (mkB .eq len (mkU .len e)) (by simp)
                  have c1 := hcs (mkB .eq (mkU .len e') L) (by simp)
                  have c2 := le32 (hcs (mkB .le (mkB .add len L) (.int 4294967296)) (by simp))
                  rw [eq_b, len_den] at c0 c1
                  have c0 := of_decide_eq_true c0
                  have c1 := of_decide_eq_true c1
                  obtain ⟨hkl, hks, hsrc⟩ := srcRows_ok (P := P) hM.ob hsr (fun c hc => hcs c (by simp [hc])) hx c1
                  have hadd : ((mkB .add len L).den ρ).i = (len.den ρ).i + (L.den ρ).i := by rw [mkB_den]; rfl
                  rw [hadd, c0, ← c1] at c2
                  exact rows_app hM hu hu2 hinf hsize hbytes hz hzs hob hkl2 hs ho c0 hsrc rfl (by rw [mkB_den]; rfl) (by rw [hadd, c0, c1]) (by omega)
                · cases h
            · cases h
          · cases h
    · cases h
  · cases h
end
end Go.Proofs.YtkfjgggiopegbaaDoor
namespace Go.Proofs.YtkfjgggiopegbaaDoor
open Go.RowKit
section
variable {P : Program} {ρ : Env} {G : Gh}
theorem copy_ok {t xt : TypeId} {ty : TypeId} {M M' : Me} {w : World} {d x r : AV} {cs : List SE} {u v : Value} (hM : MR ρ G M w) (h : copyA P t M d x = some (r, M', cs)) (hcs : ∀ c ∈ cs, (c.den ρ).b = true) (hd : VR ρ G d u) (hx : VR ρ G x v) :
    Does P ρ G M w (Builtin.copy_ #[t, xt] ty #[u, v]) r M' := by
  unfold copyA at h
  split at h
  · rename_i el hu
    split at h
    · rename_i n b s off len cap hsz
      cases hb : Nat.beq s (n + 1) with
      | false => rw [hb] at h; cases h
      | true =>
        rw [hb] at h
        simp only [cond_true] at h
        have hb := (beq_iff _ _).1 hb
        subst hb
        split at h
        · rename_i ks e hob ho
          split at h
          · rename_i ks' e' l' cs' hsr
            split at h
            · rename_i heq
              obtain ⟨rfl, rfl⟩ := heq
              cases h
              have c0 := hcs (mkB .eq (mkU .len e) len) (by simp)
              have c1 := hcs (mkB .eq (mkU .len e') len) (by simp)
              rw [eq_b, len_den] at c0 c1
              have c0 := of_decide_eq_true c0
              have c1 := of_decide_eq_true c1
              obtain ⟨hkl, hks, hsrc⟩ := srcRows_ok (P := P) hM.ob hsr (fun c hc => hcs c (by simp [hc])) hx c1
              obtain ⟨g, a, m', c', hg, rfl, hlen', hoff, hmc, hcap, ha, hbd⟩ := hd.sl_inv
              obtain ⟨g', hg', hgo, hks2, hvirt, hreal⟩ := hM.ob _ _ hob
              rw [hg] at hg'; cases hg'
              have e0 : (off.den ρ).i.toNat = 0 := by rw [litN_i ho ρ]; rfl
              rw [e0, Nat.zero_mul, hgo] at ha
              rw [e0, Nat.zero_add] at hbd
              have hl1 : (e'.den ρ).l.length = m' := by omega
              have hl0 : (e.den ρ).l.length = m' := by omega
              rw [hl1] at hsrc
              have hrl := hsrc.len w
              have hrf := hsrc.first w rfl
              have hone := rowVals_one ks' (e'.den ρ).l
              have hnl := hsrc.size
              by_cases hm : m' = 0
              · subst hm
                have hnil : (e'.den ρ).l = [] := List.eq_nil_of_length_eq_zero hl1
                rw [hnil] at hrf
                refine ⟨goInt (0 : Nat), w, G, ?_, ?_, ?_, goInt_ok _ _ (by rw [← c1, hnil]; rfl)⟩
                · cases a <;> simp [Builtin.copy_, run_underlying hu, Sem.run_bind, hrl, size_ok hsz w, hrf, rowVals, storeCells]
                · exact (hM.sameRow hob (by rw [hnil, List.eq_nil_of_length_eq_zero hl0])).1
                · exact (hM.sameRow hob (by rw [hnil, List.eq_nil_of_length_eq_zero hl0])).2
              · have hz0 : g.sz ≠ 0 := fun h => by
                  rw [h] at hbd
                  rcases Nat.mul_eq_zero.1 (Nat.le_zero.1 hbd) with h | h <;> omega
                obtain ⟨arr, tt, hheap, hasz, hfit, hvr⟩ := hreal hz0
                rw [ha (by omega)]
                have hfit2 : 0 + (rowVals ks' (e'.den ρ).l).length ≤ arr.size := by rw [rowVals_length, hl1]; rw [hl0] at hfit; omega
                have hst := storeCells_ok (P := P) hheap hasz (rowVals ks' (e'.den ρ).l) (o := 0) hfit2 hone
                obtain ⟨k1, k2, k3, k4, k5, k6⟩ := setCells_heap g.blk (rowVals ks' (e'.den ρ).l) 0 w
                obtain ⟨h1, h2⟩ := hM.turn (w' := w.setCells g.blk 0 (rowVals ks' (e'.den ρ).l)) (.rows ks' e') hob hg rfl rfl hz0 k2 k3 k4 (Nat.le_of_eq k1.symm) (fun k _ hk => k5 k hk) ⟨hgo, hks2, fun h => absurd h hz0, fun _ => ⟨_, tt, k6 arr _ _ hheap, by rw [setManyV_size]; exact hasz, by rw [setManyV_size, hl1]; rw [hl0] at hfit; exact hfit, row_prefix fun q hq => by
                  rw [setManyV_get _ _ _ _ hfit2, if_pos ⟨Nat.zero_le _, by rw [rowVals_length]; omega⟩, Nat.sub_zero]⟩⟩
                refine ⟨goInt m', _, G, ?_, h1, h2, goInt_ok _ _ (by rw [← c1, hl1])⟩
                simp only [Nat.add_zero] at hst ⊢
                simp [Builtin.copy_, run_underlying hu, Sem.run_bind, hrl, size_ok hsz w, hrf, hst, Nat.min_def]
            · cases h
          · cases h
        · rename_i ds o hob ho
          split at h
          · rename_i l xs hl hsx
            cases hb : (Nat.blt 0 (xs.length / (n + 1)) && (Nat.ble (xs.length / (n + 1)) l && (Nat.beq (xs.length / (n + 1) * (n + 1)) xs.length && (xs.all AV.one && Nat.ble ((o + l) * (n + 1)) ds.length)))) with
            | false => rw [hb] at h; cases h
            | true =>
              rw [hb] at h
              simp only [cond_true] at h
              cases h
              simp only [Bool.and_eq_true, beq_iff] at hb
              obtain ⟨b1, b2, b3, b4, b5⟩ := hb
              have b1 := Nat.le_of_ble_eq_true b1
              have b2 := Nat.le_of_ble_eq_true b2
              have b5 := Nat.le_of_ble_eq_true b5
              obtain ⟨news, hsrc, hnews⟩ := srcCells_ok (P := P) hM.ob hsx hx (Nat.succ_pos n)
              generalize xs.length / (n + 1) = m at *
              obtain ⟨g, a, m', c', hg, rfl, hlen', hoff, hmc, hcap, ha, hbd⟩ := hd.sl_inv
              obtain ⟨g', hg', hgo, arr, tt, hheap, hasz, hfit, hvr⟩ := hM.ob _ _ hob
              rw [hg] at hg'; cases hg'
              have e0 : (off.den ρ).i.toNat = o := by rw [litN_i ho ρ]; rfl
              have e1 : l = m' := by have := litN_i hl ρ; omega
              subst e1
              rw [e0, hgo, Nat.zero_add] at ha
              rw [ha (by omega)]
              have hrl := hsrc.len w
              have hrf := hsrc.first w rfl
              have hone := all_one hnews b4
              have hnl := hsrc.size
              have hfit2 : o * (n + 1) + news.length ≤ arr.size := by
                rw [hnl]
                have : (o + m) * (n + 1) ≤ (o + l) * (n + 1) := Nat.mul_le_mul_right _ (by omega)
                rw [Nat.add_mul] at this
                omega
              have hst := storeCells_ok (P := P) hheap hasz news (o := o * (n + 1)) hfit2 (fun v hv => hone v (by simpa using hv))
              obtain ⟨k1, k2, k3, k4, k5, k6⟩ := setCells_heap g.blk news (o * (n + 1)) w
              have hp := setMany_p xs news ds arr (o * (n + 1)) ⟨hfit, hvr⟩ hnews
              obtain ⟨h1, h2⟩ := hM.turn (.cells (setMany ds (o * (n + 1)) xs)) hob hg rfl rfl trivial k2 k3 k4 (Nat.le_of_eq k1.symm) (fun k _ hk => k5 k hk) ⟨hgo, _, tt, k6 arr _ _ hheap, by rw [setManyV_size]; exact hasz, hp.1, hp.2⟩
              refine ⟨goInt m, _, G, ?_, h1, h2, goInt_ok _ _ rfl⟩
              have hmin : Nat.min m l = m := Nat.min_eq_left b2
              simp [Builtin.copy_, run_underlying hu, Sem.run_bind, hrl, size_ok hsz w, hrf, hst, hmin]
          · cases h
        · cases h
    · cases h
  · cases h
theorem findNow_none {kk : IntKind} {q : Int} (k0 : IntKind) : ∀ (en : List MapEntry) (i : Nat), (∀ m ∈ en, ∃ q', m.key = .int kk q' ∧ q ≠ q') → Instr.findNow (.int k0) (.int kk q) en i = some none
  | [], i, h => rfl
  | m :: r, i, h => by
    obtain ⟨q', hk, hne⟩ := h m (by simp)
    unfold Instr.findNow
    rw [hk]
    have : Instr.sameNow (.int k0) (.int kk q) (.int kk q') = some false := by simp [Instr.sameNow, hne]
    rw [this]
    exact findNow_none k0 r (i + 1) (fun m hm => h m (by simp [hm]))
theorem checkKey_int {kt : TypeId} {k0 kk : IntKind} {q : Int} (hk : P.underlying kt = some (.int k0)) (b : Bool) (w : World) : (Instr.checkKey b 10000 kt (.int kk q)).run P w = .ok () w := by
  unfold Instr.checkKey
  rw [Sem.run_bind, run_underlying hk w]
  rfl
theorem insert_ok {t kt el : TypeId} {k0 kk : IntKind} {q : Int} {M : Me} {w : World} {b : Nat} {es : List (AV × AV)} {v : AV} {x : Value} {g : GI} (hM : MR ρ G M w) (hu : P.underlying t = some (.map kt el)) (hk : P.underlying kt = some (.int k0)) (hob : hget M.hp b = some (.map es)) (hg : G b = some g)
    (hall : es.all (keyNe kk q) = true) (hv : VR ρ G v x) :
    ∃ w', (Instr.mapUpdate t (.map (some g.blk)) (.int kk q) x).run P w = .ok () w' ∧ MR ρ G { M with hp := hset M.hp b (.map (es ++ [(.int kk (.int q), v)])) } w' ∧ Stp ρ G M w G { M with hp := hset M.hp b (.map (es ++ [(.int kk (.int q), v)])) } w' := by
  obtain ⟨g', hg', en, clock, hheap, hsz, hvr⟩ := hM.ob _ _ hob
  rw [hg] at hg'; cases hg'
  have hkeys : ∀ m ∈ en.toList, ∃ q', m.key = .int kk q' ∧ q ≠ q' := by
    intro m hm
    obtain ⟨i, hi⟩ := List.getElem?_of_mem hm
    rw [Array.getElem?_toList] at hi
    have hlt : i < es.length := by rw [← hsz]; exact (Array.getElem?_eq_some_iff.1 hi).1
    have hp := List.all_eq_true.1 hall _ (List.getElem_mem hlt)
    unfold keyNe at hp
    have hr := (hvr i _ m (List.getElem?_eq_getElem hlt) hi).1
    split at hp
    · rename_i kk' q' heq
      rw [heq] at hr
      simp only [Bool.and_eq_true, decide_eq_true_eq, Bool.not_eq_true', decide_eq_false_iff_not] at hp
      refine ⟨q', ?_, hp.2⟩
      rw [hr.int_inv, hp.1]
      rfl
    · cases hp
  have hrun : (Instr.mapUpdate t (.map (some g.blk)) (.int kk q) x).run P w = .ok () { w with heap := w.heap.setIfInBounds g.blk (.map (en.push { key := .int kk q, val := x, born := clock }) (clock + 1)) } := by
    unfold Instr.mapUpdate
    rw [Sem.run_bind, run_underlying hu w, Result.andThen_ok]
    simp only [Sem.run_bind]
    have hget : (getObj g.blk).run P w = .ok (.map en clock) w := by simp [getObj, Sem.run, hheap]
    rw [hget, Result.andThen_ok]
    simp only [Sem.run_bind, checkKey_int hk, Result.andThen_ok, Instr.findKey, run_underlying hk w, findNow_none k0 _ 0 hkeys, Sem.run_pure]
    simp [setObj, Sem.run, hheap]
  have hlt : g.blk < w.heap.size := (Array.getElem?_eq_some_iff.1 hheap).1
  refine ⟨_, hrun, hM.turn _ hob hg rfl rfl trivial rfl rfl rfl (by simp) (fun k _ hk => by simp [Ne.symm hk]) ⟨_, clock + 1, by simp [hlt]; rfl, by simp [hsz], fun i p m hp hm => ?_⟩⟩
  rw [List.getElem?_append] at hp
  rw [Array.getElem?_push] at hm
  split at hp
  · rename_i hil
    rw [if_neg (by omega)] at hm
    exact hvr i p m hp hm
  · rename_i hil
    have hi : i = es.length := by
      have := (List.getElem?_eq_some_iff.1 hp).1
      simp at this
      omega
    subst hi
    rw [if_pos hsz.symm] at hm
    simp at hp hm
    subst hp hm
    exact ⟨.int _ _ _ rfl, hv⟩
theorem lookup_run {t kt el : TypeId} {k0 kk : IntKind} {q : Int} {w : World} {gb : Nat} {en : Array MapEntry} {clock : Nat} {ok : Bool} (hu : P.underlying t = some (.map kt el)) (hk : P.underlying kt = some (.int k0)) (hheap : w.heap[gb]? = some (.map en clock)) {res : Option (Nat × Value)} (hf : Instr.findNow (.int k0) (.int kk q) en.toList 0 = some res) {z : Value} (hz : (zeroValue el).run P w = .ok z w) :
    (Instr.lookup t (.map (some gb)) (.int kk q) ok).run P w = .ok (if ok then .tuple #[(res.map (·.2)).getD z, .bool res.isSome] else (res.map (·.2)).getD z) w := by
  unfold Instr.lookup
  rw [Sem.run_bind, run_underlying hu w, Result.andThen_ok]
  simp only [Sem.run_bind]
  have hget : (getObj gb).run P w = .ok (.map en clock) w := by simp [getObj, Sem.run, hheap]
  rw [hget, Result.andThen_ok]
  simp only [Sem.run_bind, Sem.run_pure, checkKey_int hk, Result.andThen_ok, Instr.findKey, run_underlying hk w, hf]
  cases res with
  | none => simp only [Sem.run_bind, hz, Result.andThen_ok, Sem.run_pure]; cases ok <;> rfl
  | some p => simp only []; cases ok <;> rfl
end
end Go.Proofs.YtkfjgggiopegbaaDoor
end
