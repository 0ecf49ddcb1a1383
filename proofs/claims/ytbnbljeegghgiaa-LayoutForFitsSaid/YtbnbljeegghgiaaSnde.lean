/- What the executor says of the operations that touch no memory is so: the theorem. No program in sight. -/
import Derived.Test.YtbnbljeegghgiaaSndd
namespace Go.Proofs.Ytbnbljeegghgiaa
open Go.RowKit
set_option linter.unusedVariables false
set_option linter.unusedSimpArgs false

section
variable {P : Program} {ρ : Env} {G : Gh}

theorem map1 {α β : Type} {f : α → β} {l : List α} {b : β} (h : l.map f = [b]) : ∃ y, l = [y] ∧ f y = b := by
  cases l with
  | nil => simp at h
  | cons y r => cases r with
    | nil => exact ⟨y, rfl, by simpa using h⟩
    | cons z r => simp at h
theorem map2 {α β : Type} {f : α → β} {l : List α} {b c : β} (h : l.map f = [b, c]) : ∃ y z, l = [y, z] ∧ f y = b ∧ f z = c := by
  cases l with
  | nil => simp at h
  | cons y r =>
    simp only [List.map_cons, List.cons.injEq] at h
    obtain ⟨z, rfl, hz⟩ := map1 h.2
    exact ⟨y, z, rfl, h.1, hz⟩
theorem tup2 {a b : AV} {u v : Value} (h : VR ρ G a u) (k : VR ρ G b v) : VR ρ G (.tup [a, b]) (.tuple #[u, v]) := by
  have := VRs.cons (xs := [b]) (vs := [v]) h (VRs.cons (vs := []) k VRs.nil)
  exact .tup _ _ this.1 this.2

theorem assert_ok {t a : TypeId} {ok : Bool} {x r : AV} {cs : List SE} {u : Value} (w : World) (h : (match P.underlying a, x with
    | some (.interface _), _ => none
    | some _, .iface t v => if t = a then some (if ok then .tup [v, .bool (.bool true)] else v, ([] : List SE)) else if ok then (zeroA P a).map fun z => (.tup [z, .bool (.bool false)], []) else none
    | some _, .nili => if ok then (zeroA P a).map fun z => (.tup [z, .bool (.bool false)], []) else none
    | _, _ => none) = some (r, cs)) (hx : VR ρ G x u) : ∃ z, (Instr.typeAssert u t a ok).run P w = .ok z w ∧ VR ρ G r z := by
  have bt : ∀ b, VR ρ G (.bool (.bool b)) (.bool b) := fun b => .bool _ _ rfl
  split at h
  · cases h
  · rename_i d t' v hni hu
    obtain ⟨u', rfl, hr⟩ := hx.iface_inv
    unfold Instr.typeAssert
    rw [Sem.run_bind, run_underlying hu w, Result.andThen_ok]
    split at h
    · rename_i he
      subst he
      cases h
      cases ok with
      | true =>
        refine ⟨.tuple #[u', .bool true], ?_, tup2 hr (bt true)⟩
        cases d <;> first | (exact (hni _ rfl).elim) | (simp; done) | (simp only [if_true]; rfl)
      | false =>
        refine ⟨u', ?_, hr⟩
        cases d <;> first | (exact (hni _ rfl).elim) | (simp; done) | (simp only [if_true]; rfl)
    · rename_i he
      cases ok with
      | false => cases h
      | true =>
        simp only [if_true] at h
        cases hz : zeroA P a with
        | none => rw [hz] at h; cases h
        | some z =>
          rw [hz] at h
          cases h
          obtain ⟨v0, hv0, hr0⟩ := zero_ok (ρ := ρ) (G := G) hz w
          refine ⟨.tuple #[v0, .bool false], ?_, tup2 hr0 (bt false)⟩
          cases d <;> first | (exact (hni _ rfl).elim) | (simp [he, Sem.run_bind, hv0]; done)
  · rename_i d hni hu
    cases ok with
    | false => cases h
    | true =>
      simp only [if_true] at h
      cases hz : zeroA P a with
      | none => rw [hz] at h; cases h
      | some z =>
        rw [hz] at h
        cases h
        cases hx
        obtain ⟨v0, hv0, hr0⟩ := zero_ok (ρ := ρ) (G := G) hz w
        refine ⟨.tuple #[v0, .bool false], ?_, tup2 hr0 (bt false)⟩
        unfold Instr.typeAssert
        rw [Sem.run_bind, run_underlying hu w, Result.andThen_ok]
        cases d <;> first | (exact (hni _ rfl).elim) | (simp [Sem.run_bind, hv0]; done)
  · cases h

theorem goInt_ok (e : SE) (n : Nat) (h : (e.den ρ).i = n) : VR ρ G (i64 e) (goInt n) := .int _ _ _ h.symm

theorem len_ok {t : TypeId} {x r : AV} {cs : List SE} {u : Value} {ty : TypeId} (w : World) (h : (match P.underlying t, x with
      | some .string, .str s => some (i64 (mkU .slen s), ([] : List SE))
      | some (.array n _), _ => some (i64 (.int n), [])
      | some (.slice _), .sl _ _ _ len _ => some (i64 len, [])
      | some (.slice _), .nils => some (i64 (.int 0), [])
      | _, _ => none) = some (r, cs)) (hx : VR ρ G x u) : ∃ z, (Builtin.len_ #[t] ty #[u]).run P w = .ok z w ∧ VR ρ G r z := by
  unfold Builtin.len_
  simp only [List.getElem?_toArray, List.getElem?_cons_zero]
  split at h
  · rename_i s hu
    cases h
    rw [hx.str_inv]
    refine ⟨goInt (s.den ρ).s.length, ?_, goInt_ok _ _ (by rw [mkU_den]; rfl)⟩
    rw [Sem.run_bind, run_underlying hu w, Result.andThen_ok]
    rfl
  · rename_i n e hu
    cases h
    refine ⟨goInt n, ?_, goInt_ok _ _ rfl⟩
    rw [Sem.run_bind, run_underlying hu w, Result.andThen_ok]
    rfl
  · rename_i e b s off len cap hu
    cases h
    obtain ⟨g, a, n, c, hg, rfl, hlen, _⟩ := hx.sl_inv
    refine ⟨goInt n, ?_, goInt_ok _ _ hlen⟩
    rw [Sem.run_bind, run_underlying hu w, Result.andThen_ok]
    rfl
  · rename_i e hu
    cases h
    cases hx
    refine ⟨goInt 0, ?_, goInt_ok _ _ rfl⟩
    rw [Sem.run_bind, run_underlying hu w, Result.andThen_ok]
    rfl
  · cases h

set_option maxHeartbeats 1000000 in
theorem opV_ok {o : Oper} {ev : Operand → AV} {ec : Operand → Value} {r : AV} {cs : List SE} (w : World) (hev : ∀ x, VR ρ G (ev x) (ec x)) (h : opV P o ev = some (r, cs)) (hcs : ∀ c ∈ cs, (c.den ρ).b = true) :
    ∃ z, (execOp ec o).run P w = .ok (.value z) w ∧ VR ρ G r z := by
  obtain ⟨dst, op, ty, pos, after, guard⟩ := o
  unfold opV at h
  unfold execOp
  simp only at h ⊢
  have fin : ∀ (s : Sem Value), (∃ z, s.run P w = .ok z w ∧ VR ρ G r z) → ∃ z, (do pure (.value (← s)) : Sem Next).run P w = .ok (.value z) w ∧ VR ρ G r z := fun s ⟨z, h1, h2⟩ => ⟨z, lift_ok h1, h2⟩
  cases op with
  | move x => cases h; exact ⟨_, rfl, hev x⟩
  | assign x => cases h; exact ⟨_, rfl, hev x⟩
  | build t parts =>
    simp only at h ⊢
    refine fin _ ?_
    split at h
    · rename_i z fs hz hu; exact build_ok w hev hz hu h
    · rename_i z n e hz hu; exact build_ok w hev hz hu h
    · cases h
  | nilCheck x =>
    simp only at h ⊢
    have hx := hev x
    split at h
    · rename_i b o hv; cases h; rw [hv] at hx; obtain ⟨g, hg, he⟩ := hx.ptr_inv; rw [he]; exact ⟨_, rfl, .ptr _ _ g _ hg rfl⟩
    · rename_i b s i j hv; cases h; rw [hv] at hx; obtain ⟨g, hg, he⟩ := hx.elt_inv; rw [he]; exact ⟨_, rfl, .elt _ _ _ _ g _ hg rfl⟩
    · rename_i f a b hv; cases h; rw [hv] at hx; obtain ⟨vf, vc, he, h1, h2⟩ := hx.func_inv; rw [he]; exact ⟨_, rfl, .func _ _ _ _ _ h1.1 h2.1 h1.2 h2.2⟩
    · cases h
  | binOp op t x y yt =>
    simp only at h ⊢
    obtain ⟨z, h1, h2, h3⟩ := bin_ok w x y h hcs (hev x) (hev y)
    exact fin _ ⟨z, by rw [Sem.run_bind, h1, Result.andThen_ok, h2], h3⟩
  | unOp op t x => exact fin _ (unop_ok w h (hev x))
  | convert s d x => exact fin _ (conv_ok w h (hev x))
  | makeInterface t x =>
    simp only at h ⊢
    refine fin _ ?_
    split at h
    · cases h
    · rename_i d hni hu
      cases h
      refine ⟨.iface t (ec x), ?_, .iface _ _ _ (hev x)⟩
      unfold Instr.makeInterface
      rw [Sem.run_bind, run_underlying hu w, Result.andThen_ok]
      cases d <;> first | rfl | (exact (hni _ rfl).elim)
    · cases h
  | makeFunc fn first cap =>
    cases h
    exact fin _ ⟨_, rfl, .func _ _ _ _ _ (mapEv hev first).1 (mapEv hev cap).1 (mapEv hev first).2 (mapEv hev cap).2⟩
  | fieldAddr t x f => exact fin _ (fieldAt_ok w h (hev x))
  | field t x f => exact fin _ (field_ok w h (hev x))
  | indexAddr t x i => exact fin _ (indexAt_ok w h hcs (hev x) (hev i))
  | index t x i => exact fin _ (index_ok w h hcs (hev x) (hev i))
  | slice t x lo hi mx => exact fin _ (slice_ok w hev h hcs (hev x))
  | extract x i =>
    simp only at h ⊢
    refine fin _ ?_
    have hx := hev x
    split at h
    · rename_i vs hv
      rw [hv] at hx
      obtain ⟨us, he, hus⟩ := hx.tup_inv
      rw [he]
      cases hi : vs[i]? with
      | none => rw [hi] at h; cases h
      | some a =>
        rw [hi] at h
        cases h
        obtain ⟨u, hu, hr⟩ := hus.get hi
        exact ⟨u, by simp [Instr.extract, hu], hr⟩
    · cases h
  | typeAssert x t a ok => exact fin _ (assert_ok w h (hev x))
  | call c =>
    obtain ⟨callee, args, argTypes⟩ := c
    cases callee with
    | builtin b =>
      simp only at h ⊢
      obtain ⟨args⟩ := args
      obtain ⟨argTypes⟩ := argTypes
      simp only at h
      split at h
      · rename_i x t ha
        obtain ⟨y, rfl, rfl⟩ := map1 ha
        obtain ⟨z, hz, hr⟩ := len_ok (ty := ty) w h (hev y)
        refine ⟨z, ?_, hr⟩
        simp [resolve, invoke, builtin, Sem.run_bind, hz]
      · rename_i k a k' b ha
        obtain ⟨y, y', rfl, h1, h2⟩ := map2 ha
        cases h
        have e1 := hev y
        have e2 := hev y'
        rw [h1] at e1
        rw [h2] at e2
        refine ⟨.int k (if (b.den ρ).i < (a.den ρ).i then (b.den ρ).i else (a.den ρ).i), ?_, .int _ _ _ ?_⟩
        · simp [resolve, invoke, builtin, Sem.run_bind, e1.int_inv, e2.int_inv, Builtin.min_, Builtin.min2]
        · rw [mkT_den]
          simp only [evT, lt_b, decide_eq_true_eq]
          split <;> rfl
      · rename_i k a k' b ha
        obtain ⟨y, y', rfl, h1, h2⟩ := map2 ha
        cases h
        have e1 := hev y
        have e2 := hev y'
        rw [h1] at e1
        rw [h2] at e2
        refine ⟨.int k (if (a.den ρ).i < (b.den ρ).i then (b.den ρ).i else (a.den ρ).i), ?_, .int _ _ _ ?_⟩
        · simp [resolve, invoke, builtin, Sem.run_bind, e1.int_inv, e2.int_inv, Builtin.max_, Builtin.max2]
        · rw [mkT_den]
          simp only [evT, lt_b, decide_eq_true_eq]
          split <;> rfl
      · cases h
    | _ => cases h
  | _ => cases h
end
end Go.Proofs.Ytbnbljeegghgiaa
