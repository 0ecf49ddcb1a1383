/- What the executor says of comparisons, arithmetic and the other operations that touch no memory is so. No program in sight. -/
import Derived.Test.YtbnbljeegghgiaaSnda
namespace Go.Proofs.Ytbnbljeegghgiaa
open Go.RowKit
set_option linter.unusedVariables false
set_option linter.unusedSimpArgs false

section
variable {P : Program} {ρ : Env} {G : Gh}

theorem eq_ok : ∀ (f : Nat) (t : TypeId) (x y : AV) (e : SE) (u v : Value) (d : Nat) (w : World), f ≤ d → eqA P f t x y = some e → VR ρ G x u → VR ρ G y v → ∃ b, (Op.equalIn d t u v).run P w = .ok b w ∧ e.den ρ = .bool b := by
  intro f
  induction f with
  | zero => intro t x y e u v d w hd h; cases h
  | succ f ih =>
    intro t x y e u v d w hd h hx hy
    obtain ⟨d, rfl⟩ : ∃ d', d = d' + 1 := ⟨d - 1, by omega⟩
    unfold eqA at h
    split at h
    · rename_i a b hu
      cases h
      rw [hx.bool_inv, hy.bool_inv]
      exact ⟨_, run_equalIn_bool w d t _ _ hu, by rw [mkB_den]; rfl⟩
    · rename_i k0 k a k' b hu
      split at h
      · rename_i hk
        subst hk
        cases h
        rw [hx.int_inv, hy.int_inv]
        exact ⟨_, run_equalIn_int w d t _ _ _ _ hu, by rw [mkB_den]; simp [evB, Bool.beq_eq_decide_eq]⟩
      · cases h
    · rename_i a b hu
      cases h
      rw [hx.str_inv, hy.str_inv]
      exact ⟨_, run_equalIn_string w d t _ _ hu, by rw [mkB_den]; simp [evB, toList_bytesOf, Bool.beq_eq_decide_eq]⟩
    · rename_i fs xs ys hu
      cases hp : P.stoodInHeld t with
      | true => rw [hp] at h; cases h
      | false =>
        rw [hp] at h
        simp only [cond_false] at h
        obtain ⟨us, rfl, hus⟩ := hx.agg_inv
        obtain ⟨vs, rfl, hvs⟩ := hy.agg_inv
        have hfs : P.fieldsOf t = fs := by simp [Program.fieldsOf, hu]
        rw [run_equalIn_struct w d t us vs (by rw [hfs]; exact hu) hp, hfs]
        generalize fs.toList = l at h ⊢
        clear hu hfs hp hx hy
        induction l generalizing e with
        | nil => cases h; exact ⟨true, by simp [Op.eqFields], rfl⟩
        | cons fl r ihl =>
          simp only [List.foldr_cons] at h
          split at h
          · cases h
          · rename_i s hs
            obtain ⟨b', hb', he'⟩ := ihl s hs
            unfold Op.eqFields
            split at h
            · rename_i hn
              cases h
              rw [if_neg (by simpa using hn)]
              exact ⟨b', hb', he'⟩
            · rename_i hn
              rw [if_pos (by simpa using hn)]
              split at h
              · rename_i p q hp hq
                split at h
                · rename_i e1 he1
                  cases h
                  obtain ⟨u1, hu1, hr1⟩ := part_ok hus hp w
                  obtain ⟨v1, hv1, hr2⟩ := part_ok hvs hq w
                  obtain ⟨b1, hb1, hd1⟩ := ih fl.type p q e1 u1 v1 d w (by omega) he1 hr1 hr2
                  simp only [Sem.run_bind, hu1, hv1, hb1, Result.andThen_ok]
                  cases b1 with
                  | false => exact ⟨false, by simp, by rw [mkB_den, hd1, he']; rfl⟩
                  | true => exact ⟨b', by simpa using hb', by rw [mkB_den, hd1, he']; rfl⟩
                · cases h
              · cases h
    · cases h

theorem equal_eq (t : TypeId) (u v : Value) : Op.equal t u v = Op.equalIn 10000 t u v := rfl
theorem equalIn_ni {t : TypeId} {ms : Array (String × TypeId)} (hu : P.underlying t = some (.interface ms)) (d : Nat) (t' : TypeId) (u : Value) (w : World) : (Op.equalIn (d + 1) t .nilIface (.iface t' u)).run P w = .ok false w ∧ (Op.equalIn (d + 1) t (.iface t' u) .nilIface).run P w = .ok false w := by
  unfold Op.equalIn
  constructor <;> (rw [Sem.run_bind, run_underlying hu w]; rfl)
theorem equalIn_ns {t e : TypeId} (hu : P.underlying t = some (.slice e)) (d : Nat) (w : World) : (Op.equalIn (d + 1) t (.slice none 0 0) (.slice none 0 0)).run P w = .ok true w := by
  unfold Op.equalIn
  rw [Sem.run_bind, run_underlying hu w]; rfl
theorem guard_int (op : BinOp) (t : TypeId) (ox oy : Operand) (k k' : IntKind) (a b : Int) (w : World) : (eqGuard op t ox oy (.int k a) (.int k' b)).run P w = .ok () w := by cases op <;> rfl
theorem guard_str (op : BinOp) (t : TypeId) (ox oy : Operand) (a b : ByteArray) (w : World) : (eqGuard op t ox oy (.string a) (.string b)).run P w = .ok () w := by cases op <;> rfl
theorem guard_bool (op : BinOp) (t : TypeId) (ox oy : Operand) (a b : Bool) (w : World) : (eqGuard op t ox oy (.bool a) (.bool b)).run P w = .ok () w := by cases op <;> rfl
theorem guard_ni (op : BinOp) (t : TypeId) (ox oy : Operand) (t' : TypeId) (u : Value) (w : World) : (eqGuard op t ox oy .nilIface (.iface t' u)).run P w = .ok () w ∧ (eqGuard op t ox oy (.iface t' u) .nilIface).run P w = .ok () w := by cases op <;> exact ⟨rfl, rfl⟩
theorem guard_ns (op : BinOp) (t : TypeId) (ox oy : Operand) (w : World) : (eqGuard op t ox oy (.slice none 0 0) (.slice none 0 0)).run P w = .ok () w := by cases op <;> rfl

/-- What eqlA may compare: the values' forms, by which '==' goes through Op.equal. -/
theorem eql_ok {t : TypeId} {x y : AV} {e : SE} {u v : Value} (w : World) (ox oy : Operand) (h : eqlA P t x y = some e) (hx : VR ρ G x u) (hy : VR ρ G y v) (hnI : ∀ k a k' b, ¬ (x = .int k a ∧ y = .int k' b)) (hnS : ∀ a b, ¬ (x = .str a ∧ y = .str b)) :
    ∃ b, (∀ op, (eqGuard op t ox oy u v).run P w = .ok () w) ∧ (binOp .eql t u v).run P w = .ok (.bool b) w ∧ (binOp .neq t u v).run P w = .ok (.bool (!b)) w ∧ e.den ρ = .bool b := by
  unfold eqlA at h
  split at h
  · rename_i cs ds
    cases hq : P.eqGuardType P.depth t with
    | true => rw [hq] at h; cases h
    | false =>
      rw [hq] at h
      simp only [cond_false] at h
      obtain ⟨b, hb, he⟩ := eq_ok 20 t _ _ e u v 10000 w (by omega) h hx hy
      obtain ⟨us, rfl, _⟩ := hx.agg_inv
      obtain ⟨vs, rfl, _⟩ := hy.agg_inv
      exact ⟨b, fun op => run_eqGuard_agg w op _ _ _ _ _ hq, by rw [run_eql_struct, hb]; rfl, by rw [run_neq_struct, hb]; rfl, he⟩
  · cases h
  · rename_i t' a
    split at h
    · rename_i hu
      cases h
      cases hx
      obtain ⟨u', rfl, _⟩ := hy.iface_inv
      have hb := (equalIn_ni hu 9999 t' u' w).1
      exact ⟨false, fun op => (guard_ni op t ox oy t' u' w).1, by simp only [binOp, Sem.run_bind, equal_eq, hb]; rfl, by simp only [binOp, Sem.run_bind, equal_eq, hb]; rfl, rfl⟩
    · cases h
  · rename_i t' a
    split at h
    · rename_i hu
      cases h
      cases hy
      obtain ⟨u', rfl, _⟩ := hx.iface_inv
      have hb := (equalIn_ni hu 9999 t' u' w).2
      exact ⟨false, fun op => (guard_ni op t ox oy _ u' w).2, by simp only [binOp, Sem.run_bind, equal_eq, hb]; rfl, by simp only [binOp, Sem.run_bind, equal_eq, hb]; rfl, rfl⟩
    · cases h
  · split at h
    · rename_i hu
      cases h
      cases hy
      cases hx
      have hb := equalIn_ns hu 9999 w
      exact ⟨true, fun op => guard_ns op t ox oy w, by simp only [binOp, Sem.run_bind, equal_eq, hb]; rfl, by simp only [binOp, Sem.run_bind, equal_eq, hb]; rfl, rfl⟩
    · cases h
  · rename_i h1 h2 h3 h4 h5
    have h0 := h
    unfold eqA at h
    split at h
    · obtain ⟨b, hb, he⟩ := eq_ok 1 t _ _ e u v 10000 w (by omega) h0 hx hy
      rw [hx.bool_inv, hy.bool_inv] at hb ⊢
      exact ⟨b, fun op => guard_bool op t ox oy _ _ w, by simp only [binOp, Sem.run_bind, equal_eq, hb]; rfl, by simp only [binOp, Sem.run_bind, equal_eq, hb]; rfl, he⟩
    · exact absurd ⟨rfl, rfl⟩ (hnI _ _ _ _)
    · exact absurd ⟨rfl, rfl⟩ (hnS _ _)
    · exact absurd rfl (fun e => h1 _ _ rfl e)
    · cases h

theorem le_b (a b : SE) : ((mkB .le a b).den ρ).b = decide ((a.den ρ).i ≤ (b.den ρ).i) := by rw [mkB_den]; rfl
theorem eq_b (a b : SE) : ((mkB .eq a b).den ρ).b = decide ((a.den ρ).i = (b.den ρ).i) := by rw [mkB_den]; rfl
theorem not_b (a : SE) : ((mkU .not a).den ρ).b = !(a.den ρ).b := by rw [mkU_den]; rfl
theorem lt_b (a b : SE) : ((ltE a b).den ρ).b = decide ((a.den ρ).i < (b.den ρ).i) := by
  unfold ltE
  rw [not_b, le_b, ← decide_not]
  congr 1
  simp
theorem int_i (n : Int) : ((SE.int n).den ρ).i = n := rfl
theorem bytesOf_append (a b : List UInt8) : bytesOf a ++ bytesOf b = bytesOf (a ++ b) := by
  apply ByteArray.ext
  simp [bytesOf, ByteArray.data_append]

theorem run_arith (op : BinOp) (t : TypeId) (k : IntKind) (a b : Int) (w : World) :
    (binOp .add t (.int k a) (.int k b)).run P w = .ok (.int k (k.wrap (a + b))) w ∧ (binOp .sub t (.int k a) (.int k b)).run P w = .ok (.int k (k.wrap (a - b))) w ∧ (binOp .mul t (.int k a) (.int k b)).run P w = .ok (.int k (k.wrap (a * b))) w ∧
    (b ≠ 0 → (binOp .quo t (.int k a) (.int k b)).run P w = .ok (.int k (k.wrap (a.tdiv b))) w) ∧ (b ≠ 0 → (binOp .rem t (.int k a) (.int k b)).run P w = .ok (.int k (a.tmod b)) w) := by
  refine ⟨by simp [binOp, Op.intArith], by simp [binOp, Op.intArith], by simp [binOp, Op.intArith], fun h => by simp [binOp, Op.intDiv, h], fun h => by simp [binOp, Op.intDiv, h]⟩
theorem run_bits (t : TypeId) (k : IntKind) (a b : Int) (w : World) :
    (binOp .and t (.int k a) (.int k b)).run P w = .ok (.int k (k.wrap (BitVec.ofInt k.bits a &&& BitVec.ofInt k.bits b).toNat)) w ∧ (binOp .or t (.int k a) (.int k b)).run P w = .ok (.int k (k.wrap (BitVec.ofInt k.bits a ||| BitVec.ofInt k.bits b).toNat)) w ∧
    (binOp .xor t (.int k a) (.int k b)).run P w = .ok (.int k (k.wrap (BitVec.ofInt k.bits a ^^^ BitVec.ofInt k.bits b).toNat)) w ∧ (binOp .andNot t (.int k a) (.int k b)).run P w = .ok (.int k (k.wrap (BitVec.ofInt k.bits a &&& ~~~ BitVec.ofInt k.bits b).toNat)) w := by
  refine ⟨?_, ?_, ?_, ?_⟩ <;> (simp only [binOp, ne_eq, not_true_eq_false, if_false]; rfl)
theorem run_cmp (t : TypeId) (k : IntKind) (a b : Int) (w : World) :
    (binOp .eql t (.int k a) (.int k b)).run P w = .ok (.bool (decide (a = b))) w ∧ (binOp .neq t (.int k a) (.int k b)).run P w = .ok (.bool (!decide (a = b))) w ∧ (binOp .lss t (.int k a) (.int k b)).run P w = .ok (.bool (decide (a < b))) w ∧
    (binOp .leq t (.int k a) (.int k b)).run P w = .ok (.bool (decide (a ≤ b))) w ∧ (binOp .gtr t (.int k a) (.int k b)).run P w = .ok (.bool (decide (b < a))) w ∧ (binOp .geq t (.int k a) (.int k b)).run P w = .ok (.bool (decide (b ≤ a))) w := by
  refine ⟨?_, ?_, ?_, ?_, ?_, ?_⟩ <;> (simp only [binOp, ne_eq, not_true_eq_false, if_false, Op.intCmp, bne, Bool.beq_eq_decide_eq]; rfl)
theorem run_sh (t : TypeId) (k k' : IntKind) (a b : Int) (hb : 0 ≤ b) (w : World) :
    (binOp .shl t (.int k a) (.int k' b)).run P w = .ok (.int k (k.wrap (a * 2 ^ (min b.toNat k.bits)))) w ∧ (binOp .shr t (.int k a) (.int k' b)).run P w = .ok (.int k (a.fdiv (2 ^ (min b.toNat k.bits)))) w := by
  refine ⟨?_, ?_⟩ <;> (simp only [binOp, Op.shift, if_neg (Int.not_lt.2 hb)]; rfl)
theorem run_sops (t : TypeId) (a b : List UInt8) (w : World) :
    ((a.length : Int) + b.length ≤ 9223372036854775807 → (binOp .add t (.string (bytesOf a)) (.string (bytesOf b))).run P w = .ok (.string (bytesOf (a ++ b))) w) ∧ (binOp .eql t (.string (bytesOf a)) (.string (bytesOf b))).run P w = .ok (.bool (decide (a = b))) w ∧
    (binOp .neq t (.string (bytesOf a)) (.string (bytesOf b))).run P w = .ok (.bool (!decide (a = b))) w ∧ (binOp .lss t (.string (bytesOf a)) (.string (bytesOf b))).run P w = .ok (.bool (Op.bytesLess a b)) w := by
  refine ⟨fun h => ?_, ?_, ?_, ?_⟩
  · have hm : IntKind.i64.max = 9223372036854775807 := by decide
    simp only [binOp, Op.stringOp, size_bytesOf, hm, bytesOf_append]
    rw [if_neg (by omega)]
    rfl
  all_goals (simp only [binOp, Op.stringOp, toList_bytesOf, Bool.beq_eq_decide_eq]; rfl)

set_option maxHeartbeats 1000000 in
theorem bin_ok {op : BinOp} {t : TypeId} {x y r : AV} {cs : List SE} {u v : Value} (w : World) (ox oy : Operand) (h : binA P op t x y = some (r, cs)) (hcs : ∀ c ∈ cs, (c.den ρ).b = true) (hx : VR ρ G x u) (hy : VR ρ G y v) :
    ∃ z, (eqGuard op t ox oy u v).run P w = .ok () w ∧ (binOp op t u v).run P w = .ok z w ∧ VR ρ G r z := by
  unfold binA at h
  split at h
  · rename_i k a k' b
    cases h
    rw [hx.int_inv, hy.int_inv]
    have := hcs _ (List.mem_singleton.2 rfl)
    rw [le_b, int_i] at this
    exact ⟨_, guard_int _ _ _ _ _ _ _ _ w, (run_sh t k k' _ _ (of_decide_eq_true this) w).1, .int _ _ _ (by rw [mkB_den]; rfl)⟩
  · rename_i k a k' b
    cases h
    rw [hx.int_inv, hy.int_inv]
    have := hcs _ (List.mem_singleton.2 rfl)
    rw [le_b, int_i] at this
    exact ⟨_, guard_int _ _ _ _ _ _ _ _ w, (run_sh t k k' _ _ (of_decide_eq_true this) w).2, .int _ _ _ (by rw [mkB_den]; rfl)⟩
  · rename_i k a k' b hne1 hne2
    split at h
    · rename_i hk
      subst hk
      rw [hx.int_inv, hy.int_inv]
      have hnz : ((mkU .not (mkB .eq b (.int 0))).den ρ).b = true → (b.den ρ).i ≠ 0 := fun h => by
        rw [not_b, eq_b, int_i] at h
        simpa using h
      have ar := run_arith (P := P) .add t k (a.den ρ).i (b.den ρ).i w
      have bi := run_bits (P := P) t k (a.den ρ).i (b.den ρ).i w
      have cm := run_cmp (P := P) t k (a.den ρ).i (b.den ρ).i w
      split at h
      · cases h; exact ⟨_, guard_int _ _ _ _ _ _ _ _ w, ar.1, .int _ _ _ (by rw [mkU_den, mkB_den]; rfl)⟩
      · cases h; exact ⟨_, guard_int _ _ _ _ _ _ _ _ w, ar.2.1, .int _ _ _ (by rw [mkU_den, mkB_den]; rfl)⟩
      · cases h; exact ⟨_, guard_int _ _ _ _ _ _ _ _ w, ar.2.2.1, .int _ _ _ (by rw [mkU_den, mkB_den]; rfl)⟩
      · cases h; exact ⟨_, guard_int _ _ _ _ _ _ _ _ w, ar.2.2.2.1 (hnz (hcs _ (List.mem_singleton.2 rfl))), .int _ _ _ (by rw [mkU_den, mkB_den]; rfl)⟩
      · cases h; exact ⟨_, guard_int _ _ _ _ _ _ _ _ w, ar.2.2.2.2 (hnz (hcs _ (List.mem_singleton.2 rfl))), .int _ _ _ (by rw [mkB_den]; rfl)⟩
      · cases h; exact ⟨_, guard_int _ _ _ _ _ _ _ _ w, bi.1, .int _ _ _ (by rw [mkB_den]; rfl)⟩
      · cases h; exact ⟨_, guard_int _ _ _ _ _ _ _ _ w, bi.2.1, .int _ _ _ (by rw [mkB_den]; rfl)⟩
      · cases h; exact ⟨_, guard_int _ _ _ _ _ _ _ _ w, bi.2.2.1, .int _ _ _ (by rw [mkB_den]; rfl)⟩
      · cases h; exact ⟨_, guard_int _ _ _ _ _ _ _ _ w, bi.2.2.2, .int _ _ _ (by rw [mkB_den]; rfl)⟩
      · cases h; exact ⟨_, guard_int _ _ _ _ _ _ _ _ w, cm.1, .bool _ _ (by rw [eq_b])⟩
      · cases h; exact ⟨_, guard_int _ _ _ _ _ _ _ _ w, cm.2.1, .bool _ _ (by rw [not_b, eq_b])⟩
      · cases h; exact ⟨_, guard_int _ _ _ _ _ _ _ _ w, cm.2.2.1, .bool _ _ (by rw [lt_b])⟩
      · cases h; exact ⟨_, guard_int _ _ _ _ _ _ _ _ w, cm.2.2.2.1, .bool _ _ (by rw [le_b])⟩
      · cases h; exact ⟨_, guard_int _ _ _ _ _ _ _ _ w, cm.2.2.2.2.1, .bool _ _ (by rw [lt_b])⟩
      · cases h; exact ⟨_, guard_int _ _ _ _ _ _ _ _ w, cm.2.2.2.2.2, .bool _ _ (by rw [le_b])⟩
      · cases h
    · cases h
  · rename_i a b
    rw [hx.str_inv, hy.str_inv]
    have so := run_sops (P := P) t (a.den ρ).s (b.den ρ).s w
    split at h
    · cases h
      have := hcs _ (List.mem_singleton.2 rfl)
      rw [le_b, int_i, mkB_den, mkU_den, mkU_den] at this
      exact ⟨_, guard_str _ _ _ _ _ _ w, so.1 (of_decide_eq_true this), .str _ _ (by rw [mkB_den]; rfl)⟩
    · cases h; exact ⟨_, guard_str _ _ _ _ _ _ w, so.2.1, .bool _ _ (by rw [mkB_den]; rfl)⟩
    · cases h; exact ⟨_, guard_str _ _ _ _ _ _ w, so.2.2.1, .bool _ _ (by rw [mkU_den, mkB_den]; rfl)⟩
    · cases h; exact ⟨_, guard_str _ _ _ _ _ _ w, so.2.2.2, .bool _ _ (by rw [mkB_den]; rfl)⟩
    · cases h
  · rename_i hn1 hn2
    cases he : eqlA P t x y with
    | none => rw [he] at h; cases h
    | some e =>
      rw [he] at h
      cases h
      obtain ⟨b, h1, h2, h3, h4⟩ := eql_ok w ox oy he hx hy (fun k a k' b hh => hn1 _ _ _ _ hh.1 hh.2) (fun a b hh => hn2 _ _ hh.1 hh.2)
      exact ⟨.bool b, h1 _, h2, .bool _ _ (by rw [h4]; rfl)⟩
  · rename_i hn1 hn2
    cases he : eqlA P t x y with
    | none => rw [he] at h; cases h
    | some e =>
      rw [he] at h
      cases h
      obtain ⟨b, h1, h2, h3, h4⟩ := eql_ok w ox oy he hx hy (fun k a k' b hh => hn1 _ _ _ _ hh.1 hh.2) (fun a b hh => hn2 _ _ hh.1 hh.2)
      exact ⟨.bool (!b), h1 _, h3, .bool _ _ (by rw [not_b, h4]; rfl)⟩
  · cases h
end
end Go.Proofs.Ytbnbljeegghgiaa
