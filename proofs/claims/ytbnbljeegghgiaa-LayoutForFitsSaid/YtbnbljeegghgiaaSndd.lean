/- What the executor says of the operations that touch no memory is so: all of them. No program in sight. -/
import Derived.Test.YtbnbljeegghgiaaSndc
namespace Go.Proofs.Ytbnbljeegghgiaa
open Go.RowKit
set_option linter.unusedVariables false
set_option linter.unusedSimpArgs false

section
variable {P : Program} {ρ : Env} {G : Gh}

theorem lift_ok {s : Sem Value} {u : Value} {w : World} (h : s.run P w = .ok u w) : (do pure (.value (← s)) : Sem Next).run P w = .ok (.value u) w := by
  rw [Sem.run_bind, h]; rfl

theorem unop_ok {op : UnOp} {x r : AV} {cs : List SE} {u : Value} (w : World) (h : (match op, x with
    | .neg, .int k e => some (.int k (mkU (.wrap k) (mkB .sub (.int 0) e)), ([] : List SE))
    | .xor, .int k e => some (.int k (mkB (.bxor k) (.int (if k.signed then -1 else k.max)) e), [])
    | .not, .bool e => some (.bool (mkU .not e), [])
    | _, _ => none) = some (r, cs)) (hx : VR ρ G x u) : ∃ z, (Op.unary op u).run P w = .ok z w ∧ VR ρ G r z := by
  split at h
  · cases h; rw [hx.int_inv]; exact ⟨_, rfl, .int _ _ _ (by rw [mkU_den, mkB_den]; rfl)⟩
  · cases h; rw [hx.int_inv]; exact ⟨_, rfl, .int _ _ _ (by rw [mkB_den]; rfl)⟩
  · cases h; rw [hx.bool_inv]; exact ⟨_, rfl, .bool _ _ (by rw [mkU_den]; rfl)⟩
  · cases h

theorem conv_ok {s d : TypeId} {x r : AV} {cs : List SE} {u : Value} (w : World) (h : (match P.underlying s, P.underlying d, x with
    | some _, some (.int k), .int _ e => some (.int k (mkU (.wrap k) e), ([] : List SE))
    | some _, some .string, .str e => some (.str e, [])
    | _, _, _ => none) = some (r, cs)) (hx : VR ρ G x u) : ∃ z, (convert s d u).run P w = .ok z w ∧ VR ρ G r z := by
  split at h
  · rename_i ds k k' e h1 h2
    cases h
    rw [hx.int_inv]
    refine ⟨.int k (k.wrap (e.den ρ).i), ?_, .int _ _ _ (by rw [mkU_den]; rfl)⟩
    unfold convert
    rw [Sem.run_bind, run_underlying h1 w, Result.andThen_ok, Sem.run_bind, run_underlying h2 w, Result.andThen_ok]
    cases ds <;> rfl
  · rename_i ds e h1 h2
    cases h
    rw [hx.str_inv]
    refine ⟨.string (bytesOf (e.den ρ).s), ?_, .str _ _ rfl⟩
    unfold convert
    rw [Sem.run_bind, run_underlying h1 w, Result.andThen_ok, Sem.run_bind, run_underlying h2 w, Result.andThen_ok]
    cases ds <;> rfl
  · cases h

theorem fieldPlace_ok {f : Field} {n : Nat} (h : sizeB P f.type = some (n + 1)) (b o : Nat) (w : World) : (fieldPlace ⟨b, o, none⟩ f).run P w = .ok ⟨b, o + f.offset, none⟩ w := by
  unfold fieldPlace
  rw [Sem.run_bind, size_ok h w, Result.andThen_ok, if_neg (by omega)]
  simp [Addr.add]

theorem fieldAt_ok {t : TypeId} {x r : AV} {f : Nat} {cs : List SE} {u : Value} (w : World) (h : (match P.underlying t with
    | some (.struct fs) =>
      (match fs[f]? with
      | some fl => (match sizeB P fl.type, x with
        | some (_ + 1), .ptr b o => some (.ptr b (o + fl.offset), ([] : List SE))
        | some (_ + 1), .elt b s i j => some (.elt b s i (j + fl.offset), [])
        | _, _ => none)
      | none => none)
    | _ => none) = some (r, cs)) (hx : VR ρ G x u) : ∃ z, (Instr.fieldAt t u f).run P w = .ok z w ∧ VR ρ G r z := by
  split at h
  · rename_i fs hu
    split at h
    · rename_i fl hf
      unfold Instr.fieldAt
      rw [Sem.run_bind, run_underlying hu w, Result.andThen_ok]
      simp only [hf]
      split at h
      · rename_i n b o hs
        cases h
        obtain ⟨g, hg, rfl⟩ := hx.ptr_inv
        refine ⟨.pointer (some ⟨g.blk, g.off + o + fl.offset, none⟩), ?_, .ptr _ _ g _ hg (by rw [Nat.add_assoc])⟩
        rw [Sem.run_bind]
        show ((fieldPlace _ fl >>= fun a => pure (.pointer (some a)) : Sem Value)).run P w = _
        rw [Sem.run_bind, fieldPlace_ok hs]
        rfl
      · rename_i n b s i j hs
        cases h
        obtain ⟨g, hg, rfl⟩ := hx.elt_inv
        refine ⟨.pointer (some ⟨g.blk, g.off + (i.den ρ).i.toNat * s + j + fl.offset, none⟩), ?_, .elt _ _ _ _ g _ hg (by rw [Nat.add_assoc])⟩
        rw [Sem.run_bind]
        show ((fieldPlace _ fl >>= fun a => pure (.pointer (some a)) : Sem Value)).run P w = _
        rw [Sem.run_bind, fieldPlace_ok hs]
        rfl
      · cases h
    · cases h
  · cases h

theorem field_ok {t : TypeId} {x r : AV} {f : Nat} {cs : List SE} {u : Value} (w : World) (h : (match P.underlying t, x with
    | some (.struct fs), .agg cs => (match fs[f]? with | some fl => (partA P fl.type cs fl.offset).map fun v => (v, ([] : List SE)) | none => none)
    | _, _ => none) = some (r, cs)) (hx : VR ρ G x u) : ∃ z, (Instr.field t u f).run P w = .ok z w ∧ VR ρ G r z := by
  split at h
  · rename_i fs ds hu
    split at h
    · rename_i fl hf
      cases hp : partA P fl.type ds fl.offset with
      | none => rw [hp] at h; cases h
      | some v =>
        rw [hp] at h
        cases h
        obtain ⟨vs, rfl, hvs⟩ := hx.agg_inv
        obtain ⟨z, hz, hr⟩ := part_ok hvs hp w
        refine ⟨z, ?_, hr⟩
        unfold Instr.field
        rw [Sem.run_bind, run_underlying hu w, Result.andThen_ok]
        simp only [hf, asAgg, Sem.run_bind, Sem.run_pure, Result.andThen_ok]
        exact hz
    · cases h
  · cases h

theorem addr_add (b o n : Nat) : (⟨b, o, none⟩ : Addr).add n = ⟨b, o + n, none⟩ := by
  unfold Addr.add; split <;> simp_all

theorem asIntOf_ok (k : IntKind) (n : Int) (w : World) : (asIntOf (.int k n)).run P w = .ok (k, n) w := rfl

theorem indexAt_ok {t : TypeId} {x i r : AV} {cs : List SE} {u v : Value} (w : World) (h : (match P.underlying t, x, i with
    | some (.slice el), .sl b s off len _, .int _ e =>
      (match sizeB P el with
      | some n => bif Nat.beq n s then
          (match litN (mkB .add off e) with
          | some q => some (.ptr b (q * s), [mkB .le (.int 0) e, ltE e len])
          | none => some (.elt b s (mkB .add off e) 0, [mkB .le (.int 0) e, ltE e len])) else none
      | none => none)
    | some (.array n el), .ptr b o, .int _ e =>
      (match sizeB P el, litN e with
      | some s, some q => bif Nat.blt q n then some (.ptr b (o + q * s), []) else none
      | _, _ => none)
    | _, _, _ => none) = some (r, cs)) (hcs : ∀ c ∈ cs, (c.den ρ).b = true) (hx : VR ρ G x u) (hi : VR ρ G i v) : ∃ z, (Instr.indexAt t u v).run P w = .ok z w ∧ VR ρ G r z := by
  split at h
  · rename_i el b s off len cap k e hu
    cases hs : sizeB P el with
    | none => rw [hs] at h; cases h
    | some n =>
      rw [hs] at h
      simp only at h
      cases hb : Nat.beq n s with
      | false => rw [hb] at h; cases h
      | true =>
        rw [hb] at h
        have hn : n = s := (beq_iff _ _).1 hb
        subst hn
        simp only [cond_true] at h
        obtain ⟨g, a, m, c, hg, rfl, hlen, hoff, hmc, hcap, ha, hbd⟩ := hx.sl_inv
        rw [hi.int_inv]
        have hc2 : 0 ≤ (e.den ρ).i ∧ (e.den ρ).i < (len.den ρ).i := by
          have h1 : ((mkB .le (.int 0) e).den ρ).b = true := hcs _ (by split at h <;> (cases h; simp))
          have h2 : ((ltE e len).den ρ).b = true := hcs _ (by split at h <;> (cases h; simp))
          rw [le_b, int_i] at h1
          rw [lt_b] at h2
          exact ⟨of_decide_eq_true h1, of_decide_eq_true h2⟩
        have hlt : (e.den ρ).i < m := by rw [← hlen]; exact hc2.2
        have hm0 : 0 < c := by omega
        rw [ha hm0]
        have hsum : ((mkB .add off e).den ρ).i = (off.den ρ).i + (e.den ρ).i := by rw [mkB_den]; rfl
        have hnat : ((mkB .add off e).den ρ).i.toNat = (off.den ρ).i.toNat + (e.den ρ).i.toNat := by rw [hsum]; omega
        have hrun : (Instr.indexAt t (.slice (some ⟨g.blk, g.off + (off.den ρ).i.toNat * n, none⟩) m c) (.int k (e.den ρ).i)).run P w = .ok (.pointer (some ⟨g.blk, g.off + ((mkB .add off e).den ρ).i.toNat * n, none⟩)) w := by
          unfold Instr.indexAt
          rw [Sem.run_bind, asIntOf_ok, Result.andThen_ok]
          simp only [Sem.run_bind, run_underlying hu w, Result.andThen_ok, Sem.run_pure]
          rw [if_pos ⟨hc2.1, hlt⟩]
          simp only [Sem.run_bind, size_ok hs w, Result.andThen_ok, Sem.run_pure, addr_add, hnat]
          rw [Nat.add_mul, Nat.add_assoc]
        split at h
        · rename_i q hq
          cases h
          have hqn := litN_i hq ρ
          refine ⟨_, hrun, .ptr _ _ g _ hg ?_⟩
          rw [hqn]; rfl
        · cases h
          exact ⟨_, hrun, .elt _ _ _ _ g _ hg rfl⟩
  · rename_i n el b o k e hu
    split at h
    · rename_i s q hs hq
      cases hb : Nat.blt q n with
      | false => rw [hb] at h; cases h
      | true =>
        rw [hb] at h
        simp only [cond_true] at h
        cases h
        obtain ⟨g, hg, rfl⟩ := hx.ptr_inv
        rw [hi.int_inv, litN_i hq ρ]
        have hlt : q < n := Nat.le_of_ble_eq_true hb
        refine ⟨.pointer (some ⟨g.blk, g.off + o + q * s, none⟩), ?_, .ptr _ _ g _ hg (by rw [Nat.add_assoc])⟩
        unfold Instr.indexAt
        rw [Sem.run_bind, asIntOf_ok, Result.andThen_ok]
        simp only [Sem.run_bind, run_underlying hu w, Result.andThen_ok, Sem.run_pure, Instr.sureAddr]
        rw [if_pos ⟨by omega, by omega⟩]
        simp only [Sem.run_bind, size_ok hs w, Result.andThen_ok, Sem.run_pure, addr_add, Int.toNat_natCast]
    · cases h
  · cases h

theorem index_ok {t : TypeId} {x i r : AV} {cs : List SE} {u v : Value} (w : World) (h : (match P.underlying t, x, i with
    | some (.array n el), .agg cs, .int _ e =>
      (match sizeB P el, litN e with
      | some s, some q => bif Nat.blt q n then (partA P el cs (q * s)).map fun v => (v, ([] : List SE)) else none
      | _, _ => none)
    | some .string, .str s, .int _ e => some (.int .u8 (mkB .byte s e), [mkB .le (.int 0) e, ltE e (mkU .slen s)])
    | _, _, _ => none) = some (r, cs)) (hcs : ∀ c ∈ cs, (c.den ρ).b = true) (hx : VR ρ G x u) (hi : VR ρ G i v) : ∃ z, (Instr.index t u v).run P w = .ok z w ∧ VR ρ G r z := by
  split at h
  · rename_i n el ds k e hu
    split at h
    · rename_i s q hs hq
      cases hb : Nat.blt q n with
      | false => rw [hb] at h; cases h
      | true =>
        rw [hb] at h
        simp only [cond_true] at h
        cases hp : partA P el ds (q * s) with
        | none => rw [hp] at h; cases h
        | some z0 =>
          rw [hp] at h
          cases h
          obtain ⟨vs, rfl, hvs⟩ := hx.agg_inv
          rw [hi.int_inv, litN_i hq ρ]
          have hlt : q < n := Nat.le_of_ble_eq_true hb
          obtain ⟨z, hz, hr⟩ := part_ok hvs hp w
          refine ⟨z, ?_, hr⟩
          unfold Instr.index
          rw [Sem.run_bind, asIntOf_ok, Result.andThen_ok, Sem.run_bind, run_underlying hu w, Result.andThen_ok]
          simp only
          rw [if_pos ⟨by omega, by omega⟩]
          simp only [Sem.run_bind, size_ok hs w, Result.andThen_ok, Int.toNat_natCast]
          exact hz
    · cases h
  · rename_i s k e hu
    cases h
    rw [hx.str_inv, hi.int_inv]
    have h1 := hcs (mkB .le (.int 0) e) (by simp)
    have h2 := hcs (ltE e (mkU .slen s)) (by simp)
    rw [le_b, int_i] at h1
    rw [lt_b, mkU_den] at h2
    have h1 : 0 ≤ (e.den ρ).i := of_decide_eq_true h1
    have h2 : (e.den ρ).i < (s.den ρ).s.length := of_decide_eq_true h2
    have hlt : (e.den ρ).i.toNat < (s.den ρ).s.length := by omega
    refine ⟨.int .u8 ((s.den ρ).s[(e.den ρ).i.toNat]).toNat, ?_, .int _ _ _ ?_⟩
    · unfold Instr.index
      rw [Sem.run_bind, asIntOf_ok, Result.andThen_ok, Sem.run_bind, run_underlying hu w, Result.andThen_ok]
      simp only [if_pos h1]
      have : (bytesOf (s.den ρ).s)[(e.den ρ).i.toNat]? = some ((s.den ρ).s[(e.den ρ).i.toNat]) := by
        rw [getElem?_pos _ _ (by rw [size_bytesOf]; exact hlt)]
        rfl
      rw [this]
      rfl
    · rw [mkB_den]
      show _ = (((s.den ρ).s[(e.den ρ).i.toNat]?.getD 0).toNat : Int)
      rw [List.getElem?_eq_getElem hlt]
      rfl
  · cases h

/-- The bounds as the model computes them, without a third index. -/
theorem bounds_ok {lo hi : Option AV} {vl vh : Option Value} {len cap : Nat} {d h l hiB : SE} {c1 c2 : List SE} (isS : Bool) (w : World) (h1 : boundA hi d hiB = some (h, c1)) (h2 : boundA lo (.int 0) h = some (l, c2)) (hc1 : ∀ c ∈ c1, (c.den ρ).b = true) (hc2 : ∀ c ∈ c2, (c.den ρ).b = true)
    (hvh : OptR ρ G hi vh) (hvl : OptR ρ G lo vl) (hd : (d.den ρ).i = len) (hB : (hiB.den ρ).i ≤ cap) (hlc : len ≤ cap) :
    0 ≤ (l.den ρ).i ∧ (l.den ρ).i ≤ (h.den ρ).i ∧ (h.den ρ).i ≤ cap ∧ (Instr.sliceBounds isS len cap vl vh none).run P w = .ok ((l.den ρ).i.toNat, (h.den ρ).i.toNat, cap) w := by
  rcases bound_ok h1 hc1 hvh with ⟨rfl, rfl, rfl⟩ | ⟨k, rfl, ha, hb, _⟩
  · rcases bound_ok h2 hc2 hvl with ⟨rfl, rfl, rfl⟩ | ⟨k', rfl, ha', hb', _⟩
    · refine ⟨by rw [int_i]; omega, by rw [int_i]; omega, by omega, ?_⟩
      simp [Instr.sliceBounds, Sem.run_bind, int_i, hd]
    · refine ⟨ha', hb', by omega, ?_⟩
      have := run_bound (P := P) k' (l.den ρ).i len .sliceB w ha' (by omega)
      simp [Instr.sliceBounds, Sem.run_bind, this, hd]
  · have hh := run_bound (P := P) k (h.den ρ).i cap (if isS then .sliceAcap else .sliceAlen) w ha (by omega)
    rcases bound_ok h2 hc2 hvl with ⟨rfl, rfl, rfl⟩ | ⟨k', rfl, ha', hb', _⟩
    · refine ⟨by rw [int_i]; omega, by rw [int_i]; omega, by omega, ?_⟩
      simp [Instr.sliceBounds, Sem.run_bind, int_i, hh]
    · refine ⟨ha', hb', by omega, ?_⟩
      have := run_bound (P := P) k' (l.den ρ).i (h.den ρ).i.toNat .sliceB w ha' (by omega)
      simp [Instr.sliceBounds, Sem.run_bind, this, hh]

theorem optMap {ev : Operand → AV} {ec : Operand → Value} (hev : ∀ x, VR ρ G (ev x) (ec x)) (x : Option Operand) : OptR ρ G (x.map ev) (x.map ec) := by
  cases x with
  | none => trivial
  | some y => exact hev y

theorem bytes_extract (s : List UInt8) (l h : Nat) : (bytesOf s).extract l h = bytesOf ((s.take h).drop l) := by
  apply ByteArray.ext
  simp only [bytesOf, ByteArray.data_extract]
  apply Array.toList_inj.1 |> fun f => f ?_
  simp [List.drop_take, Array.toList_extract, List.extract_eq_take_drop]

theorem slice_ok {t : TypeId} {x r : AV} {ev : Operand → AV} {ec : Operand → Value} {lo hi mx : Option Operand} {cs : List SE} {u : Value} (w : World) (hev : ∀ x, VR ρ G (ev x) (ec x)) (h : (match P.underlying t, x with
    | some .string, .str s =>
      (match mx, boundA (hi.map ev) (mkU .slen s) (mkU .slen s) with
      | none, some (h, c1) => (match boundA (lo.map ev) (.int 0) h with
        | some (l, c2) => some (.str (mkB .sdrop (mkB .stake s h) l), c1 ++ c2)
        | none => none)
      | _, _ => none)
    | some (.slice el), .sl b s off len cap =>
      (match sizeB P el, mx, cap, hi with
      | some n, none, some c, _ => bif Nat.beq n s then
          (match boundA (hi.map ev) len c with
          | some (h, c1) => (match boundA (lo.map ev) (.int 0) h with
            | some (l, c2) => some (.sl b s (mkB .add off l) (mkB .sub h l) (some (mkB .sub c l)), c1 ++ c2)
            | none => none)
          | none => none) else none
      | some n, none, none, _ => bif Nat.beq n s then
          (match boundA (hi.map ev) len len with
          | some (h, c1) => (match boundA (lo.map ev) (.int 0) h with
            | some (l, c2) => some (.sl b s (mkB .add off l) (mkB .sub h l) none, c1 ++ c2)
            | none => none)
          | none => none) else none
      | _, _, _, _ => none)
    | some (.slice el), .nils =>
      (match sizeB P el, mx, boundA (hi.map ev) (.int 0) (.int 0) with
      | some _, none, some (h, c1) => (match boundA (lo.map ev) (.int 0) h with
        | some (_, c2) => some (.nils, c1 ++ c2)
        | none => none)
      | _, _, _ => none)
    | _, _ => none) = some (r, cs)) (hcs : ∀ c ∈ cs, (c.den ρ).b = true) (hx : VR ρ G x u) : ∃ z, (Instr.sliceAt t u (lo.map ec) (hi.map ec) (mx.map ec)).run P w = .ok z w ∧ VR ρ G r z := by
  have hsplit : ∀ c1 c2 : List SE, cs = c1 ++ c2 → (∀ c ∈ c1, (c.den ρ).b = true) ∧ (∀ c ∈ c2, (c.den ρ).b = true) := fun c1 c2 e => by
    subst e; exact ⟨fun c hc => hcs c (List.mem_append_left _ hc), fun c hc => hcs c (List.mem_append_right _ hc)⟩
  -- a slice of a slice, whatever is known of its capacity
  have key : ∀ (el : TypeId) (b s : Nat) (off len : SE) (cap cap' : Option SE) (hiB he l : SE) (c1 c2 : List SE), P.underlying t = some (.slice el) → sizeB P el = some s → VR ρ G (.sl b s off len cap) u → mx = none → boundA (hi.map ev) len hiB = some (he, c1) → boundA (lo.map ev) (.int 0) he = some (l, c2) →
      (∀ c ∈ c1, (c.den ρ).b = true) → (∀ c ∈ c2, (c.den ρ).b = true) → (hiB = len ∨ cap = some hiB) → (∀ e, cap' = some e → ∃ c, cap = some c ∧ e = mkB .sub c l) →
      ∃ z, (Instr.sliceAt t u (lo.map ec) (hi.map ec) (mx.map ec)).run P w = .ok z w ∧ VR ρ G (.sl b s (mkB .add off l) (mkB .sub he l) cap') z := by
    intro el b s off len cap cap' hiB he l c1 c2 hu hs hx hm hb1 hb2 hc1 hc2 hB hcap'
    subst hm
    obtain ⟨g, a, n, c, hg, rfl, hlen, hoff, hnc, hcap, ha, hbd⟩ := hx.sl_inv
    have hBc : (hiB.den ρ).i ≤ c := by
      rcases hB with rfl | hB
      · rw [hlen]; omega
      · rw [hcap _ hB]; omega
    obtain ⟨b0, b1, b2, b3⟩ := bounds_ok (P := P) (isS := true) w hb1 hb2 hc1 hc2 (optMap hev hi) (optMap hev lo) hlen hBc hnc
    have hl := Int.toNat_of_nonneg b0
    have hh := Int.toNat_of_nonneg (Int.le_trans b0 b1)
    have hsum : ((mkB .add off l).den ρ).i = (off.den ρ).i + (l.den ρ).i := by rw [mkB_den]; rfl
    have hsub : ((mkB .sub he l).den ρ).i = (he.den ρ).i - (l.den ρ).i := by rw [mkB_den]; rfl
    refine ⟨.slice (if c = (l.den ρ).i.toNat then a else a.map (·.add ((l.den ρ).i.toNat * s))) ((he.den ρ).i.toNat - (l.den ρ).i.toNat) (c - (l.den ρ).i.toNat), ?_, .sl _ _ _ _ _ g _ _ _ hg ?_ ?_ ?_ ?_ ?_ ?_⟩
    · unfold Instr.sliceAt
      rw [Sem.run_bind, run_underlying hu w, Result.andThen_ok]
      show (Instr.slice t _ _ _ _).run P w = _
      unfold Instr.slice
      rw [Sem.run_bind, run_underlying hu w, Result.andThen_ok]
      simp only [Option.map_none]
      rw [Sem.run_bind, b3, Result.andThen_ok, Sem.run_bind, size_ok hs w, Result.andThen_ok]
      rfl
    · rw [hsub]; omega
    · rw [hsum]; omega
    · omega
    · intro e hee
      obtain ⟨c0, hc0, rfl⟩ := hcap' e hee
      rw [mkB_den]
      show (c0.den ρ).i - (l.den ρ).i = _
      rw [hcap _ hc0]
      omega
    · intro hpos
      rw [if_neg (by omega), ha (by omega), hsum]
      have : ((off.den ρ).i + (l.den ρ).i).toNat = (off.den ρ).i.toNat + (l.den ρ).i.toNat := by omega
      simp only [Option.map_some, addr_add, this, Nat.add_mul, Nat.add_assoc]
    · have : ((mkB .add off l).den ρ).i.toNat + (c - (l.den ρ).i.toNat) ≤ (off.den ρ).i.toNat + c := by rw [hsum]; omega
      exact Nat.le_trans (Nat.mul_le_mul_right s this) hbd
  split at h
  · rename_i s hu
    split at h
    · rename_i hh c1 hb1
      split at h
      · rename_i l c2 hb2
        cases h
        obtain ⟨k1, k2⟩ := hsplit c1 c2 rfl
        rw [hx.str_inv]
        have hsl : ((mkU .slen s).den ρ).i = (s.den ρ).s.length := by rw [mkU_den]; rfl
        obtain ⟨b0, b1, b2, b3⟩ := bounds_ok (P := P) (isS := false) (len := (s.den ρ).s.length) (cap := (s.den ρ).s.length) w hb1 hb2 k1 k2 (optMap hev hi) (optMap hev lo) hsl (by rw [hsl]; exact Int.le_refl _) (Nat.le_refl _)
        refine ⟨.string ((bytesOf (s.den ρ).s).extract (l.den ρ).i.toNat (hh.den ρ).i.toNat), ?_, .str _ _ ?_⟩
        · unfold Instr.sliceAt
          rw [Sem.run_bind, run_underlying hu w, Result.andThen_ok]
          show (Instr.slice t _ _ _ _).run P w = _
          unfold Instr.slice
          rw [Sem.run_bind, run_underlying hu w, Result.andThen_ok]
          simp only [Option.map_none, Option.isSome_none, Bool.false_eq_true, if_false, Sem.run_pure, size_bytesOf]
          rw [Sem.run_bind]
          simp only [Sem.run_pure, Result.andThen_ok]
          first | rw [b3, Result.andThen_ok] | (rw [Sem.run_bind, b3]; rfl)
        · rw [bytes_extract, mkB_den, mkB_den]; rfl
      · cases h
    · cases h
  · rename_i el b s off len cap hu
    split at h
    · rename_i n c hs
      cases hb : Nat.beq n s with
      | false => rw [hb] at h; cases h
      | true =>
        rw [hb] at h
        have hn : n = s := (beq_iff _ _).1 hb
        subst hn
        simp only [cond_true] at h
        split at h
        · rename_i hh c1 hb1
          split at h
          · rename_i l c2 hb2
            cases h
            obtain ⟨k1, k2⟩ := hsplit c1 c2 rfl
            exact key el b n off len (some c) _ c hh l c1 c2 hu hs hx rfl hb1 hb2 k1 k2 (.inr rfl) (fun e he => ⟨c, rfl, by cases he; rfl⟩)
          · cases h
        · cases h
    · rename_i n hs
      cases hb : Nat.beq n s with
      | false => rw [hb] at h; cases h
      | true =>
        rw [hb] at h
        have hn : n = s := (beq_iff _ _).1 hb
        subst hn
        simp only [cond_true] at h
        split at h
        · rename_i hh c1 hb1
          split at h
          · rename_i l c2 hb2
            cases h
            obtain ⟨k1, k2⟩ := hsplit c1 c2 rfl
            exact key el b n off len none none len hh l c1 c2 hu hs hx rfl hb1 hb2 k1 k2 (.inl rfl) (fun e he => by cases he)
          · cases h
        · cases h
    · cases h
  · rename_i el hu
    split at h
    · rename_i n hh c1 hs hb1
      split at h
      · rename_i l c2 hb2
        cases h
        obtain ⟨k1, k2⟩ := hsplit c1 c2 rfl
        cases hx
        obtain ⟨b0, b1, b2, b3⟩ := bounds_ok (P := P) (isS := true) (len := 0) (cap := 0) w hb1 hb2 k1 k2 (optMap hev hi) (optMap hev lo) (by rw [int_i]; rfl) (by rw [int_i]; exact Int.le_refl _) (Nat.le_refl _)
        have e1 : (l.den ρ).i.toNat = 0 := by omega
        have e2 : (hh.den ρ).i.toNat = 0 := by omega
        rw [e1, e2] at b3
        refine ⟨.slice none 0 0, ?_, .nils⟩
        unfold Instr.sliceAt
        rw [Sem.run_bind, run_underlying hu w, Result.andThen_ok]
        show (Instr.slice t _ _ _ _).run P w = _
        unfold Instr.slice
        rw [Sem.run_bind, run_underlying hu w, Result.andThen_ok]
        simp only [Option.map_none]
        rw [Sem.run_bind, b3, Result.andThen_ok, Sem.run_bind, size_ok hs w, Result.andThen_ok]
        rfl
      · cases h
    · cases h
  · cases h
end
end Go.Proofs.Ytbnbljeegghgiaa
