/- What the executor says of new blocks and of stores is so. No program in sight. -/
import Derived.Test.YtbnbljeegghgiaaSndf
import Derived.IntWalk
namespace Go.Proofs.Ytbnbljeegghgiaa
open Go.RowKit
set_option linter.unusedVariables false
set_option linter.unusedSimpArgs false

section
variable {P : Program} {ρ : Env} {G : Gh}

theorem newRow_ok (t : TypeId) (cs : Array Value) (w : World) : (newRow t cs).run P w = .ok ⟨w.heap.size, 0, none⟩ (w.alloc (.cells cs t)) := by
  unfold newRow
  rw [Sem.run_bind, run_newObj_alloc]; rfl
theorem newVar_ok (t : TypeId) (v : Value) (w : World) : (newVar t v).run P w = .ok ⟨w.heap.size, 0, none⟩ (w.alloc (.cells v.cells t)) := newRow_ok t _ w

theorem or_cells {cs : List AV} {arr : Array Value} (h : VRs ρ G cs arr) (w : World) (t : TypeId) {G' : Gh} (hG : G.le G') : OR ρ G' (w.alloc (.cells arr t)) ⟨w.heap.size, 0, arr.size⟩ (.cells cs) :=
  ⟨rfl, arr, t, alloc_new w _, rfl, Nat.le_of_eq h.1.symm, fun i a v h1 h2 => (h.2 i a v h1 h2).mono hG⟩

theorem rep_flat (zc : List AV) (z : Array Value) (n len : Nat) (hn : zc.length = n) (h : VRs ρ G zc z) : VRs ρ G (List.replicate len zc).flatten ((Array.range (len * n)).map (z[· % z.size]!)) := by
  have hz : z.size = n := by rw [h.1, hn]
  refine ⟨by simp [hn], fun i a v h1 h2 => ?_⟩
  have hi : i < len * n := by
    have := (Array.getElem?_eq_some_iff.1 h2).1
    simpa using this
  have hn0 : 0 < n := by
    rcases Nat.eq_zero_or_pos n with h0 | h0
    · rw [h0] at hi; simp at hi
    · exact h0
  have hm : i % n < n := Nat.mod_lt _ hn0
  have hlist : (List.replicate len zc).flatten[i]? = zc[i % n]? := by
    clear h1 h2
    induction len generalizing i with
    | zero => simp at hi
    | succ len ih =>
      rw [List.replicate_succ, List.flatten_cons, List.getElem?_append, hn]
      split
      · rename_i hlt; rw [Nat.mod_eq_of_lt hlt]
      · rename_i hge
        rw [ih (i - n) (by rw [Nat.succ_mul] at hi; omega) (Nat.mod_lt _ hn0)]
        rw [← Nat.mod_eq_sub_mod (by omega)]
  rw [hlist] at h1
  simp only [Array.getElem?_map, Array.getElem?_range, hi, Option.map_eq_some_iff] at h2
  have hv : z[i % n]? = some v := by
    rw [hz] at h2
    simp at h2
    have := h2.symm
    rw [getElem!_pos z (i % n) (by rw [hz]; exact hm)] at this
    rw [this]
    exact getElem?_pos z (i % n) (by rw [hz]; exact hm)
  exact h.2 _ a v h1 hv

theorem ckOf_val {a : AV} {k : CK} {v : Value} (h : ckOf a = some k) (hv : VR ρ G a v) : v = k.val ((seOf a).den ρ) := by
  unfold ckOf at h
  split at h
  · cases h; exact hv.int_inv
  · cases h; exact hv.bool_inv
  · cases h; exact hv.str_inv
  · cases h
theorem mapM_get {α β : Type} {f : α → Option β} : ∀ {l : List α} {r : List β}, l.mapM f = some r → l.length = r.length ∧ ∀ (i : Nat) (b : β), r[i]? = some b → ∃ a, l[i]? = some a ∧ f a = some b
  | [], r, h => by simp at h; subst h; exact ⟨rfl, fun i b h => by simp at h⟩
  | a :: l, r, h => by
    rw [List.mapM_cons] at h
    simp only [bind, Option.bind_eq_some_iff, pure, Option.some.injEq] at h
    obtain ⟨b, hb, r', hr, rfl⟩ := h
    obtain ⟨h1, h2⟩ := mapM_get hr
    refine ⟨by simp [h1], fun i c hc => ?_⟩
    cases i with
    | zero => simp at hc; subst hc; exact ⟨a, rfl, hb⟩
    | succ i => exact h2 i c (by simpa using hc)
theorem foldr_cons_den (cs : List AV) : ((cs.foldr (fun v r => SE.bin .cons (seOf v) r) .nil).den ρ) = .list (cs.map fun v => (seOf v).den ρ) := by
  induction cs with
  | nil => rfl
  | cons c r ih => simp only [List.foldr_cons, SE.den, evB, ih, DV.l, List.map_cons]
/-- A row's element out of cells of plain data. -/
theorem rowE_ok {cs : List AV} {ks : List CK} {arr : Array Value} (hk : cs.mapM ckOf = some ks) (h : VRs ρ G cs arr) : ∀ (j : Nat) (k : CK), ks[j]? = some k → arr[j]? = some (k.val (cellD ks ((rowE cs).den ρ) j)) := by
  intro j k hj
  obtain ⟨hl, hg⟩ := mapM_get hk
  obtain ⟨a, ha, hka⟩ := hg j k hj
  obtain ⟨v, hv, hr⟩ := h.get ha
  rw [hv, ckOf_val hka hr]
  congr 2
  match cs, ks, hl, ha, hj with
  | [x], [k0], _, ha, hj =>
    have : j = 0 := by have := (List.getElem?_eq_some_iff.1 hj).1; simp at this; exact this
    subst this
    simp at ha
    subst ha
    rfl
  | x :: y :: r, k0 :: k1 :: r', _, ha, hj =>
    show _ = ((((x :: y :: r).foldr (fun v r => SE.bin .cons (seOf v) r) .nil).den ρ).l[j]?).getD (.int 0)
    rw [foldr_cons_den]
    simp only [DV.l, List.getElem?_map, ha, Option.map_some, Option.getD_some]
theorem small_wrap (n : Nat) (h : n ≤ 1000000) : IntKind.i64.wrap n = n := IntWalk.i64_in _ (by omega)
theorem map_r0 {α : Type} (f : Nat → α) : (Array.range 0).map f = #[] := by simp
theorem makeSlice_run {t el : TypeId} {inf : TypeInfo} {z : Value} (hu : P.underlying t = some (.slice el)) (hi : P.info? el = some inf) (hz : inf.zero = some z) (hb : inf.bytes ≤ 10000) (la lb : Nat) (hab : la ≤ lb) (hl : lb ≤ 1000000) (hzs : z.cells.size = inf.size) (w : World) :
    (Instr.makeSlice t (.int .i64 la) (.int .i64 lb)).run P w = .ok (.slice (some ⟨w.heap.size, 0, none⟩) la lb) (w.alloc (.cells ((Array.range (lb * inf.size)).map (z.cells[· % z.cells.size]!)) el)) := by
  have hmul : inf.bytes * lb ≤ 10000000000 := Nat.le_trans (Nat.mul_le_mul hb hl) (by decide)
  have hmul2 : ¬ ((inf.bytes : Int) * (lb : Int) > 2 ^ 48) := by
    have : ((inf.bytes * lb : Nat) : Int) ≤ 10000000000 := Int.ofNat_le.2 hmul
    rw [Int.natCast_mul] at this
    omega
  unfold Instr.makeSlice
  rw [Sem.run_bind, run_underlying hu w, Result.andThen_ok]
  simp only [asInt, asIntOf, Sem.run_bind, Sem.run_pure, Result.andThen_ok, typeInfo, run_program, hi]
  rw [small_wrap la (by omega), small_wrap lb hl]
  have hcond : ((decide ((lb : Int) < 0) || decide ((inf.bytes : Int) * (lb : Int) > 2 ^ 48)) || decide ((la : Int) < 0) || decide ((la : Int) > (lb : Int))) = false := by
    simp only [Bool.or_eq_false_iff, decide_eq_false_iff_not]
    exact ⟨⟨⟨by omega, hmul2⟩, by omega⟩, by omega⟩
  rw [hcond]
  simp only [Bool.false_eq_true, if_false, Sem.run_pure, Result.andThen_ok, run_askRoom, sizeOf, typeInfo, Sem.run_bind, run_program, hi, Int.toNat_natCast, zeroValue, hz]
  by_cases h0 : lb * inf.size = 0
  · simp only [h0, if_true, Sem.run_bind, Sem.run_pure, Result.andThen_ok, newRow_ok, map_r0]
  · simp only [h0, if_false, Sem.run_bind, run_program, Sem.run_pure, Result.andThen_ok, hi, hz, newRow_ok]

/-- What a new block's operation does. -/
def Lays (P : Program) (ρ : Env) (G : Gh) (s : Sem Next) (w : World) (ob : Ob) (f : Nat → AV) : Prop :=
  ∃ z obj sz, s.run P w = .ok (.value z) (w.alloc obj) ∧ ob.own = true ∧ ∀ (G' : Gh) (c : Nat), G.le G' → G' c = some ⟨w.heap.size, 0, sz⟩ → OR ρ G' (w.alloc obj) ⟨w.heap.size, 0, sz⟩ ob ∧ VR ρ G' (f c) z

set_option maxHeartbeats 1000000 in
theorem opA_ok {o : Oper} {ev : Operand → AV} {ec : Operand → Value} {ob : Ob} {f : Nat → AV} {cs : List SE} (w : World) (hev : ∀ x, VR ρ G (ev x) (ec x)) (h : opA P o ev = some (ob, f, cs)) (hcs : ∀ c ∈ cs, (c.den ρ).b = true) : Lays P ρ G (execOp ec o) w ob f := by
  obtain ⟨dst, op, ty, pos, after, guard⟩ := o
  unfold opA at h
  unfold execOp
  simp only at h ⊢
  have lift : ∀ {s : Sem Value} {u : Value} {w' : World}, s.run P w = .ok u w' → (do pure (.value (← s)) : Sem Next).run P w = .ok (.value u) w' := fun h => by rw [Sem.run_bind, h]; rfl
  cases op with
  | alloc t =>
    simp only at h ⊢
    split at h
    · rename_i z hz
      split at h
      · rename_i zc hzc
        cases h
        obtain ⟨v, hv, hr⟩ := zero_ok (ρ := ρ) (G := G) hz w
        have hc := cells_ok hr hzc
        refine ⟨.pointer (some ⟨w.heap.size, 0, none⟩), .cells v.cells t, v.cells.size, lift ?_, rfl, fun G' c hG hc' => ⟨or_cells hc w t hG, .ptr _ _ _ _ hc' rfl⟩⟩
        unfold Instr.alloc
        rw [Sem.run_bind, hv, Result.andThen_ok]
        simp only [Sem.run_bind, newVar_ok, Result.andThen_ok]
        rfl
      · cases h
    · cases h
  | box t x =>
    simp only at h ⊢
    split at h
    · rename_i xc hxc
      cases h
      have hc := cells_ok (hev x) hxc
      refine ⟨.pointer (some ⟨w.heap.size, 0, none⟩), .cells (ec x).cells t, (ec x).cells.size, lift ?_, rfl, fun G' c hG hc' => ⟨or_cells hc w t hG, .ptr _ _ _ _ hc' rfl⟩⟩
      unfold Instr.box
      rw [Sem.run_bind, newVar_ok]; rfl
    · cases h
  | buildSlice t len parts =>
    simp only at h ⊢
    split at h
    · rename_i el hu
      split at h
      · rename_i n z hs hz
        split at h
        · rename_i zc hzc
          cases hb : (Nat.ble (len * n) 1000000 && Nat.beq zc.length n) with
          | false => rw [hb] at h; cases h
          | true =>
            rw [hb] at h
            simp only [cond_true] at h
            simp only [Bool.and_eq_true, beq_iff, Nat.ble_eq] at hb
            obtain ⟨v, hv, hr⟩ := zero_ok (ρ := ρ) (G := G) hz w
            have hc := cells_ok hr hzc
            cases hf : fillA (fun i => some (i * n, n)) (List.replicate len zc).flatten (parts.toList.map fun p => (p.1, ev p.2)) with
            | none => rw [hf] at h; cases h
            | some out =>
              rw [hf] at h
              cases h
              obtain ⟨hl, hp⟩ := mapParts hev parts
              obtain ⟨arr, h1, h2⟩ := fill_ok _ _ _ out _ hl hp (rep_flat zc v.cells n len hb.2 hc) hf
              have hsz : arr.size = len * n := by
                have e1 := h2.1
                have : out.length = len * n := by
                  have hx : ∀ (ps : List (Nat × AV)) (cs out : List AV), fillA (fun i => some (i * n, n)) cs ps = some out → out.length = cs.length := by
                    intro ps
                    induction ps with
                    | nil => intro cs out h; cases h; rfl
                    | cons p r ih =>
                      intro cs out h
                      obtain ⟨i, a⟩ := p
                      unfold fillA at h
                      simp only at h
                      split at h
                      · rename_i vc hvc
                        cases hb' : (Nat.beq vc.length n && Nat.ble (i * n + n) cs.length) with
                        | false => rw [hb'] at h; cases h
                        | true => rw [hb'] at h; rw [ih _ _ h, setMany_length]
                      · cases h
                  rw [hx _ _ _ hf]; simp [hb.2]
                omega
              refine ⟨.slice (some ⟨w.heap.size, 0, none⟩) len len, .cells arr el, arr.size, lift ?_, rfl, fun G' c hG hc' => ⟨or_cells h2 w el hG, .sl _ _ _ _ _ _ _ _ _ hc' rfl (Int.le_refl _) (Nat.le_refl _) (fun e he => by cases he; rfl) (fun _ => by simp [int_i]) (by simp [int_i, hsz])⟩⟩
              unfold Instr.buildSlice
              rw [Sem.run_bind, run_underlying hu w, Result.andThen_ok]
              simp only
              rw [Sem.run_bind, size_ok hs w, Result.andThen_ok]
              rw [if_neg (by omega)]
              by_cases h0 : len * n = 0
              · have hre : (Array.range (len * n)).map (v.cells[· % v.cells.size]!) = #[] := by rw [h0]; exact map_r0 _
                rw [hre] at h1
                simp only [h0, if_true, Sem.run_bind, Sem.run_pure, Result.andThen_ok]
                rw [map_r0, h1]
                simp only [Sem.run_bind, newRow_ok, Result.andThen_ok]
                rfl
              · simp only [h0, if_false, Sem.run_bind, hv, Sem.run_pure, Result.andThen_ok]
                rw [h1]
                simp only [Sem.run_bind, newRow_ok, Result.andThen_ok]
                rfl
        · cases h
      · cases h
    · cases h
  | makeSlice t l c =>
    simp only at h ⊢
    split at h
    · rename_i el a b hu hel hec
      split at h
      · rename_i inf z hi hz
        split at h
        · rename_i zc hzc
          cases hb : (Nat.beq zc.length inf.size && Nat.ble inf.bytes 10000) with
          | false => rw [hb] at h; cases h
          | true =>
            rw [hb] at h
            simp only [cond_true] at h
            simp only [Bool.and_eq_true, beq_iff, Nat.ble_eq] at hb
            obtain ⟨z0, hz0⟩ : ∃ z0, inf.zero = some z0 := by
              unfold zeroA at hz
              rw [hi] at hz
              simp only at hz
              cases hq : inf.zero with
              | none => rw [hq] at hz; cases hz
              | some x => exact ⟨x, rfl⟩
            have hr : VR ρ G z z0 := by
              unfold zeroA at hz
              rw [hi] at hz
              simp only [hz0, Option.map_some, Option.some.injEq] at hz
              rw [← hz]; exact litV_ok z0
            have hc := cells_ok hr hzc
            have hzs : z0.cells.size = inf.size := by rw [hc.1, hb.1]
            have e1 := hev l
            have e2 := hev c
            rw [hel] at e1
            rw [hec] at e2
            split at h
            · rename_i la lb hla hlb
              cases hb2 : (Nat.ble la lb && Nat.ble lb 1000000) with
              | false => rw [hb2] at h; cases h
              | true =>
                rw [hb2] at h
                simp only [cond_true] at h
                simp only [Bool.and_eq_true, Nat.ble_eq] at hb2
                cases h
                have hrf := rep_flat zc z0.cells inf.size lb hb.1 hc
                refine ⟨.slice (some ⟨w.heap.size, 0, none⟩) la lb, _, _, lift ?_, rfl, fun G' c hG hc' => ⟨or_cells hrf w el hG, .sl _ _ _ _ _ _ _ _ _ hc' rfl (Int.le_refl _) hb2.1 (fun e he => by cases he; rfl) (fun _ => by simp [int_i]) (by simp [int_i])⟩⟩
                rw [e1.int_inv, e2.int_inv, litN_i hla ρ, litN_i hlb ρ]
                exact makeSlice_run hu hi hz0 hb.2 la lb hb2.1 hb2.2 hzs w
            · split at h
              · rename_i heq
                subst heq
                split at h
                · rename_i k ks hks
                  cases h
                  have h0 := hcs (mkB .le (.int 0) a) (by simp)
                  have h1 := hcs (mkB .le a (.int 1000000)) (by simp)
                  rw [le_b, int_i] at h0 h1
                  have h0 := of_decide_eq_true h0
                  have h1 := of_decide_eq_true h1
                  obtain ⟨n, hn⟩ := Int.eq_ofNat_of_zero_le h0
                  have hkl : (k :: ks).length = inf.size := by rw [← (mapM_get hks).1, hb.1]
                  have hrf := rep_flat zc z0.cells inf.size n hb.1 hc
                  have hden : ((mkB .rep a (rowE zc)).den ρ).l = List.replicate n ((rowE zc).den ρ) := by rw [mkB_den]; simp [evB, DV.l, hn]
                  have hs0 : inf.size ≠ 0 := by rw [← hkl]; simp
                  refine ⟨.slice (some ⟨w.heap.size, 0, none⟩) n n, .cells ((Array.range (n * inf.size)).map (z0.cells[· % z0.cells.size]!)) el, n * inf.size, lift ?_, rfl, fun G' c hG hc' => ⟨⟨rfl, by simp, fun hz => ?_, fun _ => ⟨_, el, alloc_new w _, by simp, ?_, fun i j d k' hi' hj => ?_⟩⟩, .sl _ _ _ _ _ _ _ _ _ hc' hn (Int.le_refl _) (Nat.le_refl _) (fun e he => by cases he; exact hn) (fun _ => by simp [int_i]) (by simp [int_i])⟩⟩
                  · rw [e1.int_inv, e2.int_inv, hn]
                    exact makeSlice_run hu hi hz0 hb.2 n n (Nat.le_refl _) (by omega) hzs w
                  · rw [hden]
                    have : n = 0 := by
                      simp only at hz
                      rcases Nat.mul_eq_zero.1 hz with h | h
                      · exact h
                      · exact absurd h hs0
                    subst this; rfl
                  · rw [hden, hkl]; simp
                  · rw [hden] at hi'
                    rw [List.getElem?_replicate] at hi'
                    split at hi'
                    · rename_i hin
                      cases hi'
                      rw [hkl]
                      have hjl : j < inf.size := by rw [← hkl]; exact (List.getElem?_eq_some_iff.1 hj).1
                      have hlt : i * inf.size + j < n * inf.size := by
                        have : (i + 1) * inf.size ≤ n * inf.size := Nat.mul_le_mul_right _ hin
                        rw [Nat.succ_mul] at this
                        omega
                      have hmod : (i * inf.size + j) % inf.size = j := by rw [Nat.mul_comm, Nat.mul_add_mod, Nat.mod_eq_of_lt hjl]
                      have hget := rowE_ok hks hc j k' hj
                      rw [Array.getElem?_map, Array.getElem?_range]
                      simp only [hlt, if_true, Option.map_some, hzs, hmod]
                      rw [getElem!_pos z0.cells j (by rw [hzs]; exact hjl)]
                      rw [getElem?_pos z0.cells j (by rw [hzs]; exact hjl)] at hget
                      exact hget
                    · cases hi'
                · cases h
              · cases h
        · cases h
      · cases h
    · cases h
  | makeMap t r =>
    cases r with
    | none =>
      cases h
      refine ⟨.map (some w.heap.size), .map #[] 0, 1, lift ?_, rfl, fun G' c hG hc' => ⟨⟨#[], 0, alloc_new w _, rfl, fun i p m h => by simp at h⟩, .map _ _ hc'⟩⟩
      simp [Instr.makeMap, Sem.run_bind]
    | some x => cases h
  | _ => cases h
end
end Go.Proofs.Ytbnbljeegghgiaa
