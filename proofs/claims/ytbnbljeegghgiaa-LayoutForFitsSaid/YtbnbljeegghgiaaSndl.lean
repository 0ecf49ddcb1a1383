/- What the executor says of copy and of maps is so. No program in sight. -/
import Derived.Test.YtbnbljeegghgiaaSndk
namespace Go.Proofs.Ytbnbljeegghgiaa
open Go.RowKit
set_option linter.unusedVariables false
set_option linter.unusedSimpArgs false

section
variable {P : Program} {ρ : Env} {G : Gh}

theorem copy_ok {t xt : TypeId} {ty : TypeId} {M M' : Me} {w : World} {d x r : AV} {cs : List SE} {u v : Value} (hM : MR ρ G M w) (h : copyA P t M d x = some (r, M', cs)) (hcs : ∀ c ∈ cs, (c.den ρ).b = true) (hd : VR ρ G d u) (hx : VR ρ G x v) :
    Does P ρ G M w (Builtin.copy_ #[t, xt] ty #[u, v]) r M' := by
  unfold copyA at h
  split at h
  · rename_i el hu
    split at h
    · rename_i n b s off len cap hsz
      cases hb : Nat.beq s (n + 1) with
      | false => rw [hb] at h; cases h
      | true =>
        rw [hb] at h
        simp only [cond_true] at h
        have hb := (beq_iff _ _).1 hb
        subst hb
        split at h
        · rename_i ks e hob ho
          split at h
          · rename_i ks' e' l' cs' hsr
            split at h
            · rename_i heq
              obtain ⟨rfl, rfl⟩ := heq
              cases h
              have c0 := hcs (mkB .eq (mkU .len e) len) (by simp)
              have c1 := hcs (mkB .eq (mkU .len e') len) (by simp)
              rw [eq_b, len_den] at c0 c1
              have c0 := of_decide_eq_true c0
              have c1 := of_decide_eq_true c1
              obtain ⟨hkl, hks, hsrc⟩ := srcRows_ok (P := P) hM hsr (fun c hc => hcs c (by simp [hc])) hx c1
              obtain ⟨g, a, m', c', hg, rfl, hlen', hoff, hmc, hcap, ha, hbd⟩ := hd.sl_inv
              obtain ⟨g', hg', hgo, hks2, hvirt, hreal⟩ := hM.ob _ _ hob
              rw [hg] at hg'; cases hg'
              have e0 : (off.den ρ).i.toNat = 0 := by rw [litN_i ho ρ]; rfl
              rw [e0, Nat.zero_mul, hgo] at ha
              rw [e0, Nat.zero_add] at hbd
              have hl1 : (e'.den ρ).l.length = m' := by omega
              have hl0 : (e.den ρ).l.length = m' := by omega
              rw [hl1] at hsrc
              have hrl := hsrc.len w
              have hrf := hsrc.first w rfl
              have hone := rowVals_one ks' (e'.den ρ).l
              have hnl := hsrc.size
              by_cases hm : m' = 0
              · subst hm
                have hnil : (e'.den ρ).l = [] := List.eq_nil_of_length_eq_zero hl1
                rw [hnil] at hrf
                refine ⟨goInt (0 : Nat), w, G, ?_, ?_, ?_, goInt_ok _ _ (by rw [← c1, hnil]; rfl)⟩
                · cases a <;> simp [Builtin.copy_, run_underlying hu, Sem.run_bind, hrl, size_ok hsz w, hrf, rowVals, storeCells, Nat.min_def]
                · have hmr := hM.drop M.hp (fun b o h => h)
                  refine ⟨hM.pc, hM.fresh, fun c o hc => ?_, fun c o c2 p x y h1 h2 ho hne hx hy s1 s2 => ?_⟩
                  · rw [hget_hset] at hc
                    split at hc
                    · rename_i e1; subst e1; cases hc
                      refine ⟨g, hg, hgo, hks2, fun _ => hnil, fun hz => ?_⟩
                      obtain ⟨arr, tt, hheap, hasz, hfit, hvr⟩ := hreal hz
                      exact ⟨arr, tt, hheap, hasz, by rw [hnil]; simp, fun i j d k hi => by rw [hnil] at hi; simp at hi⟩
                    · exact hM.ob c o hc
                  · rw [hget_hset] at h1 h2
                    have s1' : Solid ρ x o := s1
                    split at h1
                    · rename_i e1; subst e1; cases h1
                      rw [if_neg (Ne.symm hne)] at h2
                      exact hM.apart c _ c2 p x y hob h2 rfl hne hx hy s1 s2
                    · split at h2
                      · rename_i e1; subst e1; cases h2
                        exact hM.apart c o c2 _ x y h1 hob ho hne hx hy s1 s2
                      · exact hM.apart c o c2 p x y h1 h2 ho hne hx hy s1 s2
                · refine ⟨G.le_refl, rfl, rfl, rfl, Nat.le_refl _, fun _ _ _ => rfl, fun k ⟨c, o, y, h1, h2, h3, h4, h5⟩ _ => ?_, Nat.le_refl _, fun _ _ h => .inl h, fun c ks e h1 => ?_⟩
                  rw [hget_hset] at h1
                  split at h1
                  · rename_i e1; subst e1; cases h1; exact ⟨c, _, y, hob, rfl, h3, h4, h5⟩
                  · exact ⟨c, o, y, h1, h2, h3, h4, h5⟩
                  · rw [hget_hset] at h1
                    split at h1
                    · cases h1
                    · exact h1
              · have hz0 : g.sz ≠ 0 := fun h => by
                  rw [h] at hbd
                  rcases Nat.mul_eq_zero.1 (Nat.le_zero.1 hbd) with h | h <;> omega
                obtain ⟨arr, tt, hheap, hasz, hfit, hvr⟩ := hreal hz0
                rw [ha (by omega)]
                have hfit2 : 0 + (rowVals ks' (e'.den ρ).l).length ≤ arr.size := by rw [rowVals_length, hl1]; rw [hl0] at hfit; omega
                have hst := storeCells_ok (P := P) hheap (rowVals ks' (e'.den ρ).l) (o := 0) hfit2 hone
                obtain ⟨k1, k2, k3, k4, k5, k6⟩ := setCells_heap g.blk (rowVals ks' (e'.den ρ).l) 0 w
                obtain ⟨h1, h2⟩ := hM.turn (w' := w.setCells g.blk 0 (rowVals ks' (e'.den ρ).l)) (.rows ks' e') hob hg rfl rfl hz0 k2 k3 k4 (Nat.le_of_eq k1.symm) (fun k _ hk => k5 k hk) ⟨hgo, hks2, fun h => absurd h hz0, fun _ => ⟨_, tt, k6 arr tt _ hheap, by rw [setManyV_size]; exact hasz, by rw [setManyV_size, hl1]; rw [hl0] at hfit; exact hfit, row_prefix fun q hq => by
                  rw [setManyV_get _ _ _ _ hfit2, if_pos ⟨Nat.zero_le _, by rw [rowVals_length]; omega⟩, Nat.sub_zero]⟩⟩
                refine ⟨goInt m', _, G, ?_, h1, h2, goInt_ok _ _ (by rw [← c1, hl1])⟩
                simp only [Nat.add_zero] at hst ⊢
                simp [Builtin.copy_, run_underlying hu, Sem.run_bind, hrl, size_ok hsz w, hrf, hst, Nat.min_def]
            · cases h
          · cases h
        · cases h
    · cases h
  · cases h

theorem findNow_none {kk : IntKind} {q : Int} (k0 : IntKind) : ∀ (en : List MapEntry) (i : Nat), (∀ m ∈ en, ∃ q', m.key = .int kk q' ∧ q ≠ q') → Instr.findNow (.int k0) (.int kk q) en i = some none
  | [], i, h => rfl
  | m :: r, i, h => by
    obtain ⟨q', hk, hne⟩ := h m (by simp)
    unfold Instr.findNow
    rw [hk]
    have : Instr.sameNow (.int k0) (.int kk q) (.int kk q') = some false := by simp [Instr.sameNow, hne]
    rw [this]
    exact findNow_none k0 r (i + 1) (fun m hm => h m (by simp [hm]))
theorem checkKey_int {kt : TypeId} {k0 kk : IntKind} {q : Int} (hk : P.underlying kt = some (.int k0)) (b : Bool) (w : World) : (Instr.checkKey b 10000 kt (.int kk q)).run P w = .ok () w := by
  unfold Instr.checkKey
  rw [Sem.run_bind, run_underlying hk w]
  rfl

theorem insert_ok {t kt el : TypeId} {k0 kk : IntKind} {q : Int} {M : Me} {w : World} {b : Nat} {es : List (AV × AV)} {v : AV} {x : Value} {g : GI} (hM : MR ρ G M w) (hu : P.underlying t = some (.map kt el)) (hk : P.underlying kt = some (.int k0)) (hob : hget M.hp b = some (.map es)) (hg : G b = some g)
    (hall : es.all (keyNe kk q) = true) (hv : VR ρ G v x) :
    ∃ w', (Instr.mapUpdate t (.map (some g.blk)) (.int kk q) x).run P w = .ok () w' ∧ MR ρ G { M with hp := hset M.hp b (.map (es ++ [(.int kk (.int q), v)])) } w' ∧ Stp ρ G M w G { M with hp := hset M.hp b (.map (es ++ [(.int kk (.int q), v)])) } w' := by
  obtain ⟨g', hg', en, clock, hheap, hsz, hvr⟩ := hM.ob _ _ hob
  rw [hg] at hg'; cases hg'
  have hkeys : ∀ m ∈ en.toList, ∃ q', m.key = .int kk q' ∧ q ≠ q' := by
    intro m hm
    obtain ⟨i, hi⟩ := List.getElem?_of_mem hm
    rw [Array.getElem?_toList] at hi
    have hlt : i < es.length := by rw [← hsz]; exact (Array.getElem?_eq_some_iff.1 hi).1
    have hp := List.all_eq_true.1 hall _ (List.getElem_mem hlt)
    unfold keyNe at hp
    have hr := (hvr i _ m (List.getElem?_eq_getElem hlt) hi).1
    split at hp
    · rename_i kk' q' heq
      rw [heq] at hr
      simp only [Bool.and_eq_true, decide_eq_true_eq, Bool.not_eq_true', decide_eq_false_iff_not] at hp
      refine ⟨q', ?_, hp.2⟩
      rw [hr.int_inv, hp.1]
      rfl
    · cases hp
  have hrun : (Instr.mapUpdate t (.map (some g.blk)) (.int kk q) x).run P w = .ok () { w with heap := w.heap.setIfInBounds g.blk (.map (en.push { key := .int kk q, val := x, born := clock }) (clock + 1)) } := by
    unfold Instr.mapUpdate
    rw [Sem.run_bind, run_underlying hu w, Result.andThen_ok]
    simp only [Sem.run_bind]
    have hget : (getObj g.blk).run P w = .ok (.map en clock) w := by simp [getObj, Sem.run, hheap]
    rw [hget, Result.andThen_ok]
    simp only [Sem.run_bind, checkKey_int hk, Result.andThen_ok, Instr.findKey, run_underlying hk w, findNow_none k0 _ 0 hkeys, Sem.run_pure]
    simp [setObj, Sem.run, hheap]
  have hlt : g.blk < w.heap.size := (Array.getElem?_eq_some_iff.1 hheap).1
  refine ⟨_, hrun, hM.turn _ hob hg rfl rfl trivial rfl rfl rfl (by simp) (fun k _ hk => by simp [Array.getElem?_setIfInBounds, Ne.symm hk]) ⟨_, clock + 1, by simp [Array.getElem?_setIfInBounds, hlt]; rfl, by simp [hsz], fun i p m hp hm => ?_⟩⟩
  rw [List.getElem?_append] at hp
  rw [Array.getElem?_push] at hm
  split at hp
  · rename_i hil
    rw [if_neg (by omega)] at hm
    exact hvr i p m hp hm
  · rename_i hil
    have hi : i = es.length := by
      have := (List.getElem?_eq_some_iff.1 hp).1
      simp at this
      omega
    subst hi
    rw [if_pos hsz.symm] at hm
    simp at hp hm
    subst hp hm
    exact ⟨.int _ _ _ rfl, hv⟩

/-- A lookup by an integer: the first entry that has the key, or none. -/
theorem lookup_run {t kt el : TypeId} {k0 kk : IntKind} {q : Int} {w : World} {gb : Nat} {en : Array MapEntry} {clock : Nat} {ok : Bool} (hu : P.underlying t = some (.map kt el)) (hk : P.underlying kt = some (.int k0)) (hheap : w.heap[gb]? = some (.map en clock)) {res : Option (Nat × Value)} (hf : Instr.findNow (.int k0) (.int kk q) en.toList 0 = some res) {z : Value} (hz : (zeroValue el).run P w = .ok z w) :
    (Instr.lookup t (.map (some gb)) (.int kk q) ok).run P w = .ok (if ok then .tuple #[(res.map (·.2)).getD z, .bool res.isSome] else (res.map (·.2)).getD z) w := by
  unfold Instr.lookup
  rw [Sem.run_bind, run_underlying hu w, Result.andThen_ok]
  simp only [Sem.run_bind]
  have hget : (getObj gb).run P w = .ok (.map en clock) w := by simp [getObj, Sem.run, hheap]
  rw [hget, Result.andThen_ok]
  simp only [Sem.run_bind, Sem.run_pure, checkKey_int hk, Result.andThen_ok, Instr.findKey, run_underlying hk w, hf]
  cases res with
  | none => simp only [Sem.run_bind, hz, Result.andThen_ok, Sem.run_pure]; cases ok <;> rfl
  | some p => simp only [Sem.run_pure, Result.andThen_ok]; cases ok <;> rfl
end
end Go.Proofs.Ytbnbljeegghgiaa
