/- What the executor says of append is so: the theorem. No program in sight. -/
import Derived.Test.YtbnbljeegghgiaaSndj
namespace Go.Proofs.Ytbnbljeegghgiaa
open Go.RowKit
set_option linter.unusedVariables false
set_option linter.unusedSimpArgs false

section
variable {P : Program} {ρ : Env} {G : Gh}

theorem hdel_sub {hp : List (Nat × Ob)} {b : Nat} : ∀ c o, hget (hdel hp b) c = some o → hget hp c = some o := fun c o h => by
  rw [hget_hdel] at h
  split at h
  · cases h
  · exact h
theorem le32 {q : SE} (h : ((mkB .le q (.int 4294967296)).den ρ).b = true) : (q.den ρ).i ≤ 4294967296 := by
  rw [le_b, int_i] at h
  exact of_decide_eq_true h

/-- An append to a row of plain data. -/
theorem rows_app {t xt el el2 : TypeId} {ty : TypeId} {M : Me} {w : World} {b n m : Nat} {off len E L : SE} {cap : Option SE} {ks : List CK} {e : SE} {u v z : Value} {inf : TypeInfo} {l2 : List DV} (hM : MR ρ G M w) (hu : P.underlying t = some (.slice el)) (hu2 : P.underlying xt = some (.slice el2)) (hinf : P.info? el = some inf) (hsize : inf.size = n) (hbytes : inf.bytes ≤ 10000) (hz : inf.zero = some z) (hzs : z.cells.size = n)
    (hob : hget M.hp b = some (.rows ks e)) (hkn : ks.length = n) (hs : VR ρ G (.sl b n off len cap) u) (ho : litN off = some 0) (hlen : (len.den ρ).i = (e.den ρ).l.length) (hsrc : Src P w n v m (rowVals ks l2)) (hl2 : l2.length = m) (hE : (E.den ρ).l = (e.den ρ).l ++ l2) (hL : (L.den ρ).i = (e.den ρ).l.length + m) (hle : (e.den ρ).l.length + m ≤ 4294967296) :
    Does P ρ G M w (Builtin.append_ #[t, xt] ty #[u, v]) (.sl M.nb n (.int 0) L none) { M with hp := hset (hdel M.hp b) M.nb (.rows ks E), nb := M.nb + 1 } := by
  subst hkn
  obtain ⟨g, a, m', c', hg, rfl, hlen', hoff, hmc, hcap, ha, hbd⟩ := hs.sl_inv
  have hml : m' = (e.den ρ).l.length := by omega
  subst hml
  have e0 : (off.den ρ).i.toNat = 0 := by rw [litN_i ho ρ]; rfl
  obtain ⟨g', hg', hgo, hks, hvirt, hreal⟩ := hM.ob _ _ hob
  rw [hg] at hg'; cases hg'
  rw [e0, Nat.zero_mul, hgo] at ha
  rw [e0, Nat.zero_add] at hbd
  have hk0 : 0 < ks.length := by cases ks with | nil => exact absurd rfl hks | cons _ _ => simp
  rw [← hsize] at hsrc
  by_cases hm : m = 0
  · subst hm
    have hl2 : l2 = [] := List.eq_nil_of_length_eq_zero hl2
    subst hl2
    rw [List.append_nil] at hE
    have hrun := append_same (ty := ty) hu hu2 hinf hsrc hmc (a := a)
    by_cases hz0 : g.sz = 0
    · have hnil := hvirt hz0
      have hc0 : c' = 0 := by
        rw [hz0] at hbd
        rcases Nat.mul_eq_zero.1 (Nat.le_zero.1 hbd) with h | h
        · exact h
        · omega
      obtain ⟨hM1, hS1⟩ := hM.drop (hdel M.hp b) (fun c o h => hdel_sub c o h)
      obtain ⟨h1, h2⟩ := hM1.new (w' := w) (.rows ks E) ⟨w.heap.size, 0, 0⟩ (Nat.le_refl _) ⟨rfl, hks, fun _ => by rw [hE, hnil], fun h => absurd rfl h⟩ rfl rfl rfl (Nat.le_refl _) (fun _ _ => rfl)
      exact ⟨_, w, _, hrun, h1, hS1.trans h2, .sl _ _ _ _ _ ⟨w.heap.size, 0, 0⟩ _ _ _ (by simp [Gh.add]) (by rw [hL]; rfl) (Int.le_refl _) hmc (fun e he => by cases he) (fun h => by omega) (by rw [int_i]; simp [hc0])⟩
    · obtain ⟨arr, tt, hheap, hasz, hfit, hvr⟩ := hreal hz0
      obtain ⟨h1, h2⟩ := hM.move (w' := w) (g2 := ⟨g.blk, 0, g.sz⟩) (.rows ks E) hob hg rfl hz0 rfl rfl rfl rfl (Nat.le_refl _) (fun _ _ _ => rfl) ⟨rfl, hks, fun h => absurd h hz0, fun _ => ⟨arr, tt, hheap, hasz, by rw [hE]; exact hfit, by rw [hE]; exact hvr⟩⟩
      exact ⟨_, w, _, hrun, h1, h2, .sl _ _ _ _ _ ⟨g.blk, 0, g.sz⟩ _ _ _ (by simp [Gh.add]) (by rw [hL]; rfl) (Int.le_refl _) hmc (fun e he => by cases he) (fun h => by rw [ha h]; simp [int_i]) (by rw [int_i]; simpa using hbd)⟩
  · by_cases hr : (e.den ρ).l.length + m ≤ c'
    · have hz0 : g.sz ≠ 0 := fun h => by
        rw [h] at hbd
        rcases Nat.mul_eq_zero.1 (Nat.le_zero.1 hbd) with h | h <;> omega
      obtain ⟨arr, tt, hheap, hasz, hfit, hvr⟩ := hreal hz0
      rw [ha (by omega)]
      have hnl := hsrc.size
      have hfit2 : ((e.den ρ).l.length + m) * ks.length ≤ arr.size := by rw [hasz]; exact Nat.le_trans (Nat.mul_le_mul_right _ hr) hbd
      rw [Nat.add_mul] at hfit2
      have hrun := append_room (ty := ty) hu hu2 hinf hsrc hheap (o := 0 + 0) (sLen := (e.den ρ).l.length) (sCap := c') hr (by rw [hnl, hsize]; omega) (rowVals_one ks l2)
      rw [hsize] at hrun hnl
      simp only [Nat.add_zero, Nat.zero_add] at hrun ⊢
      obtain ⟨k1, k2, k3, k4, k5, k6⟩ := setCells_heap g.blk (rowVals ks l2) ((e.den ρ).l.length * ks.length) w
      obtain ⟨h1, h2⟩ := hM.move (w' := w.setCells g.blk ((e.den ρ).l.length * ks.length) (rowVals ks l2)) (g2 := ⟨g.blk, 0, g.sz⟩) (.rows ks E) hob hg rfl hz0 rfl k2 k3 k4 (Nat.le_of_eq k1.symm) (fun k _ hk => k5 k hk) ⟨rfl, hks, fun h => absurd h hz0, fun _ => ⟨_, tt, k6 arr tt _ hheap, by rw [setManyV_size]; exact hasz, by rw [hE, List.length_append, hl2, Nat.add_mul, setManyV_size]; exact hfit2, by
        rw [hE]
        refine row_prefix fun q hq => ?_
        rw [setManyV_get _ _ _ _ (by rw [hnl]; exact hfit2), rowVals_append, List.getElem?_append, rowVals_length ks l2, rowVals_length ks (e.den ρ).l]
        rw [List.length_append, Nat.add_mul] at hq
        by_cases hq2 : q < (e.den ρ).l.length * ks.length
        · rw [if_neg (fun hh => by omega), if_pos hq2]
          exact prefix_row hvr q hq2
        · rw [if_pos ⟨by omega, by omega⟩, if_neg hq2]⟩⟩
      exact ⟨_, _, _, hrun, h1, h2, .sl _ _ _ _ _ ⟨g.blk, 0, g.sz⟩ _ _ _ (by simp [Gh.add]) (by rw [hL]; omega) (Int.le_refl _) hr (fun e he => by cases he) (fun _ => by simp [int_i]) (by rw [int_i]; simpa using hbd)⟩
    · obtain ⟨hM1, hS1⟩ := hM.drop (hdel M.hp b) (fun c o h => hdel_sub c o h)
      have os : Src P w inf.size (.slice a (e.den ρ).l.length c') (e.den ρ).l.length (rowVals ks (e.den ρ).l) := by
        refine src_slice (by rw [rowVals_length, hsize]) fun q v hq => ?_
        obtain ⟨i, j, d, k, rfl, hi, hj, rfl⟩ := rowVals_inv ks _ q v hq
        have hil := (List.getElem?_eq_some_iff.1 hi).1
        have hz0 : g.sz ≠ 0 := fun h => by rw [hvirt h] at hil; simp at hil
        obtain ⟨arr, tt, hheap, hasz, hfit, hvr⟩ := hreal hz0
        exact ⟨_, _, ha (by omega), by rw [cell_of_heap hheap]; simpa using hvr i j d k hi hj⟩
      obtain ⟨q, hrun⟩ := append_grow (ty := ty) hu hu2 hinf hz hsrc os (by omega) hle hbytes
      obtain ⟨G', h1, h2, h3⟩ := grown_rows hM1 (E := E) (L := L) hks rfl rfl hE (q := q) z.cells hzs el (by rw [hL, hl2])
      rw [hl2] at h3
      exact ⟨_, _, G', hrun, h1, hS1.trans h2, h3⟩

set_option maxHeartbeats 2000000 in
theorem append_ok {t xt : TypeId} {ty : TypeId} {M M' : Me} {w : World} {s x r : AV} {cs : List SE} {u v : Value} (hM : MR ρ G M w) (h : appendA P t xt M s x = some (r, M', cs)) (hcs : ∀ c ∈ cs, (c.den ρ).b = true) (hs : VR ρ G s u) (hx : VR ρ G x v) :
    Does P ρ G M w (Builtin.append_ #[t, xt] ty #[u, v]) r M' := by
  unfold appendA at h
  split at h
  · rename_i el el2 hu hu2
    split at h
    · rename_i n inf zc hsz hinf hzc
      have hsize : inf.size = n + 1 := by unfold sizeB at hsz; rw [hinf] at hsz; simpa using hsz
      cases hb : (Nat.ble inf.bytes 10000 && Nat.beq zc.length (n + 1)) with
      | false => rw [hb] at h; cases h
      | true =>
        rw [hb] at h
        simp only [cond_true] at h
        simp only [Bool.and_eq_true, beq_iff, Nat.ble_eq] at hb
        obtain ⟨hbytes, hzl⟩ := hb
        obtain ⟨z, hz, hzs⟩ := zero_cells hinf hzc
        rw [hzl] at hzs
        split at h
        · -- a source known cell by cell
          rename_i xs hxs
          obtain ⟨news, hsrc0, hnv⟩ := srcCells_ok (P := P) hM hxs hx (Nat.succ_pos n)
          have hsrc : Src P w inf.size v (xs.length / (n + 1)) news := by rw [hsize]; exact hsrc0
          clear hsrc0
          cases hm : Nat.beq (xs.length / (n + 1)) 0 with
          | true =>
            rw [hm] at h
            simp only [cond_true] at h
            have hm := (beq_iff _ _).1 hm
            rw [hm] at hsrc
            have hnil : news = [] := List.eq_nil_of_length_eq_zero (by have := hsrc.size; simpa using this)
            subst hnil
            cases hs with
            | nils => cases h; exact ⟨_, w, G, append_same hu hu2 hinf hsrc (Nat.le_refl _), hM, Stp.refl _ _ _ _, .nils⟩
            | sl b s' off len cap g a n' c h0 h1 h2 h3 h4 h5 h6 => cases h; exact ⟨_, w, G, append_same hu hu2 hinf hsrc h3, hM, Stp.refl _ _ _ _, .sl b s' off len cap g a n' c h0 h1 h2 h3 h4 h5 h6⟩
            | _ => cases h
          | false =>
            rw [hm] at h
            simp only [cond_false] at h
            have hm0 : xs.length / (n + 1) ≠ 0 := fun e => by rw [e] at hm; cases hm
            generalize hmm : xs.length / (n + 1) = m at h hsrc hm0
            cases hb : (Nat.beq (m * (n + 1)) xs.length && xs.all AV.one) with
            | false => rw [hb] at h; cases h
            | true =>
              rw [hb] at h
              simp only [cond_true] at h
              simp only [Bool.and_eq_true, beq_iff] at hb
              obtain ⟨hxl, hone⟩ := hb
              have hnone : ∀ q ∈ news, q.oneCell' = true := by have := all_one hnv hone; simpa using this
              have hnl : news.length = m * (n + 1) := by rw [hsrc.size, hsize]
              split at h
              · -- nothing there
                rename_i hd
                cases h
                obtain ⟨a, rfl⟩ := zero_dest hd hs
                have hle := le32 (hcs _ (List.mem_singleton.2 rfl))
                rw [int_i] at hle
                obtain ⟨q, hrun⟩ := append_grow (ty := ty) hu hu2 hinf hz hsrc (a := a) (sLen := 0) (sCap := 0) (olds := []) (src_slice (by simp) (fun j v h => by simp at h)) (by omega) (by omega) hbytes
                obtain ⟨G', h1, h2, h3⟩ := grown_cells hM (co := []) VRs.nil hnv (n := n + 1) (k := m) (q := q) (by simp [hnl]) z.cells hzs el
                simp only [Nat.zero_add, List.nil_append] at hrun h1 h2 h3
                exact ⟨_, _, G', hrun, h1, h2, h3⟩
              · -- a row of a known room
                rename_i b o l c ds hdk
                rcases destK_inv hdk with ⟨hd, _⟩ | ⟨b', o', l', c', cs', off, len, cap, hd, rfl, ho, hl, hc, hob⟩ | ⟨_, _, _, _, _, hd, _⟩ | ⟨_, _, _, _, _, _, hd, _⟩
                · cases hd
                · cases hd
                  obtain ⟨g, a, m', c', hg, rfl, hlen, hoff, hmc, hcap, ha, hbd⟩ := hs.sl_inv
                  have e1 := litN_i ho ρ
                  have e2 := litN_i hl ρ
                  have e3 := litN_i hc ρ
                  have e4 := hcap cap rfl
                  have em : m' = l := by omega
                  have ec : c' = c := by omega
                  subst em ec
                  obtain ⟨g', hg', hgo, arr, tt, hheap, hasz, hdl, hvr⟩ := hM.ob _ _ hob
                  rw [hg] at hg'; cases hg'
                  rw [e1, Int.toNat_natCast] at ha hbd
                  rw [hgo, Nat.zero_add] at ha
                  have osrc : m' * (n + 1) + o * (n + 1) ≤ arr.size → Src P w inf.size (.slice a m' c') m' ((arr.toList.drop (o * (n + 1))).take (m' * (n + 1))) := fun hle => by
                    refine src_slice (by rw [List.length_take, List.length_drop, Array.length_toList, hsize]; omega) fun j v hj => ?_
                    rw [List.getElem?_take] at hj
                    split at hj
                    · rename_i hjl
                      rw [List.getElem?_drop, Array.getElem?_toList] at hj
                      have hm0 : 0 < m' := by
                        rcases Nat.eq_zero_or_pos m' with h0 | h0
                        · rw [h0, Nat.zero_mul] at hjl; omega
                        · exact h0
                      exact ⟨_, _, ha (by omega), by rw [cell_of_heap hheap]; exact hj⟩
                    · cases hj
                  cases hr : Nat.ble (m' + m) c' with
                  | true =>
                    rw [hr] at h
                    simp only [cond_true] at h
                    have hr := Nat.le_of_ble_eq_true hr
                    cases hq : Nat.ble ((o + m' + m) * (n + 1)) ds.length with
                    | false => rw [hq] at h; cases h
                    | true =>
                      rw [hq] at h
                      simp only [cond_true] at h
                      cases h
                      have hq := Nat.le_of_ble_eq_true hq
                      have hmul : (o + m' + m) * (n + 1) = o * (n + 1) + m' * (n + 1) + m * (n + 1) := by rw [Nat.add_mul, Nat.add_mul]
                      rw [ha (by omega)]
                      have hrun := append_room (ty := ty) hu hu2 hinf hsrc hheap (o := o * (n + 1)) (sLen := m') (sCap := c') hr (by rw [hsize, hnl]; omega) hnone
                      rw [hsize] at hrun
                      obtain ⟨k1, k2, k3, k4, k5, k6⟩ := setCells_heap g.blk news (o * (n + 1) + m' * (n + 1)) w
                      have hp := setMany_p xs news ds arr ((o + m') * (n + 1)) ⟨hdl, hvr⟩ hnv
                      rw [Nat.add_mul] at hp ⊢
                      obtain ⟨h1, h2⟩ := hM.turn (w' := w.setCells g.blk (o * (n + 1) + m' * (n + 1)) news) (.cells (setMany ds (o * (n + 1) + m' * (n + 1)) xs)) hob hg rfl rfl trivial k2 k3 k4 (Nat.le_of_eq k1.symm) (fun k _ hk => k5 k hk) ⟨hgo, _, tt, k6 arr tt _ hheap, by rw [setManyV_size]; exact hasz, hp.1, hp.2⟩
                      exact ⟨_, _, G, hrun, h1, h2, .sl _ _ _ _ _ g _ _ _ hg rfl (Int.natCast_nonneg o) hr (fun e he => by cases he; rfl) (fun _ => by rw [hgo, Nat.zero_add]; rfl) hbd⟩
                  | false =>
                    rw [hr] at h
                    simp only [cond_false] at h
                    cases hq : Nat.ble ((o + m') * (n + 1)) ds.length with
                    | false => rw [hq] at h; cases h
                    | true =>
                      rw [hq] at h
                      simp only [cond_true] at h
                      cases h
                      have hq := Nat.le_of_ble_eq_true hq
                      rw [Nat.add_mul] at hq
                      have hle := le32 (hcs _ (List.mem_singleton.2 rfl))
                      rw [int_i] at hle
                      have hgt : c' < m' + m := by
                        rcases Nat.lt_or_ge c' (m' + m) with h0 | h0
                        · exact h0
                        · rw [Nat.ble_eq_true_of_le h0] at hr; cases hr
                      have os := osrc (by omega)
                      obtain ⟨q, hrun⟩ := append_grow (ty := ty) hu hu2 hinf hz hsrc os hgt (by omega) hbytes
                      have hov : VRs ρ G ((ds.drop (o * (n + 1))).take (m' * (n + 1))) ((arr.toList.drop (o * (n + 1))).take (m' * (n + 1))).toArray := by
                        refine ⟨by simp; omega, fun i a' v x y => ?_⟩
                        rw [List.getElem?_toArray] at y
                        rw [List.getElem?_take] at x y
                        split at x
                        · rename_i hin
                          rw [if_pos hin] at y
                          rw [List.getElem?_drop] at x y
                          rw [Array.getElem?_toList] at y
                          exact hvr _ a' v x y
                        · cases x
                      obtain ⟨G', h1, h2, h3⟩ := grown_cells hM hov hnv (n := n + 1) (k := m' + m) (q := q) (by rw [os.size, hsize, hnl, Nat.add_mul]) z.cells hzs el
                      exact ⟨_, _, G', hrun, h1, h2, h3⟩
                · cases hd
                · cases hd
              · -- the tip of a row
                rename_i b l ds hdk
                rcases destK_inv hdk with ⟨hd, _⟩ | ⟨_, _, _, _, _, _, _, _, hd, _⟩ | ⟨b', l', cs', off, len, hd, rfl, ho, hl, hob, hll⟩ | ⟨_, _, _, _, _, _, hd, _⟩
                · cases hd
                · cases hd
                · cases hd
                  cases h
                  obtain ⟨g, a, m', c', hg, rfl, hlen, hoff, hmc, hcap, ha, hbd⟩ := hs.sl_inv
                  have e1 := litN_i ho ρ
                  have e2 := litN_i hl ρ
                  have em : m' = l := by omega
                  subst em
                  obtain ⟨g', hg', hgo, arr, tt, hheap, hasz, hdl, hvr⟩ := hM.ob _ _ hob
                  rw [hg] at hg'; cases hg'
                  have e0 : (off.den ρ).i.toNat = 0 := by rw [e1]; rfl
                  rw [e0, Nat.zero_mul, hgo] at ha
                  rw [e0, Nat.zero_add] at hbd
                  have hle := le32 (hcs _ (List.mem_singleton.2 rfl))
                  rw [int_i] at hle
                  by_cases hr : m' + m ≤ c'
                  · rw [ha (by omega)]
                    have hfit : (m' + m) * (n + 1) ≤ arr.size := by rw [hasz]; exact Nat.le_trans (Nat.mul_le_mul_right _ hr) hbd
                    rw [Nat.add_mul] at hfit
                    have hrun := append_room (ty := ty) hu hu2 hinf hsrc hheap (o := 0 + 0) (sLen := m') (sCap := c') hr (by rw [hsize, hnl]; omega) hnone
                    rw [hsize] at hrun
                    simp only [Nat.add_zero, Nat.zero_add] at hrun ⊢
                    obtain ⟨k1, k2, k3, k4, k5, k6⟩ := setCells_heap g.blk news (m' * (n + 1)) w
                    have hnb := hM.no
                    have hcat : ∀ (i : Nat) (a' : AV) (v : Value), (ds ++ xs)[i]? = some a' → (setManyV arr (m' * (n + 1)) news)[i]? = some v → VR ρ G a' v := fun i a' v x y => by
                      rw [setManyV_get _ _ _ _ (by rw [hnl]; omega)] at y
                      rw [List.getElem?_append] at x
                      split at x
                      · rw [if_neg (by omega)] at y; exact hvr i a' v x y
                      · rename_i hge
                        have hil : i - ds.length < xs.length := (List.getElem?_eq_some_iff.1 x).1
                        rw [if_pos (by rw [hnl]; omega), hll] at y
                        exact hnv.2 _ a' v x (by simpa using y)
                    obtain ⟨h1, h2⟩ := hM.move (w' := w.setCells g.blk (m' * (n + 1)) news) (g2 := ⟨g.blk, 0, g.sz⟩) (.cells (ds ++ xs)) hob hg rfl trivial rfl k2 k3 k4 (Nat.le_of_eq k1.symm) (fun k _ hk => k5 k hk) ⟨rfl, _, tt, k6 arr tt _ hheap, by rw [setManyV_size]; exact hasz, by rw [List.length_append, setManyV_size]; omega, fun i a' v x y => (hcat i a' v x y).mono (Gh.le_add hnb)⟩
                    exact ⟨_, _, _, hrun, h1, h2, .sl _ _ _ _ _ ⟨g.blk, 0, g.sz⟩ _ _ _ (by simp [Gh.add]) rfl (Int.le_refl _) hr (fun e he => by cases he) (fun _ => by simp [int_i]) (by rw [int_i]; simpa using hbd)⟩
                  · obtain ⟨hM1, hS1⟩ := hM.drop (hdel M.hp b) (fun c o h => hdel_sub c o h)
                    have os : Src P w inf.size (.slice a m' c') m' ((arr.toList).take (m' * (n + 1))) := by
                      refine src_slice (by rw [List.length_take, Array.length_toList, hsize]; omega) fun j v hj => ?_
                      rw [List.getElem?_take] at hj
                      split at hj
                      · rename_i hjl
                        rw [Array.getElem?_toList] at hj
                        have hm0 : 0 < m' := by
                          rcases Nat.eq_zero_or_pos m' with h0 | h0
                          · rw [h0, Nat.zero_mul] at hjl; omega
                          · exact h0
                        exact ⟨_, _, ha (by omega), by rw [cell_of_heap hheap]; simpa using hj⟩
                      · cases hj
                    obtain ⟨q, hrun⟩ := append_grow (ty := ty) hu hu2 hinf hz hsrc os (by omega) (by omega) hbytes
                    have hov : VRs ρ G ds (arr.toList.take (m' * (n + 1))).toArray := by
                      refine ⟨by simp; omega, fun i a' v x y => ?_⟩
                      rw [List.getElem?_toArray, List.getElem?_take] at y
                      split at y
                      · rw [Array.getElem?_toList] at y; exact hvr _ a' v x y
                      · cases y
                    obtain ⟨G', h1, h2, h3⟩ := grown_cells hM1 hov hnv (n := n + 1) (k := m' + m) (q := q) (by rw [os.size, hsize, hnl, Nat.add_mul]) z.cells hzs el
                    exact ⟨_, _, G', hrun, h1, hS1.trans h2, h3⟩
                · cases hd
              · -- a row of plain data
                rename_i b ks e len hdk
                rcases destK_inv hdk with ⟨hd, _⟩ | ⟨_, _, _, _, _, _, _, _, hd, _⟩ | ⟨_, _, _, _, _, hd, _⟩ | ⟨b', ks', e', len', off, cap, hd, rfl, ho, hob, hkl⟩
                · cases hd
                · cases hd
                · cases hd
                · cases hd
                  cases hall : allData ks (n + 1) xs.length xs with
                  | false => rw [hall] at h; cases h
                  | true =>
                    rw [hall] at h
                    simp only [cond_true] at h
                    cases h
                    have c1 := hcs (mkB .eq len (mkU .len e)) (by simp)
                    have c2 := le32 (hcs (mkB .le (mkB .add len (.int m)) (.int 4294967296)) (by simp))
                    rw [eq_b, len_den] at c1
                    have c1 := of_decide_eq_true c1
                    have hadd : ((mkB .add len (.int m)).den ρ).i = (len.den ρ).i + m := by rw [mkB_den]; rfl
                    rw [hadd, c1] at c2
                    obtain ⟨l2, hl2, hnews, hmap⟩ := rowsOf_ok (Nat.succ_pos n) hkl xs.length xs news (Nat.le_refl _) hall hnv
                    have hll : l2.length = m := by
                      have := congrArg List.length hnews
                      rw [rowVals_length, hnl, hkl] at this
                      exact (Nat.eq_of_mul_eq_mul_right (Nat.succ_pos n) this).symm
                    rw [hnews, hsize] at hsrc
                    refine rows_app hM hu hu2 hinf hsize hbytes hz hzs hob hkl hs ho c1 hsrc hll ?_ (by rw [hadd, c1]) (by omega)
                    split
                    · rename_i r0 hr0
                      rw [mkB_den]
                      rw [hr0] at hmap
                      rw [hmap]
                      rfl
                    · rw [mkB_den]
                      show (e.den ρ).l ++ ((rowsOf (n + 1) xs).den ρ).l = _
                      rw [show (rowsOf (n + 1) xs).den ρ = .list l2 from hl2]
                      rfl
              · cases h
        · -- a source that is a row of plain data
          split at h
          · rename_i ks e' L cs' hsr
            split at h
            · rename_i hdk
              cases h
              have c1 := hcs (mkB .eq (mkU .len e') L) (by simp)
              have c2 := le32 (hcs (mkB .le L (.int 4294967296)) (by simp))
              rw [eq_b, len_den] at c1
              have c1 := of_decide_eq_true c1
              obtain ⟨hkl, hks, hsrc⟩ := srcRows_ok (P := P) hM hsr (fun c hc => hcs c (by simp [hc])) hx c1
              obtain ⟨a, rfl⟩ := zero_dest hdk hs
              by_cases hm : (e'.den ρ).l.length = 0
              · have hnil : (e'.den ρ).l = [] := List.eq_nil_of_length_eq_zero hm
                rw [hnil, ← hsize] at hsrc
                have hrun := append_same (ty := ty) hu hu2 hinf hsrc (Nat.le_refl 0) (a := a)
                obtain ⟨h1, h2⟩ := hM.new (w' := w) (.rows ks e') ⟨w.heap.size, 0, 0⟩ (Nat.le_refl _) ⟨rfl, hks, fun _ => hnil, fun h => absurd rfl h⟩ rfl rfl rfl (Nat.le_refl _) (fun _ _ => rfl)
                exact ⟨_, w, _, hrun, h1, h2, .sl _ _ _ _ _ ⟨w.heap.size, 0, 0⟩ _ _ _ (by simp [Gh.add]) (by rw [← c1, hm]) (Int.le_refl _) (Nat.le_refl _) (fun e he => by cases he) (fun h => by omega) (by rw [int_i]; simp)⟩
              · rw [← hsize] at hsrc
                obtain ⟨q, hrun⟩ := append_grow (ty := ty) hu hu2 hinf hz hsrc (a := a) (sLen := 0) (sCap := 0) (olds := []) (src_slice (by simp) (fun j v h => by simp at h)) (by omega) (by omega) hbytes
                obtain ⟨G', h1, h2, h3⟩ := grown_rows hM (E := e') (L := L) (l1 := []) (l2 := (e'.den ρ).l) hks (by rfl) rfl rfl (q := q) z.cells (by rw [hzs, hkl]) el (by rw [← c1, List.length_nil, Int.natCast_zero, Int.zero_add])
                rw [hkl] at h3
                simp only [Nat.zero_add, List.length_nil] at hrun h1 h2 h3
                exact ⟨_, _, G', hrun, h1, h2, h3⟩
            · rename_i b ks' e len hdk
              rcases destK_inv hdk with ⟨hd, _⟩ | ⟨_, _, _, _, _, _, _, _, hd, _⟩ | ⟨_, _, _, _, _, hd, _⟩ | ⟨b', ks2, e2, len', off, cap, hd, rfl, ho, hob, hkl2⟩
              · cases hd
              · cases hd
              · cases hd
              · cases hd
                split at h
                · rename_i hkk
                  subst hkk
                  cases h
                  have c0 := hcs (mkB .eq len (mkU .len e)) (by simp)
                  have c1 := hcs (mkB .eq (mkU .len e') L) (by simp)
                  have c2 := le32 (hcs (mkB .le (mkB .add len L) (.int 4294967296)) (by simp))
                  rw [eq_b, len_den] at c0 c1
                  have c0 := of_decide_eq_true c0
                  have c1 := of_decide_eq_true c1
                  obtain ⟨hkl, hks, hsrc⟩ := srcRows_ok (P := P) hM hsr (fun c hc => hcs c (by simp [hc])) hx c1
                  have hadd : ((mkB .add len L).den ρ).i = (len.den ρ).i + (L.den ρ).i := by rw [mkB_den]; rfl
                  rw [hadd, c0, ← c1] at c2
                  exact rows_app hM hu hu2 hinf hsize hbytes hz hzs hob hkl2 hs ho c0 hsrc rfl (by rw [mkB_den]; rfl) (by rw [hadd, c0, c1]) (by omega)
                · cases h
            · cases h
          · cases h
    · cases h
  · cases h
end
end Go.Proofs.Ytbnbljeegghgiaa
