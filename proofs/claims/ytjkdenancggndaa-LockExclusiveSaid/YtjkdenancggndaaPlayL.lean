/- Plays on one lock: each thread gets on. No program in sight. -/
import Derived.Test.YtjkdenancggndaaPlay
namespace Go.Proofs.Ytjkdenancggndaa
set_option linter.unusedVariables false
set_option linter.unusedSimpArgs false
set_option maxRecDepth 100000
theorem pg_9 (w : List Int) (word : Int) (x : Seat) (h : x.log.length ≤ 3 := by simp) : pgM w word x ≤ 9 := by
  unfold pgM
  split
  · split
    · omega
    · rename_i r l e
      rw [e] at h
      simp only [List.length_cons] at h
      split
      · omega
      · split
        · split <;> omega
        · split <;> omega
  · split
    · omega
    · split <;> omega
theorem inv_stepL {W : Nat → List Int} {t t' : Tab} {s : Nat → Seat} {cur : Int} {hd : Nat → Bool} (hI : Inv W t s cur hd) {me : Nat} (hm : me < 3) {x' : Seat} {cur' : Int} {hd' : Nat → Bool} (ml' : t'.m.length = 24) (nb' : t'.bad = false)
    (cnt' : t'.vals.length + shr (W me) (s me) = t.vals.length + shr (W me) x') (val' : t'.m[17]?.getD 0 = t'.vals[t'.vals.length - 1]?.getD 0) (hcc : cur ≤ cur') (c0 : 0 ≤ cur') (c1 : cur' < t'.vals.length)
    (hx : SOk (W me) (t'.m[16]?.getD 0) t'.vals cur' (hd' me) x') (ho : ∀ j, j < 3 → j ≠ me → SOk (W j) (t'.m[16]?.getD 0) t'.vals cur' (hd' j) (s j))
    (hl : ((∀ j, hd' j = false) ∧ t'.held = 0 ∧ t'.m[16]?.getD 0 = 2 * cur' ∧ (t'.vals.length : Int) = cur' + 1) ∨
     (∃ h, h < 3 ∧ hd' h = true ∧ (∀ j, j ≠ h → hd' j = false) ∧ t'.held = 1 ∧ t'.m[16]?.getD 0 = 2 * (h : Int) + 1)) (hho : ∀ j, j ≠ me → hd j = false → hd' j = false) (hrk : (∀ j, j ≠ me → hd j = false) → (s me).nx < (W me).length → rkM (W me) (t'.m[16]?.getD 0) x' < rkM (W me) (t.m[16]?.getD 0) (s me)) : ∃ c h, Inv W t' (upd s me x') c h ∧ (∀ j, j ≠ me → hd j = false → h j = false) ∧ ((∀ j, j ≠ me → hd j = false) → (s me).nx < (W me).length → rkM (W me) (t'.m[16]?.getD 0) x' < rkM (W me) (t.m[16]?.getD 0) (s me)) := by
  refine ⟨cur', hd', ⟨ml', nb', hI.wl, ?_, val', c0, c1, fun j hj => ?_, hl⟩, hho, hrk⟩
  · have hc := hI.cnt
    have : me = 0 ∨ me = 1 ∨ me = 2 := by omega
    rcases this with rfl | rfl | rfl <;> simp [upd] <;> omega
  · unfold upd
    by_cases e : j = me
    · subst e; rw [if_pos rfl]; exact hx
    · rw [if_neg e]; exact ho j hj e
/-- A turn keeps what is true. -/
theorem turn_live {W : Nat → List Int} {t : Tab} {s : Nat → Seat} {cur : Int} {hd : Nat → Bool} (hI : Inv W t s cur hd) {me : Nat} (hm : me < 3) : ∃ c h, Inv W (turnM me (W me) t (s me)).1 (upd s me (turnM me (W me) t (s me)).2) c h ∧ (∀ j, j ≠ me → hd j = false → h j = false) ∧ ((∀ j, j ≠ me → hd j = false) → (s me).nx < (W me).length → rkM (W me) ((turnM me (W me) t (s me)).1.m[16]?.getD 0) (turnM me (W me) t (s me)).2 < rkM (W me) (t.m[16]?.getD 0) (s me)) := by
  have hI0 := hI
  obtain ⟨ml, nb, wl, cnt, val, c0, c1, hok, hl⟩ := hI
  have hx := hok me hm
  have hoth : ∀ j, j < 3 → j ≠ me → SOk (W j) (t.m[16]?.getD 0) t.vals cur (hd j) (s j) := fun j hj _ => hok j hj
  have hlen := wl me hm
  have hn : t.vals.length ≤ 28 := by
    have h0 := cnt_le (W 0) (s 0).nx.toNat
    have h1 := cnt_le (W 1) (s 1).nx.toNat
    have h2 := cnt_le (W 2) (s 2).nx.toNat
    have b : ∀ j, j < 3 → (s j).nx.toNat ≤ 8 := fun j hj => by
      have := wl j hj
      have hs := hok j hj
      generalize s j = y at hs ⊢
      generalize hd j = b at hs
      cases hs <;> simp only <;> omega
    have := b 0 (by omega)
    have := b 1 (by omega)
    have := b 2 (by omega)
    unfold shr at cnt
    split at cnt <;> split at cnt <;> split at cnt <;> omega
  have hfree : (∀ j, j ≠ me → hd j = false) → hd me = true ∨ (t.m[16]?.getD 0 = 2 * cur ∧ (t.vals.length : Int) = cur + 1) := fun hf => by
    rcases hl with ⟨_, _, h1, h2⟩ | ⟨h, _, h1, _, _, _⟩
    · exact .inr ⟨h1, h2⟩
    · by_cases e : h = me
      · subst e; exact .inl h1
      · rw [hf h e] at h1; cases h1
  obtain ⟨m, held, vals, bad⟩ := t
  simp only at ml nb cnt val c1 hok hl hx hoth hn hfree
  subst nb
  generalize hxs : s me = x at hx
  generalize hhd : hd me = hb at hx
  -- the table as it was, the seat in a state of the same kind
  have stay : ∀ x', SOk (W me) (m[16]?.getD 0) vals cur hb x' → shr (W me) x' = shr (W me) x → ((∀ j, j ≠ me → hd j = false) → x.nx < (W me).length → rkM (W me) (m[16]?.getD 0) x' < rkM (W me) (m[16]?.getD 0) x) → ∃ c h, Inv W ⟨m, held, vals, false⟩ (upd s me x') c h ∧ (∀ j, j ≠ me → hd j = false → h j = false) ∧ ((∀ j, j ≠ me → hd j = false) → x.nx < (W me).length → rkM (W me) (m[16]?.getD 0) x' < rkM (W me) (m[16]?.getD 0) x) := fun x' h1 h2 h3 => by
    have := inv_stepL hI0 hm (x' := x') (t' := ⟨m, held, vals, false⟩) ml rfl (by rw [hxs, h2]) val (Int.le_refl _) c0 c1 (by rw [hhd]; exact h1) hoth hl (fun _ _ h => h) (by rw [hxs]; exact h3)
    rw [hxs] at this
    exact this
  generalize hWm : W me = w at hx stay hlen ⊢
  have l16 : acM m (askN 1 16 0 0) = (m, (m[16]?.getD 0, true), 0) := ac_ld ml (by omega) (by omega)
  have l17 : acM m (askN 1 17 0 0) = (m, (m[17]?.getD 0, true), 0) := ac_ld ml (by omega) (by omega)
  have hword : m[16]?.getD 0 % 2 = 1 ∨ (m[16]?.getD 0 = 2 * cur ∧ (vals.length : Int) = cur + 1) := by
    rcases hl with ⟨_, _, h1, h2⟩ | ⟨h, _, _, _, _, h1⟩
    · exact .inr ⟨h1, h2⟩
    · exact .inl (by omega)
  cases hx with
  | idle nx ver h0 h1 =>
    by_cases hf : (w.length : Int) ≤ nx
    · have e : turnM me w ⟨m, held, vals, false⟩ ⟨nx, 0, [], ver⟩ = (⟨m, held, vals, false⟩, ⟨nx, 0, [], ver⟩) := by unfold turnM; rw [if_pos hf]
      rw [e]
      exact stay _ (.idle _ _ h0 h1) rfl (fun _ hlt => absurd hlt (by simp only; omega))
    · by_cases hw : (w[nx.toNat]?.getD 0).tmod 3 = 0
      · have e : turnM me w ⟨m, held, vals, false⟩ ⟨nx, 0, [], ver⟩ = (⟨m, held, vals, false⟩, ⟨nx, 0, [(m[16]?.getD 0, true)], ver⟩) := by
          unfold turnM; simp [hf, hw, rd_0, l16, ask_done]
        rw [e]
        refine stay _ (.read _ _ _ h0 (by omega) hw ?_) rfl (fun hf hlt => rk_lt rfl rfl hlt (by simp [pgM, hw]) (pg_9 _ _ _ (by simp)))
        rcases hword with h | ⟨h, _⟩
        · exact .inl h
        · exact .inr ⟨by simp only; omega, by simp only; omega, by simp only; omega⟩
      · have e : turnM me w ⟨m, held, vals, false⟩ ⟨nx, 0, [], ver⟩ = (⟨m, held, vals, false⟩, ⟨nx, 0, [(m[16]?.getD 0, true)], ver⟩) := by
          unfold turnM; simp [hf, hw, tk_0, l16, ask_done, ask_k]
        rw [e]
        refine stay _ (.take1 _ _ _ h0 (by omega) hw) rfl (fun hf hlt => rk_lt rfl rfl hlt ?_ (pg_9 _ _ _ (by simp)))
        rcases hfree hf with h | ⟨h, _⟩
        · rw [hhd] at h; cases h
        · have : m[16]?.getD 0 % 2 = 0 := by omega
          simp [pgM, hw, this]
  | read nx ver log h0 h1 hw hr =>
    have hf : ¬ (w.length : Int) ≤ nx := by omega
    have hnx : wr (nx + 1) = nx + 1 := wr_id (by omega) (by omega)
    have hlog : log.length ≤ 3 := by
      match log, hr with
      | [], _ => simp
      | [_], _ => simp
      | [_, _], _ => simp
      | [_, _, _], _ => simp
    have fin : ∀ (x' : Seat), x' = ⟨nx + 1, 0, [], ver⟩ → ∃ c h, Inv W ⟨m, held, vals, false⟩ (upd s me x') c h ∧ (∀ j, j ≠ me → hd j = false → h j = false) ∧ ((∀ j, j ≠ me → hd j = false) → nx < w.length → rkM w (m[16]?.getD 0) x' < rkM w (m[16]?.getD 0) ⟨nx, 0, log, ver⟩) := fun x' hx' => by
      subst hx'
      refine stay _ (.idle _ _ (by omega) (by omega)) ?_ (fun _ _ => rk_next (st := 0) rfl h0 h1 (pg_9 _ _ _ hlog))
      unfold shr
      rw [cnt_succ w h0, if_pos hw]
      rfl
    match log, hr with
    | [], _ =>
      have e : turnM me w ⟨m, held, vals, false⟩ ⟨nx, 0, [], ver⟩ = (⟨m, held, vals, false⟩, ⟨nx, 0, [(m[16]?.getD 0, true)], ver⟩) := by
        unfold turnM; simp [hf, hw, rd_0, l16, ask_done]
      rw [e]
      refine stay _ (.read _ _ _ h0 (by omega) hw ?_) rfl (fun hf hlt => rk_lt rfl rfl hlt (by simp [pgM, hw]) (pg_9 _ _ _ (by simp)))
      rcases hword with h | ⟨h, _⟩
      · exact .inl h
      · exact .inr ⟨by simp only; omega, by simp only; omega, by simp only; omega⟩
    | [r], hr =>
      by_cases ho : r.1 % 2 = 1
      · have e : turnM me w ⟨m, held, vals, false⟩ ⟨nx, 0, [r], ver⟩ = (⟨m, held, vals, false⟩, ⟨nx + 1, 0, [], ver⟩) := by
          unfold turnM; simp [hf, hw, rd_1, ho, dn_done, dn_is, hnx]
        rw [e]
        exact fin _ rfl
      · have e : turnM me w ⟨m, held, vals, false⟩ ⟨nx, 0, [r], ver⟩ = (⟨m, held, vals, false⟩, ⟨nx, 0, [r, (m[17]?.getD 0, true)], ver⟩) := by
          unfold turnM; simp [hf, hw, rd_1, ho, l17, ask_done]
        rw [e]
        refine stay _ (.read _ _ _ h0 (by omega) hw ?_) rfl (fun hf hlt => rk_lt rfl rfl hlt (by simp [pgM, hw]) (pg_9 _ _ _ (by simp)))
        rcases hr with hr | ⟨a, b, c⟩
        · exact absurd hr ho
        · refine ⟨a, b, c, fun hwd => ?_⟩
          show m[17]?.getD 0 = _
          rw [val]
          congr 2
          rcases hword with h | ⟨h, h2⟩ <;> omega
    | [r, r1], ⟨a, b, c, d⟩ =>
      have ho : ¬ r.1 % 2 = 1 := by omega
      have e : turnM me w ⟨m, held, vals, false⟩ ⟨nx, 0, [r, r1], ver⟩ = (⟨m, held, vals, false⟩, ⟨nx, 0, [r, r1, (m[16]?.getD 0, true)], ver⟩) := by
        unfold turnM; simp [hf, hw, rd_2 ho, l16, ask_done]
      rw [e]
      exact stay _ (.read _ _ _ h0 (by omega) hw ⟨a, b, c, fun h => d h⟩) rfl (fun hf hlt => rk_lt rfl rfl hlt (by simp [pgM, hw]) (pg_9 _ _ _ (by simp)))
    | [r, r1, r2], ⟨a, b, c, d⟩ =>
      have ho : ¬ r.1 % 2 = 1 := by omega
      by_cases h2 : r2.1 = r.1
      · have k1 : 0 ≤ r.1 / 2 := by omega
        have k2 : ¬ (vals.length : Int) ≤ r.1 / 2 := by omega
        have e : turnM me w ⟨m, held, vals, false⟩ ⟨nx, 0, [r, r1, r2], ver⟩ = (⟨m, held, vals, false⟩, ⟨nx + 1, 0, [], ver⟩) := by
          unfold turnM; simp [hf, hw, rd_3 ho, h2, dn_done, dn_is, dn_ver, dn_val, hnx, k1, k2, d h2]
        rw [e]
        exact fin _ rfl
      · have e : turnM me w ⟨m, held, vals, false⟩ ⟨nx, 0, [r, r1, r2], ver⟩ = (⟨m, held, vals, false⟩, ⟨nx + 1, 0, [], ver⟩) := by
          unfold turnM; simp [hf, hw, rd_3 ho, h2, dn_done, dn_is, hnx]
        rw [e]
        exact fin _ rfl
  | take1 nx ver r h0 h1 hw =>
    have hf : ¬ (w.length : Int) ≤ nx := by omega
    by_cases ho : r.1 % 2 = 1
    · have e : turnM me w ⟨m, held, vals, false⟩ ⟨nx, 0, [r], ver⟩ = (⟨m, held, vals, false⟩, ⟨nx, 0, [], ver⟩) := by
        unfold turnM; simp [hf, hw, tk_1, ho, dn_done, dn_is]
      rw [e]
      exact stay _ (.idle _ _ h0 (by omega)) rfl (fun hf hlt => rk_lt rfl rfl hlt (by simp [pgM, hw, ho]) (pg_9 _ _ _ (by simp)))
    · have hb : wr (wr (2 * (me : Int)) + 1) = 2 * me + 1 := by rw [wr_id (n := 2 * (me : Int)) (by omega) (by omega), wr_id (by omega) (by omega)]
      by_cases hc : m[16]?.getD 0 = r.1
      · -- the lock is free, and taken
        rcases hword with h | ⟨hcur, hvl⟩
        · omega
        rcases hl with ⟨hall, hheld, hw1, hw2⟩ | ⟨h, _, _, _, _, hw1⟩
        · subst hheld
          have lc : acM m (askN 3 16 r.1 (2 * (me : Int) + 1)) = (m.set 16 (2 * (me : Int) + 1), (r.1, true), 0) := by rw [ac_cas ml (by omega) (by omega)]; exact if_pos hc
          have hw01 : wr 1 = 1 := rfl
          have e : turnM me w ⟨m, 0, vals, false⟩ ⟨nx, 0, [r], ver⟩ = (⟨m.set 16 (2 * (me : Int) + 1), 1, vals, false⟩, ⟨nx, 0, [r, (r.1, true)], ver⟩) := by
            unfold turnM; simp [hf, hw, tk_1, ho, hb, lc, ask_done, ask_k, hw01]
          rw [e]
          have g16 : (m.set 16 (2 * (me : Int) + 1))[16]?.getD 0 = 2 * (me : Int) + 1 := by rw [List.getElem?_set_self (by omega)]; rfl
          have g17 : (m.set 16 (2 * (me : Int) + 1))[17]?.getD 0 = m[17]?.getD 0 := by rw [List.getElem?_set_ne (by omega)]
          rw [← hxs, ← hWm]
          refine inv_stepL (t' := ⟨m.set 16 (2 * (me : Int) + 1), 1, vals, false⟩) (cur' := cur) (hd' := fun j => decide (j = me)) hI0 hm (by simp [ml]) rfl (by rw [hxs, hWm]; rfl) (by simp only; rw [g17]; exact val) (Int.le_refl _) c0 c1 ?_ (fun j hj hne => ?_) (.inr ⟨me, hm, by simp, fun j hj => by simp [hj], rfl, g16⟩) (fun j hj _ => by simp [hj]) (by
            rw [hxs, hWm]
            exact fun hf hlt => rk_lt rfl rfl hlt (by have : r.1 % 2 = 0 := by omega
                                                      simp [pgM, hw, hc, this]) (pg_9 _ _ _ (by simp)))
          · simp only [g16, hWm, decide_true]
            exact .got _ _ _ _ h0 h1 hw (by omega) hvl rfl
          · simp only [g16, hne, decide_false]
            have := hoth j hj hne
            rw [hall j] at this
            exact this.mono c1 (Int.le_refl _) (fun _ _ => rfl) (.inr (.inl (by omega)))
        · omega
      · have lc : acM m (askN 3 16 r.1 (2 * (me : Int) + 1)) = (m, (m[16]?.getD 0, false), 0) := by rw [ac_cas ml (by omega) (by omega)]; exact if_neg hc
        have e : turnM me w ⟨m, held, vals, false⟩ ⟨nx, 0, [r], ver⟩ = (⟨m, held, vals, false⟩, ⟨nx, 0, [r, (m[16]?.getD 0, false)], ver⟩) := by
          unfold turnM; simp [hf, hw, tk_1, ho, hb, lc, ask_done, ask_k]
        rw [e]
        exact stay _ (.take2 _ _ _ _ h0 h1 hw ho rfl) rfl (fun hf hlt => rk_lt rfl rfl hlt (by simp [pgM, hw, show ¬ r.1 = m[16]?.getD 0 from fun e => hc e.symm]) (pg_9 _ _ _ (by simp)))
  | take2 nx ver r c h0 h1 hw he hc =>
    have hf : ¬ (w.length : Int) ≤ nx := by omega
    have e : turnM me w ⟨m, held, vals, false⟩ ⟨nx, 0, [r, c], ver⟩ = (⟨m, held, vals, false⟩, ⟨nx, 0, [], ver⟩) := by
      unfold turnM; simp [hf, hw, tk_2 he, hc, dn_done, dn_is]
    rw [e]
    exact stay _ (.idle _ _ h0 (by omega)) rfl (fun hf hlt => rk_lt rfl rfl hlt (by simp [pgM, hw, hc]) (pg_9 _ _ _ (by simp)))
  | got nx ver r c h0 h1 hw he hn2 hc =>
    have hf : ¬ (w.length : Int) ≤ nx := by omega
    have hb : wr ((vals.length : Int) - 1) = cur := by rw [wr_id (by omega) (by omega)]; omega
    have ho : ¬ r.1 % 2 = 1 := by omega
    have hr2 : r.1 / 2 = cur := by omega
    have e : turnM me w ⟨m, held, vals, false⟩ ⟨nx, 0, [r, c], ver⟩ = (⟨m, held, vals, false⟩, ⟨nx, 1, [], cur⟩) := by
      unfold turnM; simp [hf, hw, tk_2 ho, hc, dn_done, dn_is, dn_ver, hb, hr2]
    rw [e]
    exact stay _ (.sto _ h0 h1 hw hn2) rfl (fun hf hlt => rk_lt rfl rfl hlt (by simp [pgM, hw, hc]) (pg_9 _ _ _ (by simp)))
  | sto nx h0 h1 hw hn2 =>
    have hf : ¬ (w.length : Int) ≤ nx := by omega
    generalize hv : wr (wr (wr (1000 * (me : Int)) + wr (10 * nx)) + 5) = v
    have ls : doM m 2 17 0 v [] = (m.set 17 v, (m[17]?.getD 0, true), 0) := pdo_store (by omega) (by omega) v
    have e : turnM me w ⟨m, held, vals, false⟩ ⟨nx, 1, [], cur⟩ = (⟨m.set 17 v, held, vals ++ [v], false⟩, ⟨nx, 2, [], cur⟩) := by
      unfold turnM; simp [hf, hw, hv, pl_v, ls]
    rw [e]
    have g16 : (m.set 17 v)[16]?.getD 0 = m[16]?.getD 0 := by rw [List.getElem?_set_ne (by omega)]
    have g17 : (m.set 17 v)[17]?.getD 0 = v := by rw [List.getElem?_set_self (by omega)]; rfl
    have hpre : ∀ k : Nat, k < vals.length → (vals ++ [v])[k]?.getD 0 = vals[k]?.getD 0 := fun k hk => by rw [List.getElem?_append_left hk]
    rw [← hxs, ← hWm]
    refine inv_stepL (t' := ⟨m.set 17 v, held, vals ++ [v], false⟩) (cur' := cur) (hd' := hd) hI0 hm (by simp [ml]) rfl ?_ ?_ (Int.le_refl _) c0 (by simp; omega) ?_ (fun j hj hne => ?_) ?_ (fun _ _ h => h) (by
      rw [hxs, hWm]
      exact fun hf hlt => rk_lt rfl rfl hlt (by simp [pgM, hw]) (pg_9 _ _ _ (by simp)))
    · rw [hxs, hWm]; unfold shr; simp; omega
    · simp only [g17]; simp
    · simp only [g16, hWm, hhd]
      exact .giv _ h0 h1 hw (by simp; omega)
    · simp only [g16]
      have := hoth j hj hne
      rcases hl with ⟨hall, _⟩ | ⟨h, hh3, hh, hall, _, _⟩
      · rw [hall me] at hhd; cases hhd
      · have hmh : me = h := by
          apply Classical.byContradiction
          intro hne'
          rw [hall me hne'] at hhd; cases hhd
        rw [hall j (by omega)] at this ⊢
        exact this.mono c1 (Int.le_refl _) hpre (.inl rfl)
    · simp only [g16]
      rcases hl with ⟨hall, _⟩ | h
      · rw [hall me] at hhd; cases hhd
      · exact .inr h
  | giv nx h0 h1 hw hn2 =>
    have hf : ¬ (w.length : Int) ≤ nx := by omega
    have hb : wr (2 * wr (cur + 1)) = 2 * (cur + 1) := by rw [wr_id (n := cur + 1) (by omega) (by omega), wr_id (by omega) (by omega)]
    have ls : acM m (askN 2 16 0 (2 * (cur + 1))) = (m.set 16 (2 * (cur + 1)), (m[16]?.getD 0, true), 0) := ac_st ml (by omega) (by omega)
    rcases hl with ⟨hall, _⟩ | ⟨h, hh3, hh, hall, hheld, hw1⟩
    · rw [hall me] at hhd; cases hhd
    · have hmh : me = h := by
        apply Classical.byContradiction
        intro hne'
        rw [hall me hne'] at hhd; cases hhd
      subst hmh
      subst hheld
      have hw01 : wr 0 = 0 := rfl
      have e : turnM me w ⟨m, 1, vals, false⟩ ⟨nx, 2, [], cur⟩ = (⟨m.set 16 (2 * (cur + 1)), 0, vals, false⟩, ⟨nx, 2, [(m[16]?.getD 0, true)], cur⟩) := by
        unfold turnM; simp [hf, hw, gv_0, hb, ls, ask_done, hw01]
      rw [e]
      have g16 : (m.set 16 (2 * (cur + 1)))[16]?.getD 0 = 2 * (cur + 1) := by rw [List.getElem?_set_self (by omega)]; rfl
      have g17 : (m.set 16 (2 * (cur + 1)))[17]?.getD 0 = m[17]?.getD 0 := by rw [List.getElem?_set_ne (by omega)]
      rw [← hxs, ← hWm]
      refine inv_stepL (t' := ⟨m.set 16 (2 * (cur + 1)), 0, vals, false⟩) (cur' := cur + 1) (hd' := fun _ => false) hI0 hm (by simp [ml]) rfl (by rw [hxs, hWm]; rfl) (by simp only; rw [g17]; exact val) (by omega) (by omega) (by simp only; omega) ?_ (fun j hj hne => ?_) (.inl ⟨fun _ => rfl, rfl, g16, by simp only; omega⟩) (fun _ _ _ => rfl) (by
        rw [hxs, hWm]
        exact fun hf hlt => rk_lt rfl rfl hlt (by simp [pgM, hw]) (pg_9 _ _ _ (by simp)))
      · simp only [hWm]
        exact .gvn _ _ _ h0 h1 hw
      · simp only [g16]
        have := hoth j hj hne
        rw [hall j hne] at this
        exact this.mono c1 (by omega) (fun _ _ => rfl) (.inr (.inr ⟨rfl, by omega⟩))
  | gvn nx ver r h0 h1 hw =>
    have hf : ¬ (w.length : Int) ≤ nx := by omega
    have hnx : wr (nx + 1) = nx + 1 := wr_id (by omega) (by omega)
    have e : turnM me w ⟨m, held, vals, false⟩ ⟨nx, 2, [r], ver⟩ = (⟨m, held, vals, false⟩, ⟨nx + 1, 0, [], 0⟩) := by
      unfold turnM; simp [hf, hw, gv_1, dn_done, hnx]
    rw [e]
    refine stay _ (.idle _ _ (by omega) (by omega)) ?_ (fun _ _ => rk_next (st := 0) rfl h0 h1 (pg_9 _ _ _ (by simp)))
    unfold shr
    simp only
    rw [cnt_succ w h0, if_neg hw]
    simp
/-- A read that is done and was consistent. -/
theorem Inv.rdok {W : Nat → List Int} {t : Tab} {s : Nat → Seat} {cur : Int} {hdd : Nat → Bool} (hI : Inv W t s cur hdd) {me : Nat} (hm : me < 3) (hl : (s me).nx < (W me).length) (hw : ((W me)[(s me).nx.toNat]?.getD 0).tmod 3 = 0)
    (hd : (lkP me 4 0 (s me).log).done = true) (hi : (lkP me 4 0 (s me).log).is = true) : 0 ≤ (lkP me 4 0 (s me).log).ver ∧ (lkP me 4 0 (s me).log).ver < t.vals.length ∧ (lkP me 4 0 (s me).log).val = t.vals[(lkP me 4 0 (s me).log).ver.toNat]?.getD 0 := by
  have hs := hI.sk me hm
  have hc1 := hI.c1
  generalize s me = x at *
  generalize hdd me = b at hs
  cases hs with
  | idle nx ver h0 h1 => simp only [rd_0, ask_done] at hd; cases hd
  | read nx ver log h0 h1 hw' hr =>
    match log, hr with
    | [], _ => simp only [rd_0, ask_done] at hd; cases hd
    | [r], hr =>
      simp only [rd_1] at hd hi
      split at hd
      · rename_i ho; rw [if_pos ho] at hi; cases hi
      · cases hd
    | [r, r1], ⟨_, b, _, _⟩ => simp only [rd_2 (show ¬ r.1 % 2 = 1 by omega), ask_done] at hd; cases hd
    | [r, r1, r2], ⟨a, b, c, d⟩ =>
      have ho : ¬ r.1 % 2 = 1 := by omega
      simp only [rd_3 ho] at hi ⊢
      split at hi
      · cases hi
      · rename_i h2
        rw [if_neg h2]
        simp only [dn_ver, dn_val]
        exact ⟨by omega, by omega, d (by simpa using h2)⟩
  | take1 _ _ _ _ _ h => exact absurd hw h
  | take2 _ _ _ _ _ _ h => exact absurd hw h
  | got _ _ _ _ _ _ h => exact absurd hw h
  | sto _ _ _ h => exact absurd hw h
  | giv _ _ _ h => exact absurd hw h
  | gvn _ _ _ _ _ h => exact absurd hw h
theorem SOk.inj {W : List Int} {a c a' c' : Int} {b b' : List Int} {x : Seat} (h : SOk W a b c true x) (h' : SOk W a' b' c' false x) : False := by
  cases h with
  | got nx ver r c h0 h1 hw he hn hc =>
    cases h' with
    | read _ _ _ _ _ hw' _ => exact hw hw'
    | take2 _ _ _ _ _ _ _ _ hc' => rw [hc] at hc'; cases hc'
  | sto nx h0 h1 hw hn => cases h'
  | giv nx h0 h1 hw hn => cases h'
def tnM (W : Nat → List Int) (me : Nat) (p : Tab × (Nat → Seat)) : Tab × (Nat → Seat) := ((turnM me (W me) p.1 (p.2 me)).1, upd p.2 me (turnM me (W me) p.1 (p.2 me)).2)
def itM (W : Nat → List Int) (me : Nat) : Nat → Tab × (Nat → Seat) → Tab × (Nat → Seat)
  | 0, p => p
  | n + 1, p => tnM W me (itM W me n p)
theorem it_live {W : Nat → List Int} {p : Tab × (Nat → Seat)} {cur : Int} {hd : Nat → Bool} (hI : Inv W p.1 p.2 cur hd) {me : Nat} (hm : me < 3) : ∀ n, ∃ c h, Inv W (itM W me n p).1 (itM W me n p).2 c h ∧ (∀ j, j ≠ me → hd j = false → h j = false) ∧ (∀ j, j ≠ me → (itM W me n p).2 j = p.2 j) ∧
    ((∀ j, j ≠ me → hd j = false) → (W me).length ≤ ((itM W me n p).2 me).nx ∨ rkM (W me) ((itM W me n p).1.m[16]?.getD 0) ((itM W me n p).2 me) + n ≤ rkM (W me) (p.1.m[16]?.getD 0) (p.2 me))
  | 0 => ⟨cur, hd, hI, fun _ _ h => h, fun _ _ => rfl, fun _ => .inr (Nat.le_refl _)⟩
  | n + 1 => by
    obtain ⟨c, h, hI', h1, h2, h3⟩ := it_live hI hm n
    obtain ⟨c', h', hI2, g1, g2⟩ := turn_live hI' hm
    refine ⟨c', h', hI2, fun j hj h0 => g1 j hj (h1 j hj h0), fun j hj => ?_, fun hf => ?_⟩
    · show upd _ me _ j = _
      unfold upd
      rw [if_neg hj]
      exact h2 j hj
    · have hme : (itM W me (n + 1) p).2 me = (turnM me (W me) (itM W me n p).1 ((itM W me n p).2 me)).2 := if_pos rfl
      rw [hme]
      by_cases hfin : (W me).length ≤ ((itM W me n p).2 me).nx
      · left
        have e : turnM me (W me) (itM W me n p).1 ((itM W me n p).2 me) = ((itM W me n p).1, (itM W me n p).2 me) := by unfold turnM; rw [if_pos hfin]
        rw [e]
        exact hfin
      · right
        have := g2 (fun j hj => h1 j hj (hf j hj)) (by omega)
        rcases h3 hf with h | h
        · exact absurd h hfin
        · show rkM (W me) ((turnM me (W me) (itM W me n p).1 ((itM W me n p).2 me)).1.m[16]?.getD 0) _ + (n + 1) ≤ _
          omega
theorem rk_le {w : List Int} (hw : w.length ≤ 8) (word : Int) {x : Seat} (h0 : 0 ≤ x.nx) : rkM w word x ≤ 90 := by
  unfold rkM
  split
  · omega
  · omega
theorem run_live {W : Nat → List Int} {p : Tab × (Nat → Seat)} {cur : Int} {hd : Nat → Bool} (hI : Inv W p.1 p.2 cur hd) {me : Nat} (hm : me < 3) : ∃ c h, Inv W (itM W me 150 p).1 (itM W me 150 p).2 c h ∧ h me = false ∧ (∀ j, j ≠ me → hd j = false → h j = false) ∧ (∀ j, j ≠ me → (itM W me 150 p).2 j = p.2 j) ∧
    ((∀ j, j ≠ me → hd j = false) → (W me).length ≤ ((itM W me 150 p).2 me).nx) := by
  obtain ⟨c, h, hI', h1, h2, h3⟩ := it_live hI hm 150
  have hnx := ((hI.small).2 me hm).2.1
  have hr := rk_le (hI.wl me hm) (p.1.m[16]?.getD 0) hnx
  have hfin : (∀ j, j ≠ me → hd j = false) → (W me).length ≤ ((itM W me 150 p).2 me).nx := fun hf => by
    rcases h3 hf with h | h
    · exact h
    · omega
  refine ⟨c, h, hI', ?_, h1, h2, hfin⟩
  by_cases hf : ∀ j, j ≠ me → hd j = false
  · have hs := hI'.sk me hm
    have hfi := hfin hf
    generalize (itM W me 150 p).2 me = x at hs hfi
    generalize h me = b at hs
    cases hs with
    | idle => rfl
    | read => rfl
    | take1 => rfl
    | take2 => rfl
    | gvn => rfl
    | got nx ver r c h0 h1 => simp only at hfi; omega
    | sto nx h0 h1 => simp only at hfi; omega
    | giv nx h0 h1 => simp only at hfi; omega
  · obtain ⟨q, hq⟩ := Classical.not_forall.1 hf
    obtain ⟨hq1, hq2⟩ := Classical.not_imp.1 hq
    have hq3 : hd q = true := by cases h : hd q with | true => rfl | false => exact absurd h hq2
    have hqlt : q < 3 := by
      rcases hI.lk with ⟨ha, _⟩ | ⟨z, hz, _, ha, _⟩
      · rw [ha q] at hq3; cases hq3
      · by_cases e : q = z
        · omega
        · rw [ha q e] at hq3; cases hq3
    have hs := hI.sk q hqlt
    rw [hq3] at hs
    have hs' := hI'.sk q hqlt
    rw [h2 q hq1] at hs'
    have : h q = true := by
      cases hh : h q with
      | true => rfl
      | false => rw [hh] at hs'; exact (SOk.inj hs hs').elim
    rcases hI'.lk with ⟨ha, _⟩ | ⟨z, hz, _, ha, _⟩
    · exact ha me
    · by_cases e : me = z
      · have : q ≠ z := by omega
        rw [ha q this] at *
        contradiction
      · exact ha me e
def rndM (W : Nat → List Int) (p : Tab × (Nat → Seat)) : Tab × (Nat → Seat) := itM W 2 150 (itM W 1 150 (itM W 0 150 p))
theorem all_false {W : Nat → List Int} {t : Tab} {s : Nat → Seat} {cur : Int} {hd : Nat → Bool} (hI : Inv W t s cur hd) (h0 : hd 0 = false) (h1 : hd 1 = false) (h2 : hd 2 = false) : ∀ j, hd j = false := by
  rcases hI.lk with ⟨ha, _⟩ | ⟨z, hz, ht, _⟩
  · exact ha
  · have : z = 0 ∨ z = 1 ∨ z = 2 := by omega
    rcases this with rfl | rfl | rfl
    · rw [h0] at ht; cases ht
    · rw [h1] at ht; cases ht
    · rw [h2] at ht; cases ht
theorem rnd_1 {W : Nat → List Int} {p : Tab × (Nat → Seat)} {cur : Int} {hd : Nat → Bool} (hI : Inv W p.1 p.2 cur hd) : ∃ c h, Inv W (rndM W p).1 (rndM W p).2 c h ∧ (∀ j, h j = false) ∧ ((∀ j, hd j = false) → ∀ j, j < 3 → (W j).length ≤ ((rndM W p).2 j).nx) := by
  obtain ⟨c1, h1, I1, a1, b1, s1, f1⟩ := run_live hI (show 0 < 3 by omega)
  obtain ⟨c2, h2, I2, a2, b2, s2, f2⟩ := run_live I1 (show 1 < 3 by omega)
  obtain ⟨c3, h3, I3, a3, b3, s3, f3⟩ := run_live I2 (show 2 < 3 by omega)
  have g : ∀ j, h3 j = false := all_false I3 (b3 0 (by omega) (b2 0 (by omega) a1)) (b3 1 (by omega) a2) a3
  refine ⟨c3, h3, I3, g, fun hf j hj => ?_⟩
  have e1 := f1 fun j _ => hf j
  have e2 := f2 fun j hj => by
    by_cases e : j = 0
    · subst e; exact a1
    · exact b1 j e (hf j)
  have e3 := f3 fun j hj => by
    by_cases e : j = 1
    · subst e; exact a2
    · refine b2 j e ?_
      by_cases e : j = 0
      · subst e; exact a1
      · exact b1 j e (hf j)
  have : j = 0 ∨ j = 1 ∨ j = 2 := by omega
  rcases this with rfl | rfl | rfl
  · show _ ≤ ((itM W 2 150 (itM W 1 150 (itM W 0 150 p))).2 0).nx
    rw [s3 0 (by omega), s2 0 (by omega)]; exact e1
  · show _ ≤ ((itM W 2 150 (itM W 1 150 (itM W 0 150 p))).2 1).nx
    rw [s3 1 (by omega)]; exact e2
  · exact e3
/-- After three rounds all is done, and the lock is free. -/
theorem rnd_3 {W : Nat → List Int} {p : Tab × (Nat → Seat)} {cur : Int} {hd : Nat → Bool} (hI : Inv W p.1 p.2 cur hd) : (rndM W (rndM W (rndM W p))).1.bad = false ∧ (rndM W (rndM W (rndM W p))).1.held = 0 ∧
    (∀ j, j < 3 → ((rndM W (rndM W (rndM W p))).2 j).nx = (W j).length) ∧ (rndM W (rndM W (rndM W p))).1.vals.length = 1 + (cntM (W 0) (W 0).length + cntM (W 1) (W 1).length + cntM (W 2) (W 2).length) ∧
    (rndM W (rndM W (rndM W p))).1.m.length = 24 ∧ (rndM W (rndM W (rndM W p))).1.m[16]?.getD 0 = 2 * (((rndM W (rndM W (rndM W p))).1.vals.length : Int) - 1) := by
  obtain ⟨c1, h1, I1, a1, _⟩ := rnd_1 hI
  obtain ⟨c2, h2, I2, a2, _⟩ := rnd_1 I1
  obtain ⟨c3, h3, I3, a3, b3⟩ := rnd_1 I2
  have f := b3 a2
  generalize rndM W (rndM W (rndM W p)) = q at *
  have hs : ∀ j, j < 3 → (q.2 j).nx = (W j).length ∧ (q.2 j).st = 0 := fun j hj => by
    have h := I3.sk j hj
    have hf := f j hj
    generalize q.2 j = x at h hf ⊢
    generalize h3 j = b at h
    cases h with
    | idle => exact ⟨by simp only at hf ⊢; omega, rfl⟩
    | read nx ver log h0 h1 => simp only at hf; omega
    | take1 nx ver r h0 h1 => simp only at hf; omega
    | take2 nx ver r c h0 h1 => simp only at hf; omega
    | got nx ver r c h0 h1 => simp only at hf; omega
    | sto nx h0 h1 => simp only at hf; omega
    | giv nx h0 h1 => simp only at hf; omega
    | gvn nx ver r h0 h1 => simp only at hf; omega
  have hc := I3.cnt
  have sh : ∀ j, j < 3 → shr (W j) (q.2 j) = cntM (W j) (W j).length := fun j hj => by
    unfold shr
    rw [(hs j hj).1, (hs j hj).2]
    simp
  rw [sh 0 (by omega), sh 1 (by omega), sh 2 (by omega)] at hc
  rcases I3.lk with ⟨_, hh, hw, hv⟩ | ⟨z, hz, ht, _⟩
  · exact ⟨I3.nb, hh, fun j hj => (hs j hj).1, hc, I3.ml, by rw [hw]; omega⟩
  · rw [a3 z] at ht; cases ht
end Go.Proofs.Ytjkdenancggndaa
