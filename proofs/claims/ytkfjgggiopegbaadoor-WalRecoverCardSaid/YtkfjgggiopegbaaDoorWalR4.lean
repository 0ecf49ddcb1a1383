/- Recovering records that lie one behind the other; a torn last one. No program in sight. -/
import Derived.Test.YtkfjgggiopegbaaDoorWalR3
namespace Go.Proofs.YtkfjgggiopegbaaDoor
set_option linter.unusedVariables false
set_option linter.unusedSimpArgs false
def recsM (l : List TEn) : List (List UInt8) := l.flatMap fun e => recordM e.1 e.2
/-- Valid entries with rising versions. -/
def RiseM : Int → List TEn → Prop
  | _, [] => True
  | last, e :: l => validM e.1 e.2 = true ∧ rgeW e.2 ∧ last < e.1 ∧ RiseM e.1 l
def z32 : List UInt8 := List.replicate 32 0
theorem rec_all : ∀ (l : List TEn) (last : Int) (pre post : List (List UInt8)) (n : Nat), RiseM last l → l.length < n → parseM (pre ++ recsM l ++ post) ((pre.length + (recsM l).length : Nat) : Int) = none →
    recM (pre ++ recsM l ++ post) n pre.length last = (l, ((pre.length + (recsM l).length : Nat) : Int))
  | [], last, pre, post, n, hr, hn, hp => by
    obtain ⟨m, rfl⟩ : ∃ m, n = m + 1 := ⟨n - 1, by simp at hn; omega⟩
    have e : pre.length + (recsM []).length = pre.length := rfl
    rw [e] at hp ⊢
    exact recM_none hp
  | x :: l, last, pre, post, n, hr, hn, hp => by
    obtain ⟨hv, hw, hl, hr⟩ := hr
    obtain ⟨m, rfl⟩ : ∃ m, n = m + 1 := ⟨n - 1, by simp at hn; omega⟩
    have e1 : recsM (x :: l) = recordM x.1 x.2 ++ recsM l := by unfold recsM; rw [List.flatMap_cons]
    have e2 : pre ++ recsM (x :: l) ++ post = pre ++ recordM x.1 x.2 ++ (recsM l ++ post) := by rw [e1]; simp only [List.append_assoc]
    have e3 : pre ++ recsM (x :: l) ++ post = (pre ++ recordM x.1 x.2) ++ recsM l ++ post := by rw [e1]; simp only [List.append_assoc]
    have hq := parse_record hv hw pre (recsM l ++ post)
    rw [← e2] at hq
    rw [recM_some hq (by simp only; omega)]
    have hlen : pre.length + (recsM (x :: l)).length = (pre ++ recordM x.1 x.2).length + (recsM l).length := by rw [e1]; simp only [List.length_append]; omega
    rw [hlen] at hp ⊢
    rw [e3] at hp
    have ih := rec_all l x.1 (pre ++ recordM x.1 x.2) post m hr (by simp at hn; omega) hp
    have e4 : (pre.length : Int) + (recordM x.1 x.2).length = ((pre ++ recordM x.1 x.2).length : Nat) := by rw [List.length_append]; omega
    simp only
    rw [e4, e3, ih]
theorem rise_len : ∀ (l : List TEn) (last : Int), RiseM last l → l.length ≤ (recsM l).length
  | [], _, _ => Nat.zero_le _
  | x :: l, last, hr => by
    obtain ⟨hv, hw, hl, hr⟩ := hr
    have ih := rise_len l x.1 hr
    have e1 : recsM (x :: l) = recordM x.1 x.2 ++ recsM l := by unfold recsM; rw [List.flatMap_cons]
    have := (body_len hv hw).2.1
    rw [e1, List.length_append, List.length_cons, record_len hv]
    omega
theorem recover_all {l : List TEn} {post : List (List UInt8)} (hr : RiseM 0 l) (hp : parseM (recsM l ++ post) ((recsM l).length : Nat) = none) : recoverM (recsM l ++ post) = (l, ((recsM l).length : Int)) := by
  have h := rec_all l 0 [] post ((recsM l ++ post).length + 1) hr (by have := rise_len l 0 hr; rw [List.length_append]; omega) (by simpa using hp)
  simp only [List.nil_append, List.length_nil, Nat.zero_add] at h
  exact h
theorem parse_out {l : List (List UInt8)} {a : Nat} (h : l.length ≤ a) : parseM l a = none := by
  unfold parseM
  rw [if_neg (by omega)]
theorem parse_zero {l : List (List UInt8)} {a : Nat} (h : l[a]?.getD [] = z32) : parseM l a = none := by
  unfold parseM
  split
  · rename_i hc
    have hm : manyM l (a : Int).toNat = 1 := by
      unfold manyM
      rw [Int.toNat_natCast, h]
      rfl
    have hd : l.drop (a : Int).toNat = z32 :: l.drop (a + 1) := by
      rw [Int.toNat_natCast, List.drop_eq_getElem_cons (by omega)]
      rw [List.getElem?_eq_getElem (by omega)] at h
      rw [show l[a] = z32 from h]
    have : loadM (manyM l (a : Int).toNat) (l.drop (a : Int).toNat) = none := by
      rw [hm, hd]
      have ho : okS 0 z32 = false := by decide +kernel
      show (if okS 0 z32 = true then _ else none) = none
      rw [if_neg (by rw [ho]; simp)]
    rw [this]
  · rfl
theorem parse_tail {l pre : List (List UInt8)} {z : Nat} (h : l = pre ++ List.replicate z z32) : parseM l pre.length = none := by
  subst h
  cases z with
  | zero => exact parse_out (by simp)
  | succ z =>
    refine parse_zero ?_
    rw [List.getElem?_append_right (Nat.le_refl _), Nat.sub_self]
    rfl
theorem load_app : ∀ (n : Nat) (t q : List (List UInt8)), n ≤ t.length → loadM n (t ++ q) = loadM n t
  | 0, _, _, _ => rfl
  | n + 1, [], q, h => by simp at h
  | n + 1, s :: t, q, h => by
    have ih := load_app n t q (by simpa using h)
    show (if okS n s = true then (loadM n (t ++ q)).map _ else none) = (if okS n s = true then (loadM n t).map _ else none)
    rw [ih]
theorem parse_shift {p t q : List (List UInt8)} (h0 : 0 < t.length) (hm : manyM t 0 ≤ t.length) (ht : parseM t 0 = none) : parseM (p ++ t ++ q) p.length = none := by
  have hat : (p ++ t ++ q)[p.length]?.getD [] = t[0]?.getD [] := by
    rw [List.append_assoc, List.getElem?_append_right (Nat.le_refl _), Nat.sub_self, List.getElem?_append_left h0]
  have hmm : manyM (p ++ t ++ q) p.length = manyM t 0 := by unfold manyM; rw [hat]
  have hdr : (p ++ t ++ q).drop p.length = t ++ q := by rw [List.append_assoc, List.drop_left]
  unfold parseM at ht ⊢
  rw [Int.toNat_natCast, hmm, hat, hdr, load_app _ _ _ hm]
  simp only [Int.toNat_zero, List.drop_zero] at ht
  split
  · rename_i hc
    rw [if_pos ⟨by omega, by omega, hc.2.2.1, by omega⟩] at ht
    exact ht
  · rfl
/-- A torn record is not read, wherever it lies. -/
theorem torn_none {v : Int} {w : List Tii} (hv : validM v w = true) (hw : rgeW w) {p t q : List (List UInt8)} (hl : t.length = (recordM v w).length) (hc : ∀ i, i < t.length → ∃ c, t[i]?.getD [] = cutM c ((recordM v w)[i]?.getD [])) (hn : t ≠ recordM v w) : parseM (p ++ t ++ q) p.length = none := by
  obtain ⟨h1, h2, h3⟩ := body_len hv hw
  have hrl := record_len hv
  refine parse_shift (by omega) ?_ (parse_torn hv hw hl hc hn)
  obtain ⟨c, hc0⟩ := hc 0 (by omega)
  have hR : recordM v w = sectsM ((bodyM v w).length / 27) (bodyM v w) := by unfold recordM; rw [if_pos hv]
  have hs0 : (recordM v w)[0]?.getD [] = sectorM (((bodyM v w).length / 27 - 1 - 0 : Nat) : Int) (((bodyM v w).drop (27 * 0)).take 27) := by rw [hR]; exact sects_at _ _ 0 (by omega)
  unfold manyM
  rw [hc0]
  cases c with
  | zero =>
    have : (cutM 0 ((recordM v w)[0]?.getD []))[0]?.getD 0 = 0 := by
      unfold cutM
      rw [List.take_zero, List.nil_append, List.getElem?_replicate]
      split <;> rfl
    rw [this]
    show 0 + 1 ≤ _
    omega
  | succ c =>
    have : (cutM (c + 1) ((recordM v w)[0]?.getD []))[0]?.getD 0 = ((recordM v w)[0]?.getD [])[0]?.getD 0 := by
      rw [hs0]
      unfold cutM
      rw [List.getElem?_append_left (by rw [List.length_take, sector_len]; omega), List.getElem?_take, if_pos (by omega)]
    rw [this, hs0, sector_fst, UInt8.toNat_ofNat', Nat.mod_eq_of_lt (by omega)]
    omega
theorem sector_nz {k : Int} {b : List UInt8} (hb : b.length = 27) : sectorM k b ≠ z32 := by
  intro h
  unfold sectorM at h
  have hl : (headS k b).length = 28 := by unfold headS; rw [List.length_cons, hb]
  have h1 : headS k b = List.replicate 28 0 := by
    have := congrArg (List.take 28) h
    rw [List.take_left' hl] at this
    rw [this]; rfl
  rw [h1] at h
  revert h
  decide +kernel
theorem record_nz {v : Int} {w : List Tii} (hv : validM v w = true) (hw : rgeW w) {i : Nat} (hi : i < (recordM v w).length) : (recordM v w)[i]?.getD [] ≠ z32 := by
  obtain ⟨h1, h2, h3⟩ := body_len hv hw
  have hrl := record_len hv
  have hR : recordM v w = sectsM ((bodyM v w).length / 27) (bodyM v w) := by unfold recordM; rw [if_pos hv]
  rw [hR, sects_at _ _ i (by omega)]
  exact sector_nz (by rw [List.length_take, List.length_drop]; omega)
theorem rise_take : ∀ (l : List TEn) (p : Int) (n : Nat), RiseM p l → RiseM p (l.take n)
  | [], p, n, h => by rw [List.take_nil]; trivial
  | x :: l, p, 0, h => trivial
  | x :: l, p, n + 1, h => ⟨h.1, h.2.1, h.2.2.1, rise_take l x.1 n h.2.2.2⟩
/-- A record of which sector j is cut at c, and all behind it are empty. -/
def tornT (R : List (List UInt8)) (j c : Nat) : List (List UInt8) := R.take j ++ (cutM c (R[j]?.getD []) :: List.replicate (R.length - 1 - j) z32)
theorem tornT_len (R : List (List UInt8)) {j : Nat} (c : Nat) (hj : j < R.length) : (tornT R j c).length = R.length := by
  unfold tornT
  rw [List.length_append, List.length_take, List.length_cons, List.length_replicate]
  omega
theorem cut_whole {s : List UInt8} (h : s.length = 32) : cutM 32 s = s := by
  unfold cutM
  rw [List.take_of_length_le (by omega), h]
  simp
theorem cut_none {s : List UInt8} (h : s.length = 32) : cutM 0 s = z32 := by
  unfold cutM
  rw [h]; rfl
theorem tornT_at {R : List (List UInt8)} (h32 : ∀ i, i < R.length → (R[i]?.getD []).length = 32) {j : Nat} (c : Nat) (hj : j < R.length) (i : Nat) (hi : i < R.length) : ∃ c', (tornT R j c)[i]?.getD [] = cutM c' (R[i]?.getD []) := by
  have hl : (R.take j).length = j := by rw [List.length_take]; omega
  unfold tornT
  rcases Nat.lt_trichotomy i j with h | h | h
  · refine ⟨32, ?_⟩
    rw [List.getElem?_append_left (by omega), List.getElem?_take, if_pos h, cut_whole (h32 i hi)]
  · subst h
    refine ⟨c, ?_⟩
    rw [List.getElem?_append_right (by omega), hl, Nat.sub_self]
    rfl
  · refine ⟨0, ?_⟩
    obtain ⟨d, hd⟩ : ∃ d, i - j = d + 1 := ⟨i - j - 1, by omega⟩
    rw [List.getElem?_append_right (by omega), hl, hd, List.getElem?_cons_succ, List.getElem?_replicate, if_pos (by omega), cut_none (h32 i hi)]
    rfl
theorem tornT_eq {R : List (List UInt8)} {j c : Nat} (hj : j < R.length) (h : cutM c (R[j]?.getD []) = R[j]?.getD []) (hl : j + 1 = R.length) : tornT R j c = R := by
  unfold tornT
  rw [h, show R.length - 1 - j = 0 by omega]
  have : R.drop j = [R[j]?.getD []] := by
    rw [List.drop_eq_getElem_cons hj, List.drop_eq_nil_of_le (by omega), List.getElem?_eq_getElem hj]; rfl
  rw [show (R[j]?.getD [] :: List.replicate 0 z32) = R.drop j by rw [this]; rfl, List.take_append_drop]
theorem tornT_ne {R : List (List UInt8)} {j c : Nat} (hj : j < R.length) (hnz : ∀ i, i < R.length → R[i]?.getD [] ≠ z32) (h : ¬ (cutM c (R[j]?.getD []) = R[j]?.getD [] ∧ j + 1 = R.length)) : tornT R j c ≠ R := by
  intro e
  have hl : (R.take j).length = j := by rw [List.length_take]; omega
  by_cases hq : j + 1 = R.length
  · refine h ⟨?_, hq⟩
    have := congrArg (fun l : List (List UInt8) => l[j]?.getD []) e
    simp only [tornT] at this
    rw [List.getElem?_append_right (by omega), hl, Nat.sub_self] at this
    exact this
  · have := congrArg (fun l : List (List UInt8) => l[j + 1]?.getD []) e
    simp only [tornT] at this
    rw [List.getElem?_append_right (by omega), hl, show j + 1 - j = 0 + 1 by omega, List.getElem?_cons_succ, List.getElem?_replicate, if_pos (by omega)] at this
    exact hnz (j + 1) (by omega) this.symm
/-- The list of sectors while all behind sector k are emptied. -/
def emptyT (W : List (List UInt8)) (k : Nat) (s : List UInt8) (t : Nat) : List (List UInt8) := W.take k ++ (s :: (List.replicate t z32 ++ W.drop (k + 1 + t)))
theorem empty_zero {W : List (List UInt8)} {k : Nat} (s : List UInt8) (hk : k < W.length) : emptyT W k s 0 = W.set k s := by
  unfold emptyT
  rw [List.set_eq_take_append_cons_drop, if_pos hk]
  rfl
theorem empty_len {W : List (List UInt8)} {k t : Nat} (s : List UInt8) (hk : k + 1 + t ≤ W.length) : (emptyT W k s t).length = W.length := by
  unfold emptyT
  simp only [List.length_append, List.length_take, List.length_cons, List.length_replicate, List.length_drop]
  omega
theorem empty_succ {W : List (List UInt8)} {k t : Nat} (s : List UInt8) (hk : k + 1 + t < W.length) : (emptyT W k s t).set (k + 1 + t) z32 = emptyT W k s (t + 1) := by
  unfold emptyT
  have hl : (W.take k).length = k := by rw [List.length_take]; omega
  rw [List.set_append_right _ _ (by omega), hl, show k + 1 + t - k = t + 1 by omega, List.set_cons_succ, List.set_append_right _ _ (by rw [List.length_replicate]; omega), List.length_replicate, Nat.sub_self, List.drop_eq_getElem_cons hk, List.set_cons_zero, List.replicate_succ', List.append_assoc]
  rfl
theorem empty_end {l0 R : List (List UInt8)} {j c K : Nat} (hj : j < R.length) : emptyT (l0 ++ R ++ List.replicate K z32) (l0.length + j) (cutM c (R[j]?.getD [])) (R.length - 1 - j + K) = l0 ++ tornT R j c ++ List.replicate K z32 := by
  unfold emptyT tornT
  have h1 : (l0 ++ R ++ List.replicate K z32).take (l0.length + j) = l0 ++ R.take j := by
    rw [List.append_assoc, List.take_length_add_append, List.take_append_of_le_length (by omega)]
  have h2 : (l0 ++ R ++ List.replicate K z32).drop (l0.length + j + 1 + (R.length - 1 - j + K)) = [] := List.drop_eq_nil_of_le (by simp only [List.length_append, List.length_replicate]; omega)
  rw [h1, h2, List.append_nil, ← List.replicate_append_replicate]
  simp only [List.append_assoc, List.cons_append]
end Go.Proofs.YtkfjgggiopegbaaDoor
