/- Records of a log of commits: their sectors, and what is read back from them. No program in sight. -/
import Derived.Test.YtkfjgggiopegbaaDoorWalM
namespace Go.Proofs.YtkfjgggiopegbaaDoor
set_option linter.unusedVariables false
set_option linter.unusedSimpArgs false
set_option maxRecDepth 100000
theorem raw_ii_0 (l : List Tii) (j : Nat) : (((((l.map encii)[j]?).getD (DV.int 0)).l[0]?).getD (DV.int 0)) = .int ((l[j]?).getD dii).1 := by rw [List.getElem?_map]; cases l[j]? <;> rfl
theorem raw_ii_1 (l : List Tii) (j : Nat) : (((((l.map encii)[j]?).getD (DV.int 0)).l[1]?).getD (DV.int 0)) = .int ((l[j]?).getD dii).2 := by rw [List.getElem?_map]; cases l[j]? <;> rfl
theorem take_Ls (l : List (List UInt8)) (n : Nat) : (l.map DV.str).take n = (l.take n).map DV.str := by rw [List.map_take]
theorem drop_Ls (l : List (List UInt8)) (n : Nat) : (l.map DV.str).drop n = (l.drop n).map DV.str := by rw [List.map_drop]
theorem app_Ls (a b : List (List UInt8)) : a.map DV.str ++ b.map DV.str = (a ++ b).map DV.str := by rw [List.map_append]
/-- Places ascend from above p. -/
def ascM : Int → List Tii → Bool
  | _, [] => true
  | p, x :: l => decide (p < x.1) && ascM x.1 l
def validM (v : Int) (w : List Tii) : Bool := ascM (-1) w && (decide (1 ≤ v) && (decide (v ≤ 1099511627776) && decide (w.length ≤ 32)))
theorem validM_iff {v : Int} {w : List Tii} : validM v w = true ↔ ascM (-1) w = true ∧ 1 ≤ v ∧ v ≤ 1099511627776 ∧ w.length ≤ 32 := by
  unfold validM
  simp only [Bool.and_eq_true, decide_eq_true_eq]
/-- Numbers in pairs. -/
def pairsM : List Int → List Tii
  | a :: b :: l => (a, b) :: pairsM l
  | _ => []
def flatW (w : List Tii) : List Int := w.flatMap fun x => [x.1, x.2]
def entryM (l : List Int) : (Int × List Tii) × Bool := if l.length % 2 = 0 then ((0, []), false) else ((l[0]?.getD 0, pairsM (l.drop 1)), validM (l[0]?.getD 0) (pairsM (l.drop 1)))
theorem flatW_len (w : List Tii) : (flatW w).length = 2 * w.length := by
  induction w with
  | nil => rfl
  | cons x w ih => simp only [flatW, List.flatMap_cons, List.length_append, List.length_cons, List.length_nil] at ih ⊢; omega
theorem pairs_flat : ∀ w : List Tii, pairsM (flatW w) = w
  | [] => rfl
  | x :: w => by
    show (x.1, x.2) :: pairsM (flatW w) = _
    rw [pairs_flat w]
theorem flat_pairs : ∀ (n : Nat) (l : List Int), l.length = 2 * n → flatW (pairsM l) = l
  | 0, [], _ => rfl
  | 0, _ :: _, h => by simp at h
  | n + 1, [], h => by simp at h
  | n + 1, [a], h => by simp only [List.length_cons, List.length_nil] at h; omega
  | n + 1, a :: b :: l, h => by
    show a :: b :: flatW (pairsM l) = _
    rw [flat_pairs n l (by simp only [List.length_cons] at h; omega)]
theorem flatW_rge {w : List Tii} (h : ∀ x ∈ w, (-9223372036854775808 ≤ x.1 ∧ x.1 ≤ 9223372036854775807) ∧ (-9223372036854775808 ≤ x.2 ∧ x.2 ≤ 9223372036854775807)) : ∀ n ∈ flatW w, -9223372036854775808 ≤ n ∧ n ≤ 9223372036854775807 := by
  intro n hn
  simp only [flatW, List.mem_flatMap, List.mem_cons, List.not_mem_nil, or_false] at hn
  obtain ⟨x, hx, e⟩ := hn
  rcases e with e | e
  · rw [e]; exact (h x hx).1
  · rw [e]; exact (h x hx).2
theorem entry_flat (v : Int) (w : List Tii) : entryM (v :: flatW w) = ((v, w), validM v w) := by
  unfold entryM
  rw [if_neg (by rw [List.length_cons, flatW_len]; omega)]
  show ((v, pairsM (flatW w)), validM v (pairsM (flatW w))) = _
  rw [pairs_flat]
theorem flat_entry {l : List Int} (h : (entryM l).2 = true) : l = (entryM l).1.1 :: flatW (entryM l).1.2 ∧ validM (entryM l).1.1 (entryM l).1.2 = true := by
  unfold entryM at h ⊢
  split at h
  · cases h
  · rename_i hl
    rw [if_neg hl]
    refine ⟨?_, h⟩
    cases l with
    | nil => simp at hl
    | cons a l =>
      show a :: l = a :: flatW (pairsM l)
      rw [flat_pairs (l.length / 2) l (by simp only [List.length_cons] at hl; omega)]
/-- The bytes of a checksum. -/
def le4 (n : Int) : List UInt8 := [UInt8.ofNat (n % 256).toNat, UInt8.ofNat (n / 256 % 256).toNat, UInt8.ofNat (n / 65536 % 256).toNat, UInt8.ofNat (n / 16777216 % 256).toNat]
def headS (k : Int) (b : List UInt8) : List UInt8 := UInt8.ofNat (k % 256).toNat :: b
def sectorM (k : Int) (b : List UInt8) : List UInt8 := headS k b ++ le4 (sumM (headS k b))
theorem sector_len (k : Int) (b : List UInt8) : (sectorM k b).length = b.length + 5 := by
  unfold sectorM headS le4
  simp
theorem sector_body {k : Int} {b : List UInt8} (h : b.length = 27) : ((sectorM k b).take 28).drop 1 = b := by
  unfold sectorM headS
  rw [List.take_append_of_le_length (by simp [h]), List.take_of_length_le (by simp [h])]
  rfl
theorem sector_fst (k : Int) (b : List UInt8) : (sectorM k b)[0]?.getD 0 = UInt8.ofNat (k % 256).toNat := rfl
/-- A payload filled up to whole sectors, and cut into them. -/
def padM (b : List UInt8) : List UInt8 := b ++ List.replicate ((b.length + 26) / 27 * 27 - b.length) 0
def sectsM : Nat → List UInt8 → List (List UInt8)
  | 0, _ => []
  | n + 1, b => sectorM n (b.take 27) :: sectsM n (b.drop 27)
def bodyM (v : Int) (w : List Tii) : List UInt8 := padM (strN (numsR (v :: flatW w)))
def recordM (v : Int) (w : List Tii) : List (List UInt8) := if validM v w = true then sectsM ((bodyM v w).length / 27) (bodyM v w) else []
theorem pad_len (b : List UInt8) : (padM b).length = (b.length + 26) / 27 * 27 := by
  unfold padM
  rw [List.length_append, List.length_replicate]
  omega
theorem sects_len : ∀ (n : Nat) (b : List UInt8), (sectsM n b).length = n
  | 0, _ => rfl
  | n + 1, b => by rw [sectsM, List.length_cons, sects_len n]
/-- One sector of a record at a time, as the code makes them. -/
theorem sects_at : ∀ (n : Nat) (b : List UInt8) (i : Nat), i < n → (sectsM n b)[i]?.getD [] = sectorM ((n - 1 - i : Nat) : Int) ((b.drop (27 * i)).take 27)
  | n + 1, b, 0, _ => by simp [sectsM]
  | n + 1, b, i + 1, h => by
    rw [sectsM, List.getElem?_cons_succ, sects_at n _ i (by omega), List.drop_drop]
    rw [show n + 1 - 1 - (i + 1) = n - 1 - i by omega, show 27 + 27 * i = 27 * (i + 1) by omega]
theorem sects_take : ∀ (n : Nat) (b : List UInt8) (i : Nat), i ≤ n → (sectsM n b).take i = (List.range i).map fun j => sectorM ((n - 1 - j : Nat) : Int) ((b.drop (27 * j)).take 27) := by
  intro n b i
  induction i with
  | zero => intro _; rfl
  | succ i ih =>
    intro h
    rw [List.range_succ, List.map_append, ← ih (by omega), List.take_add_one]
    congr 1
    have := sects_at n b i (by omega)
    rw [List.getElem?_eq_getElem (by rw [sects_len]; omega)] at this ⊢
    simp only [Option.getD_some] at this
    simp [this]
/-- A sector with n sectors of its record behind it. -/
def okS (n : Nat) (s : List UInt8) : Bool := decide (s.length = 32) && decide (s = sectorM n ((s.take 28).drop 1))
def loadM : Nat → List (List UInt8) → Option (List UInt8)
  | 0, _ => some []
  | _ + 1, [] => none
  | n + 1, s :: l => if okS n s = true then (loadM n l).map (((s.take 28).drop 1) ++ ·) else none
/-- Nothing but zeros. -/
def zerosM (b : List UInt8) : Bool := b.all (· == 0)
def finM (b : List UInt8) : Option (Int × List Tii) := match getNumsR (bytesN b) with
  | none => none
  | some p => if (entryM p.1).2 = true ∧ (b.length : Int) - p.2 < 27 ∧ zerosM (b.drop p.2) = true then some (entryM p.1).1 else none
def manyM (l : List (List UInt8)) (at' : Nat) : Nat := ((l[at']?.getD [])[0]?.getD 0).toNat + 1
def parseM (l : List (List UInt8)) (at' : Int) : Option ((Int × List Tii) × Nat) :=
  if 0 ≤ at' ∧ at' < l.length ∧ (l[at'.toNat]?.getD []).length = 32 ∧ (manyM l at'.toNat : Int) ≤ l.length - at' then
    (match loadM (manyM l at'.toNat) (l.drop at'.toNat) with
    | none => none
    | some b => (finM b).map (·, manyM l at'.toNat))
  else none
theorem load_sects : ∀ (n : Nat) (b : List UInt8) (l : List (List UInt8)), b.length = 27 * n → loadM n (sectsM n b ++ l) = some b
  | 0, b, l, h => by
    have : b = [] := List.eq_nil_of_length_eq_zero (by omega)
    rw [this]; rfl
  | n + 1, b, l, h => by
    have h27 : (b.take 27).length = 27 := by rw [List.length_take]; omega
    have hok : okS n (sectorM n (b.take 27)) = true := by
      unfold okS
      rw [sector_body h27, sector_len, h27]
      simp
    rw [sectsM, List.cons_append, loadM, if_pos hok, load_sects n (b.drop 27) l (by rw [List.length_drop]; omega), sector_body h27]
    simp
theorem okS_eq {n : Nat} {s : List UInt8} (h : okS n s = true) : s.length = 32 ∧ s = sectorM n ((s.take 28).drop 1) := by
  unfold okS at h
  simpa only [Bool.and_eq_true, decide_eq_true_eq] using h
theorem load_canon : ∀ (n : Nat) (l : List (List UInt8)) (b : List UInt8), loadM n l = some b → n ≤ l.length ∧ b.length = 27 * n ∧ l.take n = sectsM n b
  | 0, l, b, h => by
    cases h
    exact ⟨Nat.zero_le _, rfl, rfl⟩
  | n + 1, [], b, h => by cases h
  | n + 1, s :: l, b, h => by
    rw [loadM] at h
    split at h
    · rename_i hok
      obtain ⟨h32, hs⟩ := okS_eq hok
      cases hl : loadM n l with
      | none => rw [hl] at h; cases h
      | some c =>
        rw [hl] at h
        cases h
        obtain ⟨a1, a2, a3⟩ := load_canon n l c hl
        have h27 : ((s.take 28).drop 1).length = 27 := by rw [List.length_drop, List.length_take]; omega
        refine ⟨by simp only [List.length_cons]; omega, by rw [List.length_append, h27]; omega, ?_⟩
        generalize hq : (s.take 28).drop 1 = q at hs h27 ⊢
        rw [List.take_succ_cons, a3]
        show s :: sectsM n c = sectorM n ((q ++ c).take 27) :: sectsM n ((q ++ c).drop 27)
        rw [← h27, List.take_left, List.drop_left, ← hs]
    · cases h
theorem zeros_rep {b : List UInt8} (h : zerosM b = true) : b = List.replicate b.length 0 := by
  unfold zerosM at h
  rw [List.all_eq_true] at h
  exact List.eq_replicate_iff.2 ⟨rfl, fun x hx => by simpa using h x hx⟩
theorem rep_zeros (n : Nat) : zerosM (List.replicate n 0) = true := by
  unfold zerosM
  rw [List.all_eq_true]
  intro x hx
  simp [List.eq_of_mem_replicate hx]
/-- What a record's numbers fill. -/
def rgeW (w : List Tii) : Prop := ∀ x ∈ w, (-9223372036854775808 ≤ x.1 ∧ x.1 ≤ 9223372036854775807) ∧ (-9223372036854775808 ≤ x.2 ∧ x.2 ≤ 9223372036854775807)
theorem nums_entry {v : Int} {w : List Tii} (hv : validM v w = true) (hw : rgeW w) : numsR (v :: flatW w) = numsM (v :: flatW w) ∧ (v :: flatW w).length ≤ 65 ∧ (∀ n ∈ v :: flatW w, -9223372036854775808 ≤ n ∧ n ≤ 9223372036854775807) ∧ (numsM (v :: flatW w)).length ≤ 660 ∧ 0 < (numsM (v :: flatW w)).length := by
  obtain ⟨_, v1, v2, v3⟩ := validM_iff.1 hv
  have hl : (v :: flatW w).length ≤ 65 := by rw [List.length_cons, flatW_len]; omega
  have hr : ∀ n ∈ v :: flatW w, -9223372036854775808 ≤ n ∧ n ≤ 9223372036854775807 := fun n hn => by
    rcases List.mem_cons.1 hn with e | e
    · omega
    · exact flatW_rge hw n e
  have := nums_len (v :: flatW w)
  exact ⟨numsR_eq (by omega) hr, hl, hr, by omega, by omega⟩
theorem nums_rge {l : List Int} (hl : l.length ≤ 1000) (h : ∀ n ∈ l, -9223372036854775808 ≤ n ∧ n ≤ 9223372036854775807) : ∀ x ∈ numsM l, 0 ≤ x ∧ x ≤ 255 := by
  intro x hx
  rw [numsM, List.mem_append, List.mem_flatMap] at hx
  rcases hx with hx | ⟨n, hn, hx⟩
  · exact put_rge (by omega) (by omega) x hx
  · exact put_rge (h n hn).1 (h n hn).2 x hx
theorem fin_body {v : Int} {w : List Tii} (hv : validM v w = true) (hw : rgeW w) : finM (bodyM v w) = some (v, w) := by
  obtain ⟨e, l65, hr, h660, h0⟩ := nums_entry hv hw
  have hb := nums_rge (l := v :: flatW w) (by omega) hr
  unfold finM bodyM padM
  rw [e, bytes_app, bytes_str hb, getNumsR_eq (fun x hx => by
    rcases List.mem_append.1 hx with h | h
    · exact hb x h
    · exact bytes_rge _ x h), getNums_nums _ (by omega) hr]
  simp only
  rw [entry_flat, List.drop_append, strN_len, List.drop_eq_nil_of_le (by rw [strN_len]; omega), Nat.sub_self, List.drop_zero, List.nil_append, if_pos]
  refine ⟨hv, ?_, rep_zeros _⟩
  rw [List.length_append, List.length_replicate, strN_len]
  omega
theorem body_len {v : Int} {w : List Tii} (hv : validM v w = true) (hw : rgeW w) : (bodyM v w).length = 27 * ((bodyM v w).length / 27) ∧ 1 ≤ (bodyM v w).length / 27 ∧ (bodyM v w).length / 27 ≤ 26 := by
  obtain ⟨e, l65, hr, h660, h0⟩ := nums_entry hv hw
  have : (bodyM v w).length = ((numsM (v :: flatW w)).length + 26) / 27 * 27 := by unfold bodyM; rw [pad_len, strN_len, e]
  omega
theorem record_len {v : Int} {w : List Tii} (hv : validM v w = true) : (recordM v w).length = (bodyM v w).length / 27 := by
  unfold recordM
  rw [if_pos hv, sects_len]
theorem record_le (v : Int) {w : List Tii} (hw : rgeW w) : (recordM v w).length ≤ 26 := by
  by_cases hv : validM v w = true
  · rw [record_len hv]; exact (body_len hv hw).2.2
  · unfold recordM; rw [if_neg hv]; simp
theorem record_secs {v : Int} {w : List Tii} (hv : validM v w = true) (hw : rgeW w) : ∀ s ∈ recordM v w, s.length = 32 := by
  obtain ⟨h1, h2, h3⟩ := body_len hv hw
  intro s hs
  unfold recordM at hs
  rw [if_pos hv] at hs
  obtain ⟨i, hi, e⟩ := List.mem_iff_getElem.1 hs
  rw [sects_len] at hi
  have := sects_at _ (bodyM v w) i hi
  rw [List.getElem?_eq_getElem (by rw [sects_len]; exact hi), Option.getD_some, e] at this
  rw [this, sector_len, List.length_take, List.length_drop]
  omega
/-- A record reads as its entry, wherever it lies. -/
theorem parse_record {v : Int} {w : List Tii} (hv : validM v w = true) (hw : rgeW w) (a z : List (List UInt8)) : parseM (a ++ recordM v w ++ z) a.length = some ((v, w), (recordM v w).length) := by
  obtain ⟨h1, h2, h3⟩ := body_len hv hw
  have hl := record_len hv
  have hR : recordM v w = sectsM ((bodyM v w).length / 27) (bodyM v w) := by unfold recordM; rw [if_pos hv]
  have h0 : (a ++ recordM v w ++ z)[a.length]?.getD [] = (recordM v w)[0]?.getD [] := by
    rw [List.append_assoc, List.getElem?_append_right (by omega), Nat.sub_self, List.getElem?_append_left (by omega)]
  have hs0 : (recordM v w)[0]?.getD [] = sectorM (((bodyM v w).length / 27 - 1 - 0 : Nat) : Int) (((bodyM v w).drop (27 * 0)).take 27) := by rw [hR]; exact sects_at _ _ 0 (by omega)
  have hm : manyM (a ++ recordM v w ++ z) a.length = (bodyM v w).length / 27 := by
    unfold manyM
    rw [h0, hs0, sector_fst]
    rw [UInt8.toNat_ofNat', Nat.mod_eq_of_lt (by omega)]
    omega
  unfold parseM
  rw [Int.toNat_natCast, hm, h0, if_pos]
  · rw [List.append_assoc, List.drop_append, List.drop_eq_nil_of_le (Nat.le_refl _), Nat.sub_self, List.drop_zero, List.nil_append]
    rw [hl, hR, load_sects _ _ _ h1]
    simp only [fin_body hv hw, Option.map_some]
  · refine ⟨by omega, by simp only [List.length_append]; omega, ?_, by simp only [List.length_append]; omega⟩
    rw [hs0, sector_len, List.length_take, List.length_drop]
    omega
theorem pairs_rge : ∀ (n : Nat) (l : List Int), l.length ≤ n → (∀ n ∈ l, -9223372036854775808 ≤ n ∧ n ≤ 9223372036854775807) → rgeW (pairsM l)
  | _, [], _, _ => by intro x hx; cases hx
  | _, [a], _, _ => by intro x hx; cases hx
  | 0, a :: b :: l, h, _ => by simp at h
  | n + 1, a :: b :: l, h, hr => by
    intro x hx
    rcases List.mem_cons.1 hx with e | e
    · rw [e]; exact ⟨hr a (by simp), hr b (by simp)⟩
    · exact pairs_rge n l (by simp only [List.length_cons] at h; omega) (fun y hy => hr y (by simp [hy])) x e
/-- What parses is the record of what was read. -/
theorem fin_canon {b : List UInt8} {e : Int × List Tii} {n : Nat} (hb : b.length = 27 * n) (h : finM b = some e) : validM e.1 e.2 = true ∧ rgeW e.2 ∧ bodyM e.1 e.2 = b := by
  unfold finM at h
  rw [getNumsR_eq (bytes_rge b)] at h
  cases hg : getNumsM (bytesN b) with
  | none => rw [hg] at h; cases h
  | some p =>
    obtain ⟨l, u⟩ := p
    rw [hg] at h
    simp only at h
    split at h
    · rename_i hc
      obtain ⟨c1, c2, c3⟩ := hc
      cases h
      obtain ⟨g1, g2, g3⟩ := getNums_canon (bytes_rge b) hg
      rw [bytes_len] at g2
      obtain ⟨f1, f2⟩ := flat_entry c1
      have hw : rgeW (entryM l).1.2 := by
        unfold entryM
        split
        · intro x hx; cases hx
        · exact pairs_rge _ (l.drop 1) (Nat.le_refl _) fun x hx => g1 x (List.mem_of_mem_drop hx)
      obtain ⟨e1, l65, hr, h660, h0⟩ := nums_entry f2 hw
      refine ⟨f2, hw, ?_⟩
      rw [← f1] at e1 h0 h660
      have hu : u = (numsM l).length := by rw [← g3, List.length_take, bytes_len]; omega
      have hs : strN (numsM l) = b.take u := by
        rw [← g3]
        conv => rhs; rw [← str_bytes b]
        unfold strN
        rw [List.map_take]
      unfold bodyM
      rw [← f1, e1]
      unfold padM
      rw [strN_len, ← hu, hs]
      have hz := zeros_rep c3
      rw [List.length_drop] at hz
      have : (u + 26) / 27 * 27 - u = b.length - u := by omega
      rw [this, ← hz, List.take_append_drop]
    · cases h
theorem parse_canon {l : List (List UInt8)} {at' : Int} {e : Int × List Tii} {n : Nat} (h : parseM l at' = some (e, n)) : validM e.1 e.2 = true ∧ rgeW e.2 ∧ 0 ≤ at' ∧ 1 ≤ n ∧ at' + n ≤ l.length ∧ n = manyM l at'.toNat ∧ recordM e.1 e.2 = (l.drop at'.toNat).take n := by
  unfold parseM at h
  split at h
  · rename_i hc
    obtain ⟨c1, c2, c3, c4⟩ := hc
    cases hl : loadM (manyM l at'.toNat) (l.drop at'.toNat) with
    | none => rw [hl] at h; cases h
    | some b =>
      rw [hl] at h
      simp only at h
      cases hf : finM b with
      | none => rw [hf] at h; cases h
      | some f =>
        rw [hf] at h
        cases h
        obtain ⟨a1, a2, a3⟩ := load_canon _ _ _ hl
        obtain ⟨b1, b2, b3⟩ := fin_canon a2 hf
        have hm : 1 ≤ manyM l at'.toNat := by unfold manyM; omega
        refine ⟨b1, b2, c1, hm, by omega, rfl, ?_⟩
        unfold recordM
        rw [if_pos b1, b3, a2, a3]
        congr 1
        omega
  · cases h
theorem sum_fst : ∀ (s : List UInt8) (x y : Int), 0 ≤ x → x + 255 * s.length < 65521 → x ≤ (s.foldl (fun (p : Int × Int) (c : UInt8) => ((p.1 + (c.toNat : Int)) % 65521, (p.2 + (p.1 + (c.toNat : Int)) % 65521) % 65521)) (x, y)).1 ∧ (s.foldl (fun (p : Int × Int) (c : UInt8) => ((p.1 + (c.toNat : Int)) % 65521, (p.2 + (p.1 + (c.toNat : Int)) % 65521) % 65521)) (x, y)).1 ≤ x + 255 * s.length
  | [], x, y, h0, h1 => by simp
  | c :: s, x, y, h0, h1 => by
    have hc : (c.toNat : Int) < 256 := by have := c.toNat_lt; omega
    simp only [List.length_cons] at h1
    have e : (x + (c.toNat : Int)) % 65521 = x + c.toNat := by omega
    rw [List.foldl_cons]
    simp only [e]
    obtain ⟨a, b⟩ := sum_fst s (x + c.toNat) ((y + (x + c.toNat)) % 65521) (by omega) (by omega)
    simp only [List.length_cons]
    constructor <;> omega
/-- The checksum of a sector is never zero in its first two bytes. -/
theorem sum_low {s : List UInt8} (h : s.length = 28) : sumM s % 65536 ≠ 0 := by
  have := sum_fst s 1 0 (by omega) (by omega)
  obtain ⟨a, b, c, d⟩ := sumS_rge s
  unfold sumM
  unfold sumS at *
  omega
/-- A sector that keeps c bytes. -/
def cutM (c : Nat) (s : List UInt8) : List UInt8 := s.take c ++ List.replicate (s.length - c) 0
theorem cut_len (c : Nat) (s : List UInt8) : (cutM c s).length = s.length := by
  unfold cutM
  rw [List.length_append, List.length_take, List.length_replicate]
  omega
theorem le4_zero {n : Int} (h : le4 n = [0, 0, 0, 0]) (h0 : n % 65536 ≠ 0) : False := by
  unfold le4 at h
  simp only [List.cons.injEq] at h
  obtain ⟨a, b, _⟩ := h
  have a' := congrArg UInt8.toNat a
  have b' := congrArg UInt8.toNat b
  rw [UInt8.toNat_ofNat', show (0 : UInt8).toNat = 0 from rfl] at a' b'
  omega
theorem ofNat_mod {j k : Nat} (h : UInt8.ofNat ((j : Int) % 256).toNat = UInt8.ofNat ((k : Int) % 256).toNat) : (j : Int) % 256 = (k : Int) % 256 := by
  have := congrArg UInt8.toNat h
  rw [UInt8.toNat_ofNat', UInt8.toNat_ofNat'] at this
  omega
/-- A torn sector that is one is whole. -/
theorem torn_same {n k c : Nat} {b : List UInt8} (hb : b.length = 27) (h : okS n (cutM c (sectorM k b)) = true) : cutM c (sectorM k b) = sectorM k b := by
  obtain ⟨h32, he⟩ := okS_eq h
  have hs : (sectorM k b).length = 32 := by rw [sector_len, hb]
  by_cases hc : c ≤ 28
  · exfalso
    generalize hq : ((cutM c (sectorM k b)).take 28).drop 1 = q at he
    have hql : q.length = 27 := by rw [← hq, List.length_drop, List.length_take, h32]; omega
    have hh : (headS n q).length = 28 := by unfold headS; rw [List.length_cons, hql]
    have hd : (cutM c (sectorM k b)).drop 28 = [0, 0, 0, 0] := by
      unfold cutM
      rw [hs, List.drop_append, List.drop_eq_nil_of_le (by rw [List.length_take]; omega), List.nil_append, List.drop_replicate, List.length_take, hs]
      have : 32 - c - (28 - min c 32) = 4 := by omega
      rw [this]
      rfl
    have hd2 : (sectorM n q).drop 28 = le4 (sumM (headS n q)) := by
      unfold sectorM
      rw [List.drop_append, List.drop_eq_nil_of_le (by omega), hh]
      rfl
    rw [he, hd2] at hd
    exact le4_zero hd (sum_low hh)
  · have ht : (cutM c (sectorM k b)).take 28 = (sectorM k b).take 28 := by
      unfold cutM
      rw [List.take_append_of_le_length (by rw [List.length_take]; omega), List.take_take]
      congr 1
      omega
    rw [ht, sector_body hb] at he
    have h0 : (cutM c (sectorM k b))[0]?.getD 0 = (sectorM k b)[0]?.getD 0 := by
      have e : ∀ l : List UInt8, l[0]?.getD 0 = (l.take 28)[0]?.getD 0 := fun l => by rw [List.getElem?_take]; simp
      rw [e, ht, ← e]
    rw [he, sector_fst, sector_fst] at h0
    have hm := ofNat_mod h0
    rw [he]
    unfold sectorM headS
    rw [hm]
/-- A record of which sectors are torn reads as its entry, or not at all. -/
theorem parse_torn {v : Int} {w : List Tii} (hv : validM v w = true) (hw : rgeW w) {l : List (List UInt8)} (hl : l.length = (recordM v w).length) (hc : ∀ i, i < l.length → ∃ c, l[i]?.getD [] = cutM c ((recordM v w)[i]?.getD [])) (hn : l ≠ recordM v w) : parseM l 0 = none := by
  cases hp : parseM l 0 with
  | none => rfl
  | some r =>
    exfalso
    obtain ⟨⟨v', w'⟩, n⟩ := r
    obtain ⟨h1, h2, h3⟩ := body_len hv hw
    have hrl := record_len hv
    have hR : recordM v w = sectsM ((bodyM v w).length / 27) (bodyM v w) := by unfold recordM; rw [if_pos hv]
    generalize hM : (bodyM v w).length / 27 = M at *
    generalize bodyM v w = B at *
    have hch : ∀ i, i < M → (List.take 27 (List.drop (27 * i) B)).length = 27 := fun i hi => by rw [List.length_take, List.length_drop]; omega
    obtain ⟨c1, c2, c3, c4, c5, c6, c7⟩ := parse_canon hp
    simp only [Int.toNat_zero, List.drop_zero] at c6 c7
    have hn2 : n ≤ l.length := by omega
    -- each sector that was read is whole
    have hsec : ∀ i, i < n → l[i]?.getD [] = (recordM v w)[i]?.getD [] := fun i hi => by
      obtain ⟨c, hci⟩ := hc i (by omega)
      have hr : (recordM v w)[i]?.getD [] = sectorM ((M - 1 - i : Nat) : Int) (List.take 27 (List.drop (27 * i) B)) := by rw [hR]; exact sects_at M B i (by omega)
      have hb' := body_len c1 c2
      have hrl' := record_len c1
      simp only at hb' hrl' c7
      have hR' : recordM v' w' = sectsM ((bodyM v' w').length / 27) (bodyM v' w') := by unfold recordM; rw [if_pos c1]
      have hlen := congrArg List.length c7
      rw [hrl', List.length_take] at hlen
      have hi' : (recordM v' w')[i]?.getD [] = l[i]?.getD [] := by rw [c7, List.getElem?_take]; simp [hi]
      have hs' : (recordM v' w')[i]?.getD [] = sectorM (((bodyM v' w').length / 27 - 1 - i : Nat) : Int) (List.take 27 (List.drop (27 * i) (bodyM v' w'))) := by rw [hR']; exact sects_at _ _ i (by omega)
      have h27' : (List.take 27 (List.drop (27 * i) (bodyM v' w'))).length = 27 := by rw [List.length_take, List.length_drop]; omega
      have hok : okS ((bodyM v' w').length / 27 - 1 - i) (l[i]?.getD []) = true := by
        unfold okS
        rw [← hi', hs', sector_body h27', sector_len, h27']
        simp
      rw [hci, hr] at hok ⊢
      exact torn_same (hch i (by omega)) hok
    have h0 := hsec 0 (by omega)
    have hnM : n = M := by
      rw [c6]
      unfold manyM
      rw [h0, hR, sects_at M B 0 (by omega), sector_fst, UInt8.toNat_ofNat', Nat.mod_eq_of_lt (by omega)]
      omega
    apply hn
    apply List.ext_getElem?
    intro i
    by_cases hi : i < l.length
    · have := hsec i (by omega)
      rw [List.getElem?_eq_getElem hi, List.getElem?_eq_getElem (by omega)] at this ⊢
      simpa using this
    · rw [List.getElem?_eq_none (by omega), List.getElem?_eq_none (by omega)]
end Go.Proofs.YtkfjgggiopegbaaDoor
