/- The reference's reading of records is the code's. No program in sight. -/
import Derived.Test.YtkfjgggiopegbaaDoorR3Parse
import Derived.Test.YtkfjgggiopegbaaDoorWalR
namespace Go.Proofs.YtkfjgggiopegbaaDoor
set_option linter.unusedVariables false
set_option linter.unusedSimpArgs false
theorem acc_grp : ∀ (f : Nat) (u : Int), 0 ≤ u → u < 18446744073709551616 → u < 128 ^ (f + 1) → acc3 (grpM f u) = u
  | 0, u, h0, h1, h2 => by
    have e : (128 : Int) ^ (0 + 1) = 128 := rfl
    rw [e] at h2
    show step3 u 0 = u
    unfold step3
    rw [Int.tmod_eq_emod_of_nonneg h0, u64_wrap (u % 128) (by omega) (by omega), show (128 : Int) * 0 = 0 from rfl, u64_wrap 0 (by omega) (by omega), u64_wrap _ (by omega) (by omega)]
    omega
  | f + 1, u, h0, h1, h2 => by
    unfold grpM
    by_cases hu : u < 128
    · rw [if_pos hu]
      show step3 u 0 = u
      unfold step3
      rw [Int.tmod_eq_emod_of_nonneg h0, u64_wrap (u % 128) (by omega) (by omega), show (128 : Int) * 0 = 0 from rfl, u64_wrap 0 (by omega) (by omega), u64_wrap _ (by omega) (by omega)]
      omega
    · rw [if_neg hu]
      have e : (128 : Int) ^ (f + 1 + 1) = 128 ^ (f + 1) * 128 := by rw [Int.pow_succ]
      rw [e] at h2
      have ih := acc_grp f (u / 128) (by omega) (by omega) (Int.ediv_lt_of_lt_mul (by omega) h2)
      show step3 (u % 128 + 128) (acc3 (grpM f (u / 128))) = u
      rw [ih]
      unfold step3
      rw [Int.tmod_eq_emod_of_nonneg (by omega), u64_wrap ((u % 128 + 128) % 128) (by omega) (by omega), u64_wrap (128 * (u / 128)) (by omega) (by omega), u64_wrap _ (by omega) (by omega)]
      omega
theorem grp_at : ∀ (f : Nat) (u : Int), 0 ≤ u → u < 128 ^ (f + 1) → (∀ j, j + 1 < (grpM f u).length → 128 ≤ (grpM f u)[j]?.getD 0) ∧ (grpM f u)[(grpM f u).length - 1]?.getD 0 < 128
  | 0, u, h0, h2 => by
    have e : (128 : Int) ^ (0 + 1) = 128 := rfl
    rw [e] at h2
    refine ⟨fun j hj => ?_, h2⟩
    simp [grpM] at hj
  | f + 1, u, h0, h2 => by
    unfold grpM
    by_cases hu : u < 128
    · rw [if_pos hu]
      refine ⟨fun j hj => ?_, hu⟩
      simp at hj
    · rw [if_neg hu]
      have e : (128 : Int) ^ (f + 1 + 1) = 128 ^ (f + 1) * 128 := by rw [Int.pow_succ]
      rw [e] at h2
      obtain ⟨i1, i2⟩ := grp_at f (u / 128) (by omega) (Int.ediv_lt_of_lt_mul (by omega) h2)
      have hl := (grp_len f (u / 128)).1
      refine ⟨fun j hj => ?_, ?_⟩
      · cases j with
        | zero => show 128 ≤ u % 128 + 128; omega
        | succ j => exact i1 j (by simpa using hj)
      · rw [List.length_cons, show (grpM f (u / 128)).length + 1 - 1 = (grpM f (u / 128)).length - 1 + 1 by omega]
        exact i2
theorem num_zig {n : Int} (h0 : -9223372036854775808 ≤ n) (h1 : n ≤ 9223372036854775807) : num3 (zigM n) = n := by
  obtain ⟨z0, z1⟩ := zig_rge h0 h1
  have hz := unzig_zig n
  unfold unzigM at hz
  unfold num3
  generalize zigM n = u at *
  rw [Int.tmod_eq_emod_of_nonneg z0, Int.tdiv_eq_ediv_of_nonneg z0, u64_wrap (u / 2) (by omega) (by omega), w64 (n := u / 2) (by omega) (by omega)]
  by_cases hu : u % 2 = 1
  · rw [if_pos hu, w64 (n := 0 - u / 2) (by omega) (by omega), w64 (by omega) (by omega)]
    rw [if_neg (by omega)] at hz
    omega
  · rw [if_neg hu]
    rw [if_pos (by omega)] at hz
    exact hz
theorem num3_rge (u : Int) : -9223372036854775808 ≤ num3 u ∧ num3 u ≤ 9223372036854775807 := by
  unfold num3
  split <;> (rw [w64_eq]; omega)
theorem pow10 : (128 : Int) ^ (9 + 1) = 1180591620717411303424 := by decide
theorem get3_eq {b : List Int} (hb : ∀ x ∈ b, 0 ≤ x ∧ x ≤ 255) : get3 b = getM b := by
  cases hg : getM b with
  | none =>
    cases h3 : get3 b with
    | none => rfl
    | some p =>
      exfalso
      obtain ⟨n, k⟩ := p
      unfold get3 at h3
      split at h3
      · cases h3
      · split at h3
        · rename_i hp
          obtain ⟨r0, r1⟩ := num3_rge (acc3 (b.take (lead3 b + 1)))
          rw [put3_eq r0 r1, putR_eq r0 r1] at hp
          have := get_put r0 r1 (b.drop (lead3 b + 1))
          rw [hp, List.take_append_drop, hg] at this
          cases this
        · cases h3
  | some p =>
    obtain ⟨n, m⟩ := p
    obtain ⟨h0, h1, hm, hml, ht⟩ := getM_canon hb hg
    obtain ⟨z0, z1⟩ := zig_rge h0 h1
    have hpl := put_len n
    have hlen : (putM n).length = m := by rw [← ht, List.length_take]; omega
    have hat : ∀ j, j < m → (putM n)[j]?.getD 0 = b[j]?.getD 0 := fun j hj => by rw [← ht, List.getElem?_take, if_pos hj]
    obtain ⟨g1, g2⟩ := grp_at 9 (zigM n) z0 (by rw [pow10]; omega)
    have e : grpM 9 (zigM n) = putM n := rfl
    rw [e, hlen] at g1 g2
    have hl : lead3 b = m - 1 := lead3_eq (by omega) (by omega) (fun j hj => by rw [← hat j (by omega)]; exact g1 j (by omega)) (by
      right; right
      rw [← hat (m - 1) (by omega)]
      omega)
    have ha : acc3 (putM n) = zigM n := acc_grp 9 (zigM n) z0 z1 (by rw [pow10]; omega)
    unfold get3
    rw [hl, show m - 1 + 1 = m by omega, ht, ha, num_zig h0 h1, put3_eq h0 h1, putR_eq h0 h1, if_neg (by omega), if_pos rfl]
theorem gn3_eq : ∀ (m : Nat) (b : List Int) (a : Nat) (acc : List Int), (∀ x ∈ b, 0 ≤ x ∧ x ≤ 255) → gn3 m b a acc = gnG m b a acc
  | 0, _, _, _, _ => rfl
  | m + 1, b, a, acc, hb => by
    rw [gn3_succ, gnG, get3_eq hb]
    cases getM b with
    | none => rfl
    | some p => exact gn3_eq m _ _ _ fun x hx => hb x (List.mem_of_mem_drop hx)
theorem gn3_cnt : ∀ (m : Nat) (b : List Int) (a : Nat) (acc l : List Int) (u : Nat), gn3 m b a acc = some (l, u) → m ≤ b.length
  | 0, b, a, acc, l, u, h => Nat.zero_le _
  | m + 1, b, a, acc, l, u, h => by
    rw [gn3_succ] at h
    cases hg : get3 b with
    | none => rw [hg] at h; cases h
    | some p =>
      rw [hg] at h
      obtain ⟨n, k⟩ := p
      obtain ⟨k0, k1⟩ := get3_len hg
      have := gn3_cnt m _ _ _ _ _ h
      simp only [List.length_drop] at this
      omega
theorem getNums3_eq {b : List Int} (hb : ∀ x ∈ b, 0 ≤ x ∧ x ≤ 255) : getNums3 b = getNumsM b := by
  unfold getNums3 getNumsM
  rw [get3_eq hb]
  cases hg : getM b with
  | none => rfl
  | some p =>
    obtain ⟨n, k⟩ := p
    simp only
    by_cases hn : n < 0
    · rw [if_pos hn, if_pos (.inl hn)]
    · rw [if_neg hn]
      by_cases hl : (b.length : Int) < n
      · rw [if_pos (.inr hl)]
        cases h3 : gn3 n.toNat (b.drop k) k [] with
        | none => rfl
        | some q =>
          obtain ⟨l, u⟩ := q
          have := gn3_cnt _ _ _ _ _ _ h3
          rw [List.length_drop] at this
          omega
      · rw [if_neg (by omega), gn3_eq _ _ _ _ fun x hx => hb x (List.mem_of_mem_drop hx)]
theorem load_sects3 : ∀ (n : Nat) (b : List UInt8), b.length = 27 * n → load3 (sectsM n b) = b
  | 0, b, h => by
    have : b = [] := List.eq_nil_of_length_eq_zero (by omega)
    rw [this]; rfl
  | n + 1, b, h => by
    have h27 : (b.take 27).length = 27 := by rw [List.length_take]; omega
    have ih := load_sects3 n (b.drop 27) (by rw [List.length_drop]; omega)
    show pay3 (sectorM n (b.take 27)) ++ load3 (sectsM n (b.drop 27)) = b
    rw [ih]
    unfold pay3
    rw [if_pos (by rw [sector_len, h27]), sector_body h27, List.take_append_drop]
theorem nums_body {v : Int} {w : List Tii} (hv : validM v w = true) (hw : rgeW w) : getNumsM (bytesN (bodyM v w)) = some (v :: flatW w, (numsM (v :: flatW w)).length) := by
  obtain ⟨e, l65, hr, h660, h0⟩ := nums_entry hv hw
  have hb := nums_rge (l := v :: flatW w) (by omega) hr
  unfold bodyM padM
  rw [e, bytes_app, bytes_str hb, getNums_nums _ (by omega) hr]
theorem parse3_eq (l : List (List UInt8)) (a : Int) : parse3 l a = parseM l a := by
  cases hm : parseM l a with
  | some q =>
    obtain ⟨⟨v, w⟩, n⟩ := q
    obtain ⟨c1, c2, c3, c4, c5, c6, c7⟩ := parse_canon hm
    simp only at c1 c2 c7
    obtain ⟨h1, h2, h3⟩ := body_len c1 c2
    have hrl := record_len c1
    have hR : recordM v w = sectsM ((bodyM v w).length / 27) (bodyM v w) := by unfold recordM; rw [if_pos c1]
    have hn : n = (recordM v w).length := by rw [c7, List.length_take, List.length_drop]; omega
    have h32 : (l[a.toNat]?.getD []).length = 32 := by
      have h0 : (recordM v w)[0]? = l[a.toNat]? := by
        rw [c7, List.getElem?_take, if_pos (by omega), List.getElem?_drop, Nat.add_zero]
      rw [← h0, List.getElem?_eq_getElem (by omega)]
      exact record_secs c1 c2 _ (List.getElem_mem _)
    have hg : guess3 l a = ((v, w), (n : Int)) := by
      unfold guess3
      rw [if_pos ⟨c3, by omega, h32⟩, ← c6, ← c7]
      rw [show load3 (recordM v w) = bodyM v w by rw [hR]; exact load_sects3 _ _ h1]
      rw [getNums3_eq (bytes_rge _), nums_body c1 c2]
      unfold guessN
      simp only
      rw [if_neg (by simp)]
      show ((v, pairsM (flatW w)), (n : Int)) = _
      rw [pairs_flat]
    unfold parse3
    rw [hg]
    simp only
    rw [record3_eq c2]
    unfold parse3G
    rw [if_neg (by simp only; omega)]
    simp only [Int.toNat_natCast]
    rw [if_pos c7]
  | none =>
    cases h3 : parse3 l a with
    | none => rfl
    | some q =>
      exfalso
      unfold parse3 parse3G at h3
      obtain ⟨_, hgl⟩ := guess3_len l a
      have hgv : (guess3 l a).2 ≠ 0 → rgeW (guess3 l a).1.2 := by
        unfold guess3
        split
        · rename_i hc
          cases hn : getNums3 (bytesN (load3 ((l.drop a.toNat).take (manyM l a.toNat)))) with
          | none => exact fun h => absurd rfl h
          | some p =>
            rw [getNums3_eq (bytes_rge _)] at hn
            obtain ⟨n, u⟩ := p
            obtain ⟨hr, _⟩ := getNums_canon (bytes_rge _) hn
            unfold guessN
            simp only
            split
            · exact fun h => absurd rfl h
            · exact fun _ => pairs_rge _ (n.drop 1) (Nat.le_refl _) fun x hx => hr x (List.mem_of_mem_drop hx)
        · exact fun h => absurd rfl h
      generalize guess3 l a = g at *
      obtain ⟨⟨v, w⟩, m⟩ := g
      simp only at h3 hgl hgv
      split at h3
      · cases h3
      · rename_i hc
        split at h3
        · rename_i hr
          obtain ⟨a0, a1, m1, m2⟩ := hgl (by omega)
          have hw := hgv (by omega)
          rw [record3_eq hw] at hr hc
          have hv : validM v w = true := by
            cases hv : validM v w with
            | true => rfl
            | false =>
              have : recordM v w = [] := by unfold recordM; rw [if_neg (by simp [hv])]
              rw [this] at hc
              simp at hc
          have hl : l = l.take a.toNat ++ recordM v w ++ (l.drop a.toNat).drop m.toNat := by
            rw [hr, List.append_assoc, List.take_append_drop, List.take_append_drop]
          have hp := parse_record hv hw (l.take a.toNat) ((l.drop a.toNat).drop m.toNat)
          rw [← hl, List.length_take, show ((min a.toNat l.length : Nat) : Int) = a by omega, hm] at hp
          cases hp
        · cases h3
theorem parse_w {l : List (List UInt8)} {a : Int} {r : TEn × Nat} (h : parseM l a = some r) : r.1.2.length ≤ 32 := by
  obtain ⟨c1, _⟩ := parse_canon (e := r.1) (n := r.2) h
  exact (validM_iff.1 c1).2.2.2
theorem recM_w : ∀ (n : Nat) (l : List (List UInt8)) (a last : Int), ∀ e ∈ (recM l n a last).1, e.2.length ≤ 32
  | 0, l, a, last, e, h => by simp [recM] at h
  | n + 1, l, a, last, e, h => by
    cases hp : parseM l a with
    | none => rw [recM_none hp] at h; simp at h
    | some r =>
      by_cases hr : r.1.1 ≤ last
      · rw [recM_old hp hr] at h; simp at h
      · rw [recM_some hp hr] at h
        rcases List.mem_cons.1 h with h | h
        · rw [h]; exact parse_w hp
        · exact recM_w n l _ _ e h
theorem recM_len : ∀ (n : Nat) (l : List (List UInt8)) (a last : Int), (recM l n a last).1.length ≤ n
  | 0, l, a, last => by simp [recM]
  | n + 1, l, a, last => by
    cases hp : parseM l a with
    | none => rw [recM_none hp]; simp
    | some r =>
      by_cases hr : r.1.1 ≤ last
      · rw [recM_old hp hr]; simp
      · rw [recM_some hp hr, List.length_cons]
        have := recM_len n l (a + r.2) r.1.1
        omega
theorem recover_w (l : List (List UInt8)) (i : Nat) : (((recoverM l).1[i]?).getD dEn).2.length ≤ 32 := by
  cases h : (recoverM l).1[i]? with
  | none => simp [dEn]
  | some e => exact recM_w _ _ _ _ e (List.mem_of_getElem? h)
theorem recover_len (l : List (List UInt8)) : (recoverM l).1.length ≤ l.length + 1 := recM_len _ _ _ _
end Go.Proofs.YtkfjgggiopegbaaDoor
