/- WaitRegisters for 0 writers: a piece. No condition. -/
import Derived.Test.YtolphdchkbcoeaaWR0T
namespace Go.Proofs.Ytolphdchkbcoeaa
set_option linter.unusedVariables false
set_option linter.unusedSimpArgs false
set_option maxRecDepth 100000

set_option maxHeartbeats 16000000 in
theorem wR0_main : ∀ ds, ds.length = (clsOf [.agg [.rows false [.int .u8], .pl (.int .i64), .rows false [.int .u8]]]).length → Wts (clsOf [.agg [.rows false [.int .u8], .pl (.int .i64), .rows false [.int .u8]]]) ds → Facts (envL wR0Phi (nrmL (clsOf [.agg [.rows false [.int .u8], .pl (.int .i64), .rows false [.int .u8]]]) ds)) (rng 0 9223372036854775807 (.un .len (.var 0)) ++ (rng (-9223372036854775808) 9223372036854775807 (.var 1) ++ (rng 0 9223372036854775807 (.un .len (.var 2)) ++ ([])))) ∧ Sat wR0Phi wR0Tree (fun es => nrmL (clsOf [.one (.pl .bool)]) es = nrmL (clsOf [.one (.pl .bool)]) (wR0F ds)) (nrmL (clsOf [.agg [.rows false [.int .u8], .pl (.int .i64), .rows false [.int .u8]]]) ds) := by
  intro ds hl hp
  obtain ⟨d0, d1, d2, rfl⟩ := len3 hl
  obtain ⟨_, _, he, w0, hp⟩ := hp
  cases he
  have b0 : ((d0.l.map DV.i).length : Int) ≤ 9223372036854775807 := by rw [List.length_map]; exact wt_len w0
  have v0 : ∀ v ∈ d0.l.map DV.i, 0 ≤ v ∧ v ≤ 255 := wt_ints w0 rfl rfl
  clear w0
  obtain ⟨_, _, he, w1, hp⟩ := hp
  cases he
  have r1 : -9223372036854775808 ≤ d1.i ∧ d1.i ≤ 9223372036854775807 := wt_i w1 rfl rfl
  clear w1
  obtain ⟨_, _, he, w2, hp⟩ := hp
  cases he
  have b2 : ((d2.l.map DV.i).length : Int) ≤ 9223372036854775807 := by rw [List.length_map]; exact wt_len w2
  have v2 : ∀ v ∈ d2.l.map DV.i, 0 ≤ v ∧ v ≤ 255 := wt_ints w2 rfl rfl
  clear w2
  have hN : nrmL (clsOf [.agg [.rows false [.int .u8], .pl (.int .i64), .rows false [.int .u8]]]) [d0, d1, d2] = [.list ((d0.l.map DV.i).map DV.int), .int d1.i, .list ((d2.l.map DV.i).map DV.int)] := by
    simp only [clsOf, Sh.cls, List.append_nil, List.cons_append, List.nil_append, nrmL, Cl.nrm, CK.nrm, map_Li]
  have hF : wR0F [d0, d1, d2] = [.bool true] := rfl
  rw [hN, hF]
  clear hN hp hl hF
  generalize d0.l.map DV.i = x0 at b0 v0 ⊢
  generalize d1.i = x1 at r1 ⊢
  generalize d2.l.map DV.i = x2 at b2 v2 ⊢
  refine ⟨(rng_ok (e := .un .len (.var 0)) (Int.natCast_nonneg _) (by show ((x0.map _).length : Int) ≤ _; rw [List.length_map]; exact b0) (rng_ok (e := .var 1) r1.1 r1.2 (rng_ok (e := .un .len (.var 2)) (Int.natCast_nonneg _) (by show ((x2.map _).length : Int) ≤ _; rw [List.length_map]; exact b2) (facts_nil _)))), ?_⟩
  unfold wR0Tree
  simp only [Sat, clsOf, Sh.cls, List.append_nil, List.cons_append, List.nil_append, nrmL, Cl.nrm, CK.nrm, List.map_cons, List.map_nil, List.length_cons, List.length_nil, List.cons.injEq, DV.bool.injEq, DV.int.injEq, DV.list.injEq, DV.str.injEq, and_true, true_and, wR0N0, wR0N1, wR0N2, wR0N3, wR0N4, wR0N5, wR0N6, wR0N7, wR0N8, wR0N9, wR0N10, wR0N11]
  simp only [q_le, q_eq, q_eqs, q_eqb, q_and, q_or, q_not, q_bool, iff_true, iff_false, Bool.not_true, Bool.not_false, Bool.false_eq_true, Bool.true_eq_false, eq_self, Bool.not_not]
  have sane : ∀ e, (SE.den (envL wR0Phi e) (SE.bin BO.idx (SE.fn 126 SE.nil) (SE.int 0))).b = (DV.bool true).b := fun e => by simp [SE.den, evU, evB, envL, DV.i, DV.l, DV.b, lSane21F, lSane21E, wR0Phi]
  refine ⟨fun _ => sane _, fun hs4 => ⟨fun _ => sane _, fun hT2 => ?_⟩⟩
  have hs4 : (x0.length : Int) ≤ 4 := by simpa [SE.den, evU, evB, envL, DV.i, DV.l, DV.b] using hs4
  have hT2 : (x2.length : Int) ≤ 200 := by simpa [SE.den, evU, evB, envL, DV.i, DV.l, DV.b] using hT2
  refine .done ⟨rfl, ?_⟩
  refine rounds_at x0.length (fun k => [.int k, .list ((seenE ((seenN x0).take k)).map enciii)]) rfl (fun _ => rfl) (fun k hk => ?_) ?_
  · have hk1 : IntKind.i64.wrap ((k : Int) + 1) = k + 1 := w64 (by omega) (by omega)
    have hl : (seenE ((seenN x0).take k)).length = k := by rw [seenE_len, List.length_take, seenN_len]; omega
    have hk2 : ¬ (x0.length : Int) ≤ k := by omega
    simp only [List.cons_append, List.nil_append, Bool.not_true, Bool.not_false, Bool.true_eq_false, SE.den, evU, evT, ev_le, ev_eq, ev_eqs, ev_eqb, ev_slt, ev_and, ev_or, ev_add, ev_sub, ev_mul, ev_tdiv, ev_tmod, ev_band, ev_bor, ev_bxor, ev_bandn, ev_shl, ev_shr, ev_cat, ev_byte, ev_idx, ev_cons, ev_snoc, ev_app, ev_take, ev_drop, ev_stake, ev_sdrop, ev_rep, leB_q, eqB_q, eqsB_q, not_q, i_if, b_if, l_if, s_if, i_int, b_bool, s_str, l_list, envL, List.getElem?_cons_succ, List.getElem?_cons_zero, List.getElem?_nil, Option.getD_some, Option.getD_none, Int.toNat_natCast, Int.toNat_zero, Int.reduceToNat, List.length_map, get_Li, get_Lb, get_Ls, set_Li, inj_Li, inj_Lb, inj_Ls, rows_i, rows_b, rows_s, Int.zero_add, iff_true, iff_false, and_true, true_and, Bool.false_eq_true, eq_self, not_true_eq_false, not_false_eq_true, List.length_replicate, DV.int.injEq, DV.bool.injEq, DV.str.injEq, DV.list.injEq, List.cons.injEq, f_ib_0, rows_ib, inj_Lib, f_ib_1, rows_ib, inj_Lib, f_ii_0, rows_ii, inj_Lii, f_ii_1, rows_ii, inj_Lii, f_iii_0, rows_iii, inj_Liii, f_iii_1, rows_iii, inj_Liii, f_iii_2, rows_iii, inj_Liii, f_iiiis_0, rows_iiiis, inj_Liiiis, f_iiiis_1, rows_iiiis, inj_Liiiis, f_iiiis_2, rows_iiiis, inj_Liiiis, f_iiiis_3, rows_iiiis, inj_Liiiis, f_iiiis_4, rows_iiiis, inj_Liiiis, hl, hk1, seen_next v0 hk, List.map_append, List.map_cons, List.map_nil]
    simp [hk2, enciii]
    omega
  rw [show x0.length = (seenN x0).length from (seenN_len x0).symm, List.take_length]
  have h3 := seenN_lt x0
  have hsx := seenN_len x0
  have hsl : (seenN x0).length ≤ 4 := by omega
  generalize hsn : seenN x0 = seen at *
  simp only [List.cons_append, List.nil_append]
  refine ⟨fun h => absurd (by simp [SE.den, evU, evB, envL, DV.i, DV.l, DV.b, hsx]) h, fun _ => ⟨rfl, ?_⟩⟩
  have hsE : ((seenE seen).length : Int) ≤ 1000000 := by rw [seenE_len]; omega
  have z0 : IntKind.i64.wrap 0 = 0 := w64 (by omega) (by omega)
  have z1 : IntKind.i64.wrap 1 = 1 := w64 (by omega) (by omega)
  have z2 : IntKind.i64.wrap 2 = 2 := w64 (by omega) (by omega)
  let want : Nat → List Int := fun _ => []
  have hwl : ∀ j, (want j).length ≤ 4 := fun _ => Nat.zero_le _
  have w0 : want 0 = [] := rfl
  have w1 : want 1 = [] := rfl
  clear_value want
  refine rounds_enc (fun p : PS => [.int p.t, .list (p.s.mem.map .int), .int p.kind, .list (p.log.map encib), .int p.told, .bool false]) (fun p => PlayI want seen p.told p.kind p.log p.s ∧ p.t ≤ x2.length ∧ p.log.length ≤ p.t) (fun p => (x2.length : Int) ≤ p.t) (fun p => x2.length - p.t) ⟨0, _, 0, 5, []⟩ rfl ⟨play_start, Nat.zero_le _, Nat.le_refl _⟩ ?_ ?_
  · rintro ⟨t, s, told, kind, log⟩ ⟨hI, ht, hlg⟩ hfin
    dsimp only at hI ht hlg hfin
    have ht1 : IntKind.i64.wrap ((t : Int) + 1) = t + 1 := w64 (by omega) (by omega)
    have ht0 : (0 : Int) ≤ t := Int.natCast_nonneg _
    have hl1 : (log.length : Int) ≤ 1000000 := by omega
    simp only [Bool.not_true, Bool.not_false, Bool.true_eq_false, SE.den, evU, evT, ev_le, ev_eq, ev_eqs, ev_eqb, ev_slt, ev_and, ev_or, ev_add, ev_sub, ev_mul, ev_tdiv, ev_tmod, ev_band, ev_bor, ev_bxor, ev_bandn, ev_shl, ev_shr, ev_cat, ev_byte, ev_idx, ev_cons, ev_snoc, ev_app, ev_take, ev_drop, ev_stake, ev_sdrop, ev_rep, leB_q, eqB_q, eqsB_q, not_q, i_if, b_if, l_if, s_if, i_int, b_bool, s_str, l_list, envL, List.getElem?_cons_succ, List.getElem?_cons_zero, List.getElem?_nil, Option.getD_some, Option.getD_none, Int.toNat_natCast, Int.toNat_zero, Int.reduceToNat, List.length_map, get_Li, get_Lb, get_Ls, set_Li, inj_Li, inj_Lb, inj_Ls, rows_i, rows_b, rows_s, Int.zero_add, iff_true, iff_false, and_true, true_and, Bool.false_eq_true, eq_self, not_true_eq_false, not_false_eq_true, List.length_replicate, DV.int.injEq, DV.bool.injEq, DV.str.injEq, DV.list.injEq, List.cons.injEq, f_ib_0, rows_ib, inj_Lib, f_ib_1, rows_ib, inj_Lib, f_ii_0, rows_ii, inj_Lii, f_ii_1, rows_ii, inj_Lii, f_iii_0, rows_iii, inj_Liii, f_iii_1, rows_iii, inj_Liii, f_iii_2, rows_iii, inj_Liii, f_iiiis_0, rows_iiiis, inj_Liiiis, f_iiiis_1, rows_iiiis, inj_Liiiis, f_iiiis_2, rows_iiiis, inj_Liiiis, f_iiiis_3, rows_iiiis, inj_Liiiis, f_iiiis_4, rows_iiiis, inj_Liiiis, wR0Phi, lSane21F, lSane21E, rDoF, rDoE, tNextF, tNextE, rOfMF, rOfME, rCellF, rCellE, rWtF, rWtE, rWordF, rWordE, tRouseF, tRouseE, rInF, rInE, gi, gb, gs, gLi, gLu, gLb, gLs, dece_i, dece_b, dece_s, gLib, deces_ib, gLii, deces_ii, gLiii, deces_iii, gLiiiis, deces_iiiis, memDoE, nx_0, nx_1, nx_2, nx_3, nx_4, nx_5, nx_6, nx_7, nx_8, nx_9, nx_10, nx_11, nx_12, tnext_eq h3, ht1]
    by_cases hto : told ≤ 1
    · generalize hN : nxS seen kind log = N
      rcases play_sleep h3 hI hto hN with ⟨hd, he, hI'⟩ | ⟨hd, r, s', hdo, hsw, hI'⟩
      · refine ⟨⟨t + 1, s, toldN kind told N.is, kindN kind N.is, []⟩, ?_, rfl, ⟨hI', by dsimp only; omega, Nat.zero_le _⟩, by dsimp only; omega⟩
        rcases told_kind hI hto with rfl | rfl <;> cases hi : N.is <;> simp [hfin, hto, hd, he, hi, toldN, kindN, hl1, hsE]
      · refine ⟨⟨t + 1, s', told, kind, log ++ [r]⟩, ?_, rfl, ⟨hI', by dsimp only; omega, by simp; omega⟩, by dsimp only; omega⟩
        simp [hfin, hto, hd, hdo, hl1, hsE, wa_len, encib, hsw]
    · refine ⟨⟨t + 1, s, told, kind, log⟩, ?_, rfl, ⟨hI, by dsimp only; omega, by dsimp only; omega⟩, by dsimp only; omega⟩
      simp [hfin, hto]
  rintro ⟨t, s, told, kind, log⟩ ⟨hI, ht, hlg⟩ hfin
  dsimp only at hI ht hlg hfin
  refine ⟨fun h => absurd (by simpa [SE.den, evU, evB, envL, DV.i, DV.l, DV.b] using hfin) h, fun _ => ⟨rfl, ?_⟩⟩
  have hlg2 : log.length ≤ 200 := by omega
  clear hfin ht hlg
  replace hI := play_enter hsl hI (idle_end hI.1 (by decide) w0) (idle_end hI.1 (by decide) w1)
  refine rounds_at 100 (fun i => [.int i]) rfl (fun _ => rfl) (fun i hi => ?_) ?_
  · have hi1 : IntKind.i64.wrap ((i : Int) + 1) = i + 1 := w64 (by omega) (by omega)
    have hi2 : ¬ (100 : Int) ≤ i := by omega
    simp only [List.cons_append, List.nil_append, Bool.not_true, Bool.not_false, Bool.true_eq_false, SE.den, evU, evT, ev_le, ev_eq, ev_eqs, ev_eqb, ev_slt, ev_and, ev_or, ev_add, ev_sub, ev_mul, ev_tdiv, ev_tmod, ev_band, ev_bor, ev_bxor, ev_bandn, ev_shl, ev_shr, ev_cat, ev_byte, ev_idx, ev_cons, ev_snoc, ev_app, ev_take, ev_drop, ev_stake, ev_sdrop, ev_rep, leB_q, eqB_q, eqsB_q, not_q, i_if, b_if, l_if, s_if, i_int, b_bool, s_str, l_list, envL, List.getElem?_cons_succ, List.getElem?_cons_zero, List.getElem?_nil, Option.getD_some, Option.getD_none, Int.toNat_natCast, Int.toNat_zero, Int.reduceToNat, List.length_map, get_Li, get_Lb, get_Ls, set_Li, inj_Li, inj_Lb, inj_Ls, rows_i, rows_b, rows_s, Int.zero_add, iff_true, iff_false, and_true, true_and, Bool.false_eq_true, eq_self, not_true_eq_false, not_false_eq_true, List.length_replicate, DV.int.injEq, DV.bool.injEq, DV.str.injEq, DV.list.injEq, List.cons.injEq, f_ib_0, rows_ib, inj_Lib, f_ib_1, rows_ib, inj_Lib, f_ii_0, rows_ii, inj_Lii, f_ii_1, rows_ii, inj_Lii, f_iii_0, rows_iii, inj_Liii, f_iii_1, rows_iii, inj_Liii, f_iii_2, rows_iii, inj_Liii, f_iiiis_0, rows_iiiis, inj_Liiiis, f_iiiis_1, rows_iiiis, inj_Liiiis, f_iiiis_2, rows_iiiis, inj_Liiiis, f_iiiis_3, rows_iiiis, inj_Liiiis, f_iiiis_4, rows_iiiis, inj_Liiiis, hi1]
    refine ⟨fun _ => ⟨fun _ => ⟨rfl, .done ?_⟩, fun h => h⟩, fun h => absurd h hi2⟩
    omega
  refine ⟨fun h => absurd (by simp [SE.den, evU, evB, envL, DV.i, DV.l, DV.b]) h, fun _ => ⟨rfl, ?_⟩⟩
  simp only [List.cons_append, List.nil_append]
  refine rounds_enc (fun p : PS => [.int p.t, .list (p.s.mem.map .int), .int p.kind, .list (p.log.map encib), .int p.told, .bool false]) (fun p => PlayD want seen p.told p.kind p.log p.s p.t ∧ p.t ≤ 60 ∧ p.log.length ≤ 200 + p.t) (fun p => 60 ≤ p.t) (fun p => 60 - p.t) ⟨0, s, told, kind, log⟩ rfl ⟨hI, Nat.zero_le _, hlg2⟩ ?_ ?_
  · clear hI
    rintro ⟨t, s, told, kind, log⟩ ⟨hI, ht, hlg⟩ hfin
    dsimp only at hI ht hlg hfin
    have ht1 : IntKind.i64.wrap ((t : Int) + 1) = t + 1 := w64 (by omega) (by omega)
    have hf : ¬ (60 : Int) ≤ t := by omega
    have hl1 : (log.length : Int) ≤ 1000000 := by omega
    simp only [Bool.not_true, Bool.not_false, Bool.true_eq_false, SE.den, evU, evT, ev_le, ev_eq, ev_eqs, ev_eqb, ev_slt, ev_and, ev_or, ev_add, ev_sub, ev_mul, ev_tdiv, ev_tmod, ev_band, ev_bor, ev_bxor, ev_bandn, ev_shl, ev_shr, ev_cat, ev_byte, ev_idx, ev_cons, ev_snoc, ev_app, ev_take, ev_drop, ev_stake, ev_sdrop, ev_rep, leB_q, eqB_q, eqsB_q, not_q, i_if, b_if, l_if, s_if, i_int, b_bool, s_str, l_list, envL, List.getElem?_cons_succ, List.getElem?_cons_zero, List.getElem?_nil, Option.getD_some, Option.getD_none, Int.toNat_natCast, Int.toNat_zero, Int.reduceToNat, List.length_map, get_Li, get_Lb, get_Ls, set_Li, inj_Li, inj_Lb, inj_Ls, rows_i, rows_b, rows_s, Int.zero_add, iff_true, iff_false, and_true, true_and, Bool.false_eq_true, eq_self, not_true_eq_false, not_false_eq_true, List.length_replicate, DV.int.injEq, DV.bool.injEq, DV.str.injEq, DV.list.injEq, List.cons.injEq, f_ib_0, rows_ib, inj_Lib, f_ib_1, rows_ib, inj_Lib, f_ii_0, rows_ii, inj_Lii, f_ii_1, rows_ii, inj_Lii, f_iii_0, rows_iii, inj_Liii, f_iii_1, rows_iii, inj_Liii, f_iii_2, rows_iii, inj_Liii, f_iiiis_0, rows_iiiis, inj_Liiiis, f_iiiis_1, rows_iiiis, inj_Liiiis, f_iiiis_2, rows_iiiis, inj_Liiiis, f_iiiis_3, rows_iiiis, inj_Liiiis, f_iiiis_4, rows_iiiis, inj_Liiiis, wR0Phi, lSane21F, lSane21E, rDoF, rDoE, tNextF, tNextE, rOfMF, rOfME, rCellF, rCellE, rWtF, rWtE, rWordF, rWordE, tRouseF, tRouseE, rInF, rInE, gi, gb, gs, gLi, gLu, gLb, gLs, dece_i, dece_b, dece_s, gLib, deces_ib, gLii, deces_ii, gLiii, deces_iii, gLiiiis, deces_iiiis, memDoE, nx_0, nx_1, nx_2, nx_3, nx_4, nx_5, nx_6, nx_7, nx_8, nx_9, nx_10, nx_11, nx_12, tnext_eq h3, ht1]
    by_cases hto : told ≤ 1
    · have hk : kind = 5 ∨ kind = 6 := by obtain ⟨a, _, _, pc, b, _⟩ := hI; exact told_kind ⟨a, pc, b⟩ hto
      generalize hN : nxS seen kind log = N
      rcases play_down h3 hI hto hN with ⟨hd, he, hI'⟩ | ⟨hd, r, s', hdo, hsw, hI'⟩
      · refine ⟨⟨t + 1, s, toldN kind told N.is, kindN kind N.is, []⟩, ?_, rfl, ⟨hI', by dsimp only; omega, Nat.zero_le _⟩, by dsimp only; omega⟩
        rcases hk with rfl | rfl <;> cases hi : N.is <;> simp [hf, hto, hd, he, hi, toldN, kindN, hl1, hsE]
      · refine ⟨⟨t + 1, s', told, kind, log ++ [r]⟩, ?_, rfl, ⟨hI', by dsimp only; omega, by simp; omega⟩, by dsimp only; omega⟩
        simp [hf, hto, hd, hdo, hl1, hsE, wa_len, encib]
    · refine ⟨⟨t + 1, s, told, kind, log⟩, ?_, rfl, ⟨play_wait hI hto, by dsimp only; omega, by dsimp only; omega⟩, by dsimp only; omega⟩
      simp [hf, hto]
  clear hI hlg2
  rintro ⟨t, s, told, kind, log⟩ ⟨hI, ht, hlg⟩ hfin
  dsimp only at hI ht hlg hfin
  obtain rfl : t = 60 := by omega
  refine ⟨fun h => absurd (by simp [SE.den, evU, evB, envL, DV.i, DV.l, DV.b]) h, fun _ => ?_⟩
  simp only [List.cons_append, List.nil_append]
  have hend := play_end (by decide) hI
  clear hI ht hlg hfin
  rcases hend with ⟨rfl, _, hmb⟩ | ⟨ht, _, hmb⟩
  · refine ⟨fun h => absurd (by simp [SE.den, evU, evB, envL, DV.i, DV.l, DV.b]) h, fun _ => ⟨rfl, ?_⟩⟩
    refine rounds_at 3 (fun k => [.int k]) rfl (fun _ => rfl) (fun i hi => ?_) ?_
    · have hi1 : IntKind.i64.wrap ((i : Int) + 1) = i + 1 := w64 (by omega) (by omega)
      have hi2 : ¬ (3 : Int) ≤ i := by omega
      simp only [List.cons_append, List.nil_append]
      refine ⟨fun _ => ⟨rfl, ?_⟩, fun h => absurd (by simpa [SE.den, evU, evB, envL, DV.i, DV.l, DV.b] using h) hi2⟩
      refine rounds_at seen.length (fun k => [.bool (decide (i ∈ seen.take k)), .int k]) rfl (fun _ => rfl) (fun k hk => ?_) ?_
      · have hk1 : IntKind.i64.wrap ((k : Int) + 1) = k + 1 := w64 (by omega) (by omega)
        have hk0 : (0 : Int) ≤ k := Int.natCast_nonneg _
        have hk2 : ¬ (seen.length : Int) ≤ k := by omega
        have hm : decide (i ∈ seen.take (k + 1)) = (decide (i ∈ seen.take k) || decide (i = seen[k]?.getD 0)) := by rw [decide_eq_decide.2 (mem_take_next hk i), Bool.decide_or]
        simp only [List.cons_append, List.nil_append, Bool.not_true, Bool.not_false, Bool.true_eq_false, SE.den, evU, evT, ev_le, ev_eq, ev_eqs, ev_eqb, ev_slt, ev_and, ev_or, ev_add, ev_sub, ev_mul, ev_tdiv, ev_tmod, ev_band, ev_bor, ev_bxor, ev_bandn, ev_shl, ev_shr, ev_cat, ev_byte, ev_idx, ev_cons, ev_snoc, ev_app, ev_take, ev_drop, ev_stake, ev_sdrop, ev_rep, leB_q, eqB_q, eqsB_q, not_q, i_if, b_if, l_if, s_if, i_int, b_bool, s_str, l_list, envL, List.getElem?_cons_succ, List.getElem?_cons_zero, List.getElem?_nil, Option.getD_some, Option.getD_none, Int.toNat_natCast, Int.toNat_zero, Int.reduceToNat, List.length_map, get_Li, get_Lb, get_Ls, set_Li, inj_Li, inj_Lb, inj_Ls, rows_i, rows_b, rows_s, Int.zero_add, iff_true, iff_false, and_true, true_and, Bool.false_eq_true, eq_self, not_true_eq_false, not_false_eq_true, List.length_replicate, DV.int.injEq, DV.bool.injEq, DV.str.injEq, DV.list.injEq, List.cons.injEq, f_ib_0, rows_ib, inj_Lib, f_ib_1, rows_ib, inj_Lib, f_ii_0, rows_ii, inj_Lii, f_ii_1, rows_ii, inj_Lii, f_iii_0, rows_iii, inj_Liii, f_iii_1, rows_iii, inj_Liii, f_iii_2, rows_iii, inj_Liii, f_iiiis_0, rows_iiiis, inj_Liiiis, f_iiiis_1, rows_iiiis, inj_Liiiis, f_iiiis_2, rows_iiiis, inj_Liiiis, f_iiiis_3, rows_iiiis, inj_Liiiis, f_iiiis_4, rows_iiiis, inj_Liiiis, wR0Phi, lSane21F, lSane21E, rDoF, rDoE, tNextF, tNextE, rOfMF, rOfME, rCellF, rCellE, rWtF, rWtE, rWordF, rWordE, tRouseF, tRouseE, rInF, rInE, gi, gb, gs, gLi, gLu, gLb, gLs, dece_i, dece_b, dece_s, gLib, deces_ib, gLii, deces_ii, gLiii, deces_iii, gLiiiis, deces_iiiis, hk1, seenE_len, seenE_at, hm]
        cases hq : decide (i ∈ seen.take k)
        · simp [hk2, eq_comm]
          omega
        · simp [hk2]
      · rw [List.take_length]
        simp only [List.cons_append, List.nil_append, Bool.not_true, Bool.not_false, Bool.true_eq_false, SE.den, evU, evT, ev_le, ev_eq, ev_eqs, ev_eqb, ev_slt, ev_and, ev_or, ev_add, ev_sub, ev_mul, ev_tdiv, ev_tmod, ev_band, ev_bor, ev_bxor, ev_bandn, ev_shl, ev_shr, ev_cat, ev_byte, ev_idx, ev_cons, ev_snoc, ev_app, ev_take, ev_drop, ev_stake, ev_sdrop, ev_rep, leB_q, eqB_q, eqsB_q, not_q, i_if, b_if, l_if, s_if, i_int, b_bool, s_str, l_list, envL, List.getElem?_cons_succ, List.getElem?_cons_zero, List.getElem?_nil, Option.getD_some, Option.getD_none, Int.toNat_natCast, Int.toNat_zero, Int.reduceToNat, List.length_map, get_Li, get_Lb, get_Ls, set_Li, inj_Li, inj_Lb, inj_Ls, rows_i, rows_b, rows_s, Int.zero_add, iff_true, iff_false, and_true, true_and, Bool.false_eq_true, eq_self, not_true_eq_false, not_false_eq_true, List.length_replicate, DV.int.injEq, DV.bool.injEq, DV.str.injEq, DV.list.injEq, List.cons.injEq, f_ib_0, rows_ib, inj_Lib, f_ib_1, rows_ib, inj_Lib, f_ii_0, rows_ii, inj_Lii, f_ii_1, rows_ii, inj_Lii, f_iii_0, rows_iii, inj_Liii, f_iii_1, rows_iii, inj_Liii, f_iii_2, rows_iii, inj_Liii, f_iiiis_0, rows_iiiis, inj_Liiiis, f_iiiis_1, rows_iiiis, inj_Liiiis, f_iiiis_2, rows_iiiis, inj_Liiiis, f_iiiis_3, rows_iiiis, inj_Liiiis, f_iiiis_4, rows_iiiis, inj_Liiiis, wR0Phi, lSane21F, lSane21E, rDoF, rDoE, tNextF, tNextE, rOfMF, rOfME, rCellF, rCellE, rWtF, rWtE, rWordF, rWordE, tRouseF, tRouseE, rInF, rInE, gi, gb, gs, gLi, gLu, gLb, gLs, dece_i, dece_b, dece_s, gLib, deces_ib, gLii, deces_ii, gLiii, deces_iii, gLiiiis, deces_iiiis, seenE_len, hi1]
        rw [place_mask hi, cell_mask s hi, has_b2n, hmb]
        simp
        try omega
    · simp only [List.cons_append, List.nil_append]
      refine ⟨fun h => absurd (by simp [SE.den, evU, evB, envL, DV.i, DV.l, DV.b]) h, fun _ => ⟨fun _ => by simp [SE.den, evU, evB, envL, DV.i, DV.l, DV.b], fun h => absurd ((sane _).symm.trans h) (by simp [DV.b])⟩⟩
  · have hto : ¬ told = 1 := by rcases ht with rfl | rfl <;> decide
    refine ⟨fun _ => ⟨fun _ => ⟨fun _ => ⟨rfl, ?_⟩, fun h => absurd h (by simp [SE.den, evU, evB, envL, DV.i, DV.l, DV.b])⟩, fun h => absurd ((sane _).symm.trans h) (by simp [DV.b])⟩, fun h => absurd (by simpa [SE.den, evU, evB, envL, DV.i, DV.l, DV.b] using h) hto⟩
    refine rounds_at 3 (fun k => [.int 0, .int k]) rfl (fun _ => rfl) (fun i hi => ?_) ?_
    · have hi1 : IntKind.i64.wrap ((i : Int) + 1) = i + 1 := w64 (by omega) (by omega)
      have hi2 : ¬ (3 : Int) ≤ i := by omega
      simp only [List.cons_append, List.nil_append, Bool.not_true, Bool.not_false, Bool.true_eq_false, SE.den, evU, evT, ev_le, ev_eq, ev_eqs, ev_eqb, ev_slt, ev_and, ev_or, ev_add, ev_sub, ev_mul, ev_tdiv, ev_tmod, ev_band, ev_bor, ev_bxor, ev_bandn, ev_shl, ev_shr, ev_cat, ev_byte, ev_idx, ev_cons, ev_snoc, ev_app, ev_take, ev_drop, ev_stake, ev_sdrop, ev_rep, leB_q, eqB_q, eqsB_q, not_q, i_if, b_if, l_if, s_if, i_int, b_bool, s_str, l_list, envL, List.getElem?_cons_succ, List.getElem?_cons_zero, List.getElem?_nil, Option.getD_some, Option.getD_none, Int.toNat_natCast, Int.toNat_zero, Int.reduceToNat, List.length_map, get_Li, get_Lb, get_Ls, set_Li, inj_Li, inj_Lb, inj_Ls, rows_i, rows_b, rows_s, Int.zero_add, iff_true, iff_false, and_true, true_and, Bool.false_eq_true, eq_self, not_true_eq_false, not_false_eq_true, List.length_replicate, DV.int.injEq, DV.bool.injEq, DV.str.injEq, DV.list.injEq, List.cons.injEq, f_ib_0, rows_ib, inj_Lib, f_ib_1, rows_ib, inj_Lib, f_ii_0, rows_ii, inj_Lii, f_ii_1, rows_ii, inj_Lii, f_iii_0, rows_iii, inj_Liii, f_iii_1, rows_iii, inj_Liii, f_iii_2, rows_iii, inj_Liii, f_iiiis_0, rows_iiiis, inj_Liiiis, f_iiiis_1, rows_iiiis, inj_Liiiis, f_iiiis_2, rows_iiiis, inj_Liiiis, f_iiiis_3, rows_iiiis, inj_Liiiis, f_iiiis_4, rows_iiiis, inj_Liiiis, wR0Phi, lSane21F, lSane21E, rDoF, rDoE, tNextF, tNextE, rOfMF, rOfME, rCellF, rCellE, rWtF, rWtE, rWordF, rWordE, tRouseF, tRouseE, rInF, rInE, gi, gb, gs, gLi, gLu, gLb, gLs, dece_i, dece_b, dece_s, gLib, deces_ib, gLii, deces_ii, gLiii, deces_iii, gLiiiis, deces_iiiis, hi1]
      rw [place_mask hi, cell_mask s hi, has_b2n, hmb]
      simp [hi2]
    · simp [SE.den, evU, evB, envL, DV.i, DV.l, DV.b]
theorem wR0_piece {w : World} {va vs us : List Value} {ds : List DV} {gs : List GI} (hgrp : Grp ([.agg [.rows [.int .u8], .nest [.int .u8] 0, .rows [.int .u8]]].map NSh.sh) va vs) (hlk : Link w (nisOf [.agg [.rows [.int .u8], .nest [.int .u8] 0, .rows [.int .u8]]]) vs us gs) (hrd : Reads w (flatN (nisOf [.agg [.rows [.int .u8], .nest [.int .u8] 0, .rows [.int .u8]]])) us ds gs) (hw : Wts (flatN (nisOf [.agg [.rows [.int .u8], .nest [.int .u8] 0, .rows [.int .u8]]])) ds) :
    Calls Try.prog 5 va.toArray w fun e w' => e = .returned (.bool true) ∧ Go.RowKit.Below w.heap.size w w' :=
  law_nest (X := ⟨Try.prog, wR0Sm, wR0La, true⟩) mo_nil (by decide +kernel) (Checked.mixed Try.checked) wR0S (by decide +kernel) wR0T (by decide +kernel) (wR0_main ds (reads_len hrd).2.1 hw) hgrp hlk hrd
end Go.Proofs.Ytolphdchkbcoeaa
