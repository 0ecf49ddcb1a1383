/- WaitRegisters for 1 writers: a piece. No condition. -/
import Derived.Test.YtolphdchkbcoeaaWR1T
namespace Go.Proofs.Ytolphdchkbcoeaa
set_option linter.unusedVariables false
set_option linter.unusedSimpArgs false
set_option maxRecDepth 100000

set_option maxHeartbeats 16000000 in
theorem wR1_main : ∀ ds, ds.length = (clsOf [.agg [.rows false [.int .u8], .pl (.int .i64), .rows false [.int .u8], .rows false [.int .u8]]]).length → Wts (clsOf [.agg [.rows false [.int .u8], .pl (.int .i64), .rows false [.int .u8], .rows false [.int .u8]]]) ds → Facts (envL wR1Phi (nrmL (clsOf [.agg [.rows false [.int .u8], .pl (.int .i64), .rows false [.int .u8], .rows false [.int .u8]]]) ds)) (rng 0 9223372036854775807 (.un .len (.var 0)) ++ (rng (-9223372036854775808) 9223372036854775807 (.var 1) ++ (rng 0 9223372036854775807 (.un .len (.var 2)) ++ (rng 0 9223372036854775807 (.un .len (.var 3)) ++ ([]))))) ∧ Sat wR1Phi wR1Tree (fun es => nrmL (clsOf [.one (.pl .bool)]) es = nrmL (clsOf [.one (.pl .bool)]) (wR1F ds)) (nrmL (clsOf [.agg [.rows false [.int .u8], .pl (.int .i64), .rows false [.int .u8], .rows false [.int .u8]]]) ds) := by
  intro ds hl hp
  obtain ⟨d0, d1, d2, d3, rfl⟩ := len4 hl
  obtain ⟨_, _, he, w0, hp⟩ := hp
  cases he
  have b0 : ((d0.l.map DV.i).length : Int) ≤ 9223372036854775807 := by rw [List.length_map]; exact wt_len w0
  have v0 : ∀ v ∈ d0.l.map DV.i, 0 ≤ v ∧ v ≤ 255 := wt_ints w0 rfl rfl
  clear w0
  obtain ⟨_, _, he, w1, hp⟩ := hp
  cases he
  have r1 : -9223372036854775808 ≤ d1.i ∧ d1.i ≤ 9223372036854775807 := wt_i w1 rfl rfl
  clear w1
  obtain ⟨_, _, he, w2, hp⟩ := hp
  cases he
  have b2 : ((d2.l.map DV.i).length : Int) ≤ 9223372036854775807 := by rw [List.length_map]; exact wt_len w2
  have v2 : ∀ v ∈ d2.l.map DV.i, 0 ≤ v ∧ v ≤ 255 := wt_ints w2 rfl rfl
  clear w2
  obtain ⟨_, _, he, w3, hp⟩ := hp
  cases he
  have b3 : ((d3.l.map DV.i).length : Int) ≤ 9223372036854775807 := by rw [List.length_map]; exact wt_len w3
  have v3 : ∀ v ∈ d3.l.map DV.i, 0 ≤ v ∧ v ≤ 255 := wt_ints w3 rfl rfl
  clear w3
  have hN : nrmL (clsOf [.agg [.rows false [.int .u8], .pl (.int .i64), .rows false [.int .u8], .rows false [.int .u8]]]) [d0, d1, d2, d3] = [.list ((d0.l.map DV.i).map DV.int), .int d1.i, .list ((d2.l.map DV.i).map DV.int), .list ((d3.l.map DV.i).map DV.int)] := by
    simp only [clsOf, Sh.cls, List.append_nil, List.cons_append, List.nil_append, nrmL, Cl.nrm, CK.nrm, map_Li]
  have hF : wR1F [d0, d1, d2, d3] = [.bool true] := rfl
  rw [hN, hF]
  clear hN hp hl hF
  generalize d0.l.map DV.i = x0 at b0 v0 ⊢
  generalize d1.i = x1 at r1 ⊢
  generalize d2.l.map DV.i = x2 at b2 v2 ⊢
  generalize d3.l.map DV.i = x3 at b3 v3 ⊢
  refine ⟨(rng_ok (e := .un .len (.var 0)) (Int.natCast_nonneg _) (by show ((x0.map _).length : Int) ≤ _; rw [List.length_map]; exact b0) (rng_ok (e := .var 1) r1.1 r1.2 (rng_ok (e := .un .len (.var 2)) (Int.natCast_nonneg _) (by show ((x2.map _).length : Int) ≤ _; rw [List.length_map]; exact b2) (rng_ok (e := .un .len (.var 3)) (Int.natCast_nonneg _) (by show ((x3.map _).length : Int) ≤ _; rw [List.length_map]; exact b3) (facts_nil _))))), ?_⟩
  unfold wR1Tree
  simp only [Sat, clsOf, Sh.cls, List.append_nil, List.cons_append, List.nil_append, nrmL, Cl.nrm, CK.nrm, List.map_cons, List.map_nil, List.length_cons, List.length_nil, List.cons.injEq, DV.bool.injEq, DV.int.injEq, DV.list.injEq, DV.str.injEq, and_true, true_and, wR1N0, wR1N1, wR1N2, wR1N3, wR1N4, wR1N5, wR1N6, wR1N7, wR1N8, wR1N9, wR1N10, wR1N11, wR1N12, wR1N13, wR1N14, wR1N15, wR1N16, wR1N17, wR1N18, wR1N19, wR1N20, wR1N21, wR1N22, wR1N23, wR1N24, wR1N25, wR1N26, wR1N27, wR1N28, wR1N29, wR1N30, wR1N31, wR1N32, wR1N33, wR1N34, wR1N35, wR1N36, wR1N37, wR1N38, wR1N39]
  simp only [q_le, q_eq, q_eqs, q_eqb, q_and, q_or, q_not, q_bool, iff_true, iff_false, Bool.not_true, Bool.not_false, Bool.false_eq_true, Bool.true_eq_false, eq_self, Bool.not_not]
  have sane : ∀ e, (SE.den (envL wR1Phi e) (SE.bin BO.idx (SE.fn 126 SE.nil) (SE.int 0))).b = (DV.bool true).b := fun e => by simp [SE.den, evU, evB, envL, DV.i, DV.l, DV.b, lSane21F, lSane21E, wR1Phi]
  refine ⟨fun _ => sane _, fun hs4 => ⟨fun _ => sane _, fun hT2 => ?_⟩⟩
  have hs4 : (x0.length : Int) ≤ 4 := by simpa [SE.den, evU, evB, envL, DV.i, DV.l, DV.b] using hs4
  have hT2 : (x3.length : Int) ≤ 200 := by simpa [SE.den, evU, evB, envL, DV.i, DV.l, DV.b] using hT2
  by_cases g0 : (x2.length : Int) ≤ 4
  rotate_left
  · exact .done ⟨fun h => by simp [SE.den, evU, evB, envL, DV.i, DV.l, DV.b, lSane21F, lSane21E, wR1Phi, g0], fun h => by simp [SE.den, evU, evB, envL, DV.i, DV.l, DV.b] at h⟩
  refine .step [.int 1] (by simp [SE.den, evU, evB, envL, DV.i, DV.l, DV.b, g0]) rfl ?_
  refine .done ⟨fun h => by simp [SE.den, evU, evB, envL, DV.i, DV.l, DV.b] at h, fun _ => ⟨rfl, ?_⟩⟩
  refine rounds_at x0.length (fun k => [.int k, .list ((seenE ((seenN x0).take k)).map enciii)]) rfl (fun _ => rfl) (fun k hk => ?_) ?_
  · have hk1 : IntKind.i64.wrap ((k : Int) + 1) = k + 1 := w64 (by omega) (by omega)
    have hl : (seenE ((seenN x0).take k)).length = k := by rw [seenE_len, List.length_take, seenN_len]; omega
    have hk2 : ¬ (x0.length : Int) ≤ k := by omega
    simp only [List.cons_append, List.nil_append, Bool.not_true, Bool.not_false, Bool.true_eq_false, SE.den, evU, evT, ev_le, ev_eq, ev_eqs, ev_eqb, ev_slt, ev_and, ev_or, ev_add, ev_sub, ev_mul, ev_tdiv, ev_tmod, ev_band, ev_bor, ev_bxor, ev_bandn, ev_shl, ev_shr, ev_cat, ev_byte, ev_idx, ev_cons, ev_snoc, ev_app, ev_take, ev_drop, ev_stake, ev_sdrop, ev_rep, leB_q, eqB_q, eqsB_q, not_q, i_if, b_if, l_if, s_if, i_int, b_bool, s_str, l_list, envL, List.getElem?_cons_succ, List.getElem?_cons_zero, List.getElem?_nil, Option.getD_some, Option.getD_none, Int.toNat_natCast, Int.toNat_zero, Int.reduceToNat, List.length_map, get_Li, get_Lb, get_Ls, set_Li, inj_Li, inj_Lb, inj_Ls, rows_i, rows_b, rows_s, Int.zero_add, iff_true, iff_false, and_true, true_and, Bool.false_eq_true, eq_self, not_true_eq_false, not_false_eq_true, List.length_replicate, DV.int.injEq, DV.bool.injEq, DV.str.injEq, DV.list.injEq, List.cons.injEq, f_ib_0, rows_ib, inj_Lib, f_ib_1, rows_ib, inj_Lib, f_ii_0, rows_ii, inj_Lii, f_ii_1, rows_ii, inj_Lii, f_iii_0, rows_iii, inj_Liii, f_iii_1, rows_iii, inj_Liii, f_iii_2, rows_iii, inj_Liii, f_iiiis_0, rows_iiiis, inj_Liiiis, f_iiiis_1, rows_iiiis, inj_Liiiis, f_iiiis_2, rows_iiiis, inj_Liiiis, f_iiiis_3, rows_iiiis, inj_Liiiis, f_iiiis_4, rows_iiiis, inj_Liiiis, hl, hk1, seen_next v0 hk, List.map_append, List.map_cons, List.map_nil]
    simp [hk2, enciii]
    omega
  rw [show x0.length = (seenN x0).length from (seenN_len x0).symm, List.take_length]
  have h3 := seenN_lt x0
  have hsx := seenN_len x0
  have hsl : (seenN x0).length ≤ 4 := by omega
  generalize hsn : seenN x0 = seen at *
  simp only [List.cons_append, List.nil_append]
  refine ⟨fun h => absurd (by simp [SE.den, evU, evB, envL, DV.i, DV.l, DV.b, hsx]) h, fun _ => ⟨rfl, ?_⟩⟩
  have hsE : ((seenE seen).length : Int) ≤ 1000000 := by rw [seenE_len]; omega
  have z0 : IntKind.i64.wrap 0 = 0 := w64 (by omega) (by omega)
  have z1 : IntKind.i64.wrap 1 = 1 := w64 (by omega) (by omega)
  have z2 : IntKind.i64.wrap 2 = 2 := w64 (by omega) (by omega)
  let want : Nat → List Int := fun i => if i = 0 then x2 else []
  have hwl : ∀ j, (want j).length ≤ 4 := fun j => by
    show (if j = 0 then x2 else []).length ≤ 4
    repeat' split
    all_goals first | omega | exact Nat.zero_le _
  have w0 : want 0 = x2 := rfl
  have w1 : want 1 = [] := rfl
  clear_value want
  refine rounds_enc (fun p : PS => [.int p.t, .list (p.s.mem.map .int), .int p.kind, .list (p.log.map encib), .int p.told, .bool false, .int (p.s.w 0).next, .int (p.s.w 0).pos, .int (p.s.w 0).ver, .list ((rsL (p.s.w 0).rs).map enciiiis)]) (fun p => PlayI want seen p.told p.kind p.log p.s ∧ p.t ≤ x3.length ∧ p.log.length ≤ p.t) (fun p => (x3.length : Int) ≤ p.t) (fun p => x3.length - p.t) ⟨0, _, 0, 5, []⟩ rfl ⟨play_start, Nat.zero_le _, Nat.le_refl _⟩ ?_ ?_
  · rintro ⟨t, s, told, kind, log⟩ ⟨hI, ht, hlg⟩ hfin
    dsimp only at hI ht hlg hfin
    have ht1 : IntKind.i64.wrap ((t : Int) + 1) = t + 1 := w64 (by omega) (by omega)
    have ht0 : (0 : Int) ≤ t := Int.natCast_nonneg _
    have hl1 : (log.length : Int) ≤ 1000000 := by omega
    simp only [Bool.not_true, Bool.not_false, Bool.true_eq_false, SE.den, evU, evT, ev_le, ev_eq, ev_eqs, ev_eqb, ev_slt, ev_and, ev_or, ev_add, ev_sub, ev_mul, ev_tdiv, ev_tmod, ev_band, ev_bor, ev_bxor, ev_bandn, ev_shl, ev_shr, ev_cat, ev_byte, ev_idx, ev_cons, ev_snoc, ev_app, ev_take, ev_drop, ev_stake, ev_sdrop, ev_rep, leB_q, eqB_q, eqsB_q, not_q, i_if, b_if, l_if, s_if, i_int, b_bool, s_str, l_list, envL, List.getElem?_cons_succ, List.getElem?_cons_zero, List.getElem?_nil, Option.getD_some, Option.getD_none, Int.toNat_natCast, Int.toNat_zero, Int.reduceToNat, List.length_map, get_Li, get_Lb, get_Ls, set_Li, inj_Li, inj_Lb, inj_Ls, rows_i, rows_b, rows_s, Int.zero_add, iff_true, iff_false, and_true, true_and, Bool.false_eq_true, eq_self, not_true_eq_false, not_false_eq_true, List.length_replicate, DV.int.injEq, DV.bool.injEq, DV.str.injEq, DV.list.injEq, List.cons.injEq, f_ib_0, rows_ib, inj_Lib, f_ib_1, rows_ib, inj_Lib, f_ii_0, rows_ii, inj_Lii, f_ii_1, rows_ii, inj_Lii, f_iii_0, rows_iii, inj_Liii, f_iii_1, rows_iii, inj_Liii, f_iii_2, rows_iii, inj_Liii, f_iiiis_0, rows_iiiis, inj_Liiiis, f_iiiis_1, rows_iiiis, inj_Liiiis, f_iiiis_2, rows_iiiis, inj_Liiiis, f_iiiis_3, rows_iiiis, inj_Liiiis, f_iiiis_4, rows_iiiis, inj_Liiiis, wR1Phi, lSane21F, lSane21E, rDoF, rDoE, tNextF, tNextE, rOfMF, rOfME, rCellF, rCellE, rWtF, rWtE, rWordF, rWordE, tRouseF, tRouseE, rInF, rInE, gi, gb, gs, gLi, gLu, gLb, gLs, dece_i, dece_b, dece_s, gLib, deces_ib, gLii, deces_ii, gLiii, deces_iii, gLiiiis, deces_iiiis, memDoE, nx_0, nx_1, nx_2, nx_3, nx_4, nx_5, nx_6, nx_7, nx_8, nx_9, nx_10, nx_11, nx_12, tnext_eq h3, ht1]
    have hw : (IntKind.i64.wrap (x3[t]?.getD 0)).tmod 2 = 0 ∨ (IntKind.i64.wrap (x3[t]?.getD 0)).tmod 2 = 1 := by
      have hb := byte_in v3 t
      rw [w64 (by omega) (by omega), Int.tmod_eq_emod_of_nonneg hb.1]
      omega
    rcases hw with hw | hw
    · by_cases hto : told ≤ 1
      · generalize hN : nxS seen kind log = N
        rcases play_sleep h3 hI hto hN with ⟨hd, he, hI'⟩ | ⟨hd, r, s', hdo, hsw, hI'⟩
        · refine ⟨⟨t + 1, s, toldN kind told N.is, kindN kind N.is, []⟩, ?_, rfl, ⟨hI', by dsimp only; omega, Nat.zero_le _⟩, by dsimp only; omega⟩
          rcases told_kind hI hto with rfl | rfl <;> cases hi : N.is <;> simp [hfin, hw, hto, hd, he, hi, toldN, kindN, hl1, hsE]
        · refine ⟨⟨t + 1, s', told, kind, log ++ [r]⟩, ?_, rfl, ⟨hI', by dsimp only; omega, by simp; omega⟩, by dsimp only; omega⟩
          simp [hfin, hw, hto, hd, hdo, hl1, hsE, wa_len, encib, hsw]
      · refine ⟨⟨t + 1, s, told, kind, log⟩, ?_, rfl, ⟨hI, by dsimp only; omega, by dsimp only; omega⟩, by dsimp only; omega⟩
        simp [hfin, hw, hto]
    · refine ⟨⟨t + 1, wStep want 0 s, told, kind, log⟩, ?_, rfl, ⟨play_write hwl (by decide) hI, by dsimp only; omega, by dsimp only; omega⟩, by dsimp only; omega⟩
      have hok := hI.1
      have qn := hok.nx 0 (by decide)
      have qp := hok.nx1 0 (by decide)
      rw [w0] at qn
      have hb := fun j : Nat => byte_in v2 j
      have hm : (s.mem.length : Int) ≤ 1000000 := by rw [wa_len]; omega
      have zm : IntKind.i64.wrap (-1) = -1 := w64 (by omega) (by omega)
      have n1 : IntKind.i64.wrap (((s.w 0).next : Int) + 1) = (s.w 0).next + 1 := w64 (by omega) (by omega)
      have l3 := loc_lt x2 (s.w 0)
      have pw := place_word l3
      have pm := place_mask l3
      rcases wr_cases hok (i := 0) (by decide) with p | p | p | p | p | p
      · have q0 := loc0 hb p
        by_cases hn : x2.length ≤ (s.w 0).next
        · have e : wStep want 0 s = s := end_step ⟨p, by rw [w0]; exact hn⟩
          have hn2 : (x2.length : Int) ≤ (s.w 0).next := by omega
          rw [e]
          simp [hfin, hw, z0, z1, z2, p, n1, hm, mem_mk, mem_s, upW, hn2]
        · have hn2 : ¬ (x2.length : Int) ≤ (s.w 0).next := by omega
          have hn3 : ¬ (x2.length : Int) ≤ 0 := by omega
          have hn4 : ¬ (x2.length : Int) ≤ (((s.w 0).next - 1 : Nat) : Int) := by omega
          have hn5 : ¬ x2 = [] := fun h => hn (by rw [h]; exact Nat.zero_le _)
          have ha := acc_word_load s l3
          have hw0 := (hok.wd0 (locW x2 (s.w 0))).1
          have mw : (s.w 0).next = 0 ∨ ((s.w 0).next ≠ 0 ∧ IntKind.i64.wrap (((s.w 0).next : Int) - 1) = (((s.w 0).next - 1 : Nat) : Int)) := by
            rcases Nat.eq_zero_or_pos (s.w 0).next with h | h
            · exact .inl h
            · exact .inr ⟨by omega, by rw [w64 (by omega) (by omega)]; omega⟩
          by_cases he : s.wd (locW x2 (s.w 0)) % 2 = 0
          · have tm : (s.wd (locW x2 (s.w 0))).tmod 2 = 0 := by rw [Int.tmod_eq_emod_of_nonneg hw0]; exact he
            have e : wStep want 0 s = { s with w := upW s.w 0 { (s.w 0) with next := (s.w 0).next + 1, pos := 1, ver := s.wd (locW x2 (s.w 0)) } } := by unfold wStep; rw [w0, if_pos p, if_neg hn, if_pos he]
            rw [e]
            rcases mw with mw | ⟨mz, mw⟩
            · rw [mw] at q0 n1 hn2
              simp [hfin, hw, z0, z1, z2, p, n1, hm, mem_mk, mem_s, upW, mw, zm, q0, pw, ha, tm, hn2, hn3, hn5]
            · simp [hfin, hw, z0, z1, z2, p, n1, hm, mem_mk, mem_s, upW, mw, q0, pw, ha, tm, hn2, hn4]
          · have tm : ¬ (s.wd (locW x2 (s.w 0))).tmod 2 = 0 := by rw [Int.tmod_eq_emod_of_nonneg hw0]; exact he
            have e : wStep want 0 s = s := by unfold wStep; rw [w0, if_pos p, if_neg hn, if_neg he]
            rw [e]
            rcases mw with mw | ⟨mz, mw⟩
            · rw [mw] at q0 n1 hn2
              simp [hfin, hw, z0, z1, z2, p, n1, hm, mem_mk, mem_s, upW, mw, zm, q0, pw, ha, tm, hn2, hn3, hn5]
            · simp [hfin, hw, z0, z1, z2, p, n1, hm, mem_mk, mem_s, upW, mw, q0, pw, ha, tm, hn2, hn4]
      · have qp := qp (by omega)
        have q1 := loc1 hb (w := (s.w 0)) (by omega)
        have mw : IntKind.i64.wrap (((s.w 0).next : Int) - 1) = (((s.w 0).next - 1 : Nat) : Int) := by rw [w64 (by omega) (by omega)]; omega
        have hn4 : ¬ (x2.length : Int) ≤ (((s.w 0).next - 1 : Nat) : Int) := by omega
        by_cases he : s.wd (locW x2 (s.w 0)) = (s.w 0).ver
        · have ha := acc_word_cas s l3 3 he
          have e : wStep want 0 s = { s with wd := upW s.wd (locW x2 (s.w 0)) 3, w := upW s.w 0 { (s.w 0) with pos := 2 } } := by unfold wStep; rw [w0, if_neg (by omega), if_pos p, if_pos he]; rfl
          rw [e]
          simp [hfin, hw, z0, z1, z2, p, n1, hm, mem_mk, mem_s, upW, mw, q1, pw, pm, ha, hn4]
        · have ha := acc_word_no s l3 3 he
          have e : wStep want 0 s = { s with w := upW s.w 0 { (s.w 0) with next := (s.w 0).next - 1, pos := 0 } } := by unfold wStep; rw [w0, if_neg (by omega), if_pos p, if_neg he]
          rw [e]
          simp [hfin, hw, z0, z1, z2, p, n1, hm, mem_mk, mem_s, upW, mw, q1, pw, pm, ha, hn4]
      · have qp := qp (by omega)
        have q1 := loc1 hb (w := (s.w 0)) (by omega)
        have mw : IntKind.i64.wrap (((s.w 0).next : Int) - 1) = (((s.w 0).next - 1 : Nat) : Int) := by rw [w64 (by omega) (by omega)]; omega
        have hn4 : ¬ (x2.length : Int) ≤ (((s.w 0).next - 1 : Nat) : Int) := by omega
        have hc : s.c ≤ 8 := by
          have a0 := hok.nx 0 (by decide)
          have a1 := hok.nx 1 (by decide)
          have b0 := hwl 0
          have b1 := hwl 1
          have := hok.cnt
          omega
        have ha := acc_clock s (by omega)
        have nc : IntKind.i64.wrap ((s.c : Int) + 1) = s.c + 1 := w64 (by omega) (by omega)
        have e : wStep want 0 s = { s with c := s.c + 1, w := upW s.w 0 { (s.w 0) with pos := 3, ver := (s.c : Int) + 1 } } := by unfold wStep; rw [w0, if_neg (by omega), if_neg (by omega), if_pos p]
        rw [e]
        simp [hfin, hw, z0, z1, z2, p, n1, hm, mem_mk, mem_s, upW, mw, q1, pw, pm, ha, hn4, nc]
      · have qp := qp (by omega)
        have q1 := loc1 hb (w := (s.w 0)) (by omega)
        have mw : IntKind.i64.wrap (((s.w 0).next : Int) - 1) = (((s.w 0).next - 1 : Nat) : Int) := by rw [w64 (by omega) (by omega)]; omega
        have hn4 : ¬ (x2.length : Int) ≤ (((s.w 0).next - 1 : Nat) : Int) := by omega
        have hv := hok.vr 0 (by decide) p
        have ha := acc_word_store s l3 (2 * (s.w 0).ver)
        have nv : IntKind.i64.wrap (2 * (s.w 0).ver) = 2 * (s.w 0).ver := w64 (by omega) (by omega)
        have e : wStep want 0 s = { s with wd := upW s.wd (locW x2 (s.w 0)) (2 * (s.w 0).ver), w := upW s.w 0 { (s.w 0) with pos := 4 } } := by unfold wStep; rw [w0, if_neg (by omega), if_neg (by omega), if_neg (by omega), if_pos p]
        rw [e]
        simp [hfin, hw, z0, z1, z2, p, n1, hm, mem_mk, mem_s, upW, mw, q1, pw, pm, ha, hn4, nv]
      · have qp := qp (by omega)
        have q1 := loc1 hb (w := (s.w 0)) (by omega)
        have mw : IntKind.i64.wrap (((s.w 0).next : Int) - 1) = (((s.w 0).next - 1 : Nat) : Int) := by rw [w64 (by omega) (by omega)]; omega
        have hn4 : ¬ (x2.length : Int) ≤ (((s.w 0).next - 1 : Nat) : Int) := by omega
        have ha := acc_mask_load s l3
        have e : wStep want 0 s = { s with w := upW s.w 0 { (s.w 0) with pos := 5, rs := s.mb (locW x2 (s.w 0)) } } := by unfold wStep; rw [w0, if_neg (by omega), if_neg (by omega), if_neg (by omega), if_neg (by omega), if_pos p]
        rw [e]
        simp [hfin, hw, z0, z1, z2, p, n1, hm, mem_mk, mem_s, upW, mw, q1, pw, pm, ha, hn4, rouse_eq]
      · have qp := qp (by omega)
        have q1 := loc1 hb (w := (s.w 0)) (by omega)
        have mw : IntKind.i64.wrap (((s.w 0).next : Int) - 1) = (((s.w 0).next - 1 : Nat) : Int) := by rw [w64 (by omega) (by omega)]; omega
        have hn4 : ¬ (x2.length : Int) ≤ (((s.w 0).next - 1 : Nat) : Int) := by omega
        have e : wStep want 0 s = { s with wk := s.wk || (s.w 0).rs, w := upW s.w 0 { (s.w 0) with pos := 0, rs := false } } := by unfold wStep; rw [w0, if_neg (by omega), if_neg (by omega), if_neg (by omega), if_neg (by omega), if_neg (by omega)]
        rw [e]
        cases hr : (s.w 0).rs with
        | false => simp [hfin, hw, z0, z1, z2, p, n1, hm, mem_mk, mem_s, upW, mw, q1, pw, pm, hn4, hr, rsL]
        | true =>
          have ha : doM s.mem 2 6 0 1 [] = (({ s with wk := true } : Wa).mem, (b2n s.wk, true), 0) := acc_wake_store s true
          simp [hfin, hw, z0, z1, z2, p, n1, hm, mem_mk, mem_s, upW, mw, q1, pw, pm, ha, hn4, hr, rsL]
  rintro ⟨t, s, told, kind, log⟩ ⟨hI, ht, hlg⟩ hfin
  dsimp only at hI ht hlg hfin
  refine ⟨fun h => absurd (by simpa [SE.den, evU, evB, envL, DV.i, DV.l, DV.b] using hfin) h, fun _ => ⟨rfl, ?_⟩⟩
  have hlg2 : log.length ≤ 200 := by omega
  clear hfin ht hlg
  simp only [List.cons_append, List.nil_append]
  refine rounds_enc (fun p : PS => [.int p.t, .list (p.s.mem.map .int), .bool false, .int (p.s.w 0).next, .int (p.s.w 0).pos, .int (p.s.w 0).ver, .list ((rsL (p.s.w 0).rs).map enciiiis)]) (fun p => PlayI want seen told kind log p.s ∧ p.t ≤ 100 ∧ ((EndW want p.s 0 ∧ EndW want p.s 1) ∨ phiA want p.s + p.t ≤ 82)) (fun p => 100 ≤ p.t) (fun p => 100 - p.t) ⟨0, s, 0, 0, []⟩ rfl ⟨hI, Nat.zero_le _, .inr (phi_le hwl hI.1)⟩ ?_ ?_
  · clear hI
    rintro ⟨t, s, told', kind', log'⟩ ⟨hI, ht, hph⟩ hfin
    dsimp only at hI ht hph hfin
    have ht1 : IntKind.i64.wrap ((t : Int) + 1) = t + 1 := w64 (by omega) (by omega)
    have hf : ¬ (100 : Int) ≤ t := by omega
    have hI1 := play_write hwl (i := 0) (by decide) hI
    have hI2 := play_write hwl (i := 1) (by decide) hI1
    have hr := round_down hwl hI.1 hph
    refine ⟨⟨t + 1, roundW want s, told', kind', log'⟩, ?_, rfl, ⟨hI2, by dsimp only; omega, hr⟩, by dsimp only; omega⟩
    simp only [List.cons_append, List.nil_append, Bool.not_true, Bool.not_false, Bool.true_eq_false, SE.den, evU, evT, ev_le, ev_eq, ev_eqs, ev_eqb, ev_slt, ev_and, ev_or, ev_add, ev_sub, ev_mul, ev_tdiv, ev_tmod, ev_band, ev_bor, ev_bxor, ev_bandn, ev_shl, ev_shr, ev_cat, ev_byte, ev_idx, ev_cons, ev_snoc, ev_app, ev_take, ev_drop, ev_stake, ev_sdrop, ev_rep, leB_q, eqB_q, eqsB_q, not_q, i_if, b_if, l_if, s_if, i_int, b_bool, s_str, l_list, envL, List.getElem?_cons_succ, List.getElem?_cons_zero, List.getElem?_nil, Option.getD_some, Option.getD_none, Int.toNat_natCast, Int.toNat_zero, Int.reduceToNat, List.length_map, get_Li, get_Lb, get_Ls, set_Li, inj_Li, inj_Lb, inj_Ls, rows_i, rows_b, rows_s, Int.zero_add, iff_true, iff_false, and_true, true_and, Bool.false_eq_true, eq_self, not_true_eq_false, not_false_eq_true, List.length_replicate, DV.int.injEq, DV.bool.injEq, DV.str.injEq, DV.list.injEq, List.cons.injEq, f_ib_0, rows_ib, inj_Lib, f_ib_1, rows_ib, inj_Lib, f_ii_0, rows_ii, inj_Lii, f_ii_1, rows_ii, inj_Lii, f_iii_0, rows_iii, inj_Liii, f_iii_1, rows_iii, inj_Liii, f_iii_2, rows_iii, inj_Liii, f_iiiis_0, rows_iiiis, inj_Liiiis, f_iiiis_1, rows_iiiis, inj_Liiiis, f_iiiis_2, rows_iiiis, inj_Liiiis, f_iiiis_3, rows_iiiis, inj_Liiiis, f_iiiis_4, rows_iiiis, inj_Liiiis, ht1]
    refine ⟨fun _ => ⟨fun _ => ⟨rfl, ?_⟩, fun h => absurd h (by simp)⟩, fun h => absurd h hf⟩
    refine .step [.int 1, .list ((wStep want 0 s).mem.map .int), .bool false, .int ((wStep want 0 s).w 0).next, .int ((wStep want 0 s).w 0).pos, .int ((wStep want 0 s).w 0).ver, .list ((rsL ((wStep want 0 s).w 0).rs).map enciiiis)] ?_ rfl ?_
    · clear hI2 hr
      simp only [List.cons_append, List.nil_append, Bool.not_true, Bool.not_false, Bool.true_eq_false, SE.den, evU, evT, ev_le, ev_eq, ev_eqs, ev_eqb, ev_slt, ev_and, ev_or, ev_add, ev_sub, ev_mul, ev_tdiv, ev_tmod, ev_band, ev_bor, ev_bxor, ev_bandn, ev_shl, ev_shr, ev_cat, ev_byte, ev_idx, ev_cons, ev_snoc, ev_app, ev_take, ev_drop, ev_stake, ev_sdrop, ev_rep, leB_q, eqB_q, eqsB_q, not_q, i_if, b_if, l_if, s_if, i_int, b_bool, s_str, l_list, envL, List.getElem?_cons_succ, List.getElem?_cons_zero, List.getElem?_nil, Option.getD_some, Option.getD_none, Int.toNat_natCast, Int.toNat_zero, Int.reduceToNat, List.length_map, get_Li, get_Lb, get_Ls, set_Li, inj_Li, inj_Lb, inj_Ls, rows_i, rows_b, rows_s, Int.zero_add, iff_true, iff_false, and_true, true_and, Bool.false_eq_true, eq_self, not_true_eq_false, not_false_eq_true, List.length_replicate, DV.int.injEq, DV.bool.injEq, DV.str.injEq, DV.list.injEq, List.cons.injEq, f_ib_0, rows_ib, inj_Lib, f_ib_1, rows_ib, inj_Lib, f_ii_0, rows_ii, inj_Lii, f_ii_1, rows_ii, inj_Lii, f_iii_0, rows_iii, inj_Liii, f_iii_1, rows_iii, inj_Liii, f_iii_2, rows_iii, inj_Liii, f_iiiis_0, rows_iiiis, inj_Liiiis, f_iiiis_1, rows_iiiis, inj_Liiiis, f_iiiis_2, rows_iiiis, inj_Liiiis, f_iiiis_3, rows_iiiis, inj_Liiiis, f_iiiis_4, rows_iiiis, inj_Liiiis, wR1Phi, lSane21F, lSane21E, rDoF, rDoE, tNextF, tNextE, rOfMF, rOfME, rCellF, rCellE, rWtF, rWtE, rWordF, rWordE, tRouseF, tRouseE, rInF, rInE, gi, gb, gs, gLi, gLu, gLb, gLs, dece_i, dece_b, dece_s, gLib, deces_ib, gLii, deces_ii, gLiii, deces_iii, gLiiiis, deces_iiiis, memDoE]
      have hok := hI.1
      have qn := hok.nx 0 (by decide)
      have qp := hok.nx1 0 (by decide)
      rw [w0] at qn
      have hb := fun j : Nat => byte_in v2 j
      have hm : (s.mem.length : Int) ≤ 1000000 := by rw [wa_len]; omega
      have zm : IntKind.i64.wrap (-1) = -1 := w64 (by omega) (by omega)
      have n1 : IntKind.i64.wrap (((s.w 0).next : Int) + 1) = (s.w 0).next + 1 := w64 (by omega) (by omega)
      have l3 := loc_lt x2 (s.w 0)
      have pw := place_word l3
      have pm := place_mask l3
      rcases wr_cases hok (i := 0) (by decide) with p | p | p | p | p | p
      · have q0 := loc0 hb p
        by_cases hn : x2.length ≤ (s.w 0).next
        · have e : wStep want 0 s = s := end_step ⟨p, by rw [w0]; exact hn⟩
          have hn2 : (x2.length : Int) ≤ (s.w 0).next := by omega
          rw [e]
          simp [z0, z1, z2, p, n1, hm, mem_mk, mem_s, upW, hn2]
        · have hn2 : ¬ (x2.length : Int) ≤ (s.w 0).next := by omega
          have hn3 : ¬ (x2.length : Int) ≤ 0 := by omega
          have hn4 : ¬ (x2.length : Int) ≤ (((s.w 0).next - 1 : Nat) : Int) := by omega
          have hn5 : ¬ x2 = [] := fun h => hn (by rw [h]; exact Nat.zero_le _)
          have ha := acc_word_load s l3
          have hw0 := (hok.wd0 (locW x2 (s.w 0))).1
          have mw : (s.w 0).next = 0 ∨ ((s.w 0).next ≠ 0 ∧ IntKind.i64.wrap (((s.w 0).next : Int) - 1) = (((s.w 0).next - 1 : Nat) : Int)) := by
            rcases Nat.eq_zero_or_pos (s.w 0).next with h | h
            · exact .inl h
            · exact .inr ⟨by omega, by rw [w64 (by omega) (by omega)]; omega⟩
          by_cases he : s.wd (locW x2 (s.w 0)) % 2 = 0
          · have tm : (s.wd (locW x2 (s.w 0))).tmod 2 = 0 := by rw [Int.tmod_eq_emod_of_nonneg hw0]; exact he
            have e : wStep want 0 s = { s with w := upW s.w 0 { (s.w 0) with next := (s.w 0).next + 1, pos := 1, ver := s.wd (locW x2 (s.w 0)) } } := by unfold wStep; rw [w0, if_pos p, if_neg hn, if_pos he]
            rw [e]
            rcases mw with mw | ⟨mz, mw⟩
            · rw [mw] at q0 n1 hn2
              simp [z0, z1, z2, p, n1, hm, mem_mk, mem_s, upW, mw, zm, q0, pw, ha, tm, hn2, hn3, hn5]
            · simp [z0, z1, z2, p, n1, hm, mem_mk, mem_s, upW, mw, q0, pw, ha, tm, hn2, hn4]
          · have tm : ¬ (s.wd (locW x2 (s.w 0))).tmod 2 = 0 := by rw [Int.tmod_eq_emod_of_nonneg hw0]; exact he
            have e : wStep want 0 s = s := by unfold wStep; rw [w0, if_pos p, if_neg hn, if_neg he]
            rw [e]
            rcases mw with mw | ⟨mz, mw⟩
            · rw [mw] at q0 n1 hn2
              simp [z0, z1, z2, p, n1, hm, mem_mk, mem_s, upW, mw, zm, q0, pw, ha, tm, hn2, hn3, hn5]
            · simp [z0, z1, z2, p, n1, hm, mem_mk, mem_s, upW, mw, q0, pw, ha, tm, hn2, hn4]
      · have qp := qp (by omega)
        have q1 := loc1 hb (w := (s.w 0)) (by omega)
        have mw : IntKind.i64.wrap (((s.w 0).next : Int) - 1) = (((s.w 0).next - 1 : Nat) : Int) := by rw [w64 (by omega) (by omega)]; omega
        have hn4 : ¬ (x2.length : Int) ≤ (((s.w 0).next - 1 : Nat) : Int) := by omega
        by_cases he : s.wd (locW x2 (s.w 0)) = (s.w 0).ver
        · have ha := acc_word_cas s l3 3 he
          have e : wStep want 0 s = { s with wd := upW s.wd (locW x2 (s.w 0)) 3, w := upW s.w 0 { (s.w 0) with pos := 2 } } := by unfold wStep; rw [w0, if_neg (by omega), if_pos p, if_pos he]; rfl
          rw [e]
          simp [z0, z1, z2, p, n1, hm, mem_mk, mem_s, upW, mw, q1, pw, pm, ha, hn4]
        · have ha := acc_word_no s l3 3 he
          have e : wStep want 0 s = { s with w := upW s.w 0 { (s.w 0) with next := (s.w 0).next - 1, pos := 0 } } := by unfold wStep; rw [w0, if_neg (by omega), if_pos p, if_neg he]
          rw [e]
          simp [z0, z1, z2, p, n1, hm, mem_mk, mem_s, upW, mw, q1, pw, pm, ha, hn4]
      · have qp := qp (by omega)
        have q1 := loc1 hb (w := (s.w 0)) (by omega)
        have mw : IntKind.i64.wrap (((s.w 0).next : Int) - 1) = (((s.w 0).next - 1 : Nat) : Int) := by rw [w64 (by omega) (by omega)]; omega
        have hn4 : ¬ (x2.length : Int) ≤ (((s.w 0).next - 1 : Nat) : Int) := by omega
        have hc : s.c ≤ 8 := by
          have a0 := hok.nx 0 (by decide)
          have a1 := hok.nx 1 (by decide)
          have b0 := hwl 0
          have b1 := hwl 1
          have := hok.cnt
          omega
        have ha := acc_clock s (by omega)
        have nc : IntKind.i64.wrap ((s.c : Int) + 1) = s.c + 1 := w64 (by omega) (by omega)
        have e : wStep want 0 s = { s with c := s.c + 1, w := upW s.w 0 { (s.w 0) with pos := 3, ver := (s.c : Int) + 1 } } := by unfold wStep; rw [w0, if_neg (by omega), if_neg (by omega), if_pos p]
        rw [e]
        simp [z0, z1, z2, p, n1, hm, mem_mk, mem_s, upW, mw, q1, pw, pm, ha, hn4, nc]
      · have qp := qp (by omega)
        have q1 := loc1 hb (w := (s.w 0)) (by omega)
        have mw : IntKind.i64.wrap (((s.w 0).next : Int) - 1) = (((s.w 0).next - 1 : Nat) : Int) := by rw [w64 (by omega) (by omega)]; omega
        have hn4 : ¬ (x2.length : Int) ≤ (((s.w 0).next - 1 : Nat) : Int) := by omega
        have hv := hok.vr 0 (by decide) p
        have ha := acc_word_store s l3 (2 * (s.w 0).ver)
        have nv : IntKind.i64.wrap (2 * (s.w 0).ver) = 2 * (s.w 0).ver := w64 (by omega) (by omega)
        have e : wStep want 0 s = { s with wd := upW s.wd (locW x2 (s.w 0)) (2 * (s.w 0).ver), w := upW s.w 0 { (s.w 0) with pos := 4 } } := by unfold wStep; rw [w0, if_neg (by omega), if_neg (by omega), if_neg (by omega), if_pos p]
        rw [e]
        simp [z0, z1, z2, p, n1, hm, mem_mk, mem_s, upW, mw, q1, pw, pm, ha, hn4, nv]
      · have qp := qp (by omega)
        have q1 := loc1 hb (w := (s.w 0)) (by omega)
        have mw : IntKind.i64.wrap (((s.w 0).next : Int) - 1) = (((s.w 0).next - 1 : Nat) : Int) := by rw [w64 (by omega) (by omega)]; omega
        have hn4 : ¬ (x2.length : Int) ≤ (((s.w 0).next - 1 : Nat) : Int) := by omega
        have ha := acc_mask_load s l3
        have e : wStep want 0 s = { s with w := upW s.w 0 { (s.w 0) with pos := 5, rs := s.mb (locW x2 (s.w 0)) } } := by unfold wStep; rw [w0, if_neg (by omega), if_neg (by omega), if_neg (by omega), if_neg (by omega), if_pos p]
        rw [e]
        simp [z0, z1, z2, p, n1, hm, mem_mk, mem_s, upW, mw, q1, pw, pm, ha, hn4, rouse_eq]
      · have qp := qp (by omega)
        have q1 := loc1 hb (w := (s.w 0)) (by omega)
        have mw : IntKind.i64.wrap (((s.w 0).next : Int) - 1) = (((s.w 0).next - 1 : Nat) : Int) := by rw [w64 (by omega) (by omega)]; omega
        have hn4 : ¬ (x2.length : Int) ≤ (((s.w 0).next - 1 : Nat) : Int) := by omega
        have e : wStep want 0 s = { s with wk := s.wk || (s.w 0).rs, w := upW s.w 0 { (s.w 0) with pos := 0, rs := false } } := by unfold wStep; rw [w0, if_neg (by omega), if_neg (by omega), if_neg (by omega), if_neg (by omega), if_neg (by omega)]
        rw [e]
        cases hr : (s.w 0).rs with
        | false => simp [z0, z1, z2, p, n1, hm, mem_mk, mem_s, upW, mw, q1, pw, pm, hn4, hr, rsL]
        | true =>
          have ha : doM s.mem 2 6 0 1 [] = (({ s with wk := true } : Wa).mem, (b2n s.wk, true), 0) := acc_wake_store s true
          simp [z0, z1, z2, p, n1, hm, mem_mk, mem_s, upW, mw, q1, pw, pm, ha, hn4, hr, rsL]
    refine .done ?_
    simp only [List.cons_append, List.nil_append, Bool.not_true, Bool.not_false, Bool.true_eq_false, SE.den, evU, evT, ev_le, ev_eq, ev_eqs, ev_eqb, ev_slt, ev_and, ev_or, ev_add, ev_sub, ev_mul, ev_tdiv, ev_tmod, ev_band, ev_bor, ev_bxor, ev_bandn, ev_shl, ev_shr, ev_cat, ev_byte, ev_idx, ev_cons, ev_snoc, ev_app, ev_take, ev_drop, ev_stake, ev_sdrop, ev_rep, leB_q, eqB_q, eqsB_q, not_q, i_if, b_if, l_if, s_if, i_int, b_bool, s_str, l_list, envL, List.getElem?_cons_succ, List.getElem?_cons_zero, List.getElem?_nil, Option.getD_some, Option.getD_none, Int.toNat_natCast, Int.toNat_zero, Int.reduceToNat, List.length_map, get_Li, get_Lb, get_Ls, set_Li, inj_Li, inj_Lb, inj_Ls, rows_i, rows_b, rows_s, Int.zero_add, iff_true, iff_false, and_true, true_and, Bool.false_eq_true, eq_self, not_true_eq_false, not_false_eq_true, List.length_replicate, DV.int.injEq, DV.bool.injEq, DV.str.injEq, DV.list.injEq, List.cons.injEq, f_ib_0, rows_ib, inj_Lib, f_ib_1, rows_ib, inj_Lib, f_ii_0, rows_ii, inj_Lii, f_ii_1, rows_ii, inj_Lii, f_iii_0, rows_iii, inj_Liii, f_iii_1, rows_iii, inj_Liii, f_iii_2, rows_iii, inj_Liii, f_iiiis_0, rows_iiiis, inj_Liiiis, f_iiiis_1, rows_iiiis, inj_Liiiis, f_iiiis_2, rows_iiiis, inj_Liiiis, f_iiiis_3, rows_iiiis, inj_Liiiis, f_iiiis_4, rows_iiiis, inj_Liiiis]
    rw [show roundW want s = wStep want 0 s from end_step (idle_end hI1.1 (by decide) w1)]
    simp
  clear hI
  rintro ⟨t, s, told', kind', log'⟩ ⟨hI, ht, hph⟩ hfin
  dsimp only at hI ht hph hfin
  obtain rfl : t = 100 := by omega
  dsimp only
  have hph : EndW want s 0 ∧ EndW want s 1 := hph.elim id fun h => by omega
  replace hI := play_enter hsl hI hph.1 hph.2
  clear hph ht hfin
  refine ⟨fun h => absurd (by simp [SE.den, evU, evB, envL, DV.i, DV.l, DV.b]) h, fun _ => ⟨rfl, ?_⟩⟩
  simp only [List.cons_append, List.nil_append]
  refine rounds_enc (fun p : PS => [.int p.t, .list (p.s.mem.map .int), .int p.kind, .list (p.log.map encib), .int p.told, .bool false]) (fun p => PlayD want seen p.told p.kind p.log p.s p.t ∧ p.t ≤ 60 ∧ p.log.length ≤ 200 + p.t) (fun p => 60 ≤ p.t) (fun p => 60 - p.t) ⟨0, s, told, kind, log⟩ rfl ⟨hI, Nat.zero_le _, hlg2⟩ ?_ ?_
  · clear hI
    rintro ⟨t, s, told, kind, log⟩ ⟨hI, ht, hlg⟩ hfin
    dsimp only at hI ht hlg hfin
    have ht1 : IntKind.i64.wrap ((t : Int) + 1) = t + 1 := w64 (by omega) (by omega)
    have hf : ¬ (60 : Int) ≤ t := by omega
    have hl1 : (log.length : Int) ≤ 1000000 := by omega
    simp only [Bool.not_true, Bool.not_false, Bool.true_eq_false, SE.den, evU, evT, ev_le, ev_eq, ev_eqs, ev_eqb, ev_slt, ev_and, ev_or, ev_add, ev_sub, ev_mul, ev_tdiv, ev_tmod, ev_band, ev_bor, ev_bxor, ev_bandn, ev_shl, ev_shr, ev_cat, ev_byte, ev_idx, ev_cons, ev_snoc, ev_app, ev_take, ev_drop, ev_stake, ev_sdrop, ev_rep, leB_q, eqB_q, eqsB_q, not_q, i_if, b_if, l_if, s_if, i_int, b_bool, s_str, l_list, envL, List.getElem?_cons_succ, List.getElem?_cons_zero, List.getElem?_nil, Option.getD_some, Option.getD_none, Int.toNat_natCast, Int.toNat_zero, Int.reduceToNat, List.length_map, get_Li, get_Lb, get_Ls, set_Li, inj_Li, inj_Lb, inj_Ls, rows_i, rows_b, rows_s, Int.zero_add, iff_true, iff_false, and_true, true_and, Bool.false_eq_true, eq_self, not_true_eq_false, not_false_eq_true, List.length_replicate, DV.int.injEq, DV.bool.injEq, DV.str.injEq, DV.list.injEq, List.cons.injEq, f_ib_0, rows_ib, inj_Lib, f_ib_1, rows_ib, inj_Lib, f_ii_0, rows_ii, inj_Lii, f_ii_1, rows_ii, inj_Lii, f_iii_0, rows_iii, inj_Liii, f_iii_1, rows_iii, inj_Liii, f_iii_2, rows_iii, inj_Liii, f_iiiis_0, rows_iiiis, inj_Liiiis, f_iiiis_1, rows_iiiis, inj_Liiiis, f_iiiis_2, rows_iiiis, inj_Liiiis, f_iiiis_3, rows_iiiis, inj_Liiiis, f_iiiis_4, rows_iiiis, inj_Liiiis, wR1Phi, lSane21F, lSane21E, rDoF, rDoE, tNextF, tNextE, rOfMF, rOfME, rCellF, rCellE, rWtF, rWtE, rWordF, rWordE, tRouseF, tRouseE, rInF, rInE, gi, gb, gs, gLi, gLu, gLb, gLs, dece_i, dece_b, dece_s, gLib, deces_ib, gLii, deces_ii, gLiii, deces_iii, gLiiiis, deces_iiiis, memDoE, nx_0, nx_1, nx_2, nx_3, nx_4, nx_5, nx_6, nx_7, nx_8, nx_9, nx_10, nx_11, nx_12, tnext_eq h3, ht1]
    by_cases hto : told ≤ 1
    · have hk : kind = 5 ∨ kind = 6 := by obtain ⟨a, _, _, pc, b, _⟩ := hI; exact told_kind ⟨a, pc, b⟩ hto
      generalize hN : nxS seen kind log = N
      rcases play_down h3 hI hto hN with ⟨hd, he, hI'⟩ | ⟨hd, r, s', hdo, hsw, hI'⟩
      · refine ⟨⟨t + 1, s, toldN kind told N.is, kindN kind N.is, []⟩, ?_, rfl, ⟨hI', by dsimp only; omega, Nat.zero_le _⟩, by dsimp only; omega⟩
        rcases hk with rfl | rfl <;> cases hi : N.is <;> simp [hf, hto, hd, he, hi, toldN, kindN, hl1, hsE]
      · refine ⟨⟨t + 1, s', told, kind, log ++ [r]⟩, ?_, rfl, ⟨hI', by dsimp only; omega, by simp; omega⟩, by dsimp only; omega⟩
        simp [hf, hto, hd, hdo, hl1, hsE, wa_len, encib]
    · refine ⟨⟨t + 1, s, told, kind, log⟩, ?_, rfl, ⟨play_wait hI hto, by dsimp only; omega, by dsimp only; omega⟩, by dsimp only; omega⟩
      simp [hf, hto]
  clear hI hlg2
  rintro ⟨t, s, told, kind, log⟩ ⟨hI, ht, hlg⟩ hfin
  dsimp only at hI ht hlg hfin
  obtain rfl : t = 60 := by omega
  refine ⟨fun h => absurd (by simp [SE.den, evU, evB, envL, DV.i, DV.l, DV.b]) h, fun _ => ?_⟩
  simp only [List.cons_append, List.nil_append]
  have hend := play_end (by decide) hI
  clear hI ht hlg hfin
  rcases hend with ⟨rfl, _, hmb⟩ | ⟨ht, _, hmb⟩
  · refine ⟨fun h => absurd (by simp [SE.den, evU, evB, envL, DV.i, DV.l, DV.b]) h, fun _ => ⟨rfl, ?_⟩⟩
    refine rounds_at 3 (fun k => [.int k]) rfl (fun _ => rfl) (fun i hi => ?_) ?_
    · have hi1 : IntKind.i64.wrap ((i : Int) + 1) = i + 1 := w64 (by omega) (by omega)
      have hi2 : ¬ (3 : Int) ≤ i := by omega
      simp only [List.cons_append, List.nil_append]
      refine ⟨fun _ => ⟨rfl, ?_⟩, fun h => absurd (by simpa [SE.den, evU, evB, envL, DV.i, DV.l, DV.b] using h) hi2⟩
      refine rounds_at seen.length (fun k => [.bool (decide (i ∈ seen.take k)), .int k]) rfl (fun _ => rfl) (fun k hk => ?_) ?_
      · have hk1 : IntKind.i64.wrap ((k : Int) + 1) = k + 1 := w64 (by omega) (by omega)
        have hk0 : (0 : Int) ≤ k := Int.natCast_nonneg _
        have hk2 : ¬ (seen.length : Int) ≤ k := by omega
        have hm : decide (i ∈ seen.take (k + 1)) = (decide (i ∈ seen.take k) || decide (i = seen[k]?.getD 0)) := by rw [decide_eq_decide.2 (mem_take_next hk i), Bool.decide_or]
        simp only [List.cons_append, List.nil_append, Bool.not_true, Bool.not_false, Bool.true_eq_false, SE.den, evU, evT, ev_le, ev_eq, ev_eqs, ev_eqb, ev_slt, ev_and, ev_or, ev_add, ev_sub, ev_mul, ev_tdiv, ev_tmod, ev_band, ev_bor, ev_bxor, ev_bandn, ev_shl, ev_shr, ev_cat, ev_byte, ev_idx, ev_cons, ev_snoc, ev_app, ev_take, ev_drop, ev_stake, ev_sdrop, ev_rep, leB_q, eqB_q, eqsB_q, not_q, i_if, b_if, l_if, s_if, i_int, b_bool, s_str, l_list, envL, List.getElem?_cons_succ, List.getElem?_cons_zero, List.getElem?_nil, Option.getD_some, Option.getD_none, Int.toNat_natCast, Int.toNat_zero, Int.reduceToNat, List.length_map, get_Li, get_Lb, get_Ls, set_Li, inj_Li, inj_Lb, inj_Ls, rows_i, rows_b, rows_s, Int.zero_add, iff_true, iff_false, and_true, true_and, Bool.false_eq_true, eq_self, not_true_eq_false, not_false_eq_true, List.length_replicate, DV.int.injEq, DV.bool.injEq, DV.str.injEq, DV.list.injEq, List.cons.injEq, f_ib_0, rows_ib, inj_Lib, f_ib_1, rows_ib, inj_Lib, f_ii_0, rows_ii, inj_Lii, f_ii_1, rows_ii, inj_Lii, f_iii_0, rows_iii, inj_Liii, f_iii_1, rows_iii, inj_Liii, f_iii_2, rows_iii, inj_Liii, f_iiiis_0, rows_iiiis, inj_Liiiis, f_iiiis_1, rows_iiiis, inj_Liiiis, f_iiiis_2, rows_iiiis, inj_Liiiis, f_iiiis_3, rows_iiiis, inj_Liiiis, f_iiiis_4, rows_iiiis, inj_Liiiis, wR1Phi, lSane21F, lSane21E, rDoF, rDoE, tNextF, tNextE, rOfMF, rOfME, rCellF, rCellE, rWtF, rWtE, rWordF, rWordE, tRouseF, tRouseE, rInF, rInE, gi, gb, gs, gLi, gLu, gLb, gLs, dece_i, dece_b, dece_s, gLib, deces_ib, gLii, deces_ii, gLiii, deces_iii, gLiiiis, deces_iiiis, hk1, seenE_len, seenE_at, hm]
        cases hq : decide (i ∈ seen.take k)
        · simp [hk2, eq_comm]
          omega
        · simp [hk2]
      · rw [List.take_length]
        simp only [List.cons_append, List.nil_append, Bool.not_true, Bool.not_false, Bool.true_eq_false, SE.den, evU, evT, ev_le, ev_eq, ev_eqs, ev_eqb, ev_slt, ev_and, ev_or, ev_add, ev_sub, ev_mul, ev_tdiv, ev_tmod, ev_band, ev_bor, ev_bxor, ev_bandn, ev_shl, ev_shr, ev_cat, ev_byte, ev_idx, ev_cons, ev_snoc, ev_app, ev_take, ev_drop, ev_stake, ev_sdrop, ev_rep, leB_q, eqB_q, eqsB_q, not_q, i_if, b_if, l_if, s_if, i_int, b_bool, s_str, l_list, envL, List.getElem?_cons_succ, List.getElem?_cons_zero, List.getElem?_nil, Option.getD_some, Option.getD_none, Int.toNat_natCast, Int.toNat_zero, Int.reduceToNat, List.length_map, get_Li, get_Lb, get_Ls, set_Li, inj_Li, inj_Lb, inj_Ls, rows_i, rows_b, rows_s, Int.zero_add, iff_true, iff_false, and_true, true_and, Bool.false_eq_true, eq_self, not_true_eq_false, not_false_eq_true, List.length_replicate, DV.int.injEq, DV.bool.injEq, DV.str.injEq, DV.list.injEq, List.cons.injEq, f_ib_0, rows_ib, inj_Lib, f_ib_1, rows_ib, inj_Lib, f_ii_0, rows_ii, inj_Lii, f_ii_1, rows_ii, inj_Lii, f_iii_0, rows_iii, inj_Liii, f_iii_1, rows_iii, inj_Liii, f_iii_2, rows_iii, inj_Liii, f_iiiis_0, rows_iiiis, inj_Liiiis, f_iiiis_1, rows_iiiis, inj_Liiiis, f_iiiis_2, rows_iiiis, inj_Liiiis, f_iiiis_3, rows_iiiis, inj_Liiiis, f_iiiis_4, rows_iiiis, inj_Liiiis, wR1Phi, lSane21F, lSane21E, rDoF, rDoE, tNextF, tNextE, rOfMF, rOfME, rCellF, rCellE, rWtF, rWtE, rWordF, rWordE, tRouseF, tRouseE, rInF, rInE, gi, gb, gs, gLi, gLu, gLb, gLs, dece_i, dece_b, dece_s, gLib, deces_ib, gLii, deces_ii, gLiii, deces_iii, gLiiiis, deces_iiiis, seenE_len, hi1]
        rw [place_mask hi, cell_mask s hi, has_b2n, hmb]
        simp
        try omega
    · simp only [List.cons_append, List.nil_append]
      refine ⟨fun h => absurd (by simp [SE.den, evU, evB, envL, DV.i, DV.l, DV.b]) h, fun _ => ⟨fun _ => by simp [SE.den, evU, evB, envL, DV.i, DV.l, DV.b], fun h => absurd ((sane _).symm.trans h) (by simp [DV.b])⟩⟩
  · have hto : ¬ told = 1 := by rcases ht with rfl | rfl <;> decide
    refine ⟨fun _ => ⟨fun _ => ⟨fun _ => ⟨rfl, ?_⟩, fun h => absurd h (by simp [SE.den, evU, evB, envL, DV.i, DV.l, DV.b])⟩, fun h => absurd ((sane _).symm.trans h) (by simp [DV.b])⟩, fun h => absurd (by simpa [SE.den, evU, evB, envL, DV.i, DV.l, DV.b] using h) hto⟩
    refine rounds_at 3 (fun k => [.int 0, .int k]) rfl (fun _ => rfl) (fun i hi => ?_) ?_
    · have hi1 : IntKind.i64.wrap ((i : Int) + 1) = i + 1 := w64 (by omega) (by omega)
      have hi2 : ¬ (3 : Int) ≤ i := by omega
      simp only [List.cons_append, List.nil_append, Bool.not_true, Bool.not_false, Bool.true_eq_false, SE.den, evU, evT, ev_le, ev_eq, ev_eqs, ev_eqb, ev_slt, ev_and, ev_or, ev_add, ev_sub, ev_mul, ev_tdiv, ev_tmod, ev_band, ev_bor, ev_bxor, ev_bandn, ev_shl, ev_shr, ev_cat, ev_byte, ev_idx, ev_cons, ev_snoc, ev_app, ev_take, ev_drop, ev_stake, ev_sdrop, ev_rep, leB_q, eqB_q, eqsB_q, not_q, i_if, b_if, l_if, s_if, i_int, b_bool, s_str, l_list, envL, List.getElem?_cons_succ, List.getElem?_cons_zero, List.getElem?_nil, Option.getD_some, Option.getD_none, Int.toNat_natCast, Int.toNat_zero, Int.reduceToNat, List.length_map, get_Li, get_Lb, get_Ls, set_Li, inj_Li, inj_Lb, inj_Ls, rows_i, rows_b, rows_s, Int.zero_add, iff_true, iff_false, and_true, true_and, Bool.false_eq_true, eq_self, not_true_eq_false, not_false_eq_true, List.length_replicate, DV.int.injEq, DV.bool.injEq, DV.str.injEq, DV.list.injEq, List.cons.injEq, f_ib_0, rows_ib, inj_Lib, f_ib_1, rows_ib, inj_Lib, f_ii_0, rows_ii, inj_Lii, f_ii_1, rows_ii, inj_Lii, f_iii_0, rows_iii, inj_Liii, f_iii_1, rows_iii, inj_Liii, f_iii_2, rows_iii, inj_Liii, f_iiiis_0, rows_iiiis, inj_Liiiis, f_iiiis_1, rows_iiiis, inj_Liiiis, f_iiiis_2, rows_iiiis, inj_Liiiis, f_iiiis_3, rows_iiiis, inj_Liiiis, f_iiiis_4, rows_iiiis, inj_Liiiis, wR1Phi, lSane21F, lSane21E, rDoF, rDoE, tNextF, tNextE, rOfMF, rOfME, rCellF, rCellE, rWtF, rWtE, rWordF, rWordE, tRouseF, tRouseE, rInF, rInE, gi, gb, gs, gLi, gLu, gLb, gLs, dece_i, dece_b, dece_s, gLib, deces_ib, gLii, deces_ii, gLiii, deces_iii, gLiiiis, deces_iiiis, hi1]
      rw [place_mask hi, cell_mask s hi, has_b2n, hmb]
      simp [hi2]
    · simp [SE.den, evU, evB, envL, DV.i, DV.l, DV.b]
theorem wR1_piece {w : World} {va vs us : List Value} {ds : List DV} {gs : List GI} (hgrp : Grp ([.agg [.rows [.int .u8], .nest [.int .u8] 1, .rows [.int .u8]]].map NSh.sh) va vs) (hlk : Link w (nisOf [.agg [.rows [.int .u8], .nest [.int .u8] 1, .rows [.int .u8]]]) vs us gs) (hrd : Reads w (flatN (nisOf [.agg [.rows [.int .u8], .nest [.int .u8] 1, .rows [.int .u8]]])) us ds gs) (hw : Wts (flatN (nisOf [.agg [.rows [.int .u8], .nest [.int .u8] 1, .rows [.int .u8]]])) ds) :
    Calls Try.prog 5 va.toArray w fun e w' => e = .returned (.bool true) ∧ Go.RowKit.Below w.heap.size w w' :=
  law_nest (X := ⟨Try.prog, wR1Sm, wR1La, true⟩) mo_nil (by decide +kernel) (Checked.mixed Try.checked) wR1S (by decide +kernel) wR1T (by decide +kernel) (wR1_main ds (reads_len hrd).2.1 hw) hgrp hlk hrd
end Go.Proofs.Ytolphdchkbcoeaa
