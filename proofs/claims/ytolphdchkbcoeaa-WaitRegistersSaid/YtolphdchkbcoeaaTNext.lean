/- The function wait.Next is a function of data. No condition. -/
import Derived.Test.YtolphdchkbcoeaaTNextT
namespace Go.Proofs.Ytolphdchkbcoeaa
set_option linter.unusedVariables false
set_option linter.unusedSimpArgs false
set_option maxRecDepth 100000

set_option maxHeartbeats 1000000 in
theorem tNext_pure : PureE true Try.prog 10 [.agg [.pl (.int .i64), .pl (.int .i64), .pl (.int .i64), .pl (.int .i64), .pl (.int .i64), .pl (.int .i64), .pl (.int .i64), .pl (.int .i64), .pl (.int .i64), .pl (.int .i64), .pl (.int .i64), .pl (.int .i64), .pl (.int .i64)], .one (.pl (.int .i64)), .agg [.pl (.int .i64), .pl (.int .i64), .pl (.int .i64), .pl (.int .i64), .pl (.int .i64), .pl (.int .i64), .pl (.int .i64), .rows false [.int .i64, .int .i64, .int .i64], .rows false [.int .i64, .int .i64], .rows false [.bool]], .one (.rows false [.int .i64, .bool])] [.agg [.pl (.int .i64), .pl (.int .i64), .pl (.int .i64), .pl (.int .i64), .pl .str], .agg [.pl (.int .i64), .pl (.int .i64), .pl (.int .i64), .pl (.int .i64), .pl .bool, .pl .bool, .pl (.int .i64)], .one (.pl .bool)] (lenP [(21, 1000000), (24, 1000000)]) tNextF := by
  refine pure_tree (X := ⟨Try.prog, tNextSm, tNextLa, true⟩) (by decide +kernel) (Checked.mixed Try.checked) tNextS (by decide +kernel) (by decide +kernel) tNextT (by decide +kernel) ?_
  intro ds hl hp
  obtain ⟨d0, d1, d2, d3, d4, d5, d6, d7, d8, d9, d10, d11, d12, d13, d14, d15, d16, d17, d18, d19, d20, d21, d22, d23, d24, rfl⟩ := len25 hl
  have b21 : (d21.l.length : Int) ≤ 1000000 := hp (21, 1000000) (by simp)
  have b24 : (d24.l.length : Int) ≤ 1000000 := hp (24, 1000000) (by simp)
  have hF : tNextF [d0, d1, d2, d3, d4, d5, d6, d7, d8, d9, d10, d11, d12, d13, d14, d15, d16, d17, d18, d19, d20, d21, d22, d23, d24] = tNextE d0.i d1.i d2.i d3.i d4.i d5.i d6.i d7.i d8.i d9.i d10.i d11.i d12.i d13.i d14.i d15.i d16.i d17.i d18.i d19.i d20.i (d21.l.map deciii) (d22.l.map decii) (d23.l.map DV.b) (d24.l.map decib) := rfl
  rw [hF]
  clear hF hp hl
  have hN : nrmL (clsOf [.agg [.pl (.int .i64), .pl (.int .i64), .pl (.int .i64), .pl (.int .i64), .pl (.int .i64), .pl (.int .i64), .pl (.int .i64), .pl (.int .i64), .pl (.int .i64), .pl (.int .i64), .pl (.int .i64), .pl (.int .i64), .pl (.int .i64)], .one (.pl (.int .i64)), .agg [.pl (.int .i64), .pl (.int .i64), .pl (.int .i64), .pl (.int .i64), .pl (.int .i64), .pl (.int .i64), .pl (.int .i64), .rows false [.int .i64, .int .i64, .int .i64], .rows false [.int .i64, .int .i64], .rows false [.bool]], .one (.rows false [.int .i64, .bool])]) [d0, d1, d2, d3, d4, d5, d6, d7, d8, d9, d10, d11, d12, d13, d14, d15, d16, d17, d18, d19, d20, d21, d22, d23, d24] = [.int d0.i, .int d1.i, .int d2.i, .int d3.i, .int d4.i, .int d5.i, .int d6.i, .int d7.i, .int d8.i, .int d9.i, .int d10.i, .int d11.i, .int d12.i, .int d13.i, .int d14.i, .int d15.i, .int d16.i, .int d17.i, .int d18.i, .int d19.i, .int d20.i, .list ((d21.l.map deciii).map enciii), .list ((d22.l.map decii).map encii), .list ((d23.l.map DV.b).map DV.bool), .list ((d24.l.map decib).map encib)] := by
    simp only [clsOf, Sh.cls, List.append_nil, List.cons_append, List.nil_append, nrmL, Cl.nrm, CK.nrm, map_Lb, map_Lib, map_Lii, map_Liii]
  rw [hN]
  clear hN
  generalize d0.i = x0
  generalize d1.i = x1
  generalize d2.i = x2
  generalize d3.i = x3
  generalize d4.i = x4
  generalize d5.i = x5
  generalize d6.i = x6
  generalize d7.i = x7
  generalize d8.i = x8
  generalize d9.i = x9
  generalize d10.i = x10
  generalize d11.i = x11
  generalize d12.i = x12
  generalize d13.i = x13
  generalize d14.i = x14
  generalize d15.i = x15
  generalize d16.i = x16
  generalize d17.i = x17
  generalize d18.i = x18
  generalize d19.i = x19
  generalize d20.i = x20
  rw [← List.length_map (f := deciii)] at b21
  generalize d21.l.map deciii = x21 at b21 ⊢
  generalize d22.l.map decii = x22
  generalize d23.l.map DV.b = x23
  rw [← List.length_map (f := decib)] at b24
  generalize d24.l.map decib = x24 at b24 ⊢
  refine ⟨facts_nil _, ?_⟩
  unfold tNextTree tNextE
  simp only [Sat, clsOf, Sh.cls, List.append_nil, List.cons_append, List.nil_append, nrmL, Cl.nrm, CK.nrm, List.map_cons, List.map_nil, List.length_cons, List.length_nil, List.cons.injEq, DV.bool.injEq, DV.int.injEq, DV.list.injEq, DV.str.injEq, and_true, true_and, tNextN0, tNextN1, tNextN2, tNextN3, tNextN4, tNextN5, tNextN6, tNextN7, tNextN8, tNextN9, tNextN10, tNextN11, tNextN12, tNextN13, tNextN14, tNextN15, tNextN16, tNextN17, tNextN18, tNextN19, tNextN20, tNextN21, tNextN22, tNextN23]
  simp only [q_le, q_eq, q_eqs, q_eqb, q_and, q_or, q_not, q_bool, iff_true, iff_false, Bool.not_true, Bool.not_false, Bool.false_eq_true, Bool.true_eq_false, eq_self, Bool.not_not]
  simp only [Bool.not_true, Bool.not_false, Bool.true_eq_false, SE.den, evU, evT, ev_le, ev_eq, ev_eqs, ev_eqb, ev_slt, ev_and, ev_or, ev_add, ev_sub, ev_mul, ev_tdiv, ev_tmod, ev_band, ev_bor, ev_bxor, ev_bandn, ev_shl, ev_shr, ev_cat, ev_byte, ev_idx, ev_cons, ev_snoc, ev_app, ev_take, ev_drop, ev_stake, ev_sdrop, ev_rep, leB_q, eqB_q, eqsB_q, not_q, i_if, b_if, l_if, s_if, i_int, b_bool, s_str, l_list, envL, List.getElem?_cons_succ, List.getElem?_cons_zero, List.getElem?_nil, Option.getD_some, Option.getD_none, Int.toNat_natCast, Int.toNat_zero, Int.reduceToNat, List.length_map, get_Li, get_Lb, get_Ls, set_Li, inj_Li, inj_Lb, inj_Ls, rows_i, rows_b, rows_s, Int.zero_add, iff_true, iff_false, and_true, true_and, Bool.false_eq_true, eq_self, not_true_eq_false, not_false_eq_true, List.length_replicate, DV.int.injEq, DV.bool.injEq, DV.str.injEq, DV.list.injEq, List.cons.injEq, f_ib_0, rows_ib, inj_Lib, f_ib_1, rows_ib, inj_Lib, f_ii_0, rows_ii, inj_Lii, f_ii_1, rows_ii, inj_Lii, f_iii_0, rows_iii, inj_Liii, f_iii_1, rows_iii, inj_Liii, f_iii_2, rows_iii, inj_Liii, tNextPhi, layStF, layStE, layWkF, layWkE, layWtF, layWtE, layWordF, layWordE, wInF, wInE, wWithF, wWithE, wOutF, wOutE, gi, gb, gs, gLi, gLu, gLb, gLs, dece_i, dece_b, dece_s, nrm_nx, shl1n]
  clear x22 x23
  have lenT : (wtL x11 x1 x21).length = x21.length := by unfold wtL; rw [List.length_map]
  have lenD : (wdL x11 x1 x21).length = x21.length := by unfold wdL; rw [List.length_map]
  have atT : ∀ i : Nat, i < x21.length → (wtL x11 x1 x21)[i]?.getD 0 = _ := fun i hi => wtL_at hi
  have atD : ∀ i : Nat, i < x21.length → (wdL x11 x1 x21)[i]?.getD (0, 0) = _ := fun i hi => wdL_at hi
  refine ⟨fun hk => ⟨fun hst => ?_, fun hst => ?_⟩, fun hk => ⟨fun hk6 => ⟨fun hst => ?_, fun hst => ?_⟩, fun hk6 => ?_⟩⟩
  · skip
    refine rounds_bad (wd := wdL x11 x1 x21) ?_ ?_ ?_
    · intro i hi hb
      rw [lenD] at hi
      rw [atD i hi] at hb
      have i1 : IntKind.i64.wrap ((i : Int) + 1) = i + 1 := w64 (by omega) (by omega)
      have i2 : ¬ (x21.length : Int) ≤ i := by omega
      have i3 : (0 : Int) ≤ i := by omega
      have hb' : 0 ≤ placeM x11 x1 (x21[i]?.getD diii).1 4 0 := by simpa using hb
      simp only [Bool.not_true, Bool.not_false, Bool.true_eq_false, SE.den, evU, evT, ev_le, ev_eq, ev_eqs, ev_eqb, ev_slt, ev_and, ev_or, ev_add, ev_sub, ev_mul, ev_tdiv, ev_tmod, ev_band, ev_bor, ev_bxor, ev_bandn, ev_shl, ev_shr, ev_cat, ev_byte, ev_idx, ev_cons, ev_snoc, ev_app, ev_take, ev_drop, ev_stake, ev_sdrop, ev_rep, leB_q, eqB_q, eqsB_q, not_q, i_if, b_if, l_if, s_if, i_int, b_bool, s_str, l_list, envL, List.getElem?_cons_succ, List.getElem?_cons_zero, List.getElem?_nil, Option.getD_some, Option.getD_none, Int.toNat_natCast, Int.toNat_zero, Int.reduceToNat, List.length_map, get_Li, get_Lb, get_Ls, set_Li, inj_Li, inj_Lb, inj_Ls, rows_i, rows_b, rows_s, Int.zero_add, iff_true, iff_false, and_true, true_and, Bool.false_eq_true, eq_self, not_true_eq_false, not_false_eq_true, List.length_replicate, DV.int.injEq, DV.bool.injEq, DV.str.injEq, DV.list.injEq, List.cons.injEq, f_ib_0, rows_ib, inj_Lib, f_ib_1, rows_ib, inj_Lib, f_ii_0, rows_ii, inj_Lii, f_ii_1, rows_ii, inj_Lii, f_iii_0, rows_iii, inj_Liii, f_iii_1, rows_iii, inj_Liii, f_iii_2, rows_iii, inj_Liii, List.cons_append, List.nil_append, i1]
      simp [i2, hb']
    · intro i hi hb hw
      rw [lenD] at hi
      rw [atD i hi] at hb
      have i2 : ¬ (x21.length : Int) ≤ i := by omega
      have i3 : (0 : Int) ≤ i := by omega
      have hb' : ¬ 0 ≤ placeM x11 x1 (x21[i]?.getD diii).1 4 0 := by simpa using hb
      simp only [Bool.not_true, Bool.not_false, Bool.true_eq_false, SE.den, evU, evT, ev_le, ev_eq, ev_eqs, ev_eqb, ev_slt, ev_and, ev_or, ev_add, ev_sub, ev_mul, ev_tdiv, ev_tmod, ev_band, ev_bor, ev_bxor, ev_bandn, ev_shl, ev_shr, ev_cat, ev_byte, ev_idx, ev_cons, ev_snoc, ev_app, ev_take, ev_drop, ev_stake, ev_sdrop, ev_rep, leB_q, eqB_q, eqsB_q, not_q, i_if, b_if, l_if, s_if, i_int, b_bool, s_str, l_list, envL, List.getElem?_cons_succ, List.getElem?_cons_zero, List.getElem?_nil, Option.getD_some, Option.getD_none, Int.toNat_natCast, Int.toNat_zero, Int.reduceToNat, List.length_map, get_Li, get_Lb, get_Ls, set_Li, inj_Li, inj_Lb, inj_Ls, rows_i, rows_b, rows_s, Int.zero_add, iff_true, iff_false, and_true, true_and, Bool.false_eq_true, eq_self, not_true_eq_false, not_false_eq_true, List.length_replicate, DV.int.injEq, DV.bool.injEq, DV.str.injEq, DV.list.injEq, List.cons.injEq, f_ib_0, rows_ib, inj_Lib, f_ib_1, rows_ib, inj_Lib, f_ii_0, rows_ii, inj_Lii, f_ii_1, rows_ii, inj_Lii, f_iii_0, rows_iii, inj_Liii, f_iii_1, rows_iii, inj_Liii, f_iii_2, rows_iii, inj_Liii, List.cons_append, List.nil_append]
      rw [wait_err (fun h => by rw [hw] at h; exact absurd h.2.2 (by simp))]
      simp [i2, hb', doneN, Nx.ds]
    · intro hw
      rw [lenD]
      simp only [Bool.not_true, Bool.not_false, Bool.true_eq_false, SE.den, evU, evT, ev_le, ev_eq, ev_eqs, ev_eqb, ev_slt, ev_and, ev_or, ev_add, ev_sub, ev_mul, ev_tdiv, ev_tmod, ev_band, ev_bor, ev_bxor, ev_bandn, ev_shl, ev_shr, ev_cat, ev_byte, ev_idx, ev_cons, ev_snoc, ev_app, ev_take, ev_drop, ev_stake, ev_sdrop, ev_rep, leB_q, eqB_q, eqsB_q, not_q, i_if, b_if, l_if, s_if, i_int, b_bool, s_str, l_list, envL, List.getElem?_cons_succ, List.getElem?_cons_zero, List.getElem?_nil, Option.getD_some, Option.getD_none, Int.toNat_natCast, Int.toNat_zero, Int.reduceToNat, List.length_map, get_Li, get_Lb, get_Ls, set_Li, inj_Li, inj_Lb, inj_Ls, rows_i, rows_b, rows_s, Int.zero_add, iff_true, iff_false, and_true, true_and, Bool.false_eq_true, eq_self, not_true_eq_false, not_false_eq_true, List.length_replicate, DV.int.injEq, DV.bool.injEq, DV.str.injEq, DV.list.injEq, List.cons.injEq, f_ib_0, rows_ib, inj_Lib, f_ib_1, rows_ib, inj_Lib, f_ii_0, rows_ii, inj_Lii, f_ii_1, rows_ii, inj_Lii, f_iii_0, rows_iii, inj_Liii, f_iii_1, rows_iii, inj_Liii, f_iii_2, rows_iii, inj_Liii, List.cons_append, List.nil_append]
      refine ⟨fun h => absurd (Int.le_refl _) h, fun _ => ?_⟩
      refine ⟨fun h => ?_, fun h => ⟨rfl, ?_⟩⟩
      · rw [wait_50 hk hst hw (by omega)]; rfl
      · have hj0 : 1 ≤ x24.length := by omega
        rw [wait_5 hk hst hw hj0]
        generalize hA : allN true (fun m => IntKind.i64.wrap (withM m x13)) x13 x24 (wtL x11 x1 x21) 1 = A
        generalize hN : watchT (fun m => IntKind.i64.wrap (offM m x13)) x13 (wtL x11 x1 x21) (wdL x11 x1 x21) x24 A = N
        refine rounds_all hj0 hA ?_ ?_ ?_
        · intro i j j' hi hj hj' hgo
          rw [lenT] at hi
          rw [atT i hi] at hgo
          have i1 : IntKind.i64.wrap ((i : Int) + 1) = i + 1 := w64 (by omega) (by omega)
          have i2 : ¬ (x21.length : Int) ≤ i := by omega
          have i3 : (0 : Int) ≤ i := by omega
          simp only [Bool.not_true, Bool.not_false, Bool.true_eq_false, SE.den, evU, evT, ev_le, ev_eq, ev_eqs, ev_eqb, ev_slt, ev_and, ev_or, ev_add, ev_sub, ev_mul, ev_tdiv, ev_tmod, ev_band, ev_bor, ev_bxor, ev_bandn, ev_shl, ev_shr, ev_cat, ev_byte, ev_idx, ev_cons, ev_snoc, ev_app, ev_take, ev_drop, ev_stake, ev_sdrop, ev_rep, leB_q, eqB_q, eqsB_q, not_q, i_if, b_if, l_if, s_if, i_int, b_bool, s_str, l_list, envL, List.getElem?_cons_succ, List.getElem?_cons_zero, List.getElem?_nil, Option.getD_some, Option.getD_none, Int.toNat_natCast, Int.toNat_zero, Int.reduceToNat, List.length_map, get_Li, get_Lb, get_Ls, set_Li, inj_Li, inj_Lb, inj_Ls, rows_i, rows_b, rows_s, Int.zero_add, iff_true, iff_false, and_true, true_and, Bool.false_eq_true, eq_self, not_true_eq_false, not_false_eq_true, List.length_replicate, DV.int.injEq, DV.bool.injEq, DV.str.injEq, DV.list.injEq, List.cons.injEq, f_ib_0, rows_ib, inj_Lib, f_ib_1, rows_ib, inj_Lib, f_ii_0, rows_ii, inj_Lii, f_ii_1, rows_ii, inj_Lii, f_iii_0, rows_iii, inj_Liii, f_iii_1, rows_iii, inj_Liii, f_iii_2, rows_iii, inj_Liii, List.cons_append, List.nil_append]
          refine ⟨fun _ => ⟨i3, rfl, ?_⟩, fun h => absurd h i2⟩
          refine rounds_go hj hgo ?_ ?_ ?_ ?_ ?_
          · intro j h1 h2 h3
            have e1 : IntKind.i64.wrap ((j : Int) + 1) = j + 1 := w64 (by omega) (by omega)
            have e2 : IntKind.i64.wrap ((j : Int) + 1 + 1) = j + 2 := by rw [show (j : Int) + 1 + 1 = j + 2 by omega]; exact w64 (by omega) (by omega)
            have e3 : IntKind.i64.wrap ((j : Int) + 1 - 1) = j := by rw [show (j : Int) + 1 - 1 = j by omega]; exact w64 (by omega) (by omega)
            have e4 : IntKind.i64.wrap ((j : Int) + 2 - 1) = j + 1 := by rw [show (j : Int) + 2 - 1 = j + 1 by omega]; exact w64 (by omega) (by omega)
            have e5 : ((j : Int) + 1).toNat = j + 1 := by omega
            have e6 : ((j + 2 : Nat) : Int) = j + 2 := by omega
            have e7 : ((j + 1 : Nat) : Int) = j + 1 := by omega
            have n1 : ¬ (x24.length : Int) ≤ j := by omega
            have n2 : ¬ (x24.length : Int) ≤ j + 1 := by omega
            simp only [Bool.not_true, Bool.not_false, Bool.true_eq_false, SE.den, evU, evT, ev_le, ev_eq, ev_eqs, ev_eqb, ev_slt, ev_and, ev_or, ev_add, ev_sub, ev_mul, ev_tdiv, ev_tmod, ev_band, ev_bor, ev_bxor, ev_bandn, ev_shl, ev_shr, ev_cat, ev_byte, ev_idx, ev_cons, ev_snoc, ev_app, ev_take, ev_drop, ev_stake, ev_sdrop, ev_rep, leB_q, eqB_q, eqsB_q, not_q, i_if, b_if, l_if, s_if, i_int, b_bool, s_str, l_list, envL, List.getElem?_cons_succ, List.getElem?_cons_zero, List.getElem?_nil, Option.getD_some, Option.getD_none, Int.toNat_natCast, Int.toNat_zero, Int.reduceToNat, List.length_map, get_Li, get_Lb, get_Ls, set_Li, inj_Li, inj_Lb, inj_Ls, rows_i, rows_b, rows_s, Int.zero_add, iff_true, iff_false, and_true, true_and, Bool.false_eq_true, eq_self, not_true_eq_false, not_false_eq_true, List.length_replicate, DV.int.injEq, DV.bool.injEq, DV.str.injEq, DV.list.injEq, List.cons.injEq, f_ib_0, rows_ib, inj_Lib, f_ib_1, rows_ib, inj_Lib, f_ii_0, rows_ii, inj_Lii, f_ii_1, rows_ii, inj_Lii, f_iii_0, rows_iii, inj_Liii, f_iii_1, rows_iii, inj_Liii, f_iii_2, rows_iii, inj_Liii, List.cons_append, List.nil_append, e1, e2, e3, e4, e5, e6, e7]
            simp [n1, n2, h2, h3]
            try omega
          · intro hx
            cases hx
          · intro j h1 h2 hx
            cases hx
            have e1 : IntKind.i64.wrap ((j : Int) + 1) = j + 1 := w64 (by omega) (by omega)
            have e2 : IntKind.i64.wrap ((j : Int) + 1 + 1) = j + 2 := by rw [show (j : Int) + 1 + 1 = j + 2 by omega]; exact w64 (by omega) (by omega)
            have e3 : IntKind.i64.wrap ((j : Int) + 1 - 1) = j := by rw [show (j : Int) + 1 - 1 = j by omega]; exact w64 (by omega) (by omega)
            have e4 : IntKind.i64.wrap ((j : Int) + 2 - 1) = j + 1 := by rw [show (j : Int) + 2 - 1 = j + 1 by omega]; exact w64 (by omega) (by omega)
            have e5 : ((j : Int) + 1).toNat = j + 1 := by omega
            have e6 : ((j + 2 : Nat) : Int) = j + 2 := by omega
            have e7 : ((j + 1 : Nat) : Int) = j + 1 := by omega
            have n1 : ¬ (x24.length : Int) ≤ j := by omega
            simp only [Bool.not_true, Bool.not_false, Bool.true_eq_false, SE.den, evU, evT, ev_le, ev_eq, ev_eqs, ev_eqb, ev_slt, ev_and, ev_or, ev_add, ev_sub, ev_mul, ev_tdiv, ev_tmod, ev_band, ev_bor, ev_bxor, ev_bandn, ev_shl, ev_shr, ev_cat, ev_byte, ev_idx, ev_cons, ev_snoc, ev_app, ev_take, ev_drop, ev_stake, ev_sdrop, ev_rep, leB_q, eqB_q, eqsB_q, not_q, i_if, b_if, l_if, s_if, i_int, b_bool, s_str, l_list, envL, List.getElem?_cons_succ, List.getElem?_cons_zero, List.getElem?_nil, Option.getD_some, Option.getD_none, Int.toNat_natCast, Int.toNat_zero, Int.reduceToNat, List.length_map, get_Li, get_Lb, get_Ls, set_Li, inj_Li, inj_Lb, inj_Ls, rows_i, rows_b, rows_s, Int.zero_add, iff_true, iff_false, and_true, true_and, Bool.false_eq_true, eq_self, not_true_eq_false, not_false_eq_true, List.length_replicate, DV.int.injEq, DV.bool.injEq, DV.str.injEq, DV.list.injEq, List.cons.injEq, f_ib_0, rows_ib, inj_Lib, f_ib_1, rows_ib, inj_Lib, f_ii_0, rows_ii, inj_Lii, f_ii_1, rows_ii, inj_Lii, f_iii_0, rows_iii, inj_Liii, f_iii_1, rows_iii, inj_Liii, f_iii_2, rows_iii, inj_Liii, List.cons_append, List.nil_append, e1, e2, e3, e4, e5, e6, e7]
            simp [n1, h2, i1]
            try omega
          · intro j h1 h2 hx
            cases hx
          · intro j h1 h2 h3 hx
            cases hx
            have e1 : IntKind.i64.wrap ((j : Int) + 1) = j + 1 := w64 (by omega) (by omega)
            have e2 : IntKind.i64.wrap ((j : Int) + 1 + 1) = j + 2 := by rw [show (j : Int) + 1 + 1 = j + 2 by omega]; exact w64 (by omega) (by omega)
            have e3 : IntKind.i64.wrap ((j : Int) + 1 - 1) = j := by rw [show (j : Int) + 1 - 1 = j by omega]; exact w64 (by omega) (by omega)
            have e4 : IntKind.i64.wrap ((j : Int) + 2 - 1) = j + 1 := by rw [show (j : Int) + 2 - 1 = j + 1 by omega]; exact w64 (by omega) (by omega)
            have e5 : ((j : Int) + 1).toNat = j + 1 := by omega
            have e6 : ((j + 2 : Nat) : Int) = j + 2 := by omega
            have e7 : ((j + 1 : Nat) : Int) = j + 1 := by omega
            have n1 : ¬ (x24.length : Int) ≤ j := by omega
            have n2 : ¬ (x24.length : Int) ≤ j + 1 := by omega
            simp only [Bool.not_true, Bool.not_false, Bool.true_eq_false, SE.den, evU, evT, ev_le, ev_eq, ev_eqs, ev_eqb, ev_slt, ev_and, ev_or, ev_add, ev_sub, ev_mul, ev_tdiv, ev_tmod, ev_band, ev_bor, ev_bxor, ev_bandn, ev_shl, ev_shr, ev_cat, ev_byte, ev_idx, ev_cons, ev_snoc, ev_app, ev_take, ev_drop, ev_stake, ev_sdrop, ev_rep, leB_q, eqB_q, eqsB_q, not_q, i_if, b_if, l_if, s_if, i_int, b_bool, s_str, l_list, envL, List.getElem?_cons_succ, List.getElem?_cons_zero, List.getElem?_nil, Option.getD_some, Option.getD_none, Int.toNat_natCast, Int.toNat_zero, Int.reduceToNat, List.length_map, get_Li, get_Lb, get_Ls, set_Li, inj_Li, inj_Lb, inj_Ls, rows_i, rows_b, rows_s, Int.zero_add, iff_true, iff_false, and_true, true_and, Bool.false_eq_true, eq_self, not_true_eq_false, not_false_eq_true, List.length_replicate, DV.int.injEq, DV.bool.injEq, DV.str.injEq, DV.list.injEq, List.cons.injEq, f_ib_0, rows_ib, inj_Lib, f_ib_1, rows_ib, inj_Lib, f_ii_0, rows_ii, inj_Lii, f_ii_1, rows_ii, inj_Lii, f_iii_0, rows_iii, inj_Liii, f_iii_1, rows_iii, inj_Liii, f_iii_2, rows_iii, inj_Liii, List.cons_append, List.nil_append, e1, e2, e3, e4, e5, e6, e7]
            simp [n1, n2, h2, h3, i1]
            try omega
        · intro i j n hi hj hgo hx
          cases hx
          rw [lenT] at hi
          rw [atT i hi] at hgo
          have i2 : ¬ (x21.length : Int) ≤ i := by omega
          have i3 : (0 : Int) ≤ i := by omega
          simp only [Bool.not_true, Bool.not_false, Bool.true_eq_false, SE.den, evU, evT, ev_le, ev_eq, ev_eqs, ev_eqb, ev_slt, ev_and, ev_or, ev_add, ev_sub, ev_mul, ev_tdiv, ev_tmod, ev_band, ev_bor, ev_bxor, ev_bandn, ev_shl, ev_shr, ev_cat, ev_byte, ev_idx, ev_cons, ev_snoc, ev_app, ev_take, ev_drop, ev_stake, ev_sdrop, ev_rep, leB_q, eqB_q, eqsB_q, not_q, i_if, b_if, l_if, s_if, i_int, b_bool, s_str, l_list, envL, List.getElem?_cons_succ, List.getElem?_cons_zero, List.getElem?_nil, Option.getD_some, Option.getD_none, Int.toNat_natCast, Int.toNat_zero, Int.reduceToNat, List.length_map, get_Li, get_Lb, get_Ls, set_Li, inj_Li, inj_Lb, inj_Ls, rows_i, rows_b, rows_s, Int.zero_add, iff_true, iff_false, and_true, true_and, Bool.false_eq_true, eq_self, not_true_eq_false, not_false_eq_true, List.length_replicate, DV.int.injEq, DV.bool.injEq, DV.str.injEq, DV.list.injEq, List.cons.injEq, f_ib_0, rows_ib, inj_Lib, f_ib_1, rows_ib, inj_Lib, f_ii_0, rows_ii, inj_Lii, f_ii_1, rows_ii, inj_Lii, f_iii_0, rows_iii, inj_Liii, f_iii_1, rows_iii, inj_Liii, f_iii_2, rows_iii, inj_Liii, List.cons_append, List.nil_append]
          refine ⟨fun _ => ⟨i3, rfl, ?_⟩, fun h => absurd h i2⟩
          refine rounds_go hj hgo ?_ ?_ ?_ ?_ ?_
          · intro j h1 h2 h3
            have e1 : IntKind.i64.wrap ((j : Int) + 1) = j + 1 := w64 (by omega) (by omega)
            have e2 : IntKind.i64.wrap ((j : Int) + 1 + 1) = j + 2 := by rw [show (j : Int) + 1 + 1 = j + 2 by omega]; exact w64 (by omega) (by omega)
            have e3 : IntKind.i64.wrap ((j : Int) + 1 - 1) = j := by rw [show (j : Int) + 1 - 1 = j by omega]; exact w64 (by omega) (by omega)
            have e4 : IntKind.i64.wrap ((j : Int) + 2 - 1) = j + 1 := by rw [show (j : Int) + 2 - 1 = j + 1 by omega]; exact w64 (by omega) (by omega)
            have e5 : ((j : Int) + 1).toNat = j + 1 := by omega
            have e6 : ((j + 2 : Nat) : Int) = j + 2 := by omega
            have e7 : ((j + 1 : Nat) : Int) = j + 1 := by omega
            have n1 : ¬ (x24.length : Int) ≤ j := by omega
            have n2 : ¬ (x24.length : Int) ≤ j + 1 := by omega
            simp only [Bool.not_true, Bool.not_false, Bool.true_eq_false, SE.den, evU, evT, ev_le, ev_eq, ev_eqs, ev_eqb, ev_slt, ev_and, ev_or, ev_add, ev_sub, ev_mul, ev_tdiv, ev_tmod, ev_band, ev_bor, ev_bxor, ev_bandn, ev_shl, ev_shr, ev_cat, ev_byte, ev_idx, ev_cons, ev_snoc, ev_app, ev_take, ev_drop, ev_stake, ev_sdrop, ev_rep, leB_q, eqB_q, eqsB_q, not_q, i_if, b_if, l_if, s_if, i_int, b_bool, s_str, l_list, envL, List.getElem?_cons_succ, List.getElem?_cons_zero, List.getElem?_nil, Option.getD_some, Option.getD_none, Int.toNat_natCast, Int.toNat_zero, Int.reduceToNat, List.length_map, get_Li, get_Lb, get_Ls, set_Li, inj_Li, inj_Lb, inj_Ls, rows_i, rows_b, rows_s, Int.zero_add, iff_true, iff_false, and_true, true_and, Bool.false_eq_true, eq_self, not_true_eq_false, not_false_eq_true, List.length_replicate, DV.int.injEq, DV.bool.injEq, DV.str.injEq, DV.list.injEq, List.cons.injEq, f_ib_0, rows_ib, inj_Lib, f_ib_1, rows_ib, inj_Lib, f_ii_0, rows_ii, inj_Lii, f_ii_1, rows_ii, inj_Lii, f_iii_0, rows_iii, inj_Liii, f_iii_1, rows_iii, inj_Liii, f_iii_2, rows_iii, inj_Liii, List.cons_append, List.nil_append, e1, e2, e3, e4, e5, e6, e7]
            simp [n1, n2, h2, h3]
            try omega
          · intro hx
            cases hx
            simp only [Bool.not_true, Bool.not_false, Bool.true_eq_false, SE.den, evU, evT, ev_le, ev_eq, ev_eqs, ev_eqb, ev_slt, ev_and, ev_or, ev_add, ev_sub, ev_mul, ev_tdiv, ev_tmod, ev_band, ev_bor, ev_bxor, ev_bandn, ev_shl, ev_shr, ev_cat, ev_byte, ev_idx, ev_cons, ev_snoc, ev_app, ev_take, ev_drop, ev_stake, ev_sdrop, ev_rep, leB_q, eqB_q, eqsB_q, not_q, i_if, b_if, l_if, s_if, i_int, b_bool, s_str, l_list, envL, List.getElem?_cons_succ, List.getElem?_cons_zero, List.getElem?_nil, Option.getD_some, Option.getD_none, Int.toNat_natCast, Int.toNat_zero, Int.reduceToNat, List.length_map, get_Li, get_Lb, get_Ls, set_Li, inj_Li, inj_Lb, inj_Ls, rows_i, rows_b, rows_s, Int.zero_add, iff_true, iff_false, and_true, true_and, Bool.false_eq_true, eq_self, not_true_eq_false, not_false_eq_true, List.length_replicate, DV.int.injEq, DV.bool.injEq, DV.str.injEq, DV.list.injEq, List.cons.injEq, f_ib_0, rows_ib, inj_Lib, f_ib_1, rows_ib, inj_Lib, f_ii_0, rows_ii, inj_Lii, f_ii_1, rows_ii, inj_Lii, f_iii_0, rows_iii, inj_Liii, f_iii_1, rows_iii, inj_Liii, f_iii_2, rows_iii, inj_Liii, List.cons_append, List.nil_append]
            rw [← hN]
            simp [askN, Nx.ds, watchT, outT, *]
          · intro j h1 h2 hx
            cases hx
          · intro j h1 h2 hx
            cases hx
            have e1 : IntKind.i64.wrap ((j : Int) + 1) = j + 1 := w64 (by omega) (by omega)
            have e2 : IntKind.i64.wrap ((j : Int) + 1 + 1) = j + 2 := by rw [show (j : Int) + 1 + 1 = j + 2 by omega]; exact w64 (by omega) (by omega)
            have e3 : IntKind.i64.wrap ((j : Int) + 1 - 1) = j := by rw [show (j : Int) + 1 - 1 = j by omega]; exact w64 (by omega) (by omega)
            have e4 : IntKind.i64.wrap ((j : Int) + 2 - 1) = j + 1 := by rw [show (j : Int) + 2 - 1 = j + 1 by omega]; exact w64 (by omega) (by omega)
            have e5 : ((j : Int) + 1).toNat = j + 1 := by omega
            have e6 : ((j + 2 : Nat) : Int) = j + 2 := by omega
            have e7 : ((j + 1 : Nat) : Int) = j + 1 := by omega
            have n1 : ¬ (x24.length : Int) ≤ j := by omega
            have n2 : (x24.length : Int) ≤ j + 1 := by omega
            simp only [Bool.not_true, Bool.not_false, Bool.true_eq_false, SE.den, evU, evT, ev_le, ev_eq, ev_eqs, ev_eqb, ev_slt, ev_and, ev_or, ev_add, ev_sub, ev_mul, ev_tdiv, ev_tmod, ev_band, ev_bor, ev_bxor, ev_bandn, ev_shl, ev_shr, ev_cat, ev_byte, ev_idx, ev_cons, ev_snoc, ev_app, ev_take, ev_drop, ev_stake, ev_sdrop, ev_rep, leB_q, eqB_q, eqsB_q, not_q, i_if, b_if, l_if, s_if, i_int, b_bool, s_str, l_list, envL, List.getElem?_cons_succ, List.getElem?_cons_zero, List.getElem?_nil, Option.getD_some, Option.getD_none, Int.toNat_natCast, Int.toNat_zero, Int.reduceToNat, List.length_map, get_Li, get_Lb, get_Ls, set_Li, inj_Li, inj_Lb, inj_Ls, rows_i, rows_b, rows_s, Int.zero_add, iff_true, iff_false, and_true, true_and, Bool.false_eq_true, eq_self, not_true_eq_false, not_false_eq_true, List.length_replicate, DV.int.injEq, DV.bool.injEq, DV.str.injEq, DV.list.injEq, List.cons.injEq, f_ib_0, rows_ib, inj_Lib, f_ib_1, rows_ib, inj_Lib, f_ii_0, rows_ii, inj_Lii, f_ii_1, rows_ii, inj_Lii, f_iii_0, rows_iii, inj_Liii, f_iii_1, rows_iii, inj_Liii, f_iii_2, rows_iii, inj_Liii, List.cons_append, List.nil_append, e1, e2, e3, e4, e5, e6, e7]
            rw [← hN]
            simp [n1, n2, h2, askN, Nx.ds, watchT, outT, *]
            try omega
          · intro j h1 h2 h3 hx
            cases hx
        · intro j hj hx
          cases hx
          rw [lenT]
          simp only [Bool.not_true, Bool.not_false, Bool.true_eq_false, SE.den, evU, evT, ev_le, ev_eq, ev_eqs, ev_eqb, ev_slt, ev_and, ev_or, ev_add, ev_sub, ev_mul, ev_tdiv, ev_tmod, ev_band, ev_bor, ev_bxor, ev_bandn, ev_shl, ev_shr, ev_cat, ev_byte, ev_idx, ev_cons, ev_snoc, ev_app, ev_take, ev_drop, ev_stake, ev_sdrop, ev_rep, leB_q, eqB_q, eqsB_q, not_q, i_if, b_if, l_if, s_if, i_int, b_bool, s_str, l_list, envL, List.getElem?_cons_succ, List.getElem?_cons_zero, List.getElem?_nil, Option.getD_some, Option.getD_none, Int.toNat_natCast, Int.toNat_zero, Int.reduceToNat, List.length_map, get_Li, get_Lb, get_Ls, set_Li, inj_Li, inj_Lb, inj_Ls, rows_i, rows_b, rows_s, Int.zero_add, iff_true, iff_false, and_true, true_and, Bool.false_eq_true, eq_self, not_true_eq_false, not_false_eq_true, List.length_replicate, DV.int.injEq, DV.bool.injEq, DV.str.injEq, DV.list.injEq, List.cons.injEq, f_ib_0, rows_ib, inj_Lib, f_ib_1, rows_ib, inj_Lib, f_ii_0, rows_ii, inj_Lii, f_ii_1, rows_ii, inj_Lii, f_iii_0, rows_iii, inj_Liii, f_iii_1, rows_iii, inj_Liii, f_iii_2, rows_iii, inj_Liii, List.cons_append, List.nil_append]
          refine ⟨fun h => absurd (Int.le_refl _) h, fun _ => ?_⟩
          refine ⟨rfl, ?_⟩
          generalize hV : valN x24 (wdL x11 x1 x21) j = V
          refine rounds_val hj hV ?_ ?_ ?_ ?_
          · intro i j h1 h2 h3
            rw [lenD] at h1
            rw [atD i h1] at h3
            have i1 : IntKind.i64.wrap ((i : Int) + 1) = i + 1 := w64 (by omega) (by omega)
            have i2 : ¬ (x21.length : Int) ≤ i := by omega
            have n1 : ¬ (x24.length : Int) ≤ j := by omega
            have e1 : IntKind.i64.wrap ((j : Int) + 1) = j + 1 := w64 (by omega) (by omega)
            have e2 : IntKind.i64.wrap ((j : Int) + 1 + 1) = j + 2 := by rw [show (j : Int) + 1 + 1 = j + 2 by omega]; exact w64 (by omega) (by omega)
            have e3 : IntKind.i64.wrap ((j : Int) + 1 - 1) = j := by rw [show (j : Int) + 1 - 1 = j by omega]; exact w64 (by omega) (by omega)
            have e4 : IntKind.i64.wrap ((j : Int) + 2 - 1) = j + 1 := by rw [show (j : Int) + 2 - 1 = j + 1 by omega]; exact w64 (by omega) (by omega)
            have e5 : ((j : Int) + 1).toNat = j + 1 := by omega
            have e6 : ((j + 2 : Nat) : Int) = j + 2 := by omega
            have e7 : ((j + 1 : Nat) : Int) = j + 1 := by omega
            simp only [Bool.not_true, Bool.not_false, Bool.true_eq_false, SE.den, evU, evT, ev_le, ev_eq, ev_eqs, ev_eqb, ev_slt, ev_and, ev_or, ev_add, ev_sub, ev_mul, ev_tdiv, ev_tmod, ev_band, ev_bor, ev_bxor, ev_bandn, ev_shl, ev_shr, ev_cat, ev_byte, ev_idx, ev_cons, ev_snoc, ev_app, ev_take, ev_drop, ev_stake, ev_sdrop, ev_rep, leB_q, eqB_q, eqsB_q, not_q, i_if, b_if, l_if, s_if, i_int, b_bool, s_str, l_list, envL, List.getElem?_cons_succ, List.getElem?_cons_zero, List.getElem?_nil, Option.getD_some, Option.getD_none, Int.toNat_natCast, Int.toNat_zero, Int.reduceToNat, List.length_map, get_Li, get_Lb, get_Ls, set_Li, inj_Li, inj_Lb, inj_Ls, rows_i, rows_b, rows_s, Int.zero_add, iff_true, iff_false, and_true, true_and, Bool.false_eq_true, eq_self, not_true_eq_false, not_false_eq_true, List.length_replicate, DV.int.injEq, DV.bool.injEq, DV.str.injEq, DV.list.injEq, List.cons.injEq, f_ib_0, rows_ib, inj_Lib, f_ib_1, rows_ib, inj_Lib, f_ii_0, rows_ii, inj_Lii, f_ii_1, rows_ii, inj_Lii, f_iii_0, rows_iii, inj_Liii, f_iii_1, rows_iii, inj_Liii, f_iii_2, rows_iii, inj_Liii, List.cons_append, List.nil_append, i1, e1, e2, e3, e4, e5, e6, e7]
            simp [i2, n1, h3]
            try omega
          · intro i h1 hx
            cases hx
            rw [lenD] at h1
            rw [atD i h1] at hV
            have i2 : ¬ (x21.length : Int) ≤ i := by omega
            rw [watch_ok hV] at hN
            simp only [Bool.not_true, Bool.not_false, Bool.true_eq_false, SE.den, evU, evT, ev_le, ev_eq, ev_eqs, ev_eqb, ev_slt, ev_and, ev_or, ev_add, ev_sub, ev_mul, ev_tdiv, ev_tmod, ev_band, ev_bor, ev_bxor, ev_bandn, ev_shl, ev_shr, ev_cat, ev_byte, ev_idx, ev_cons, ev_snoc, ev_app, ev_take, ev_drop, ev_stake, ev_sdrop, ev_rep, leB_q, eqB_q, eqsB_q, not_q, i_if, b_if, l_if, s_if, i_int, b_bool, s_str, l_list, envL, List.getElem?_cons_succ, List.getElem?_cons_zero, List.getElem?_nil, Option.getD_some, Option.getD_none, Int.toNat_natCast, Int.toNat_zero, Int.reduceToNat, List.length_map, get_Li, get_Lb, get_Ls, set_Li, inj_Li, inj_Lb, inj_Ls, rows_i, rows_b, rows_s, Int.zero_add, iff_true, iff_false, and_true, true_and, Bool.false_eq_true, eq_self, not_true_eq_false, not_false_eq_true, List.length_replicate, DV.int.injEq, DV.bool.injEq, DV.str.injEq, DV.list.injEq, List.cons.injEq, f_ib_0, rows_ib, inj_Lib, f_ib_1, rows_ib, inj_Lib, f_ii_0, rows_ii, inj_Lii, f_ii_1, rows_ii, inj_Lii, f_iii_0, rows_iii, inj_Liii, f_iii_1, rows_iii, inj_Liii, f_iii_2, rows_iii, inj_Liii, List.cons_append, List.nil_append]
            rw [← hN]
            simp [i2, tailT, askN, Nx.ds]
          · intro i j' h1 h2 h3 hx
            cases hx
            rw [lenD] at h1
            rw [atD i h1] at h3
            rw [watch_ok hV] at hN
            unfold tailT at hN
            have i2 : ¬ (x21.length : Int) ≤ i := by omega
            have i3 : (0 : Int) ≤ i := by omega
            have n1 : ¬ (x24.length : Int) ≤ j' := by omega
            have e1 : IntKind.i64.wrap ((j' : Int) + 1) = j' + 1 := w64 (by omega) (by omega)
            have e2 : IntKind.i64.wrap ((j' : Int) + 1 + 1) = j' + 2 := by rw [show (j' : Int) + 1 + 1 = j' + 2 by omega]; exact w64 (by omega) (by omega)
            have e3 : IntKind.i64.wrap ((j' : Int) + 1 - 1) = j' := by rw [show (j' : Int) + 1 - 1 = j' by omega]; exact w64 (by omega) (by omega)
            have e4 : IntKind.i64.wrap ((j' : Int) + 2 - 1) = j' + 1 := by rw [show (j' : Int) + 2 - 1 = j' + 1 by omega]; exact w64 (by omega) (by omega)
            have e5 : ((j' : Int) + 1).toNat = j' + 1 := by omega
            have e6 : ((j' + 2 : Nat) : Int) = j' + 2 := by omega
            have e7 : ((j' + 1 : Nat) : Int) = j' + 1 := by omega
            simp only [Bool.not_true, Bool.not_false, Bool.true_eq_false, SE.den, evU, evT, ev_le, ev_eq, ev_eqs, ev_eqb, ev_slt, ev_and, ev_or, ev_add, ev_sub, ev_mul, ev_tdiv, ev_tmod, ev_band, ev_bor, ev_bxor, ev_bandn, ev_shl, ev_shr, ev_cat, ev_byte, ev_idx, ev_cons, ev_snoc, ev_app, ev_take, ev_drop, ev_stake, ev_sdrop, ev_rep, leB_q, eqB_q, eqsB_q, not_q, i_if, b_if, l_if, s_if, i_int, b_bool, s_str, l_list, envL, List.getElem?_cons_succ, List.getElem?_cons_zero, List.getElem?_nil, Option.getD_some, Option.getD_none, Int.toNat_natCast, Int.toNat_zero, Int.reduceToNat, List.length_map, get_Li, get_Lb, get_Ls, set_Li, inj_Li, inj_Lb, inj_Ls, rows_i, rows_b, rows_s, Int.zero_add, iff_true, iff_false, and_true, true_and, Bool.false_eq_true, eq_self, not_true_eq_false, not_false_eq_true, List.length_replicate, DV.int.injEq, DV.bool.injEq, DV.str.injEq, DV.list.injEq, List.cons.injEq, f_ib_0, rows_ib, inj_Lib, f_ib_1, rows_ib, inj_Lib, f_ii_0, rows_ii, inj_Lii, f_ii_1, rows_ii, inj_Lii, f_iii_0, rows_iii, inj_Liii, f_iii_1, rows_iii, inj_Liii, f_iii_2, rows_iii, inj_Liii, List.cons_append, List.nil_append, e1, e2, e3, e4, e5, e6, e7]
            refine ⟨fun _ => ⟨i3, fun h => absurd h n1, fun _ => ⟨by omega, n1, fun h => absurd h h3, fun _ => ⟨rfl, ?_⟩⟩⟩, fun h => absurd h i2⟩
            have hj0 : j' + 1 ≤ x24.length := by omega
            rw [← e7]
            generalize hA : allN false (fun m => IntKind.i64.wrap (offM m x13)) x13 x24 (wtL x11 x1 x21) (j' + 1) = A at hN
            refine rounds_all hj0 hA ?_ ?_ ?_
            · intro i j j' hi hj hj' hgo
              rw [lenT] at hi
              rw [atT i hi] at hgo
              have i1 : IntKind.i64.wrap ((i : Int) + 1) = i + 1 := w64 (by omega) (by omega)
              have i2 : ¬ (x21.length : Int) ≤ i := by omega
              have i3 : (0 : Int) ≤ i := by omega
              simp only [Bool.not_true, Bool.not_false, Bool.true_eq_false, SE.den, evU, evT, ev_le, ev_eq, ev_eqs, ev_eqb, ev_slt, ev_and, ev_or, ev_add, ev_sub, ev_mul, ev_tdiv, ev_tmod, ev_band, ev_bor, ev_bxor, ev_bandn, ev_shl, ev_shr, ev_cat, ev_byte, ev_idx, ev_cons, ev_snoc, ev_app, ev_take, ev_drop, ev_stake, ev_sdrop, ev_rep, leB_q, eqB_q, eqsB_q, not_q, i_if, b_if, l_if, s_if, i_int, b_bool, s_str, l_list, envL, List.getElem?_cons_succ, List.getElem?_cons_zero, List.getElem?_nil, Option.getD_some, Option.getD_none, Int.toNat_natCast, Int.toNat_zero, Int.reduceToNat, List.length_map, get_Li, get_Lb, get_Ls, set_Li, inj_Li, inj_Lb, inj_Ls, rows_i, rows_b, rows_s, Int.zero_add, iff_true, iff_false, and_true, true_and, Bool.false_eq_true, eq_self, not_true_eq_false, not_false_eq_true, List.length_replicate, DV.int.injEq, DV.bool.injEq, DV.str.injEq, DV.list.injEq, List.cons.injEq, f_ib_0, rows_ib, inj_Lib, f_ib_1, rows_ib, inj_Lib, f_ii_0, rows_ii, inj_Lii, f_ii_1, rows_ii, inj_Lii, f_iii_0, rows_iii, inj_Liii, f_iii_1, rows_iii, inj_Liii, f_iii_2, rows_iii, inj_Liii, List.cons_append, List.nil_append]
              refine ⟨fun _ => ⟨i3, rfl, ?_⟩, fun h => absurd h i2⟩
              refine rounds_go hj hgo ?_ ?_ ?_ ?_ ?_
              · intro j h1 h2 h3
                have e1 : IntKind.i64.wrap ((j : Int) + 1) = j + 1 := w64 (by omega) (by omega)
                have e2 : IntKind.i64.wrap ((j : Int) + 1 + 1) = j + 2 := by rw [show (j : Int) + 1 + 1 = j + 2 by omega]; exact w64 (by omega) (by omega)
                have e3 : IntKind.i64.wrap ((j : Int) + 1 - 1) = j := by rw [show (j : Int) + 1 - 1 = j by omega]; exact w64 (by omega) (by omega)
                have e4 : IntKind.i64.wrap ((j : Int) + 2 - 1) = j + 1 := by rw [show (j : Int) + 2 - 1 = j + 1 by omega]; exact w64 (by omega) (by omega)
                have e5 : ((j : Int) + 1).toNat = j + 1 := by omega
                have e6 : ((j + 2 : Nat) : Int) = j + 2 := by omega
                have e7 : ((j + 1 : Nat) : Int) = j + 1 := by omega
                have n1 : ¬ (x24.length : Int) ≤ j := by omega
                have n2 : ¬ (x24.length : Int) ≤ j + 1 := by omega
                simp only [Bool.not_true, Bool.not_false, Bool.true_eq_false, SE.den, evU, evT, ev_le, ev_eq, ev_eqs, ev_eqb, ev_slt, ev_and, ev_or, ev_add, ev_sub, ev_mul, ev_tdiv, ev_tmod, ev_band, ev_bor, ev_bxor, ev_bandn, ev_shl, ev_shr, ev_cat, ev_byte, ev_idx, ev_cons, ev_snoc, ev_app, ev_take, ev_drop, ev_stake, ev_sdrop, ev_rep, leB_q, eqB_q, eqsB_q, not_q, i_if, b_if, l_if, s_if, i_int, b_bool, s_str, l_list, envL, List.getElem?_cons_succ, List.getElem?_cons_zero, List.getElem?_nil, Option.getD_some, Option.getD_none, Int.toNat_natCast, Int.toNat_zero, Int.reduceToNat, List.length_map, get_Li, get_Lb, get_Ls, set_Li, inj_Li, inj_Lb, inj_Ls, rows_i, rows_b, rows_s, Int.zero_add, iff_true, iff_false, and_true, true_and, Bool.false_eq_true, eq_self, not_true_eq_false, not_false_eq_true, List.length_replicate, DV.int.injEq, DV.bool.injEq, DV.str.injEq, DV.list.injEq, List.cons.injEq, f_ib_0, rows_ib, inj_Lib, f_ib_1, rows_ib, inj_Lib, f_ii_0, rows_ii, inj_Lii, f_ii_1, rows_ii, inj_Lii, f_iii_0, rows_iii, inj_Liii, f_iii_1, rows_iii, inj_Liii, f_iii_2, rows_iii, inj_Liii, List.cons_append, List.nil_append, e1, e2, e3, e4, e5, e6, e7]
                simp [n1, n2, h2, h3]
                try omega
              · intro hx
                cases hx
              · intro j h1 h2 hx
                cases hx
                have e1 : IntKind.i64.wrap ((j : Int) + 1) = j + 1 := w64 (by omega) (by omega)
                have e2 : IntKind.i64.wrap ((j : Int) + 1 + 1) = j + 2 := by rw [show (j : Int) + 1 + 1 = j + 2 by omega]; exact w64 (by omega) (by omega)
                have e3 : IntKind.i64.wrap ((j : Int) + 1 - 1) = j := by rw [show (j : Int) + 1 - 1 = j by omega]; exact w64 (by omega) (by omega)
                have e4 : IntKind.i64.wrap ((j : Int) + 2 - 1) = j + 1 := by rw [show (j : Int) + 2 - 1 = j + 1 by omega]; exact w64 (by omega) (by omega)
                have e5 : ((j : Int) + 1).toNat = j + 1 := by omega
                have e6 : ((j + 2 : Nat) : Int) = j + 2 := by omega
                have e7 : ((j + 1 : Nat) : Int) = j + 1 := by omega
                have n1 : ¬ (x24.length : Int) ≤ j := by omega
                simp only [Bool.not_true, Bool.not_false, Bool.true_eq_false, SE.den, evU, evT, ev_le, ev_eq, ev_eqs, ev_eqb, ev_slt, ev_and, ev_or, ev_add, ev_sub, ev_mul, ev_tdiv, ev_tmod, ev_band, ev_bor, ev_bxor, ev_bandn, ev_shl, ev_shr, ev_cat, ev_byte, ev_idx, ev_cons, ev_snoc, ev_app, ev_take, ev_drop, ev_stake, ev_sdrop, ev_rep, leB_q, eqB_q, eqsB_q, not_q, i_if, b_if, l_if, s_if, i_int, b_bool, s_str, l_list, envL, List.getElem?_cons_succ, List.getElem?_cons_zero, List.getElem?_nil, Option.getD_some, Option.getD_none, Int.toNat_natCast, Int.toNat_zero, Int.reduceToNat, List.length_map, get_Li, get_Lb, get_Ls, set_Li, inj_Li, inj_Lb, inj_Ls, rows_i, rows_b, rows_s, Int.zero_add, iff_true, iff_false, and_true, true_and, Bool.false_eq_true, eq_self, not_true_eq_false, not_false_eq_true, List.length_replicate, DV.int.injEq, DV.bool.injEq, DV.str.injEq, DV.list.injEq, List.cons.injEq, f_ib_0, rows_ib, inj_Lib, f_ib_1, rows_ib, inj_Lib, f_ii_0, rows_ii, inj_Lii, f_ii_1, rows_ii, inj_Lii, f_iii_0, rows_iii, inj_Liii, f_iii_1, rows_iii, inj_Liii, f_iii_2, rows_iii, inj_Liii, List.cons_append, List.nil_append, e1, e2, e3, e4, e5, e6, e7]
                simp [n1, h2, i1]
                try omega
              · intro j h1 h2 hx
                cases hx
              · intro j h1 h2 h3 hx
                cases hx
                have e1 : IntKind.i64.wrap ((j : Int) + 1) = j + 1 := w64 (by omega) (by omega)
                have e2 : IntKind.i64.wrap ((j : Int) + 1 + 1) = j + 2 := by rw [show (j : Int) + 1 + 1 = j + 2 by omega]; exact w64 (by omega) (by omega)
                have e3 : IntKind.i64.wrap ((j : Int) + 1 - 1) = j := by rw [show (j : Int) + 1 - 1 = j by omega]; exact w64 (by omega) (by omega)
                have e4 : IntKind.i64.wrap ((j : Int) + 2 - 1) = j + 1 := by rw [show (j : Int) + 2 - 1 = j + 1 by omega]; exact w64 (by omega) (by omega)
                have e5 : ((j : Int) + 1).toNat = j + 1 := by omega
                have e6 : ((j + 2 : Nat) : Int) = j + 2 := by omega
                have e7 : ((j + 1 : Nat) : Int) = j + 1 := by omega
                have n1 : ¬ (x24.length : Int) ≤ j := by omega
                have n2 : ¬ (x24.length : Int) ≤ j + 1 := by omega
                simp only [Bool.not_true, Bool.not_false, Bool.true_eq_false, SE.den, evU, evT, ev_le, ev_eq, ev_eqs, ev_eqb, ev_slt, ev_and, ev_or, ev_add, ev_sub, ev_mul, ev_tdiv, ev_tmod, ev_band, ev_bor, ev_bxor, ev_bandn, ev_shl, ev_shr, ev_cat, ev_byte, ev_idx, ev_cons, ev_snoc, ev_app, ev_take, ev_drop, ev_stake, ev_sdrop, ev_rep, leB_q, eqB_q, eqsB_q, not_q, i_if, b_if, l_if, s_if, i_int, b_bool, s_str, l_list, envL, List.getElem?_cons_succ, List.getElem?_cons_zero, List.getElem?_nil, Option.getD_some, Option.getD_none, Int.toNat_natCast, Int.toNat_zero, Int.reduceToNat, List.length_map, get_Li, get_Lb, get_Ls, set_Li, inj_Li, inj_Lb, inj_Ls, rows_i, rows_b, rows_s, Int.zero_add, iff_true, iff_false, and_true, true_and, Bool.false_eq_true, eq_self, not_true_eq_false, not_false_eq_true, List.length_replicate, DV.int.injEq, DV.bool.injEq, DV.str.injEq, DV.list.injEq, List.cons.injEq, f_ib_0, rows_ib, inj_Lib, f_ib_1, rows_ib, inj_Lib, f_ii_0, rows_ii, inj_Lii, f_ii_1, rows_ii, inj_Lii, f_iii_0, rows_iii, inj_Liii, f_iii_1, rows_iii, inj_Liii, f_iii_2, rows_iii, inj_Liii, List.cons_append, List.nil_append, e1, e2, e3, e4, e5, e6, e7]
                simp [n1, n2, h2, h3, i1]
                try omega
            · intro i j n hi hj hgo hx
              cases hx
              rw [lenT] at hi
              rw [atT i hi] at hgo
              have i2 : ¬ (x21.length : Int) ≤ i := by omega
              have i3 : (0 : Int) ≤ i := by omega
              simp only [Bool.not_true, Bool.not_false, Bool.true_eq_false, SE.den, evU, evT, ev_le, ev_eq, ev_eqs, ev_eqb, ev_slt, ev_and, ev_or, ev_add, ev_sub, ev_mul, ev_tdiv, ev_tmod, ev_band, ev_bor, ev_bxor, ev_bandn, ev_shl, ev_shr, ev_cat, ev_byte, ev_idx, ev_cons, ev_snoc, ev_app, ev_take, ev_drop, ev_stake, ev_sdrop, ev_rep, leB_q, eqB_q, eqsB_q, not_q, i_if, b_if, l_if, s_if, i_int, b_bool, s_str, l_list, envL, List.getElem?_cons_succ, List.getElem?_cons_zero, List.getElem?_nil, Option.getD_some, Option.getD_none, Int.toNat_natCast, Int.toNat_zero, Int.reduceToNat, List.length_map, get_Li, get_Lb, get_Ls, set_Li, inj_Li, inj_Lb, inj_Ls, rows_i, rows_b, rows_s, Int.zero_add, iff_true, iff_false, and_true, true_and, Bool.false_eq_true, eq_self, not_true_eq_false, not_false_eq_true, List.length_replicate, DV.int.injEq, DV.bool.injEq, DV.str.injEq, DV.list.injEq, List.cons.injEq, f_ib_0, rows_ib, inj_Lib, f_ib_1, rows_ib, inj_Lib, f_ii_0, rows_ii, inj_Lii, f_ii_1, rows_ii, inj_Lii, f_iii_0, rows_iii, inj_Liii, f_iii_1, rows_iii, inj_Liii, f_iii_2, rows_iii, inj_Liii, List.cons_append, List.nil_append]
              refine ⟨fun _ => ⟨i3, rfl, ?_⟩, fun h => absurd h i2⟩
              refine rounds_go hj hgo ?_ ?_ ?_ ?_ ?_
              · intro j h1 h2 h3
                have e1 : IntKind.i64.wrap ((j : Int) + 1) = j + 1 := w64 (by omega) (by omega)
                have e2 : IntKind.i64.wrap ((j : Int) + 1 + 1) = j + 2 := by rw [show (j : Int) + 1 + 1 = j + 2 by omega]; exact w64 (by omega) (by omega)
                have e3 : IntKind.i64.wrap ((j : Int) + 1 - 1) = j := by rw [show (j : Int) + 1 - 1 = j by omega]; exact w64 (by omega) (by omega)
                have e4 : IntKind.i64.wrap ((j : Int) + 2 - 1) = j + 1 := by rw [show (j : Int) + 2 - 1 = j + 1 by omega]; exact w64 (by omega) (by omega)
                have e5 : ((j : Int) + 1).toNat = j + 1 := by omega
                have e6 : ((j + 2 : Nat) : Int) = j + 2 := by omega
                have e7 : ((j + 1 : Nat) : Int) = j + 1 := by omega
                have n1 : ¬ (x24.length : Int) ≤ j := by omega
                have n2 : ¬ (x24.length : Int) ≤ j + 1 := by omega
                simp only [Bool.not_true, Bool.not_false, Bool.true_eq_false, SE.den, evU, evT, ev_le, ev_eq, ev_eqs, ev_eqb, ev_slt, ev_and, ev_or, ev_add, ev_sub, ev_mul, ev_tdiv, ev_tmod, ev_band, ev_bor, ev_bxor, ev_bandn, ev_shl, ev_shr, ev_cat, ev_byte, ev_idx, ev_cons, ev_snoc, ev_app, ev_take, ev_drop, ev_stake, ev_sdrop, ev_rep, leB_q, eqB_q, eqsB_q, not_q, i_if, b_if, l_if, s_if, i_int, b_bool, s_str, l_list, envL, List.getElem?_cons_succ, List.getElem?_cons_zero, List.getElem?_nil, Option.getD_some, Option.getD_none, Int.toNat_natCast, Int.toNat_zero, Int.reduceToNat, List.length_map, get_Li, get_Lb, get_Ls, set_Li, inj_Li, inj_Lb, inj_Ls, rows_i, rows_b, rows_s, Int.zero_add, iff_true, iff_false, and_true, true_and, Bool.false_eq_true, eq_self, not_true_eq_false, not_false_eq_true, List.length_replicate, DV.int.injEq, DV.bool.injEq, DV.str.injEq, DV.list.injEq, List.cons.injEq, f_ib_0, rows_ib, inj_Lib, f_ib_1, rows_ib, inj_Lib, f_ii_0, rows_ii, inj_Lii, f_ii_1, rows_ii, inj_Lii, f_iii_0, rows_iii, inj_Liii, f_iii_1, rows_iii, inj_Liii, f_iii_2, rows_iii, inj_Liii, List.cons_append, List.nil_append, e1, e2, e3, e4, e5, e6, e7]
                simp [n1, n2, h2, h3]
                try omega
              · intro hx
                cases hx
                simp only [Bool.not_true, Bool.not_false, Bool.true_eq_false, SE.den, evU, evT, ev_le, ev_eq, ev_eqs, ev_eqb, ev_slt, ev_and, ev_or, ev_add, ev_sub, ev_mul, ev_tdiv, ev_tmod, ev_band, ev_bor, ev_bxor, ev_bandn, ev_shl, ev_shr, ev_cat, ev_byte, ev_idx, ev_cons, ev_snoc, ev_app, ev_take, ev_drop, ev_stake, ev_sdrop, ev_rep, leB_q, eqB_q, eqsB_q, not_q, i_if, b_if, l_if, s_if, i_int, b_bool, s_str, l_list, envL, List.getElem?_cons_succ, List.getElem?_cons_zero, List.getElem?_nil, Option.getD_some, Option.getD_none, Int.toNat_natCast, Int.toNat_zero, Int.reduceToNat, List.length_map, get_Li, get_Lb, get_Ls, set_Li, inj_Li, inj_Lb, inj_Ls, rows_i, rows_b, rows_s, Int.zero_add, iff_true, iff_false, and_true, true_and, Bool.false_eq_true, eq_self, not_true_eq_false, not_false_eq_true, List.length_replicate, DV.int.injEq, DV.bool.injEq, DV.str.injEq, DV.list.injEq, List.cons.injEq, f_ib_0, rows_ib, inj_Lib, f_ib_1, rows_ib, inj_Lib, f_ii_0, rows_ii, inj_Lii, f_ii_1, rows_ii, inj_Lii, f_iii_0, rows_iii, inj_Liii, f_iii_1, rows_iii, inj_Liii, f_iii_2, rows_iii, inj_Liii, List.cons_append, List.nil_append]
                rw [← hN]
                simp [askN, Nx.ds, watchT, outT, *]
              · intro j h1 h2 hx
                cases hx
              · intro j h1 h2 hx
                cases hx
                have e1 : IntKind.i64.wrap ((j : Int) + 1) = j + 1 := w64 (by omega) (by omega)
                have e2 : IntKind.i64.wrap ((j : Int) + 1 + 1) = j + 2 := by rw [show (j : Int) + 1 + 1 = j + 2 by omega]; exact w64 (by omega) (by omega)
                have e3 : IntKind.i64.wrap ((j : Int) + 1 - 1) = j := by rw [show (j : Int) + 1 - 1 = j by omega]; exact w64 (by omega) (by omega)
                have e4 : IntKind.i64.wrap ((j : Int) + 2 - 1) = j + 1 := by rw [show (j : Int) + 2 - 1 = j + 1 by omega]; exact w64 (by omega) (by omega)
                have e5 : ((j : Int) + 1).toNat = j + 1 := by omega
                have e6 : ((j + 2 : Nat) : Int) = j + 2 := by omega
                have e7 : ((j + 1 : Nat) : Int) = j + 1 := by omega
                have n1 : ¬ (x24.length : Int) ≤ j := by omega
                have n2 : (x24.length : Int) ≤ j + 1 := by omega
                simp only [Bool.not_true, Bool.not_false, Bool.true_eq_false, SE.den, evU, evT, ev_le, ev_eq, ev_eqs, ev_eqb, ev_slt, ev_and, ev_or, ev_add, ev_sub, ev_mul, ev_tdiv, ev_tmod, ev_band, ev_bor, ev_bxor, ev_bandn, ev_shl, ev_shr, ev_cat, ev_byte, ev_idx, ev_cons, ev_snoc, ev_app, ev_take, ev_drop, ev_stake, ev_sdrop, ev_rep, leB_q, eqB_q, eqsB_q, not_q, i_if, b_if, l_if, s_if, i_int, b_bool, s_str, l_list, envL, List.getElem?_cons_succ, List.getElem?_cons_zero, List.getElem?_nil, Option.getD_some, Option.getD_none, Int.toNat_natCast, Int.toNat_zero, Int.reduceToNat, List.length_map, get_Li, get_Lb, get_Ls, set_Li, inj_Li, inj_Lb, inj_Ls, rows_i, rows_b, rows_s, Int.zero_add, iff_true, iff_false, and_true, true_and, Bool.false_eq_true, eq_self, not_true_eq_false, not_false_eq_true, List.length_replicate, DV.int.injEq, DV.bool.injEq, DV.str.injEq, DV.list.injEq, List.cons.injEq, f_ib_0, rows_ib, inj_Lib, f_ib_1, rows_ib, inj_Lib, f_ii_0, rows_ii, inj_Lii, f_ii_1, rows_ii, inj_Lii, f_iii_0, rows_iii, inj_Liii, f_iii_1, rows_iii, inj_Liii, f_iii_2, rows_iii, inj_Liii, List.cons_append, List.nil_append, e1, e2, e3, e4, e5, e6, e7]
                rw [← hN]
                simp [n1, n2, h2, askN, Nx.ds, watchT, outT, *]
                try omega
              · intro j h1 h2 h3 hx
                cases hx
            · intro j hj hx
              cases hx
              rw [lenT]
              simp only [Bool.not_true, Bool.not_false, Bool.true_eq_false, SE.den, evU, evT, ev_le, ev_eq, ev_eqs, ev_eqb, ev_slt, ev_and, ev_or, ev_add, ev_sub, ev_mul, ev_tdiv, ev_tmod, ev_band, ev_bor, ev_bxor, ev_bandn, ev_shl, ev_shr, ev_cat, ev_byte, ev_idx, ev_cons, ev_snoc, ev_app, ev_take, ev_drop, ev_stake, ev_sdrop, ev_rep, leB_q, eqB_q, eqsB_q, not_q, i_if, b_if, l_if, s_if, i_int, b_bool, s_str, l_list, envL, List.getElem?_cons_succ, List.getElem?_cons_zero, List.getElem?_nil, Option.getD_some, Option.getD_none, Int.toNat_natCast, Int.toNat_zero, Int.reduceToNat, List.length_map, get_Li, get_Lb, get_Ls, set_Li, inj_Li, inj_Lb, inj_Ls, rows_i, rows_b, rows_s, Int.zero_add, iff_true, iff_false, and_true, true_and, Bool.false_eq_true, eq_self, not_true_eq_false, not_false_eq_true, List.length_replicate, DV.int.injEq, DV.bool.injEq, DV.str.injEq, DV.list.injEq, List.cons.injEq, f_ib_0, rows_ib, inj_Lib, f_ib_1, rows_ib, inj_Lib, f_ii_0, rows_ii, inj_Lii, f_ii_1, rows_ii, inj_Lii, f_iii_0, rows_iii, inj_Liii, f_iii_1, rows_iii, inj_Liii, f_iii_2, rows_iii, inj_Liii, List.cons_append, List.nil_append]
              refine ⟨fun h => absurd (Int.le_refl _) h, fun _ => ?_⟩
              rw [← hN]
              simp [outT, doneN, Nx.ds, *]
          · intro j' h1 hx
            cases hx
            rw [watch_ok hV] at hN
            unfold tailT at hN
            rw [lenD]
            simp only [Bool.not_true, Bool.not_false, Bool.true_eq_false, SE.den, evU, evT, ev_le, ev_eq, ev_eqs, ev_eqb, ev_slt, ev_and, ev_or, ev_add, ev_sub, ev_mul, ev_tdiv, ev_tmod, ev_band, ev_bor, ev_bxor, ev_bandn, ev_shl, ev_shr, ev_cat, ev_byte, ev_idx, ev_cons, ev_snoc, ev_app, ev_take, ev_drop, ev_stake, ev_sdrop, ev_rep, leB_q, eqB_q, eqsB_q, not_q, i_if, b_if, l_if, s_if, i_int, b_bool, s_str, l_list, envL, List.getElem?_cons_succ, List.getElem?_cons_zero, List.getElem?_nil, Option.getD_some, Option.getD_none, Int.toNat_natCast, Int.toNat_zero, Int.reduceToNat, List.length_map, get_Li, get_Lb, get_Ls, set_Li, inj_Li, inj_Lb, inj_Ls, rows_i, rows_b, rows_s, Int.zero_add, iff_true, iff_false, and_true, true_and, Bool.false_eq_true, eq_self, not_true_eq_false, not_false_eq_true, List.length_replicate, DV.int.injEq, DV.bool.injEq, DV.str.injEq, DV.list.injEq, List.cons.injEq, f_ib_0, rows_ib, inj_Lib, f_ib_1, rows_ib, inj_Lib, f_ii_0, rows_ii, inj_Lii, f_ii_1, rows_ii, inj_Lii, f_iii_0, rows_iii, inj_Liii, f_iii_1, rows_iii, inj_Liii, f_iii_2, rows_iii, inj_Liii, List.cons_append, List.nil_append]
            rw [← hN]
            simp [doneN, Nx.ds]
  · rw [wait_err (fun h => hst h.2.1)]; rfl
  · skip
    refine rounds_bad (wd := wdL x11 x1 x21) ?_ ?_ ?_
    · intro i hi hb
      rw [lenD] at hi
      rw [atD i hi] at hb
      have i1 : IntKind.i64.wrap ((i : Int) + 1) = i + 1 := w64 (by omega) (by omega)
      have i2 : ¬ (x21.length : Int) ≤ i := by omega
      have i3 : (0 : Int) ≤ i := by omega
      have hb' : 0 ≤ placeM x11 x1 (x21[i]?.getD diii).1 4 0 := by simpa using hb
      simp only [Bool.not_true, Bool.not_false, Bool.true_eq_false, SE.den, evU, evT, ev_le, ev_eq, ev_eqs, ev_eqb, ev_slt, ev_and, ev_or, ev_add, ev_sub, ev_mul, ev_tdiv, ev_tmod, ev_band, ev_bor, ev_bxor, ev_bandn, ev_shl, ev_shr, ev_cat, ev_byte, ev_idx, ev_cons, ev_snoc, ev_app, ev_take, ev_drop, ev_stake, ev_sdrop, ev_rep, leB_q, eqB_q, eqsB_q, not_q, i_if, b_if, l_if, s_if, i_int, b_bool, s_str, l_list, envL, List.getElem?_cons_succ, List.getElem?_cons_zero, List.getElem?_nil, Option.getD_some, Option.getD_none, Int.toNat_natCast, Int.toNat_zero, Int.reduceToNat, List.length_map, get_Li, get_Lb, get_Ls, set_Li, inj_Li, inj_Lb, inj_Ls, rows_i, rows_b, rows_s, Int.zero_add, iff_true, iff_false, and_true, true_and, Bool.false_eq_true, eq_self, not_true_eq_false, not_false_eq_true, List.length_replicate, DV.int.injEq, DV.bool.injEq, DV.str.injEq, DV.list.injEq, List.cons.injEq, f_ib_0, rows_ib, inj_Lib, f_ib_1, rows_ib, inj_Lib, f_ii_0, rows_ii, inj_Lii, f_ii_1, rows_ii, inj_Lii, f_iii_0, rows_iii, inj_Liii, f_iii_1, rows_iii, inj_Liii, f_iii_2, rows_iii, inj_Liii, List.cons_append, List.nil_append, i1]
      simp [i2, hb']
    · intro i hi hb hw
      rw [lenD] at hi
      rw [atD i hi] at hb
      have i2 : ¬ (x21.length : Int) ≤ i := by omega
      have i3 : (0 : Int) ≤ i := by omega
      have hb' : ¬ 0 ≤ placeM x11 x1 (x21[i]?.getD diii).1 4 0 := by simpa using hb
      simp only [Bool.not_true, Bool.not_false, Bool.true_eq_false, SE.den, evU, evT, ev_le, ev_eq, ev_eqs, ev_eqb, ev_slt, ev_and, ev_or, ev_add, ev_sub, ev_mul, ev_tdiv, ev_tmod, ev_band, ev_bor, ev_bxor, ev_bandn, ev_shl, ev_shr, ev_cat, ev_byte, ev_idx, ev_cons, ev_snoc, ev_app, ev_take, ev_drop, ev_stake, ev_sdrop, ev_rep, leB_q, eqB_q, eqsB_q, not_q, i_if, b_if, l_if, s_if, i_int, b_bool, s_str, l_list, envL, List.getElem?_cons_succ, List.getElem?_cons_zero, List.getElem?_nil, Option.getD_some, Option.getD_none, Int.toNat_natCast, Int.toNat_zero, Int.reduceToNat, List.length_map, get_Li, get_Lb, get_Ls, set_Li, inj_Li, inj_Lb, inj_Ls, rows_i, rows_b, rows_s, Int.zero_add, iff_true, iff_false, and_true, true_and, Bool.false_eq_true, eq_self, not_true_eq_false, not_false_eq_true, List.length_replicate, DV.int.injEq, DV.bool.injEq, DV.str.injEq, DV.list.injEq, List.cons.injEq, f_ib_0, rows_ib, inj_Lib, f_ib_1, rows_ib, inj_Lib, f_ii_0, rows_ii, inj_Lii, f_ii_1, rows_ii, inj_Lii, f_iii_0, rows_iii, inj_Liii, f_iii_1, rows_iii, inj_Liii, f_iii_2, rows_iii, inj_Liii, List.cons_append, List.nil_append]
      rw [wait_err (fun h => by rw [hw] at h; exact absurd h.2.2 (by simp))]
      simp [i2, hb', doneN, Nx.ds]
    · intro hw
      rw [lenD]
      simp only [Bool.not_true, Bool.not_false, Bool.true_eq_false, SE.den, evU, evT, ev_le, ev_eq, ev_eqs, ev_eqb, ev_slt, ev_and, ev_or, ev_add, ev_sub, ev_mul, ev_tdiv, ev_tmod, ev_band, ev_bor, ev_bxor, ev_bandn, ev_shl, ev_shr, ev_cat, ev_byte, ev_idx, ev_cons, ev_snoc, ev_app, ev_take, ev_drop, ev_stake, ev_sdrop, ev_rep, leB_q, eqB_q, eqsB_q, not_q, i_if, b_if, l_if, s_if, i_int, b_bool, s_str, l_list, envL, List.getElem?_cons_succ, List.getElem?_cons_zero, List.getElem?_nil, Option.getD_some, Option.getD_none, Int.toNat_natCast, Int.toNat_zero, Int.reduceToNat, List.length_map, get_Li, get_Lb, get_Ls, set_Li, inj_Li, inj_Lb, inj_Ls, rows_i, rows_b, rows_s, Int.zero_add, iff_true, iff_false, and_true, true_and, Bool.false_eq_true, eq_self, not_true_eq_false, not_false_eq_true, List.length_replicate, DV.int.injEq, DV.bool.injEq, DV.str.injEq, DV.list.injEq, List.cons.injEq, f_ib_0, rows_ib, inj_Lib, f_ib_1, rows_ib, inj_Lib, f_ii_0, rows_ii, inj_Lii, f_ii_1, rows_ii, inj_Lii, f_iii_0, rows_iii, inj_Liii, f_iii_1, rows_iii, inj_Liii, f_iii_2, rows_iii, inj_Liii, List.cons_append, List.nil_append]
      refine ⟨fun h => absurd (Int.le_refl _) h, fun _ => ?_⟩
      refine ⟨fun h => ?_, fun h => ⟨fun h0 => ?_, fun h0 => ⟨rfl, ?_⟩⟩⟩
      · rw [wait_60 hk6 hst hw (by omega)]; rfl
      · rw [wait_6z hk6 hst hw (by omega) h0]; rfl
      · have hj0 : 1 ≤ x24.length := by omega
        rw [wait_6 hk6 hst hw hj0 h0]
        generalize hA : allN false (fun m => IntKind.i64.wrap (offM m x13)) x13 x24 (wtL x11 x1 x21) 1 = A
        generalize hN : outT true A = N
        refine rounds_all hj0 hA ?_ ?_ ?_
        · intro i j j' hi hj hj' hgo
          rw [lenT] at hi
          rw [atT i hi] at hgo
          have i1 : IntKind.i64.wrap ((i : Int) + 1) = i + 1 := w64 (by omega) (by omega)
          have i2 : ¬ (x21.length : Int) ≤ i := by omega
          have i3 : (0 : Int) ≤ i := by omega
          simp only [Bool.not_true, Bool.not_false, Bool.true_eq_false, SE.den, evU, evT, ev_le, ev_eq, ev_eqs, ev_eqb, ev_slt, ev_and, ev_or, ev_add, ev_sub, ev_mul, ev_tdiv, ev_tmod, ev_band, ev_bor, ev_bxor, ev_bandn, ev_shl, ev_shr, ev_cat, ev_byte, ev_idx, ev_cons, ev_snoc, ev_app, ev_take, ev_drop, ev_stake, ev_sdrop, ev_rep, leB_q, eqB_q, eqsB_q, not_q, i_if, b_if, l_if, s_if, i_int, b_bool, s_str, l_list, envL, List.getElem?_cons_succ, List.getElem?_cons_zero, List.getElem?_nil, Option.getD_some, Option.getD_none, Int.toNat_natCast, Int.toNat_zero, Int.reduceToNat, List.length_map, get_Li, get_Lb, get_Ls, set_Li, inj_Li, inj_Lb, inj_Ls, rows_i, rows_b, rows_s, Int.zero_add, iff_true, iff_false, and_true, true_and, Bool.false_eq_true, eq_self, not_true_eq_false, not_false_eq_true, List.length_replicate, DV.int.injEq, DV.bool.injEq, DV.str.injEq, DV.list.injEq, List.cons.injEq, f_ib_0, rows_ib, inj_Lib, f_ib_1, rows_ib, inj_Lib, f_ii_0, rows_ii, inj_Lii, f_ii_1, rows_ii, inj_Lii, f_iii_0, rows_iii, inj_Liii, f_iii_1, rows_iii, inj_Liii, f_iii_2, rows_iii, inj_Liii, List.cons_append, List.nil_append]
          refine ⟨fun _ => ⟨i3, rfl, ?_⟩, fun h => absurd h i2⟩
          refine rounds_go hj hgo ?_ ?_ ?_ ?_ ?_
          · intro j h1 h2 h3
            have e1 : IntKind.i64.wrap ((j : Int) + 1) = j + 1 := w64 (by omega) (by omega)
            have e2 : IntKind.i64.wrap ((j : Int) + 1 + 1) = j + 2 := by rw [show (j : Int) + 1 + 1 = j + 2 by omega]; exact w64 (by omega) (by omega)
            have e3 : IntKind.i64.wrap ((j : Int) + 1 - 1) = j := by rw [show (j : Int) + 1 - 1 = j by omega]; exact w64 (by omega) (by omega)
            have e4 : IntKind.i64.wrap ((j : Int) + 2 - 1) = j + 1 := by rw [show (j : Int) + 2 - 1 = j + 1 by omega]; exact w64 (by omega) (by omega)
            have e5 : ((j : Int) + 1).toNat = j + 1 := by omega
            have e6 : ((j + 2 : Nat) : Int) = j + 2 := by omega
            have e7 : ((j + 1 : Nat) : Int) = j + 1 := by omega
            have n1 : ¬ (x24.length : Int) ≤ j := by omega
            have n2 : ¬ (x24.length : Int) ≤ j + 1 := by omega
            simp only [Bool.not_true, Bool.not_false, Bool.true_eq_false, SE.den, evU, evT, ev_le, ev_eq, ev_eqs, ev_eqb, ev_slt, ev_and, ev_or, ev_add, ev_sub, ev_mul, ev_tdiv, ev_tmod, ev_band, ev_bor, ev_bxor, ev_bandn, ev_shl, ev_shr, ev_cat, ev_byte, ev_idx, ev_cons, ev_snoc, ev_app, ev_take, ev_drop, ev_stake, ev_sdrop, ev_rep, leB_q, eqB_q, eqsB_q, not_q, i_if, b_if, l_if, s_if, i_int, b_bool, s_str, l_list, envL, List.getElem?_cons_succ, List.getElem?_cons_zero, List.getElem?_nil, Option.getD_some, Option.getD_none, Int.toNat_natCast, Int.toNat_zero, Int.reduceToNat, List.length_map, get_Li, get_Lb, get_Ls, set_Li, inj_Li, inj_Lb, inj_Ls, rows_i, rows_b, rows_s, Int.zero_add, iff_true, iff_false, and_true, true_and, Bool.false_eq_true, eq_self, not_true_eq_false, not_false_eq_true, List.length_replicate, DV.int.injEq, DV.bool.injEq, DV.str.injEq, DV.list.injEq, List.cons.injEq, f_ib_0, rows_ib, inj_Lib, f_ib_1, rows_ib, inj_Lib, f_ii_0, rows_ii, inj_Lii, f_ii_1, rows_ii, inj_Lii, f_iii_0, rows_iii, inj_Liii, f_iii_1, rows_iii, inj_Liii, f_iii_2, rows_iii, inj_Liii, List.cons_append, List.nil_append, e1, e2, e3, e4, e5, e6, e7]
            simp [n1, n2, h2, h3]
            try omega
          · intro hx
            cases hx
          · intro j h1 h2 hx
            cases hx
            have e1 : IntKind.i64.wrap ((j : Int) + 1) = j + 1 := w64 (by omega) (by omega)
            have e2 : IntKind.i64.wrap ((j : Int) + 1 + 1) = j + 2 := by rw [show (j : Int) + 1 + 1 = j + 2 by omega]; exact w64 (by omega) (by omega)
            have e3 : IntKind.i64.wrap ((j : Int) + 1 - 1) = j := by rw [show (j : Int) + 1 - 1 = j by omega]; exact w64 (by omega) (by omega)
            have e4 : IntKind.i64.wrap ((j : Int) + 2 - 1) = j + 1 := by rw [show (j : Int) + 2 - 1 = j + 1 by omega]; exact w64 (by omega) (by omega)
            have e5 : ((j : Int) + 1).toNat = j + 1 := by omega
            have e6 : ((j + 2 : Nat) : Int) = j + 2 := by omega
            have e7 : ((j + 1 : Nat) : Int) = j + 1 := by omega
            have n1 : ¬ (x24.length : Int) ≤ j := by omega
            simp only [Bool.not_true, Bool.not_false, Bool.true_eq_false, SE.den, evU, evT, ev_le, ev_eq, ev_eqs, ev_eqb, ev_slt, ev_and, ev_or, ev_add, ev_sub, ev_mul, ev_tdiv, ev_tmod, ev_band, ev_bor, ev_bxor, ev_bandn, ev_shl, ev_shr, ev_cat, ev_byte, ev_idx, ev_cons, ev_snoc, ev_app, ev_take, ev_drop, ev_stake, ev_sdrop, ev_rep, leB_q, eqB_q, eqsB_q, not_q, i_if, b_if, l_if, s_if, i_int, b_bool, s_str, l_list, envL, List.getElem?_cons_succ, List.getElem?_cons_zero, List.getElem?_nil, Option.getD_some, Option.getD_none, Int.toNat_natCast, Int.toNat_zero, Int.reduceToNat, List.length_map, get_Li, get_Lb, get_Ls, set_Li, inj_Li, inj_Lb, inj_Ls, rows_i, rows_b, rows_s, Int.zero_add, iff_true, iff_false, and_true, true_and, Bool.false_eq_true, eq_self, not_true_eq_false, not_false_eq_true, List.length_replicate, DV.int.injEq, DV.bool.injEq, DV.str.injEq, DV.list.injEq, List.cons.injEq, f_ib_0, rows_ib, inj_Lib, f_ib_1, rows_ib, inj_Lib, f_ii_0, rows_ii, inj_Lii, f_ii_1, rows_ii, inj_Lii, f_iii_0, rows_iii, inj_Liii, f_iii_1, rows_iii, inj_Liii, f_iii_2, rows_iii, inj_Liii, List.cons_append, List.nil_append, e1, e2, e3, e4, e5, e6, e7]
            simp [n1, h2, i1]
            try omega
          · intro j h1 h2 hx
            cases hx
          · intro j h1 h2 h3 hx
            cases hx
            have e1 : IntKind.i64.wrap ((j : Int) + 1) = j + 1 := w64 (by omega) (by omega)
            have e2 : IntKind.i64.wrap ((j : Int) + 1 + 1) = j + 2 := by rw [show (j : Int) + 1 + 1 = j + 2 by omega]; exact w64 (by omega) (by omega)
            have e3 : IntKind.i64.wrap ((j : Int) + 1 - 1) = j := by rw [show (j : Int) + 1 - 1 = j by omega]; exact w64 (by omega) (by omega)
            have e4 : IntKind.i64.wrap ((j : Int) + 2 - 1) = j + 1 := by rw [show (j : Int) + 2 - 1 = j + 1 by omega]; exact w64 (by omega) (by omega)
            have e5 : ((j : Int) + 1).toNat = j + 1 := by omega
            have e6 : ((j + 2 : Nat) : Int) = j + 2 := by omega
            have e7 : ((j + 1 : Nat) : Int) = j + 1 := by omega
            have n1 : ¬ (x24.length : Int) ≤ j := by omega
            have n2 : ¬ (x24.length : Int) ≤ j + 1 := by omega
            simp only [Bool.not_true, Bool.not_false, Bool.true_eq_false, SE.den, evU, evT, ev_le, ev_eq, ev_eqs, ev_eqb, ev_slt, ev_and, ev_or, ev_add, ev_sub, ev_mul, ev_tdiv, ev_tmod, ev_band, ev_bor, ev_bxor, ev_bandn, ev_shl, ev_shr, ev_cat, ev_byte, ev_idx, ev_cons, ev_snoc, ev_app, ev_take, ev_drop, ev_stake, ev_sdrop, ev_rep, leB_q, eqB_q, eqsB_q, not_q, i_if, b_if, l_if, s_if, i_int, b_bool, s_str, l_list, envL, List.getElem?_cons_succ, List.getElem?_cons_zero, List.getElem?_nil, Option.getD_some, Option.getD_none, Int.toNat_natCast, Int.toNat_zero, Int.reduceToNat, List.length_map, get_Li, get_Lb, get_Ls, set_Li, inj_Li, inj_Lb, inj_Ls, rows_i, rows_b, rows_s, Int.zero_add, iff_true, iff_false, and_true, true_and, Bool.false_eq_true, eq_self, not_true_eq_false, not_false_eq_true, List.length_replicate, DV.int.injEq, DV.bool.injEq, DV.str.injEq, DV.list.injEq, List.cons.injEq, f_ib_0, rows_ib, inj_Lib, f_ib_1, rows_ib, inj_Lib, f_ii_0, rows_ii, inj_Lii, f_ii_1, rows_ii, inj_Lii, f_iii_0, rows_iii, inj_Liii, f_iii_1, rows_iii, inj_Liii, f_iii_2, rows_iii, inj_Liii, List.cons_append, List.nil_append, e1, e2, e3, e4, e5, e6, e7]
            simp [n1, n2, h2, h3, i1]
            try omega
        · intro i j n hi hj hgo hx
          cases hx
          rw [lenT] at hi
          rw [atT i hi] at hgo
          have i2 : ¬ (x21.length : Int) ≤ i := by omega
          have i3 : (0 : Int) ≤ i := by omega
          simp only [Bool.not_true, Bool.not_false, Bool.true_eq_false, SE.den, evU, evT, ev_le, ev_eq, ev_eqs, ev_eqb, ev_slt, ev_and, ev_or, ev_add, ev_sub, ev_mul, ev_tdiv, ev_tmod, ev_band, ev_bor, ev_bxor, ev_bandn, ev_shl, ev_shr, ev_cat, ev_byte, ev_idx, ev_cons, ev_snoc, ev_app, ev_take, ev_drop, ev_stake, ev_sdrop, ev_rep, leB_q, eqB_q, eqsB_q, not_q, i_if, b_if, l_if, s_if, i_int, b_bool, s_str, l_list, envL, List.getElem?_cons_succ, List.getElem?_cons_zero, List.getElem?_nil, Option.getD_some, Option.getD_none, Int.toNat_natCast, Int.toNat_zero, Int.reduceToNat, List.length_map, get_Li, get_Lb, get_Ls, set_Li, inj_Li, inj_Lb, inj_Ls, rows_i, rows_b, rows_s, Int.zero_add, iff_true, iff_false, and_true, true_and, Bool.false_eq_true, eq_self, not_true_eq_false, not_false_eq_true, List.length_replicate, DV.int.injEq, DV.bool.injEq, DV.str.injEq, DV.list.injEq, List.cons.injEq, f_ib_0, rows_ib, inj_Lib, f_ib_1, rows_ib, inj_Lib, f_ii_0, rows_ii, inj_Lii, f_ii_1, rows_ii, inj_Lii, f_iii_0, rows_iii, inj_Liii, f_iii_1, rows_iii, inj_Liii, f_iii_2, rows_iii, inj_Liii, List.cons_append, List.nil_append]
          refine ⟨fun _ => ⟨i3, rfl, ?_⟩, fun h => absurd h i2⟩
          refine rounds_go hj hgo ?_ ?_ ?_ ?_ ?_
          · intro j h1 h2 h3
            have e1 : IntKind.i64.wrap ((j : Int) + 1) = j + 1 := w64 (by omega) (by omega)
            have e2 : IntKind.i64.wrap ((j : Int) + 1 + 1) = j + 2 := by rw [show (j : Int) + 1 + 1 = j + 2 by omega]; exact w64 (by omega) (by omega)
            have e3 : IntKind.i64.wrap ((j : Int) + 1 - 1) = j := by rw [show (j : Int) + 1 - 1 = j by omega]; exact w64 (by omega) (by omega)
            have e4 : IntKind.i64.wrap ((j : Int) + 2 - 1) = j + 1 := by rw [show (j : Int) + 2 - 1 = j + 1 by omega]; exact w64 (by omega) (by omega)
            have e5 : ((j : Int) + 1).toNat = j + 1 := by omega
            have e6 : ((j + 2 : Nat) : Int) = j + 2 := by omega
            have e7 : ((j + 1 : Nat) : Int) = j + 1 := by omega
            have n1 : ¬ (x24.length : Int) ≤ j := by omega
            have n2 : ¬ (x24.length : Int) ≤ j + 1 := by omega
            simp only [Bool.not_true, Bool.not_false, Bool.true_eq_false, SE.den, evU, evT, ev_le, ev_eq, ev_eqs, ev_eqb, ev_slt, ev_and, ev_or, ev_add, ev_sub, ev_mul, ev_tdiv, ev_tmod, ev_band, ev_bor, ev_bxor, ev_bandn, ev_shl, ev_shr, ev_cat, ev_byte, ev_idx, ev_cons, ev_snoc, ev_app, ev_take, ev_drop, ev_stake, ev_sdrop, ev_rep, leB_q, eqB_q, eqsB_q, not_q, i_if, b_if, l_if, s_if, i_int, b_bool, s_str, l_list, envL, List.getElem?_cons_succ, List.getElem?_cons_zero, List.getElem?_nil, Option.getD_some, Option.getD_none, Int.toNat_natCast, Int.toNat_zero, Int.reduceToNat, List.length_map, get_Li, get_Lb, get_Ls, set_Li, inj_Li, inj_Lb, inj_Ls, rows_i, rows_b, rows_s, Int.zero_add, iff_true, iff_false, and_true, true_and, Bool.false_eq_true, eq_self, not_true_eq_false, not_false_eq_true, List.length_replicate, DV.int.injEq, DV.bool.injEq, DV.str.injEq, DV.list.injEq, List.cons.injEq, f_ib_0, rows_ib, inj_Lib, f_ib_1, rows_ib, inj_Lib, f_ii_0, rows_ii, inj_Lii, f_ii_1, rows_ii, inj_Lii, f_iii_0, rows_iii, inj_Liii, f_iii_1, rows_iii, inj_Liii, f_iii_2, rows_iii, inj_Liii, List.cons_append, List.nil_append, e1, e2, e3, e4, e5, e6, e7]
            simp [n1, n2, h2, h3]
            try omega
          · intro hx
            cases hx
            simp only [Bool.not_true, Bool.not_false, Bool.true_eq_false, SE.den, evU, evT, ev_le, ev_eq, ev_eqs, ev_eqb, ev_slt, ev_and, ev_or, ev_add, ev_sub, ev_mul, ev_tdiv, ev_tmod, ev_band, ev_bor, ev_bxor, ev_bandn, ev_shl, ev_shr, ev_cat, ev_byte, ev_idx, ev_cons, ev_snoc, ev_app, ev_take, ev_drop, ev_stake, ev_sdrop, ev_rep, leB_q, eqB_q, eqsB_q, not_q, i_if, b_if, l_if, s_if, i_int, b_bool, s_str, l_list, envL, List.getElem?_cons_succ, List.getElem?_cons_zero, List.getElem?_nil, Option.getD_some, Option.getD_none, Int.toNat_natCast, Int.toNat_zero, Int.reduceToNat, List.length_map, get_Li, get_Lb, get_Ls, set_Li, inj_Li, inj_Lb, inj_Ls, rows_i, rows_b, rows_s, Int.zero_add, iff_true, iff_false, and_true, true_and, Bool.false_eq_true, eq_self, not_true_eq_false, not_false_eq_true, List.length_replicate, DV.int.injEq, DV.bool.injEq, DV.str.injEq, DV.list.injEq, List.cons.injEq, f_ib_0, rows_ib, inj_Lib, f_ib_1, rows_ib, inj_Lib, f_ii_0, rows_ii, inj_Lii, f_ii_1, rows_ii, inj_Lii, f_iii_0, rows_iii, inj_Liii, f_iii_1, rows_iii, inj_Liii, f_iii_2, rows_iii, inj_Liii, List.cons_append, List.nil_append]
            rw [← hN]
            simp [askN, Nx.ds, watchT, outT, *]
          · intro j h1 h2 hx
            cases hx
          · intro j h1 h2 hx
            cases hx
            have e1 : IntKind.i64.wrap ((j : Int) + 1) = j + 1 := w64 (by omega) (by omega)
            have e2 : IntKind.i64.wrap ((j : Int) + 1 + 1) = j + 2 := by rw [show (j : Int) + 1 + 1 = j + 2 by omega]; exact w64 (by omega) (by omega)
            have e3 : IntKind.i64.wrap ((j : Int) + 1 - 1) = j := by rw [show (j : Int) + 1 - 1 = j by omega]; exact w64 (by omega) (by omega)
            have e4 : IntKind.i64.wrap ((j : Int) + 2 - 1) = j + 1 := by rw [show (j : Int) + 2 - 1 = j + 1 by omega]; exact w64 (by omega) (by omega)
            have e5 : ((j : Int) + 1).toNat = j + 1 := by omega
            have e6 : ((j + 2 : Nat) : Int) = j + 2 := by omega
            have e7 : ((j + 1 : Nat) : Int) = j + 1 := by omega
            have n1 : ¬ (x24.length : Int) ≤ j := by omega
            have n2 : (x24.length : Int) ≤ j + 1 := by omega
            simp only [Bool.not_true, Bool.not_false, Bool.true_eq_false, SE.den, evU, evT, ev_le, ev_eq, ev_eqs, ev_eqb, ev_slt, ev_and, ev_or, ev_add, ev_sub, ev_mul, ev_tdiv, ev_tmod, ev_band, ev_bor, ev_bxor, ev_bandn, ev_shl, ev_shr, ev_cat, ev_byte, ev_idx, ev_cons, ev_snoc, ev_app, ev_take, ev_drop, ev_stake, ev_sdrop, ev_rep, leB_q, eqB_q, eqsB_q, not_q, i_if, b_if, l_if, s_if, i_int, b_bool, s_str, l_list, envL, List.getElem?_cons_succ, List.getElem?_cons_zero, List.getElem?_nil, Option.getD_some, Option.getD_none, Int.toNat_natCast, Int.toNat_zero, Int.reduceToNat, List.length_map, get_Li, get_Lb, get_Ls, set_Li, inj_Li, inj_Lb, inj_Ls, rows_i, rows_b, rows_s, Int.zero_add, iff_true, iff_false, and_true, true_and, Bool.false_eq_true, eq_self, not_true_eq_false, not_false_eq_true, List.length_replicate, DV.int.injEq, DV.bool.injEq, DV.str.injEq, DV.list.injEq, List.cons.injEq, f_ib_0, rows_ib, inj_Lib, f_ib_1, rows_ib, inj_Lib, f_ii_0, rows_ii, inj_Lii, f_ii_1, rows_ii, inj_Lii, f_iii_0, rows_iii, inj_Liii, f_iii_1, rows_iii, inj_Liii, f_iii_2, rows_iii, inj_Liii, List.cons_append, List.nil_append, e1, e2, e3, e4, e5, e6, e7]
            rw [← hN]
            simp [n1, n2, h2, askN, Nx.ds, watchT, outT, *]
            try omega
          · intro j h1 h2 h3 hx
            cases hx
        · intro j hj hx
          cases hx
          rw [lenT]
          simp only [Bool.not_true, Bool.not_false, Bool.true_eq_false, SE.den, evU, evT, ev_le, ev_eq, ev_eqs, ev_eqb, ev_slt, ev_and, ev_or, ev_add, ev_sub, ev_mul, ev_tdiv, ev_tmod, ev_band, ev_bor, ev_bxor, ev_bandn, ev_shl, ev_shr, ev_cat, ev_byte, ev_idx, ev_cons, ev_snoc, ev_app, ev_take, ev_drop, ev_stake, ev_sdrop, ev_rep, leB_q, eqB_q, eqsB_q, not_q, i_if, b_if, l_if, s_if, i_int, b_bool, s_str, l_list, envL, List.getElem?_cons_succ, List.getElem?_cons_zero, List.getElem?_nil, Option.getD_some, Option.getD_none, Int.toNat_natCast, Int.toNat_zero, Int.reduceToNat, List.length_map, get_Li, get_Lb, get_Ls, set_Li, inj_Li, inj_Lb, inj_Ls, rows_i, rows_b, rows_s, Int.zero_add, iff_true, iff_false, and_true, true_and, Bool.false_eq_true, eq_self, not_true_eq_false, not_false_eq_true, List.length_replicate, DV.int.injEq, DV.bool.injEq, DV.str.injEq, DV.list.injEq, List.cons.injEq, f_ib_0, rows_ib, inj_Lib, f_ib_1, rows_ib, inj_Lib, f_ii_0, rows_ii, inj_Lii, f_ii_1, rows_ii, inj_Lii, f_iii_0, rows_iii, inj_Liii, f_iii_1, rows_iii, inj_Liii, f_iii_2, rows_iii, inj_Liii, List.cons_append, List.nil_append]
          refine ⟨fun h => absurd (Int.le_refl _) h, fun _ => ?_⟩
          rw [← hN]
          simp [outT, doneN, Nx.ds, *]
  · rw [wait_err (fun h => hst h.2.1)]; rfl
  · rw [wait_err (fun h => by omega)]; rfl
end Go.Proofs.Ytolphdchkbcoeaa
