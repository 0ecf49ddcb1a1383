/- LockExclusive: the law returns true for every input, and each argument reads afterwards as it read before. No condition. -/
import Derived.Test.YtjkdenancggndaaLockExT
namespace Go.Proofs.Ytjkdenancggndaa
set_option linter.unusedVariables false
set_option linter.unusedSimpArgs false
set_option maxRecDepth 100000

set_option maxHeartbeats 8000000 in
theorem lockEx_pure : Pure Try.prog 3 [.agg [.rows false [.int .u8], .rows false [.int .u8], .rows false [.int .u8], .rows false [.int .u8]]] [.one (.pl .bool)] (Wts (clsOf [.agg [.rows false [.int .u8], .rows false [.int .u8], .rows false [.int .u8], .rows false [.int .u8]]])) lockExF := by
  refine pure_tree (X := ⟨Try.prog, lockExSm, lockExLa⟩) (Checked.mixed Try.checked) lockExS (by decide +kernel) (by decide +kernel) lockExT (by decide +kernel) ?_
  intro ds hl hp
  obtain ⟨d0, d1, d2, d3, rfl⟩ := len4 hl
  obtain ⟨_, _, he, w0, hp⟩ := hp
  cases he
  have b0 : ((d0.l.map DV.i).length : Int) ≤ 9223372036854775807 := by rw [List.length_map]; exact wt_len w0
  have v0 : ∀ v ∈ d0.l.map DV.i, 0 ≤ v ∧ v ≤ 255 := wt_ints w0 rfl rfl
  clear w0
  obtain ⟨_, _, he, w1, hp⟩ := hp
  cases he
  have b1 : ((d1.l.map DV.i).length : Int) ≤ 9223372036854775807 := by rw [List.length_map]; exact wt_len w1
  have v1 : ∀ v ∈ d1.l.map DV.i, 0 ≤ v ∧ v ≤ 255 := wt_ints w1 rfl rfl
  clear w1
  obtain ⟨_, _, he, w2, hp⟩ := hp
  cases he
  have b2 : ((d2.l.map DV.i).length : Int) ≤ 9223372036854775807 := by rw [List.length_map]; exact wt_len w2
  have v2 : ∀ v ∈ d2.l.map DV.i, 0 ≤ v ∧ v ≤ 255 := wt_ints w2 rfl rfl
  clear w2
  obtain ⟨_, _, he, w3, hp⟩ := hp
  cases he
  have b3 : ((d3.l.map DV.i).length : Int) ≤ 9223372036854775807 := by rw [List.length_map]; exact wt_len w3
  have v3 : ∀ v ∈ d3.l.map DV.i, 0 ≤ v ∧ v ≤ 255 := wt_ints w3 rfl rfl
  clear w3
  have hN : nrmL (clsOf [.agg [.rows false [.int .u8], .rows false [.int .u8], .rows false [.int .u8], .rows false [.int .u8]]]) [d0, d1, d2, d3] = [.list ((d0.l.map DV.i).map DV.int), .list ((d1.l.map DV.i).map DV.int), .list ((d2.l.map DV.i).map DV.int), .list ((d3.l.map DV.i).map DV.int)] := by
    simp only [clsOf, Sh.cls, List.append_nil, List.cons_append, List.nil_append, nrmL, Cl.nrm, CK.nrm, map_Li]
  have hF : lockExF [d0, d1, d2, d3] = [.bool true] := rfl
  rw [hN, hF]
  clear hN hp hl hF
  generalize d0.l.map DV.i = x0 at b0 v0 ⊢
  generalize d1.l.map DV.i = x1 at b1 v1 ⊢
  generalize d2.l.map DV.i = x2 at b2 v2 ⊢
  generalize d3.l.map DV.i = x3 at b3 v3 ⊢
  refine ⟨(rng_ok (e := .un .len (.var 0)) (Int.natCast_nonneg _) (by show ((x0.map _).length : Int) ≤ _; rw [List.length_map]; exact b0) (rng_ok (e := .un .len (.var 1)) (Int.natCast_nonneg _) (by show ((x1.map _).length : Int) ≤ _; rw [List.length_map]; exact b1) (rng_ok (e := .un .len (.var 2)) (Int.natCast_nonneg _) (by show ((x2.map _).length : Int) ≤ _; rw [List.length_map]; exact b2) (rng_ok (e := .un .len (.var 3)) (Int.natCast_nonneg _) (by show ((x3.map _).length : Int) ≤ _; rw [List.length_map]; exact b3) (facts_nil _))))), ?_⟩
  unfold lockExTree
  simp only [Sat, clsOf, Sh.cls, List.append_nil, List.cons_append, List.nil_append, nrmL, Cl.nrm, CK.nrm, List.map_cons, List.map_nil, List.length_cons, List.length_nil, List.cons.injEq, DV.bool.injEq, DV.int.injEq, DV.list.injEq, DV.str.injEq, and_true, true_and, lockExN0, lockExN1, lockExN2, lockExN3, lockExN4, lockExN5, lockExN6, lockExN7, lockExN8, lockExN9, lockExN10, lockExN11, lockExN12, lockExN13, lockExN14, lockExN15, lockExN16, lockExN17, lockExN18, lockExN19, lockExN20, lockExN21, lockExN22, lockExN23, lockExN24, lockExN25, lockExN26, lockExN27, lockExN28, lockExN29, lockExN30, lockExN31, lockExN32, lockExN33, lockExN34, lockExN35, lockExN36, lockExN37, lockExN38, lockExN39, lockExN40, lockExN41, lockExN42, lockExN43, lockExN44, lockExN45, lockExN46, lockExN47, lockExN48, lockExN49, lockExN50, lockExN51, lockExN52, lockExN53, lockExN54, lockExN55, lockExN56, lockExN57, lockExN58, lockExN59, lockExN60, lockExN61, lockExN62, lockExN63, lockExN64, lockExN65, lockExN66, lockExN67, lockExN68, lockExN69, lockExN70, lockExN71, lockExN72, lockExN73, lockExN74, lockExN75, lockExN76, lockExN77, lockExN78, lockExN79, lockExN80, lockExN81, lockExN82, lockExN83, lockExN84, lockExN85, lockExN86, lockExN87, lockExN88, lockExN89, lockExN90, lockExN91, lockExN92, lockExN93, lockExN94, lockExN95, lockExN96, lockExN97, lockExN98, lockExN99, lockExN100, lockExN101, lockExN102, lockExN103, lockExN104, lockExN105, lockExN106, lockExN107, lockExN108, lockExN109, lockExN110, lockExN111, lockExN112, lockExN113, lockExN114, lockExN115, lockExN116, lockExN117, lockExN118, lockExN119, lockExN120, lockExN121, lockExN122, lockExN123, lockExN124, lockExN125, lockExN126, lockExN127, lockExN128, lockExN129, lockExN130, lockExN131, lockExN132, lockExN133, lockExN134, lockExN135, lockExN136, lockExN137, lockExN138, lockExN139, lockExN140, lockExN141, lockExN142, lockExN143, lockExN144, lockExN145, lockExN146, lockExN147, lockExN148, lockExN149, lockExN150, lockExN151, lockExN152, lockExN153, lockExN154, lockExN155, lockExN156, lockExN157, lockExN158, lockExN159, lockExN160, lockExN161, lockExN162, lockExN163, lockExN164, lockExN165, lockExN166, lockExN167, lockExN168, lockExN169, lockExN170, lockExN171, lockExN172, lockExN173, lockExN174, lockExN175, lockExN176, lockExN177, lockExN178, lockExN179, lockExN180, lockExN181, lockExN182, lockExN183, lockExN184, lockExN185, lockExN186]
  simp only [q_le, q_eq, q_eqs, q_eqb, q_and, q_or, q_not, q_bool, iff_true, iff_false, Bool.not_true, Bool.not_false, Bool.false_eq_true, Bool.true_eq_false, eq_self, Bool.not_not]
  simp only [Bool.not_true, Bool.not_false, Bool.true_eq_false, SE.den, evU, evT, ev_le, ev_eq, ev_eqs, ev_eqb, ev_slt, ev_and, ev_or, ev_add, ev_sub, ev_mul, ev_tdiv, ev_tmod, ev_band, ev_bor, ev_bxor, ev_bandn, ev_shl, ev_shr, ev_cat, ev_byte, ev_idx, ev_cons, ev_snoc, ev_app, ev_take, ev_drop, ev_stake, ev_sdrop, ev_rep, leB_q, eqB_q, eqsB_q, not_q, i_if, b_if, l_if, s_if, i_int, b_bool, s_str, l_list, envL, List.getElem?_cons_succ, List.getElem?_cons_zero, List.getElem?_nil, Option.getD_some, Option.getD_none, Int.toNat_natCast, Int.toNat_zero, Int.reduceToNat, List.length_map, get_Li, get_Lb, get_Ls, set_Li, inj_Li, inj_Lb, inj_Ls, rows_i, rows_b, rows_s, Int.zero_add, iff_true, iff_false, and_true, true_and, Bool.false_eq_true, eq_self, not_true_eq_false, not_false_eq_true, List.length_replicate, DV.int.injEq, DV.bool.injEq, DV.str.injEq, DV.list.injEq, List.cons.injEq, f_ib_0, rows_ib, inj_Lib, f_ib_1, rows_ib, inj_Lib, f_ii_0, rows_ii, inj_Lii, f_ii_1, rows_ii, inj_Lii, f_iii_0, rows_iii, inj_Liii, f_iii_1, rows_iii, inj_Liii, f_iii_2, rows_iii, inj_Liii, lockExPhi, lSane16F, lSane16E, layOfF, layOfE, layWordF, layWordE, layValF, layValE, lkNextF, lkNextE, memDoF, memDoE, rCellF, rCellE, gi, gb, gs, gLi, gLu, gLb, gLs, dece_i, dece_b, dece_s, gLib, deces_ib, gLii, deces_ii, gLiii, deces_iii, lSane16E]
  refine ⟨fun h3 => ⟨fun h0 => ⟨fun h1 => ⟨fun _ => trivial, fun h2 => ?_⟩, fun _ => trivial⟩, fun _ => trivial⟩, fun _ => trivial⟩
  have hWl : ∀ j, j < 3 → ((WX x0 x1 x2) j).length ≤ 8 := fun j hj => by
    unfold WX
    split
    · omega
    · split <;> omega
  have hK2 : wr 2000 = 2000 := rfl
  have hK1 : wr 1000 = 1000 := rfl
  have hK0 : wr 0 = 0 := rfl
  refine rounds_inv (fun y => ∃ (i : Nat) (t : Tab) (s : Nat → Seat), y = encQ i t (s 0) (s 1) (s 2) ∧ i ≤ x3.length ∧ ∃ cur hd, Inv (WX x0 x1 x2) t s cur hd) (fun y => x3.length - ((y[0]?).getD (DV.int 0)).i.toNat) ⟨0, ⟨List.replicate 24 0, 0, [0], false⟩, sX, rfl, Nat.zero_le _, 0, fun _ => false, inv_X _ hWl⟩ ?_
  rintro y ⟨i, t, s, rfl, hi, cur, hd, hI⟩
  by_cases hil : i < x3.length
  · have hv : 0 ≤ x3[i]?.getD 0 ∧ x3[i]?.getD 0 ≤ 255 := by
      rw [List.getElem?_eq_getElem hil]
      exact v3 _ (List.getElem_mem _)
    right
    have hwho : (wr (x3[i]?.getD 0)).tmod 3 = x3[i]?.getD 0 % 3 := by rw [wr_id (by omega) (by omega), Int.tmod_eq_emod_of_nonneg hv.1]
    have hi1 : IntKind.i64.wrap ((i : Int) + 1) = ((i + 1 : Nat) : Int) := by rw [w64 (by omega) (by omega)]; omega
    have hi2 : ¬ (x3.length : Int) ≤ i := by omega
    rcases (by omega : x3[i]?.getD 0 % 3 = 2 ∨ x3[i]?.getD 0 % 3 = 1 ∨ x3[i]?.getD 0 % 3 = 0) with hk | hk | hk
    · rw [hk] at hwho
      obtain ⟨c', hd', hcc, hI'⟩ := turn_inv hI (show 2 < 3 by omega)
      refine ⟨encQ ((i + 1 : Nat) : Int) (turnM 2 x2 t (s 2)).1 (s 0) (s 1) (turnM 2 x2 t (s 2)).2, ?_, rfl, ⟨i + 1, _, _, rfl, by omega, c', hd', hI'⟩, by simp only [encQ, Bool.not_true, Bool.not_false, Bool.true_eq_false, SE.den, evU, evT, ev_le, ev_eq, ev_eqs, ev_eqb, ev_slt, ev_and, ev_or, ev_add, ev_sub, ev_mul, ev_tdiv, ev_tmod, ev_band, ev_bor, ev_bxor, ev_bandn, ev_shl, ev_shr, ev_cat, ev_byte, ev_idx, ev_cons, ev_snoc, ev_app, ev_take, ev_drop, ev_stake, ev_sdrop, ev_rep, leB_q, eqB_q, eqsB_q, not_q, i_if, b_if, l_if, s_if, i_int, b_bool, s_str, l_list, envL, List.getElem?_cons_succ, List.getElem?_cons_zero, List.getElem?_nil, Option.getD_some, Option.getD_none, Int.toNat_natCast, Int.toNat_zero, Int.reduceToNat, List.length_map, get_Li, get_Lb, get_Ls, set_Li, inj_Li, inj_Lb, inj_Ls, rows_i, rows_b, rows_s, Int.zero_add, iff_true, iff_false, and_true, true_and, Bool.false_eq_true, eq_self, not_true_eq_false, not_false_eq_true, List.length_replicate, DV.int.injEq, DV.bool.injEq, DV.str.injEq, DV.list.injEq, List.cons.injEq, f_ib_0, rows_ib, inj_Lib, f_ib_1, rows_ib, inj_Lib, f_ii_0, rows_ii, inj_Lii, f_ii_1, rows_ii, inj_Lii, f_iii_0, rows_iii, inj_Liii, f_iii_1, rows_iii, inj_Liii, f_iii_2, rows_iii, inj_Liii]; omega⟩
      clear hI'
      have hme : (2 : Nat) < 3 := by omega
      have hx := (hI.small).2 2 hme
      have hnn := (hI.small).1
      have hnb := hI.nb
      have hml := hI.ml
      have hb : ¬ t.bad = true := by rw [hnb]; simp
      have hrdok := Inv.rdok hI hme
      have hWme : WX x0 x1 x2 2 = x2 := rfl
      rw [hWme] at hrdok
      generalize s 2 = x at *
      have hm1 : (t.m.length : Int) ≤ 1000000 := by omega
      have hl1 : (x.log.length : Int) ≤ 4294967296 := by omega
      have hl2 : (x.log.length : Int) + 1 ≤ 4294967296 := by omega
      have hv1 : (t.vals.length : Int) + 1 ≤ 4294967296 := by omega
      have hx0 : 0 ≤ x.nx := hx.2.1
      clear hI
      simp only [encQ, Bool.not_true, Bool.not_false, Bool.true_eq_false, SE.den, evU, evT, ev_le, ev_eq, ev_eqs, ev_eqb, ev_slt, ev_and, ev_or, ev_add, ev_sub, ev_mul, ev_tdiv, ev_tmod, ev_band, ev_bor, ev_bxor, ev_bandn, ev_shl, ev_shr, ev_cat, ev_byte, ev_idx, ev_cons, ev_snoc, ev_app, ev_take, ev_drop, ev_stake, ev_sdrop, ev_rep, leB_q, eqB_q, eqsB_q, not_q, i_if, b_if, l_if, s_if, i_int, b_bool, s_str, l_list, envL, List.getElem?_cons_succ, List.getElem?_cons_zero, List.getElem?_nil, Option.getD_some, Option.getD_none, Int.toNat_natCast, Int.toNat_zero, Int.reduceToNat, List.length_map, get_Li, get_Lb, get_Ls, set_Li, inj_Li, inj_Lb, inj_Ls, rows_i, rows_b, rows_s, Int.zero_add, iff_true, iff_false, and_true, true_and, Bool.false_eq_true, eq_self, not_true_eq_false, not_false_eq_true, List.length_replicate, DV.int.injEq, DV.bool.injEq, DV.str.injEq, DV.list.injEq, List.cons.injEq, f_ib_0, rows_ib, inj_Lib, f_ib_1, rows_ib, inj_Lib, f_ii_0, rows_ii, inj_Lii, f_ii_1, rows_ii, inj_Lii, f_iii_0, rows_iii, inj_Liii, f_iii_1, rows_iii, inj_Liii, f_iii_2, rows_iii, inj_Liii, lockExPhi, lSane16F, lSane16E, layOfF, layOfE, layWordF, layWordE, layValF, layValE, lkNextF, lkNextE, memDoF, memDoE, rCellF, rCellE, gi, gb, gs, gLi, gLu, gLb, gLs, dece_i, dece_b, dece_s, gLib, deces_ib, gLii, deces_ii, gLiii, deces_iii, List.cons_append, List.nil_append, hi1, hi2, hwho, nx_0, nx_1, nx_2, nx_3, nx_4, nx_5, nx_6, nx_7, nx_8, nx_9, nx_10, nx_11, nx_12, deces_ib, lkP_fold2, acM_fold2, wr_fold2, Int.reduceEq, true_imp_iff, false_imp_iff]
      by_cases c1 : (x2.length : Int) ≤ x.nx
      · have eT : turnM 2 x2 t x = (t, x) := by unfold turnM; rw [if_pos c1]
        simp [eT, c1, hnb, hm1, hl1, hl2, hv1, hx0, encib]
      · by_cases a2 : (x2[x.nx.toNat]?.getD 0).tmod 3 = 0
        · by_cases a3 : (lkP 2 4 0 x.log).done = true
          · by_cases a4 : (lkP 2 4 0 x.log).is = true
            · obtain ⟨k1, k2, k3⟩ := hrdok (by omega) a2 a3 a4
              have k1 : 0 ≤ (lkP 2 4 0 x.log).ver := k1
              have k2 : (lkP 2 4 0 x.log).ver < (t.vals.length : Int) := k2
              have k3 : (lkP 2 4 0 x.log).val = t.vals[(lkP 2 4 0 x.log).ver.toNat]?.getD 0 := k3
              have k2' : ¬ (t.vals.length : Int) ≤ (lkP 2 4 0 x.log).ver := Int.not_le.2 k2
              have hn1 : wr ((t.vals.length : Int) - 1) = (t.vals.length : Int) - 1 := wr_id (by omega) (by omega)
              have hn2 : ¬ ((t.vals.length : Int) < 1) := by omega
              have hn3 : ¬ ((t.vals.length : Int) - 1 < (lkP 2 4 0 x.log).ver) := by omega
              have eT : turnM 2 x2 t x = (⟨t.m, t.held, t.vals, false⟩, ⟨wr (x.nx + 1), x.st, [], x.ver⟩) := by unfold turnM; rw [if_neg c1, if_neg hb, if_pos a2, if_pos a3, if_pos a4, if_pos k1, if_neg k2', if_pos k3]
              simp [eT, c1, a2, a3, a4, hnb, k1, k2', k3, hn1, hn2, hn3, hx0]
              try omega
            · have eT : turnM 2 x2 t x = (⟨t.m, t.held, t.vals, false⟩, ⟨wr (x.nx + 1), x.st, [], x.ver⟩) := by unfold turnM; rw [if_neg c1, if_neg hb, if_pos a2, if_pos a3, if_neg a4]
              simp [eT, c1, a2, a3, a4, hnb, hm1, hl1, hl2, hv1, hx0, encib]
          · have eT : turnM 2 x2 t x = (⟨(acM t.m (lkP 2 4 0 x.log)).1, t.held, t.vals, decide (¬ (acM t.m (lkP 2 4 0 x.log)).2.2 = 0)⟩, ⟨x.nx, x.st, x.log ++ [(acM t.m (lkP 2 4 0 x.log)).2.1], x.ver⟩) := by unfold turnM; rw [if_neg c1, if_neg hb, if_pos a2, if_neg a3]
            simp [eT, c1, a2, a3, hnb, hm1, hl1, hl2, hv1, hx0, encib]
        · by_cases b1 : x.st = 1
          · have eT : turnM 2 x2 t x = (⟨(doM t.m 2 (placeM 16 2 0 4 1) 0 (wr (wr (wr (1000 * 2) + wr (10 * x.nx)) + 5)) []).1, t.held, t.vals ++ [(wr (wr (wr (1000 * 2) + wr (10 * x.nx)) + 5))], decide (¬ (doM t.m 2 (placeM 16 2 0 4 1) 0 (wr (wr (wr (1000 * 2) + wr (10 * x.nx)) + 5)) []).2.2 = 0)⟩, ⟨x.nx, 2, x.log, x.ver⟩) := by unfold turnM; rw [if_neg c1, if_neg hb, if_neg a2, if_pos b1]
            simp [eT, c1, a2, b1, hnb, hm1, hl1, hl2, hv1, hx0, encib, pl_v, hK2, hK1, hK0]
          · by_cases b2 : x.st = 0
            · by_cases a3 : (lkP 2 1 0 x.log).done = true
              · by_cases a4 : (lkP 2 1 0 x.log).is = true
                · have eT : turnM 2 x2 t x = (⟨t.m, t.held, t.vals, decide (¬ (lkP 2 1 0 x.log).ver = wr ((t.vals.length : Int) - 1))⟩, ⟨x.nx, 1, [], (lkP 2 1 0 x.log).ver⟩) := by unfold turnM; rw [if_neg c1, if_neg hb, if_neg a2, if_neg b1, if_pos b2, if_pos a3, if_pos a4]
                  simp [eT, c1, a2, b2, a3, a4, hnb, hm1, hl1, hl2, hv1, hx0, encib]
                · have eT : turnM 2 x2 t x = (t, ⟨x.nx, x.st, [], x.ver⟩) := by unfold turnM; rw [if_neg c1, if_neg hb, if_neg a2, if_neg b1, if_pos b2, if_pos a3, if_neg a4]
                  simp [eT, c1, a2, b2, a3, a4, hnb, hm1, hl1, hl2, hv1, hx0, encib]
              · by_cases a4 : (lkP 2 1 0 x.log).k = 3 ∧ (acM t.m (lkP 2 1 0 x.log)).2.1.2 = true
                · by_cases a5 : (acM t.m (lkP 2 1 0 x.log)).2.2 = 0
                  · have eT : turnM 2 x2 t x = (⟨(acM t.m (lkP 2 1 0 x.log)).1, wr (t.held + 1), t.vals, decide (¬ wr (t.held + 1) = 1)⟩, ⟨x.nx, x.st, x.log ++ [(acM t.m (lkP 2 1 0 x.log)).2.1], x.ver⟩) := by unfold turnM; rw [if_neg c1, if_neg hb, if_neg a2, if_neg b1, if_pos b2, if_neg a3, if_pos a4, if_pos a5]
                    simp [eT, c1, a2, b2, a3, a4.1, a4.2, a5, hnb, hm1, hl1, hl2, hv1, hx0, encib]
                  · have eT : turnM 2 x2 t x = (⟨(acM t.m (lkP 2 1 0 x.log)).1, wr (t.held + 1), t.vals, true⟩, ⟨x.nx, x.st, x.log ++ [(acM t.m (lkP 2 1 0 x.log)).2.1], x.ver⟩) := by unfold turnM; rw [if_neg c1, if_neg hb, if_neg a2, if_neg b1, if_pos b2, if_neg a3, if_pos a4, if_neg a5]
                    simp [eT, c1, a2, b2, a3, a4.1, a4.2, a5, hnb, hm1, hl1, hl2, hv1, hx0, encib]
                · have eT : turnM 2 x2 t x = (⟨(acM t.m (lkP 2 1 0 x.log)).1, t.held, t.vals, decide (¬ (acM t.m (lkP 2 1 0 x.log)).2.2 = 0)⟩, ⟨x.nx, x.st, x.log ++ [(acM t.m (lkP 2 1 0 x.log)).2.1], x.ver⟩) := by unfold turnM; rw [if_neg c1, if_neg hb, if_neg a2, if_neg b1, if_pos b2, if_neg a3, if_neg a4]
                  simp [eT, c1, a2, b2, a3, hnb, hm1, hl1, hl2, hv1, hx0, encib]
                  try (intro h5 h6; exact absurd ⟨h5, h6⟩ a4)
            · by_cases a3 : (lkP 2 2 (wr (x.ver + 1)) x.log).done = true
              · have eT : turnM 2 x2 t x = (t, ⟨wr (x.nx + 1), 0, [], 0⟩) := by unfold turnM; rw [if_neg c1, if_neg hb, if_neg a2, if_neg b1, if_neg b2, if_pos a3]
                simp [eT, c1, a2, b1, b2, a3, hnb, hm1, hl1, hl2, hv1, hx0, encib]
              · by_cases b3 : x.st = 2
                · have eT : turnM 2 x2 t x = (⟨(acM t.m (lkP 2 2 (wr (x.ver + 1)) x.log)).1, wr (t.held - 1), t.vals, decide (¬ (acM t.m (lkP 2 2 (wr (x.ver + 1)) x.log)).2.2 = 0)⟩, ⟨x.nx, x.st, x.log ++ [(acM t.m (lkP 2 2 (wr (x.ver + 1)) x.log)).2.1], x.ver⟩) := by unfold turnM; rw [if_neg c1, if_neg hb, if_neg a2, if_neg b1, if_neg b2, if_neg a3, if_pos b3]
                  simp [eT, c1, a2, b1, b2, b3, a3, hnb, hm1, hl1, hl2, hv1, hx0, encib]
                · have eT : turnM 2 x2 t x = (⟨(acM t.m (lkP 2 2 (wr (x.ver + 1)) x.log)).1, t.held, t.vals, decide (¬ (acM t.m (lkP 2 2 (wr (x.ver + 1)) x.log)).2.2 = 0)⟩, ⟨x.nx, x.st, x.log ++ [(acM t.m (lkP 2 2 (wr (x.ver + 1)) x.log)).2.1], x.ver⟩) := by unfold turnM; rw [if_neg c1, if_neg hb, if_neg a2, if_neg b1, if_neg b2, if_neg a3, if_neg b3]
                  simp [eT, c1, a2, b1, b2, b3, a3, hnb, hm1, hl1, hl2, hv1, hx0, encib]
    · rw [hk] at hwho
      obtain ⟨c', hd', hcc, hI'⟩ := turn_inv hI (show 1 < 3 by omega)
      refine ⟨encQ ((i + 1 : Nat) : Int) (turnM 1 x1 t (s 1)).1 (s 0) (turnM 1 x1 t (s 1)).2 (s 2), ?_, rfl, ⟨i + 1, _, _, rfl, by omega, c', hd', hI'⟩, by simp only [encQ, Bool.not_true, Bool.not_false, Bool.true_eq_false, SE.den, evU, evT, ev_le, ev_eq, ev_eqs, ev_eqb, ev_slt, ev_and, ev_or, ev_add, ev_sub, ev_mul, ev_tdiv, ev_tmod, ev_band, ev_bor, ev_bxor, ev_bandn, ev_shl, ev_shr, ev_cat, ev_byte, ev_idx, ev_cons, ev_snoc, ev_app, ev_take, ev_drop, ev_stake, ev_sdrop, ev_rep, leB_q, eqB_q, eqsB_q, not_q, i_if, b_if, l_if, s_if, i_int, b_bool, s_str, l_list, envL, List.getElem?_cons_succ, List.getElem?_cons_zero, List.getElem?_nil, Option.getD_some, Option.getD_none, Int.toNat_natCast, Int.toNat_zero, Int.reduceToNat, List.length_map, get_Li, get_Lb, get_Ls, set_Li, inj_Li, inj_Lb, inj_Ls, rows_i, rows_b, rows_s, Int.zero_add, iff_true, iff_false, and_true, true_and, Bool.false_eq_true, eq_self, not_true_eq_false, not_false_eq_true, List.length_replicate, DV.int.injEq, DV.bool.injEq, DV.str.injEq, DV.list.injEq, List.cons.injEq, f_ib_0, rows_ib, inj_Lib, f_ib_1, rows_ib, inj_Lib, f_ii_0, rows_ii, inj_Lii, f_ii_1, rows_ii, inj_Lii, f_iii_0, rows_iii, inj_Liii, f_iii_1, rows_iii, inj_Liii, f_iii_2, rows_iii, inj_Liii]; omega⟩
      clear hI'
      have hme : (1 : Nat) < 3 := by omega
      have hx := (hI.small).2 1 hme
      have hnn := (hI.small).1
      have hnb := hI.nb
      have hml := hI.ml
      have hb : ¬ t.bad = true := by rw [hnb]; simp
      have hrdok := Inv.rdok hI hme
      have hWme : WX x0 x1 x2 1 = x1 := rfl
      rw [hWme] at hrdok
      generalize s 1 = x at *
      have hm1 : (t.m.length : Int) ≤ 1000000 := by omega
      have hl1 : (x.log.length : Int) ≤ 4294967296 := by omega
      have hl2 : (x.log.length : Int) + 1 ≤ 4294967296 := by omega
      have hv1 : (t.vals.length : Int) + 1 ≤ 4294967296 := by omega
      have hx0 : 0 ≤ x.nx := hx.2.1
      clear hI
      simp only [encQ, Bool.not_true, Bool.not_false, Bool.true_eq_false, SE.den, evU, evT, ev_le, ev_eq, ev_eqs, ev_eqb, ev_slt, ev_and, ev_or, ev_add, ev_sub, ev_mul, ev_tdiv, ev_tmod, ev_band, ev_bor, ev_bxor, ev_bandn, ev_shl, ev_shr, ev_cat, ev_byte, ev_idx, ev_cons, ev_snoc, ev_app, ev_take, ev_drop, ev_stake, ev_sdrop, ev_rep, leB_q, eqB_q, eqsB_q, not_q, i_if, b_if, l_if, s_if, i_int, b_bool, s_str, l_list, envL, List.getElem?_cons_succ, List.getElem?_cons_zero, List.getElem?_nil, Option.getD_some, Option.getD_none, Int.toNat_natCast, Int.toNat_zero, Int.reduceToNat, List.length_map, get_Li, get_Lb, get_Ls, set_Li, inj_Li, inj_Lb, inj_Ls, rows_i, rows_b, rows_s, Int.zero_add, iff_true, iff_false, and_true, true_and, Bool.false_eq_true, eq_self, not_true_eq_false, not_false_eq_true, List.length_replicate, DV.int.injEq, DV.bool.injEq, DV.str.injEq, DV.list.injEq, List.cons.injEq, f_ib_0, rows_ib, inj_Lib, f_ib_1, rows_ib, inj_Lib, f_ii_0, rows_ii, inj_Lii, f_ii_1, rows_ii, inj_Lii, f_iii_0, rows_iii, inj_Liii, f_iii_1, rows_iii, inj_Liii, f_iii_2, rows_iii, inj_Liii, lockExPhi, lSane16F, lSane16E, layOfF, layOfE, layWordF, layWordE, layValF, layValE, lkNextF, lkNextE, memDoF, memDoE, rCellF, rCellE, gi, gb, gs, gLi, gLu, gLb, gLs, dece_i, dece_b, dece_s, gLib, deces_ib, gLii, deces_ii, gLiii, deces_iii, List.cons_append, List.nil_append, hi1, hi2, hwho, nx_0, nx_1, nx_2, nx_3, nx_4, nx_5, nx_6, nx_7, nx_8, nx_9, nx_10, nx_11, nx_12, deces_ib, lkP_fold2, acM_fold2, wr_fold2, Int.reduceEq, true_imp_iff, false_imp_iff]
      by_cases c1 : (x1.length : Int) ≤ x.nx
      · have eT : turnM 1 x1 t x = (t, x) := by unfold turnM; rw [if_pos c1]
        simp [eT, c1, hnb, hm1, hl1, hl2, hv1, hx0, encib]
      · by_cases a2 : (x1[x.nx.toNat]?.getD 0).tmod 3 = 0
        · by_cases a3 : (lkP 1 4 0 x.log).done = true
          · by_cases a4 : (lkP 1 4 0 x.log).is = true
            · obtain ⟨k1, k2, k3⟩ := hrdok (by omega) a2 a3 a4
              have k1 : 0 ≤ (lkP 1 4 0 x.log).ver := k1
              have k2 : (lkP 1 4 0 x.log).ver < (t.vals.length : Int) := k2
              have k3 : (lkP 1 4 0 x.log).val = t.vals[(lkP 1 4 0 x.log).ver.toNat]?.getD 0 := k3
              have k2' : ¬ (t.vals.length : Int) ≤ (lkP 1 4 0 x.log).ver := Int.not_le.2 k2
              have hn1 : wr ((t.vals.length : Int) - 1) = (t.vals.length : Int) - 1 := wr_id (by omega) (by omega)
              have hn2 : ¬ ((t.vals.length : Int) < 1) := by omega
              have hn3 : ¬ ((t.vals.length : Int) - 1 < (lkP 1 4 0 x.log).ver) := by omega
              have eT : turnM 1 x1 t x = (⟨t.m, t.held, t.vals, false⟩, ⟨wr (x.nx + 1), x.st, [], x.ver⟩) := by unfold turnM; rw [if_neg c1, if_neg hb, if_pos a2, if_pos a3, if_pos a4, if_pos k1, if_neg k2', if_pos k3]
              simp [eT, c1, a2, a3, a4, hnb, k1, k2', k3, hn1, hn2, hn3, hx0]
              try omega
            · have eT : turnM 1 x1 t x = (⟨t.m, t.held, t.vals, false⟩, ⟨wr (x.nx + 1), x.st, [], x.ver⟩) := by unfold turnM; rw [if_neg c1, if_neg hb, if_pos a2, if_pos a3, if_neg a4]
              simp [eT, c1, a2, a3, a4, hnb, hm1, hl1, hl2, hv1, hx0, encib]
          · have eT : turnM 1 x1 t x = (⟨(acM t.m (lkP 1 4 0 x.log)).1, t.held, t.vals, decide (¬ (acM t.m (lkP 1 4 0 x.log)).2.2 = 0)⟩, ⟨x.nx, x.st, x.log ++ [(acM t.m (lkP 1 4 0 x.log)).2.1], x.ver⟩) := by unfold turnM; rw [if_neg c1, if_neg hb, if_pos a2, if_neg a3]
            simp [eT, c1, a2, a3, hnb, hm1, hl1, hl2, hv1, hx0, encib]
        · by_cases b1 : x.st = 1
          · have eT : turnM 1 x1 t x = (⟨(doM t.m 2 (placeM 16 2 0 4 1) 0 (wr (wr (wr (1000 * 1) + wr (10 * x.nx)) + 5)) []).1, t.held, t.vals ++ [(wr (wr (wr (1000 * 1) + wr (10 * x.nx)) + 5))], decide (¬ (doM t.m 2 (placeM 16 2 0 4 1) 0 (wr (wr (wr (1000 * 1) + wr (10 * x.nx)) + 5)) []).2.2 = 0)⟩, ⟨x.nx, 2, x.log, x.ver⟩) := by unfold turnM; rw [if_neg c1, if_neg hb, if_neg a2, if_pos b1]
            simp [eT, c1, a2, b1, hnb, hm1, hl1, hl2, hv1, hx0, encib, pl_v, hK2, hK1, hK0]
          · by_cases b2 : x.st = 0
            · by_cases a3 : (lkP 1 1 0 x.log).done = true
              · by_cases a4 : (lkP 1 1 0 x.log).is = true
                · have eT : turnM 1 x1 t x = (⟨t.m, t.held, t.vals, decide (¬ (lkP 1 1 0 x.log).ver = wr ((t.vals.length : Int) - 1))⟩, ⟨x.nx, 1, [], (lkP 1 1 0 x.log).ver⟩) := by unfold turnM; rw [if_neg c1, if_neg hb, if_neg a2, if_neg b1, if_pos b2, if_pos a3, if_pos a4]
                  simp [eT, c1, a2, b2, a3, a4, hnb, hm1, hl1, hl2, hv1, hx0, encib]
                · have eT : turnM 1 x1 t x = (t, ⟨x.nx, x.st, [], x.ver⟩) := by unfold turnM; rw [if_neg c1, if_neg hb, if_neg a2, if_neg b1, if_pos b2, if_pos a3, if_neg a4]
                  simp [eT, c1, a2, b2, a3, a4, hnb, hm1, hl1, hl2, hv1, hx0, encib]
              · by_cases a4 : (lkP 1 1 0 x.log).k = 3 ∧ (acM t.m (lkP 1 1 0 x.log)).2.1.2 = true
                · by_cases a5 : (acM t.m (lkP 1 1 0 x.log)).2.2 = 0
                  · have eT : turnM 1 x1 t x = (⟨(acM t.m (lkP 1 1 0 x.log)).1, wr (t.held + 1), t.vals, decide (¬ wr (t.held + 1) = 1)⟩, ⟨x.nx, x.st, x.log ++ [(acM t.m (lkP 1 1 0 x.log)).2.1], x.ver⟩) := by unfold turnM; rw [if_neg c1, if_neg hb, if_neg a2, if_neg b1, if_pos b2, if_neg a3, if_pos a4, if_pos a5]
                    simp [eT, c1, a2, b2, a3, a4.1, a4.2, a5, hnb, hm1, hl1, hl2, hv1, hx0, encib]
                  · have eT : turnM 1 x1 t x = (⟨(acM t.m (lkP 1 1 0 x.log)).1, wr (t.held + 1), t.vals, true⟩, ⟨x.nx, x.st, x.log ++ [(acM t.m (lkP 1 1 0 x.log)).2.1], x.ver⟩) := by unfold turnM; rw [if_neg c1, if_neg hb, if_neg a2, if_neg b1, if_pos b2, if_neg a3, if_pos a4, if_neg a5]
                    simp [eT, c1, a2, b2, a3, a4.1, a4.2, a5, hnb, hm1, hl1, hl2, hv1, hx0, encib]
                · have eT : turnM 1 x1 t x = (⟨(acM t.m (lkP 1 1 0 x.log)).1, t.held, t.vals, decide (¬ (acM t.m (lkP 1 1 0 x.log)).2.2 = 0)⟩, ⟨x.nx, x.st, x.log ++ [(acM t.m (lkP 1 1 0 x.log)).2.1], x.ver⟩) := by unfold turnM; rw [if_neg c1, if_neg hb, if_neg a2, if_neg b1, if_pos b2, if_neg a3, if_neg a4]
                  simp [eT, c1, a2, b2, a3, hnb, hm1, hl1, hl2, hv1, hx0, encib]
                  try (intro h5 h6; exact absurd ⟨h5, h6⟩ a4)
            · by_cases a3 : (lkP 1 2 (wr (x.ver + 1)) x.log).done = true
              · have eT : turnM 1 x1 t x = (t, ⟨wr (x.nx + 1), 0, [], 0⟩) := by unfold turnM; rw [if_neg c1, if_neg hb, if_neg a2, if_neg b1, if_neg b2, if_pos a3]
                simp [eT, c1, a2, b1, b2, a3, hnb, hm1, hl1, hl2, hv1, hx0, encib]
              · by_cases b3 : x.st = 2
                · have eT : turnM 1 x1 t x = (⟨(acM t.m (lkP 1 2 (wr (x.ver + 1)) x.log)).1, wr (t.held - 1), t.vals, decide (¬ (acM t.m (lkP 1 2 (wr (x.ver + 1)) x.log)).2.2 = 0)⟩, ⟨x.nx, x.st, x.log ++ [(acM t.m (lkP 1 2 (wr (x.ver + 1)) x.log)).2.1], x.ver⟩) := by unfold turnM; rw [if_neg c1, if_neg hb, if_neg a2, if_neg b1, if_neg b2, if_neg a3, if_pos b3]
                  simp [eT, c1, a2, b1, b2, b3, a3, hnb, hm1, hl1, hl2, hv1, hx0, encib]
                · have eT : turnM 1 x1 t x = (⟨(acM t.m (lkP 1 2 (wr (x.ver + 1)) x.log)).1, t.held, t.vals, decide (¬ (acM t.m (lkP 1 2 (wr (x.ver + 1)) x.log)).2.2 = 0)⟩, ⟨x.nx, x.st, x.log ++ [(acM t.m (lkP 1 2 (wr (x.ver + 1)) x.log)).2.1], x.ver⟩) := by unfold turnM; rw [if_neg c1, if_neg hb, if_neg a2, if_neg b1, if_neg b2, if_neg a3, if_neg b3]
                  simp [eT, c1, a2, b1, b2, b3, a3, hnb, hm1, hl1, hl2, hv1, hx0, encib]
    · rw [hk] at hwho
      obtain ⟨c', hd', hcc, hI'⟩ := turn_inv hI (show 0 < 3 by omega)
      refine ⟨encQ ((i + 1 : Nat) : Int) (turnM 0 x0 t (s 0)).1 (turnM 0 x0 t (s 0)).2 (s 1) (s 2), ?_, rfl, ⟨i + 1, _, _, rfl, by omega, c', hd', hI'⟩, by simp only [encQ, Bool.not_true, Bool.not_false, Bool.true_eq_false, SE.den, evU, evT, ev_le, ev_eq, ev_eqs, ev_eqb, ev_slt, ev_and, ev_or, ev_add, ev_sub, ev_mul, ev_tdiv, ev_tmod, ev_band, ev_bor, ev_bxor, ev_bandn, ev_shl, ev_shr, ev_cat, ev_byte, ev_idx, ev_cons, ev_snoc, ev_app, ev_take, ev_drop, ev_stake, ev_sdrop, ev_rep, leB_q, eqB_q, eqsB_q, not_q, i_if, b_if, l_if, s_if, i_int, b_bool, s_str, l_list, envL, List.getElem?_cons_succ, List.getElem?_cons_zero, List.getElem?_nil, Option.getD_some, Option.getD_none, Int.toNat_natCast, Int.toNat_zero, Int.reduceToNat, List.length_map, get_Li, get_Lb, get_Ls, set_Li, inj_Li, inj_Lb, inj_Ls, rows_i, rows_b, rows_s, Int.zero_add, iff_true, iff_false, and_true, true_and, Bool.false_eq_true, eq_self, not_true_eq_false, not_false_eq_true, List.length_replicate, DV.int.injEq, DV.bool.injEq, DV.str.injEq, DV.list.injEq, List.cons.injEq, f_ib_0, rows_ib, inj_Lib, f_ib_1, rows_ib, inj_Lib, f_ii_0, rows_ii, inj_Lii, f_ii_1, rows_ii, inj_Lii, f_iii_0, rows_iii, inj_Liii, f_iii_1, rows_iii, inj_Liii, f_iii_2, rows_iii, inj_Liii]; omega⟩
      clear hI'
      have hme : (0 : Nat) < 3 := by omega
      have hx := (hI.small).2 0 hme
      have hnn := (hI.small).1
      have hnb := hI.nb
      have hml := hI.ml
      have hb : ¬ t.bad = true := by rw [hnb]; simp
      have hrdok := Inv.rdok hI hme
      have hWme : WX x0 x1 x2 0 = x0 := rfl
      rw [hWme] at hrdok
      generalize s 0 = x at *
      have hm1 : (t.m.length : Int) ≤ 1000000 := by omega
      have hl1 : (x.log.length : Int) ≤ 4294967296 := by omega
      have hl2 : (x.log.length : Int) + 1 ≤ 4294967296 := by omega
      have hv1 : (t.vals.length : Int) + 1 ≤ 4294967296 := by omega
      have hx0 : 0 ≤ x.nx := hx.2.1
      clear hI
      simp only [encQ, Bool.not_true, Bool.not_false, Bool.true_eq_false, SE.den, evU, evT, ev_le, ev_eq, ev_eqs, ev_eqb, ev_slt, ev_and, ev_or, ev_add, ev_sub, ev_mul, ev_tdiv, ev_tmod, ev_band, ev_bor, ev_bxor, ev_bandn, ev_shl, ev_shr, ev_cat, ev_byte, ev_idx, ev_cons, ev_snoc, ev_app, ev_take, ev_drop, ev_stake, ev_sdrop, ev_rep, leB_q, eqB_q, eqsB_q, not_q, i_if, b_if, l_if, s_if, i_int, b_bool, s_str, l_list, envL, List.getElem?_cons_succ, List.getElem?_cons_zero, List.getElem?_nil, Option.getD_some, Option.getD_none, Int.toNat_natCast, Int.toNat_zero, Int.reduceToNat, List.length_map, get_Li, get_Lb, get_Ls, set_Li, inj_Li, inj_Lb, inj_Ls, rows_i, rows_b, rows_s, Int.zero_add, iff_true, iff_false, and_true, true_and, Bool.false_eq_true, eq_self, not_true_eq_false, not_false_eq_true, List.length_replicate, DV.int.injEq, DV.bool.injEq, DV.str.injEq, DV.list.injEq, List.cons.injEq, f_ib_0, rows_ib, inj_Lib, f_ib_1, rows_ib, inj_Lib, f_ii_0, rows_ii, inj_Lii, f_ii_1, rows_ii, inj_Lii, f_iii_0, rows_iii, inj_Liii, f_iii_1, rows_iii, inj_Liii, f_iii_2, rows_iii, inj_Liii, lockExPhi, lSane16F, lSane16E, layOfF, layOfE, layWordF, layWordE, layValF, layValE, lkNextF, lkNextE, memDoF, memDoE, rCellF, rCellE, gi, gb, gs, gLi, gLu, gLb, gLs, dece_i, dece_b, dece_s, gLib, deces_ib, gLii, deces_ii, gLiii, deces_iii, List.cons_append, List.nil_append, hi1, hi2, hwho, nx_0, nx_1, nx_2, nx_3, nx_4, nx_5, nx_6, nx_7, nx_8, nx_9, nx_10, nx_11, nx_12, deces_ib, lkP_fold2, acM_fold2, wr_fold2, Int.reduceEq, true_imp_iff, false_imp_iff]
      by_cases c1 : (x0.length : Int) ≤ x.nx
      · have eT : turnM 0 x0 t x = (t, x) := by unfold turnM; rw [if_pos c1]
        simp [eT, c1, hnb, hm1, hl1, hl2, hv1, hx0, encib]
      · by_cases a2 : (x0[x.nx.toNat]?.getD 0).tmod 3 = 0
        · by_cases a3 : (lkP 0 4 0 x.log).done = true
          · by_cases a4 : (lkP 0 4 0 x.log).is = true
            · obtain ⟨k1, k2, k3⟩ := hrdok (by omega) a2 a3 a4
              have k1 : 0 ≤ (lkP 0 4 0 x.log).ver := k1
              have k2 : (lkP 0 4 0 x.log).ver < (t.vals.length : Int) := k2
              have k3 : (lkP 0 4 0 x.log).val = t.vals[(lkP 0 4 0 x.log).ver.toNat]?.getD 0 := k3
              have k2' : ¬ (t.vals.length : Int) ≤ (lkP 0 4 0 x.log).ver := Int.not_le.2 k2
              have hn1 : wr ((t.vals.length : Int) - 1) = (t.vals.length : Int) - 1 := wr_id (by omega) (by omega)
              have hn2 : ¬ ((t.vals.length : Int) < 1) := by omega
              have hn3 : ¬ ((t.vals.length : Int) - 1 < (lkP 0 4 0 x.log).ver) := by omega
              have eT : turnM 0 x0 t x = (⟨t.m, t.held, t.vals, false⟩, ⟨wr (x.nx + 1), x.st, [], x.ver⟩) := by unfold turnM; rw [if_neg c1, if_neg hb, if_pos a2, if_pos a3, if_pos a4, if_pos k1, if_neg k2', if_pos k3]
              simp [eT, c1, a2, a3, a4, hnb, k1, k2', k3, hn1, hn2, hn3, hx0]
              try omega
            · have eT : turnM 0 x0 t x = (⟨t.m, t.held, t.vals, false⟩, ⟨wr (x.nx + 1), x.st, [], x.ver⟩) := by unfold turnM; rw [if_neg c1, if_neg hb, if_pos a2, if_pos a3, if_neg a4]
              simp [eT, c1, a2, a3, a4, hnb, hm1, hl1, hl2, hv1, hx0, encib]
          · have eT : turnM 0 x0 t x = (⟨(acM t.m (lkP 0 4 0 x.log)).1, t.held, t.vals, decide (¬ (acM t.m (lkP 0 4 0 x.log)).2.2 = 0)⟩, ⟨x.nx, x.st, x.log ++ [(acM t.m (lkP 0 4 0 x.log)).2.1], x.ver⟩) := by unfold turnM; rw [if_neg c1, if_neg hb, if_pos a2, if_neg a3]
            simp [eT, c1, a2, a3, hnb, hm1, hl1, hl2, hv1, hx0, encib]
        · by_cases b1 : x.st = 1
          · have eT : turnM 0 x0 t x = (⟨(doM t.m 2 (placeM 16 2 0 4 1) 0 (wr (wr (wr (1000 * 0) + wr (10 * x.nx)) + 5)) []).1, t.held, t.vals ++ [(wr (wr (wr (1000 * 0) + wr (10 * x.nx)) + 5))], decide (¬ (doM t.m 2 (placeM 16 2 0 4 1) 0 (wr (wr (wr (1000 * 0) + wr (10 * x.nx)) + 5)) []).2.2 = 0)⟩, ⟨x.nx, 2, x.log, x.ver⟩) := by unfold turnM; rw [if_neg c1, if_neg hb, if_neg a2, if_pos b1]
            simp [eT, c1, a2, b1, hnb, hm1, hl1, hl2, hv1, hx0, encib, pl_v, hK2, hK1, hK0]
          · by_cases b2 : x.st = 0
            · by_cases a3 : (lkP 0 1 0 x.log).done = true
              · by_cases a4 : (lkP 0 1 0 x.log).is = true
                · have eT : turnM 0 x0 t x = (⟨t.m, t.held, t.vals, decide (¬ (lkP 0 1 0 x.log).ver = wr ((t.vals.length : Int) - 1))⟩, ⟨x.nx, 1, [], (lkP 0 1 0 x.log).ver⟩) := by unfold turnM; rw [if_neg c1, if_neg hb, if_neg a2, if_neg b1, if_pos b2, if_pos a3, if_pos a4]
                  simp [eT, c1, a2, b2, a3, a4, hnb, hm1, hl1, hl2, hv1, hx0, encib]
                · have eT : turnM 0 x0 t x = (t, ⟨x.nx, x.st, [], x.ver⟩) := by unfold turnM; rw [if_neg c1, if_neg hb, if_neg a2, if_neg b1, if_pos b2, if_pos a3, if_neg a4]
                  simp [eT, c1, a2, b2, a3, a4, hnb, hm1, hl1, hl2, hv1, hx0, encib]
              · by_cases a4 : (lkP 0 1 0 x.log).k = 3 ∧ (acM t.m (lkP 0 1 0 x.log)).2.1.2 = true
                · by_cases a5 : (acM t.m (lkP 0 1 0 x.log)).2.2 = 0
                  · have eT : turnM 0 x0 t x = (⟨(acM t.m (lkP 0 1 0 x.log)).1, wr (t.held + 1), t.vals, decide (¬ wr (t.held + 1) = 1)⟩, ⟨x.nx, x.st, x.log ++ [(acM t.m (lkP 0 1 0 x.log)).2.1], x.ver⟩) := by unfold turnM; rw [if_neg c1, if_neg hb, if_neg a2, if_neg b1, if_pos b2, if_neg a3, if_pos a4, if_pos a5]
                    simp [eT, c1, a2, b2, a3, a4.1, a4.2, a5, hnb, hm1, hl1, hl2, hv1, hx0, encib]
                  · have eT : turnM 0 x0 t x = (⟨(acM t.m (lkP 0 1 0 x.log)).1, wr (t.held + 1), t.vals, true⟩, ⟨x.nx, x.st, x.log ++ [(acM t.m (lkP 0 1 0 x.log)).2.1], x.ver⟩) := by unfold turnM; rw [if_neg c1, if_neg hb, if_neg a2, if_neg b1, if_pos b2, if_neg a3, if_pos a4, if_neg a5]
                    simp [eT, c1, a2, b2, a3, a4.1, a4.2, a5, hnb, hm1, hl1, hl2, hv1, hx0, encib]
                · have eT : turnM 0 x0 t x = (⟨(acM t.m (lkP 0 1 0 x.log)).1, t.held, t.vals, decide (¬ (acM t.m (lkP 0 1 0 x.log)).2.2 = 0)⟩, ⟨x.nx, x.st, x.log ++ [(acM t.m (lkP 0 1 0 x.log)).2.1], x.ver⟩) := by unfold turnM; rw [if_neg c1, if_neg hb, if_neg a2, if_neg b1, if_pos b2, if_neg a3, if_neg a4]
                  simp [eT, c1, a2, b2, a3, hnb, hm1, hl1, hl2, hv1, hx0, encib]
                  try (intro h5 h6; exact absurd ⟨h5, h6⟩ a4)
            · by_cases a3 : (lkP 0 2 (wr (x.ver + 1)) x.log).done = true
              · have eT : turnM 0 x0 t x = (t, ⟨wr (x.nx + 1), 0, [], 0⟩) := by unfold turnM; rw [if_neg c1, if_neg hb, if_neg a2, if_neg b1, if_neg b2, if_pos a3]
                simp [eT, c1, a2, b1, b2, a3, hnb, hm1, hl1, hl2, hv1, hx0, encib]
              · by_cases b3 : x.st = 2
                · have eT : turnM 0 x0 t x = (⟨(acM t.m (lkP 0 2 (wr (x.ver + 1)) x.log)).1, wr (t.held - 1), t.vals, decide (¬ (acM t.m (lkP 0 2 (wr (x.ver + 1)) x.log)).2.2 = 0)⟩, ⟨x.nx, x.st, x.log ++ [(acM t.m (lkP 0 2 (wr (x.ver + 1)) x.log)).2.1], x.ver⟩) := by unfold turnM; rw [if_neg c1, if_neg hb, if_neg a2, if_neg b1, if_neg b2, if_neg a3, if_pos b3]
                  simp [eT, c1, a2, b1, b2, b3, a3, hnb, hm1, hl1, hl2, hv1, hx0, encib]
                · have eT : turnM 0 x0 t x = (⟨(acM t.m (lkP 0 2 (wr (x.ver + 1)) x.log)).1, t.held, t.vals, decide (¬ (acM t.m (lkP 0 2 (wr (x.ver + 1)) x.log)).2.2 = 0)⟩, ⟨x.nx, x.st, x.log ++ [(acM t.m (lkP 0 2 (wr (x.ver + 1)) x.log)).2.1], x.ver⟩) := by unfold turnM; rw [if_neg c1, if_neg hb, if_neg a2, if_neg b1, if_neg b2, if_neg a3, if_neg b3]
                  simp [eT, c1, a2, b1, b2, b3, a3, hnb, hm1, hl1, hl2, hv1, hx0, encib]
  · left
    have hil2 : (x3.length : Int) ≤ i := by omega
    obtain ⟨W, hW⟩ : ∃ W, W = WX x0 x1 x2 := ⟨_, rfl⟩
    rw [← hW] at hI
    refine ⟨fun h => absurd hil2 h, fun _ => ⟨rfl, ?_⟩⟩
    refine rounds_at2 3 (fun k => encQ k (rnM W (t, s) k).1 ((rnM W (t, s) k).2 0) ((rnM W (t, s) k).2 1) ((rnM W (t, s) k).2 2)) rfl (fun _ => rfl) (fun k hk => ⟨_, _, rfl, rfl, ?_⟩) ⟨_, rfl, ?_⟩
    · obtain ⟨ck, hk', Ik⟩ := rn_inv (p := (t, s)) hI k
      refine ⟨fun _ => ⟨rfl, ?_⟩, fun h => absurd (show (3 : Int) ≤ k from h) (by omega)⟩
      refine rounds_at2 3 (fun w => encQ w (whM W (rnM W (t, s) k) w).1 ((whM W (rnM W (t, s) k) w).2 0) ((whM W (rnM W (t, s) k) w).2 1) ((whM W (rnM W (t, s) k) w).2 2)) rfl (fun _ => rfl) (fun w hw => ⟨_, _, rfl, rfl, ?_⟩) ⟨_, rfl, ?_⟩
      · obtain ⟨cw, hw', Iw⟩ := wh_inv Ik w (by omega)
        refine ⟨fun _ => ⟨rfl, ?_⟩, fun h => absurd (show (3 : Int) ≤ w from h) (by omega)⟩
        refine rounds_at2 150 (fun i => encQ i (itM W w i (whM W (rnM W (t, s) k) w)).1 ((itM W w i (whM W (rnM W (t, s) k) w)).2 0) ((itM W w i (whM W (rnM W (t, s) k) w)).2 1) ((itM W w i (whM W (rnM W (t, s) k) w)).2 2)) rfl (fun _ => rfl) (fun i hi => ?_) ⟨_, rfl, ?_⟩
        · obtain ⟨ci, hi', hI, _⟩ := it_live Iw hw i
          have hi1 : IntKind.i64.wrap ((i : Int) + 1) = ((i + 1 : Nat) : Int) := by rw [w64 (by omega) (by omega)]; omega
          have hi2 : ¬ (150 : Int) ≤ i := by omega
          rcases (by omega : w = 0 ∨ w = 1 ∨ w = 2) with rfl | rfl | rfl
          · subst hW
            refine ⟨encQ (i : Int) (itM (WX x0 x1 x2) 0 i (whM (WX x0 x1 x2) (rnM (WX x0 x1 x2) (t, s) k) 0)).1 ((itM (WX x0 x1 x2) 0 i (whM (WX x0 x1 x2) (rnM (WX x0 x1 x2) (t, s) k) 0)).2 0) ((itM (WX x0 x1 x2) 0 i (whM (WX x0 x1 x2) (rnM (WX x0 x1 x2) (t, s) k) 0)).2 1) ((itM (WX x0 x1 x2) 0 i (whM (WX x0 x1 x2) (rnM (WX x0 x1 x2) (t, s) k) 0)).2 2), encQ ((i + 1 : Nat) : Int) (turnM 0 x0 (itM (WX x0 x1 x2) 0 i (whM (WX x0 x1 x2) (rnM (WX x0 x1 x2) (t, s) k) 0)).1 ((itM (WX x0 x1 x2) 0 i (whM (WX x0 x1 x2) (rnM (WX x0 x1 x2) (t, s) k) 0)).2 0)).1 (turnM 0 x0 (itM (WX x0 x1 x2) 0 i (whM (WX x0 x1 x2) (rnM (WX x0 x1 x2) (t, s) k) 0)).1 ((itM (WX x0 x1 x2) 0 i (whM (WX x0 x1 x2) (rnM (WX x0 x1 x2) (t, s) k) 0)).2 0)).2 ((itM (WX x0 x1 x2) 0 i (whM (WX x0 x1 x2) (rnM (WX x0 x1 x2) (t, s) k) 0)).2 1) ((itM (WX x0 x1 x2) 0 i (whM (WX x0 x1 x2) (rnM (WX x0 x1 x2) (t, s) k) 0)).2 2), rfl, rfl, ?_⟩
            generalize (itM (WX x0 x1 x2) 0 i (whM (WX x0 x1 x2) (rnM (WX x0 x1 x2) (t, s) k) 0)) = p at hI ⊢
            generalize p.1 = t at hI ⊢
            generalize p.2 = s at hI ⊢
            clear Iw Ik
            have hme : (0 : Nat) < 3 := by omega
            have hx := (hI.small).2 0 hme
            have hnn := (hI.small).1
            have hnb := hI.nb
            have hml := hI.ml
            have hb : ¬ t.bad = true := by rw [hnb]; simp
            have hrdok := Inv.rdok hI hme
            have hWme : WX x0 x1 x2 0 = x0 := rfl
            rw [hWme] at hrdok
            generalize s 0 = x at *
            have hm1 : (t.m.length : Int) ≤ 1000000 := by omega
            have hl1 : (x.log.length : Int) ≤ 4294967296 := by omega
            have hl2 : (x.log.length : Int) + 1 ≤ 4294967296 := by omega
            have hv1 : (t.vals.length : Int) + 1 ≤ 4294967296 := by omega
            have hx0 : 0 ≤ x.nx := hx.2.1
            clear hI
            simp only [encQ, Bool.not_true, Bool.not_false, Bool.true_eq_false, SE.den, evU, evT, ev_le, ev_eq, ev_eqs, ev_eqb, ev_slt, ev_and, ev_or, ev_add, ev_sub, ev_mul, ev_tdiv, ev_tmod, ev_band, ev_bor, ev_bxor, ev_bandn, ev_shl, ev_shr, ev_cat, ev_byte, ev_idx, ev_cons, ev_snoc, ev_app, ev_take, ev_drop, ev_stake, ev_sdrop, ev_rep, leB_q, eqB_q, eqsB_q, not_q, i_if, b_if, l_if, s_if, i_int, b_bool, s_str, l_list, envL, List.getElem?_cons_succ, List.getElem?_cons_zero, List.getElem?_nil, Option.getD_some, Option.getD_none, Int.toNat_natCast, Int.toNat_zero, Int.reduceToNat, List.length_map, get_Li, get_Lb, get_Ls, set_Li, inj_Li, inj_Lb, inj_Ls, rows_i, rows_b, rows_s, Int.zero_add, iff_true, iff_false, and_true, true_and, Bool.false_eq_true, eq_self, not_true_eq_false, not_false_eq_true, List.length_replicate, DV.int.injEq, DV.bool.injEq, DV.str.injEq, DV.list.injEq, List.cons.injEq, f_ib_0, rows_ib, inj_Lib, f_ib_1, rows_ib, inj_Lib, f_ii_0, rows_ii, inj_Lii, f_ii_1, rows_ii, inj_Lii, f_iii_0, rows_iii, inj_Liii, f_iii_1, rows_iii, inj_Liii, f_iii_2, rows_iii, inj_Liii, lockExPhi, lSane16F, lSane16E, layOfF, layOfE, layWordF, layWordE, layValF, layValE, lkNextF, lkNextE, memDoF, memDoE, rCellF, rCellE, gi, gb, gs, gLi, gLu, gLb, gLs, dece_i, dece_b, dece_s, gLib, deces_ib, gLii, deces_ii, gLiii, deces_iii, List.cons_append, List.nil_append, hi1, hi2, nx_0, nx_1, nx_2, nx_3, nx_4, nx_5, nx_6, nx_7, nx_8, nx_9, nx_10, nx_11, nx_12, deces_ib, lkP_fold2, acM_fold2, wr_fold2, Int.reduceEq, true_imp_iff, false_imp_iff]
            by_cases c1 : (x0.length : Int) ≤ x.nx
            · have eT : turnM 0 x0 t x = (t, x) := by unfold turnM; rw [if_pos c1]
              simp [eT, c1, hnb, hm1, hl1, hl2, hv1, hx0, encib]
            · by_cases a2 : (x0[x.nx.toNat]?.getD 0).tmod 3 = 0
              · by_cases a3 : (lkP 0 4 0 x.log).done = true
                · by_cases a4 : (lkP 0 4 0 x.log).is = true
                  · obtain ⟨k1, k2, k3⟩ := hrdok (by omega) a2 a3 a4
                    have k1 : 0 ≤ (lkP 0 4 0 x.log).ver := k1
                    have k2 : (lkP 0 4 0 x.log).ver < (t.vals.length : Int) := k2
                    have k3 : (lkP 0 4 0 x.log).val = t.vals[(lkP 0 4 0 x.log).ver.toNat]?.getD 0 := k3
                    have k2' : ¬ (t.vals.length : Int) ≤ (lkP 0 4 0 x.log).ver := Int.not_le.2 k2
                    have hn1 : wr ((t.vals.length : Int) - 1) = (t.vals.length : Int) - 1 := wr_id (by omega) (by omega)
                    have hn2 : ¬ ((t.vals.length : Int) < 1) := by omega
                    have hn3 : ¬ ((t.vals.length : Int) - 1 < (lkP 0 4 0 x.log).ver) := by omega
                    have eT : turnM 0 x0 t x = (⟨t.m, t.held, t.vals, false⟩, ⟨wr (x.nx + 1), x.st, [], x.ver⟩) := by unfold turnM; rw [if_neg c1, if_neg hb, if_pos a2, if_pos a3, if_pos a4, if_pos k1, if_neg k2', if_pos k3]
                    simp [eT, c1, a2, a3, a4, hnb, k1, k2', k3, hn1, hn2, hn3, hx0]
                    try omega
                  · have eT : turnM 0 x0 t x = (⟨t.m, t.held, t.vals, false⟩, ⟨wr (x.nx + 1), x.st, [], x.ver⟩) := by unfold turnM; rw [if_neg c1, if_neg hb, if_pos a2, if_pos a3, if_neg a4]
                    simp [eT, c1, a2, a3, a4, hnb, hm1, hl1, hl2, hv1, hx0, encib]
                · have eT : turnM 0 x0 t x = (⟨(acM t.m (lkP 0 4 0 x.log)).1, t.held, t.vals, decide (¬ (acM t.m (lkP 0 4 0 x.log)).2.2 = 0)⟩, ⟨x.nx, x.st, x.log ++ [(acM t.m (lkP 0 4 0 x.log)).2.1], x.ver⟩) := by unfold turnM; rw [if_neg c1, if_neg hb, if_pos a2, if_neg a3]
                  simp [eT, c1, a2, a3, hnb, hm1, hl1, hl2, hv1, hx0, encib]
              · by_cases b1 : x.st = 1
                · have eT : turnM 0 x0 t x = (⟨(doM t.m 2 (placeM 16 2 0 4 1) 0 (wr (wr (wr (1000 * 0) + wr (10 * x.nx)) + 5)) []).1, t.held, t.vals ++ [(wr (wr (wr (1000 * 0) + wr (10 * x.nx)) + 5))], decide (¬ (doM t.m 2 (placeM 16 2 0 4 1) 0 (wr (wr (wr (1000 * 0) + wr (10 * x.nx)) + 5)) []).2.2 = 0)⟩, ⟨x.nx, 2, x.log, x.ver⟩) := by unfold turnM; rw [if_neg c1, if_neg hb, if_neg a2, if_pos b1]
                  simp [eT, c1, a2, b1, hnb, hm1, hl1, hl2, hv1, hx0, encib, pl_v, hK2, hK1, hK0]
                · by_cases b2 : x.st = 0
                  · by_cases a3 : (lkP 0 1 0 x.log).done = true
                    · by_cases a4 : (lkP 0 1 0 x.log).is = true
                      · have eT : turnM 0 x0 t x = (⟨t.m, t.held, t.vals, decide (¬ (lkP 0 1 0 x.log).ver = wr ((t.vals.length : Int) - 1))⟩, ⟨x.nx, 1, [], (lkP 0 1 0 x.log).ver⟩) := by unfold turnM; rw [if_neg c1, if_neg hb, if_neg a2, if_neg b1, if_pos b2, if_pos a3, if_pos a4]
                        simp [eT, c1, a2, b2, a3, a4, hnb, hm1, hl1, hl2, hv1, hx0, encib]
                      · have eT : turnM 0 x0 t x = (t, ⟨x.nx, x.st, [], x.ver⟩) := by unfold turnM; rw [if_neg c1, if_neg hb, if_neg a2, if_neg b1, if_pos b2, if_pos a3, if_neg a4]
                        simp [eT, c1, a2, b2, a3, a4, hnb, hm1, hl1, hl2, hv1, hx0, encib]
                    · by_cases a4 : (lkP 0 1 0 x.log).k = 3 ∧ (acM t.m (lkP 0 1 0 x.log)).2.1.2 = true
                      · by_cases a5 : (acM t.m (lkP 0 1 0 x.log)).2.2 = 0
                        · have eT : turnM 0 x0 t x = (⟨(acM t.m (lkP 0 1 0 x.log)).1, wr (t.held + 1), t.vals, decide (¬ wr (t.held + 1) = 1)⟩, ⟨x.nx, x.st, x.log ++ [(acM t.m (lkP 0 1 0 x.log)).2.1], x.ver⟩) := by unfold turnM; rw [if_neg c1, if_neg hb, if_neg a2, if_neg b1, if_pos b2, if_neg a3, if_pos a4, if_pos a5]
                          simp [eT, c1, a2, b2, a3, a4.1, a4.2, a5, hnb, hm1, hl1, hl2, hv1, hx0, encib]
                        · have eT : turnM 0 x0 t x = (⟨(acM t.m (lkP 0 1 0 x.log)).1, wr (t.held + 1), t.vals, true⟩, ⟨x.nx, x.st, x.log ++ [(acM t.m (lkP 0 1 0 x.log)).2.1], x.ver⟩) := by unfold turnM; rw [if_neg c1, if_neg hb, if_neg a2, if_neg b1, if_pos b2, if_neg a3, if_pos a4, if_neg a5]
                          simp [eT, c1, a2, b2, a3, a4.1, a4.2, a5, hnb, hm1, hl1, hl2, hv1, hx0, encib]
                      · have eT : turnM 0 x0 t x = (⟨(acM t.m (lkP 0 1 0 x.log)).1, t.held, t.vals, decide (¬ (acM t.m (lkP 0 1 0 x.log)).2.2 = 0)⟩, ⟨x.nx, x.st, x.log ++ [(acM t.m (lkP 0 1 0 x.log)).2.1], x.ver⟩) := by unfold turnM; rw [if_neg c1, if_neg hb, if_neg a2, if_neg b1, if_pos b2, if_neg a3, if_neg a4]
                        simp [eT, c1, a2, b2, a3, hnb, hm1, hl1, hl2, hv1, hx0, encib]
                        try (intro h5 h6; exact absurd ⟨h5, h6⟩ a4)
                  · by_cases a3 : (lkP 0 2 (wr (x.ver + 1)) x.log).done = true
                    · have eT : turnM 0 x0 t x = (t, ⟨wr (x.nx + 1), 0, [], 0⟩) := by unfold turnM; rw [if_neg c1, if_neg hb, if_neg a2, if_neg b1, if_neg b2, if_pos a3]
                      simp [eT, c1, a2, b1, b2, a3, hnb, hm1, hl1, hl2, hv1, hx0, encib]
                    · by_cases b3 : x.st = 2
                      · have eT : turnM 0 x0 t x = (⟨(acM t.m (lkP 0 2 (wr (x.ver + 1)) x.log)).1, wr (t.held - 1), t.vals, decide (¬ (acM t.m (lkP 0 2 (wr (x.ver + 1)) x.log)).2.2 = 0)⟩, ⟨x.nx, x.st, x.log ++ [(acM t.m (lkP 0 2 (wr (x.ver + 1)) x.log)).2.1], x.ver⟩) := by unfold turnM; rw [if_neg c1, if_neg hb, if_neg a2, if_neg b1, if_neg b2, if_neg a3, if_pos b3]
                        simp [eT, c1, a2, b1, b2, b3, a3, hnb, hm1, hl1, hl2, hv1, hx0, encib]
                      · have eT : turnM 0 x0 t x = (⟨(acM t.m (lkP 0 2 (wr (x.ver + 1)) x.log)).1, t.held, t.vals, decide (¬ (acM t.m (lkP 0 2 (wr (x.ver + 1)) x.log)).2.2 = 0)⟩, ⟨x.nx, x.st, x.log ++ [(acM t.m (lkP 0 2 (wr (x.ver + 1)) x.log)).2.1], x.ver⟩) := by unfold turnM; rw [if_neg c1, if_neg hb, if_neg a2, if_neg b1, if_neg b2, if_neg a3, if_neg b3]
                        simp [eT, c1, a2, b1, b2, b3, a3, hnb, hm1, hl1, hl2, hv1, hx0, encib]
          · subst hW
            refine ⟨encQ (i : Int) (itM (WX x0 x1 x2) 1 i (whM (WX x0 x1 x2) (rnM (WX x0 x1 x2) (t, s) k) 1)).1 ((itM (WX x0 x1 x2) 1 i (whM (WX x0 x1 x2) (rnM (WX x0 x1 x2) (t, s) k) 1)).2 0) ((itM (WX x0 x1 x2) 1 i (whM (WX x0 x1 x2) (rnM (WX x0 x1 x2) (t, s) k) 1)).2 1) ((itM (WX x0 x1 x2) 1 i (whM (WX x0 x1 x2) (rnM (WX x0 x1 x2) (t, s) k) 1)).2 2), encQ ((i + 1 : Nat) : Int) (turnM 1 x1 (itM (WX x0 x1 x2) 1 i (whM (WX x0 x1 x2) (rnM (WX x0 x1 x2) (t, s) k) 1)).1 ((itM (WX x0 x1 x2) 1 i (whM (WX x0 x1 x2) (rnM (WX x0 x1 x2) (t, s) k) 1)).2 1)).1 ((itM (WX x0 x1 x2) 1 i (whM (WX x0 x1 x2) (rnM (WX x0 x1 x2) (t, s) k) 1)).2 0) (turnM 1 x1 (itM (WX x0 x1 x2) 1 i (whM (WX x0 x1 x2) (rnM (WX x0 x1 x2) (t, s) k) 1)).1 ((itM (WX x0 x1 x2) 1 i (whM (WX x0 x1 x2) (rnM (WX x0 x1 x2) (t, s) k) 1)).2 1)).2 ((itM (WX x0 x1 x2) 1 i (whM (WX x0 x1 x2) (rnM (WX x0 x1 x2) (t, s) k) 1)).2 2), rfl, rfl, ?_⟩
            generalize (itM (WX x0 x1 x2) 1 i (whM (WX x0 x1 x2) (rnM (WX x0 x1 x2) (t, s) k) 1)) = p at hI ⊢
            generalize p.1 = t at hI ⊢
            generalize p.2 = s at hI ⊢
            clear Iw Ik
            have hme : (1 : Nat) < 3 := by omega
            have hx := (hI.small).2 1 hme
            have hnn := (hI.small).1
            have hnb := hI.nb
            have hml := hI.ml
            have hb : ¬ t.bad = true := by rw [hnb]; simp
            have hrdok := Inv.rdok hI hme
            have hWme : WX x0 x1 x2 1 = x1 := rfl
            rw [hWme] at hrdok
            generalize s 1 = x at *
            have hm1 : (t.m.length : Int) ≤ 1000000 := by omega
            have hl1 : (x.log.length : Int) ≤ 4294967296 := by omega
            have hl2 : (x.log.length : Int) + 1 ≤ 4294967296 := by omega
            have hv1 : (t.vals.length : Int) + 1 ≤ 4294967296 := by omega
            have hx0 : 0 ≤ x.nx := hx.2.1
            clear hI
            simp only [encQ, Bool.not_true, Bool.not_false, Bool.true_eq_false, SE.den, evU, evT, ev_le, ev_eq, ev_eqs, ev_eqb, ev_slt, ev_and, ev_or, ev_add, ev_sub, ev_mul, ev_tdiv, ev_tmod, ev_band, ev_bor, ev_bxor, ev_bandn, ev_shl, ev_shr, ev_cat, ev_byte, ev_idx, ev_cons, ev_snoc, ev_app, ev_take, ev_drop, ev_stake, ev_sdrop, ev_rep, leB_q, eqB_q, eqsB_q, not_q, i_if, b_if, l_if, s_if, i_int, b_bool, s_str, l_list, envL, List.getElem?_cons_succ, List.getElem?_cons_zero, List.getElem?_nil, Option.getD_some, Option.getD_none, Int.toNat_natCast, Int.toNat_zero, Int.reduceToNat, List.length_map, get_Li, get_Lb, get_Ls, set_Li, inj_Li, inj_Lb, inj_Ls, rows_i, rows_b, rows_s, Int.zero_add, iff_true, iff_false, and_true, true_and, Bool.false_eq_true, eq_self, not_true_eq_false, not_false_eq_true, List.length_replicate, DV.int.injEq, DV.bool.injEq, DV.str.injEq, DV.list.injEq, List.cons.injEq, f_ib_0, rows_ib, inj_Lib, f_ib_1, rows_ib, inj_Lib, f_ii_0, rows_ii, inj_Lii, f_ii_1, rows_ii, inj_Lii, f_iii_0, rows_iii, inj_Liii, f_iii_1, rows_iii, inj_Liii, f_iii_2, rows_iii, inj_Liii, lockExPhi, lSane16F, lSane16E, layOfF, layOfE, layWordF, layWordE, layValF, layValE, lkNextF, lkNextE, memDoF, memDoE, rCellF, rCellE, gi, gb, gs, gLi, gLu, gLb, gLs, dece_i, dece_b, dece_s, gLib, deces_ib, gLii, deces_ii, gLiii, deces_iii, List.cons_append, List.nil_append, hi1, hi2, nx_0, nx_1, nx_2, nx_3, nx_4, nx_5, nx_6, nx_7, nx_8, nx_9, nx_10, nx_11, nx_12, deces_ib, lkP_fold2, acM_fold2, wr_fold2, Int.reduceEq, true_imp_iff, false_imp_iff]
            by_cases c1 : (x1.length : Int) ≤ x.nx
            · have eT : turnM 1 x1 t x = (t, x) := by unfold turnM; rw [if_pos c1]
              simp [eT, c1, hnb, hm1, hl1, hl2, hv1, hx0, encib]
            · by_cases a2 : (x1[x.nx.toNat]?.getD 0).tmod 3 = 0
              · by_cases a3 : (lkP 1 4 0 x.log).done = true
                · by_cases a4 : (lkP 1 4 0 x.log).is = true
                  · obtain ⟨k1, k2, k3⟩ := hrdok (by omega) a2 a3 a4
                    have k1 : 0 ≤ (lkP 1 4 0 x.log).ver := k1
                    have k2 : (lkP 1 4 0 x.log).ver < (t.vals.length : Int) := k2
                    have k3 : (lkP 1 4 0 x.log).val = t.vals[(lkP 1 4 0 x.log).ver.toNat]?.getD 0 := k3
                    have k2' : ¬ (t.vals.length : Int) ≤ (lkP 1 4 0 x.log).ver := Int.not_le.2 k2
                    have hn1 : wr ((t.vals.length : Int) - 1) = (t.vals.length : Int) - 1 := wr_id (by omega) (by omega)
                    have hn2 : ¬ ((t.vals.length : Int) < 1) := by omega
                    have hn3 : ¬ ((t.vals.length : Int) - 1 < (lkP 1 4 0 x.log).ver) := by omega
                    have eT : turnM 1 x1 t x = (⟨t.m, t.held, t.vals, false⟩, ⟨wr (x.nx + 1), x.st, [], x.ver⟩) := by unfold turnM; rw [if_neg c1, if_neg hb, if_pos a2, if_pos a3, if_pos a4, if_pos k1, if_neg k2', if_pos k3]
                    simp [eT, c1, a2, a3, a4, hnb, k1, k2', k3, hn1, hn2, hn3, hx0]
                    try omega
                  · have eT : turnM 1 x1 t x = (⟨t.m, t.held, t.vals, false⟩, ⟨wr (x.nx + 1), x.st, [], x.ver⟩) := by unfold turnM; rw [if_neg c1, if_neg hb, if_pos a2, if_pos a3, if_neg a4]
                    simp [eT, c1, a2, a3, a4, hnb, hm1, hl1, hl2, hv1, hx0, encib]
                · have eT : turnM 1 x1 t x = (⟨(acM t.m (lkP 1 4 0 x.log)).1, t.held, t.vals, decide (¬ (acM t.m (lkP 1 4 0 x.log)).2.2 = 0)⟩, ⟨x.nx, x.st, x.log ++ [(acM t.m (lkP 1 4 0 x.log)).2.1], x.ver⟩) := by unfold turnM; rw [if_neg c1, if_neg hb, if_pos a2, if_neg a3]
                  simp [eT, c1, a2, a3, hnb, hm1, hl1, hl2, hv1, hx0, encib]
              · by_cases b1 : x.st = 1
                · have eT : turnM 1 x1 t x = (⟨(doM t.m 2 (placeM 16 2 0 4 1) 0 (wr (wr (wr (1000 * 1) + wr (10 * x.nx)) + 5)) []).1, t.held, t.vals ++ [(wr (wr (wr (1000 * 1) + wr (10 * x.nx)) + 5))], decide (¬ (doM t.m 2 (placeM 16 2 0 4 1) 0 (wr (wr (wr (1000 * 1) + wr (10 * x.nx)) + 5)) []).2.2 = 0)⟩, ⟨x.nx, 2, x.log, x.ver⟩) := by unfold turnM; rw [if_neg c1, if_neg hb, if_neg a2, if_pos b1]
                  simp [eT, c1, a2, b1, hnb, hm1, hl1, hl2, hv1, hx0, encib, pl_v, hK2, hK1, hK0]
                · by_cases b2 : x.st = 0
                  · by_cases a3 : (lkP 1 1 0 x.log).done = true
                    · by_cases a4 : (lkP 1 1 0 x.log).is = true
                      · have eT : turnM 1 x1 t x = (⟨t.m, t.held, t.vals, decide (¬ (lkP 1 1 0 x.log).ver = wr ((t.vals.length : Int) - 1))⟩, ⟨x.nx, 1, [], (lkP 1 1 0 x.log).ver⟩) := by unfold turnM; rw [if_neg c1, if_neg hb, if_neg a2, if_neg b1, if_pos b2, if_pos a3, if_pos a4]
                        simp [eT, c1, a2, b2, a3, a4, hnb, hm1, hl1, hl2, hv1, hx0, encib]
                      · have eT : turnM 1 x1 t x = (t, ⟨x.nx, x.st, [], x.ver⟩) := by unfold turnM; rw [if_neg c1, if_neg hb, if_neg a2, if_neg b1, if_pos b2, if_pos a3, if_neg a4]
                        simp [eT, c1, a2, b2, a3, a4, hnb, hm1, hl1, hl2, hv1, hx0, encib]
                    · by_cases a4 : (lkP 1 1 0 x.log).k = 3 ∧ (acM t.m (lkP 1 1 0 x.log)).2.1.2 = true
                      · by_cases a5 : (acM t.m (lkP 1 1 0 x.log)).2.2 = 0
                        · have eT : turnM 1 x1 t x = (⟨(acM t.m (lkP 1 1 0 x.log)).1, wr (t.held + 1), t.vals, decide (¬ wr (t.held + 1) = 1)⟩, ⟨x.nx, x.st, x.log ++ [(acM t.m (lkP 1 1 0 x.log)).2.1], x.ver⟩) := by unfold turnM; rw [if_neg c1, if_neg hb, if_neg a2, if_neg b1, if_pos b2, if_neg a3, if_pos a4, if_pos a5]
                          simp [eT, c1, a2, b2, a3, a4.1, a4.2, a5, hnb, hm1, hl1, hl2, hv1, hx0, encib]
                        · have eT : turnM 1 x1 t x = (⟨(acM t.m (lkP 1 1 0 x.log)).1, wr (t.held + 1), t.vals, true⟩, ⟨x.nx, x.st, x.log ++ [(acM t.m (lkP 1 1 0 x.log)).2.1], x.ver⟩) := by unfold turnM; rw [if_neg c1, if_neg hb, if_neg a2, if_neg b1, if_pos b2, if_neg a3, if_pos a4, if_neg a5]
                          simp [eT, c1, a2, b2, a3, a4.1, a4.2, a5, hnb, hm1, hl1, hl2, hv1, hx0, encib]
                      · have eT : turnM 1 x1 t x = (⟨(acM t.m (lkP 1 1 0 x.log)).1, t.held, t.vals, decide (¬ (acM t.m (lkP 1 1 0 x.log)).2.2 = 0)⟩, ⟨x.nx, x.st, x.log ++ [(acM t.m (lkP 1 1 0 x.log)).2.1], x.ver⟩) := by unfold turnM; rw [if_neg c1, if_neg hb, if_neg a2, if_neg b1, if_pos b2, if_neg a3, if_neg a4]
                        simp [eT, c1, a2, b2, a3, hnb, hm1, hl1, hl2, hv1, hx0, encib]
                        try (intro h5 h6; exact absurd ⟨h5, h6⟩ a4)
                  · by_cases a3 : (lkP 1 2 (wr (x.ver + 1)) x.log).done = true
                    · have eT : turnM 1 x1 t x = (t, ⟨wr (x.nx + 1), 0, [], 0⟩) := by unfold turnM; rw [if_neg c1, if_neg hb, if_neg a2, if_neg b1, if_neg b2, if_pos a3]
                      simp [eT, c1, a2, b1, b2, a3, hnb, hm1, hl1, hl2, hv1, hx0, encib]
                    · by_cases b3 : x.st = 2
                      · have eT : turnM 1 x1 t x = (⟨(acM t.m (lkP 1 2 (wr (x.ver + 1)) x.log)).1, wr (t.held - 1), t.vals, decide (¬ (acM t.m (lkP 1 2 (wr (x.ver + 1)) x.log)).2.2 = 0)⟩, ⟨x.nx, x.st, x.log ++ [(acM t.m (lkP 1 2 (wr (x.ver + 1)) x.log)).2.1], x.ver⟩) := by unfold turnM; rw [if_neg c1, if_neg hb, if_neg a2, if_neg b1, if_neg b2, if_neg a3, if_pos b3]
                        simp [eT, c1, a2, b1, b2, b3, a3, hnb, hm1, hl1, hl2, hv1, hx0, encib]
                      · have eT : turnM 1 x1 t x = (⟨(acM t.m (lkP 1 2 (wr (x.ver + 1)) x.log)).1, t.held, t.vals, decide (¬ (acM t.m (lkP 1 2 (wr (x.ver + 1)) x.log)).2.2 = 0)⟩, ⟨x.nx, x.st, x.log ++ [(acM t.m (lkP 1 2 (wr (x.ver + 1)) x.log)).2.1], x.ver⟩) := by unfold turnM; rw [if_neg c1, if_neg hb, if_neg a2, if_neg b1, if_neg b2, if_neg a3, if_neg b3]
                        simp [eT, c1, a2, b1, b2, b3, a3, hnb, hm1, hl1, hl2, hv1, hx0, encib]
          · subst hW
            refine ⟨encQ (i : Int) (itM (WX x0 x1 x2) 2 i (whM (WX x0 x1 x2) (rnM (WX x0 x1 x2) (t, s) k) 2)).1 ((itM (WX x0 x1 x2) 2 i (whM (WX x0 x1 x2) (rnM (WX x0 x1 x2) (t, s) k) 2)).2 0) ((itM (WX x0 x1 x2) 2 i (whM (WX x0 x1 x2) (rnM (WX x0 x1 x2) (t, s) k) 2)).2 1) ((itM (WX x0 x1 x2) 2 i (whM (WX x0 x1 x2) (rnM (WX x0 x1 x2) (t, s) k) 2)).2 2), encQ ((i + 1 : Nat) : Int) (turnM 2 x2 (itM (WX x0 x1 x2) 2 i (whM (WX x0 x1 x2) (rnM (WX x0 x1 x2) (t, s) k) 2)).1 ((itM (WX x0 x1 x2) 2 i (whM (WX x0 x1 x2) (rnM (WX x0 x1 x2) (t, s) k) 2)).2 2)).1 ((itM (WX x0 x1 x2) 2 i (whM (WX x0 x1 x2) (rnM (WX x0 x1 x2) (t, s) k) 2)).2 0) ((itM (WX x0 x1 x2) 2 i (whM (WX x0 x1 x2) (rnM (WX x0 x1 x2) (t, s) k) 2)).2 1) (turnM 2 x2 (itM (WX x0 x1 x2) 2 i (whM (WX x0 x1 x2) (rnM (WX x0 x1 x2) (t, s) k) 2)).1 ((itM (WX x0 x1 x2) 2 i (whM (WX x0 x1 x2) (rnM (WX x0 x1 x2) (t, s) k) 2)).2 2)).2, rfl, rfl, ?_⟩
            generalize (itM (WX x0 x1 x2) 2 i (whM (WX x0 x1 x2) (rnM (WX x0 x1 x2) (t, s) k) 2)) = p at hI ⊢
            generalize p.1 = t at hI ⊢
            generalize p.2 = s at hI ⊢
            clear Iw Ik
            have hme : (2 : Nat) < 3 := by omega
            have hx := (hI.small).2 2 hme
            have hnn := (hI.small).1
            have hnb := hI.nb
            have hml := hI.ml
            have hb : ¬ t.bad = true := by rw [hnb]; simp
            have hrdok := Inv.rdok hI hme
            have hWme : WX x0 x1 x2 2 = x2 := rfl
            rw [hWme] at hrdok
            generalize s 2 = x at *
            have hm1 : (t.m.length : Int) ≤ 1000000 := by omega
            have hl1 : (x.log.length : Int) ≤ 4294967296 := by omega
            have hl2 : (x.log.length : Int) + 1 ≤ 4294967296 := by omega
            have hv1 : (t.vals.length : Int) + 1 ≤ 4294967296 := by omega
            have hx0 : 0 ≤ x.nx := hx.2.1
            clear hI
            simp only [encQ, Bool.not_true, Bool.not_false, Bool.true_eq_false, SE.den, evU, evT, ev_le, ev_eq, ev_eqs, ev_eqb, ev_slt, ev_and, ev_or, ev_add, ev_sub, ev_mul, ev_tdiv, ev_tmod, ev_band, ev_bor, ev_bxor, ev_bandn, ev_shl, ev_shr, ev_cat, ev_byte, ev_idx, ev_cons, ev_snoc, ev_app, ev_take, ev_drop, ev_stake, ev_sdrop, ev_rep, leB_q, eqB_q, eqsB_q, not_q, i_if, b_if, l_if, s_if, i_int, b_bool, s_str, l_list, envL, List.getElem?_cons_succ, List.getElem?_cons_zero, List.getElem?_nil, Option.getD_some, Option.getD_none, Int.toNat_natCast, Int.toNat_zero, Int.reduceToNat, List.length_map, get_Li, get_Lb, get_Ls, set_Li, inj_Li, inj_Lb, inj_Ls, rows_i, rows_b, rows_s, Int.zero_add, iff_true, iff_false, and_true, true_and, Bool.false_eq_true, eq_self, not_true_eq_false, not_false_eq_true, List.length_replicate, DV.int.injEq, DV.bool.injEq, DV.str.injEq, DV.list.injEq, List.cons.injEq, f_ib_0, rows_ib, inj_Lib, f_ib_1, rows_ib, inj_Lib, f_ii_0, rows_ii, inj_Lii, f_ii_1, rows_ii, inj_Lii, f_iii_0, rows_iii, inj_Liii, f_iii_1, rows_iii, inj_Liii, f_iii_2, rows_iii, inj_Liii, lockExPhi, lSane16F, lSane16E, layOfF, layOfE, layWordF, layWordE, layValF, layValE, lkNextF, lkNextE, memDoF, memDoE, rCellF, rCellE, gi, gb, gs, gLi, gLu, gLb, gLs, dece_i, dece_b, dece_s, gLib, deces_ib, gLii, deces_ii, gLiii, deces_iii, List.cons_append, List.nil_append, hi1, hi2, nx_0, nx_1, nx_2, nx_3, nx_4, nx_5, nx_6, nx_7, nx_8, nx_9, nx_10, nx_11, nx_12, deces_ib, lkP_fold2, acM_fold2, wr_fold2, Int.reduceEq, true_imp_iff, false_imp_iff]
            by_cases c1 : (x2.length : Int) ≤ x.nx
            · have eT : turnM 2 x2 t x = (t, x) := by unfold turnM; rw [if_pos c1]
              simp [eT, c1, hnb, hm1, hl1, hl2, hv1, hx0, encib]
            · by_cases a2 : (x2[x.nx.toNat]?.getD 0).tmod 3 = 0
              · by_cases a3 : (lkP 2 4 0 x.log).done = true
                · by_cases a4 : (lkP 2 4 0 x.log).is = true
                  · obtain ⟨k1, k2, k3⟩ := hrdok (by omega) a2 a3 a4
                    have k1 : 0 ≤ (lkP 2 4 0 x.log).ver := k1
                    have k2 : (lkP 2 4 0 x.log).ver < (t.vals.length : Int) := k2
                    have k3 : (lkP 2 4 0 x.log).val = t.vals[(lkP 2 4 0 x.log).ver.toNat]?.getD 0 := k3
                    have k2' : ¬ (t.vals.length : Int) ≤ (lkP 2 4 0 x.log).ver := Int.not_le.2 k2
                    have hn1 : wr ((t.vals.length : Int) - 1) = (t.vals.length : Int) - 1 := wr_id (by omega) (by omega)
                    have hn2 : ¬ ((t.vals.length : Int) < 1) := by omega
                    have hn3 : ¬ ((t.vals.length : Int) - 1 < (lkP 2 4 0 x.log).ver) := by omega
                    have eT : turnM 2 x2 t x = (⟨t.m, t.held, t.vals, false⟩, ⟨wr (x.nx + 1), x.st, [], x.ver⟩) := by unfold turnM; rw [if_neg c1, if_neg hb, if_pos a2, if_pos a3, if_pos a4, if_pos k1, if_neg k2', if_pos k3]
                    simp [eT, c1, a2, a3, a4, hnb, k1, k2', k3, hn1, hn2, hn3, hx0]
                    try omega
                  · have eT : turnM 2 x2 t x = (⟨t.m, t.held, t.vals, false⟩, ⟨wr (x.nx + 1), x.st, [], x.ver⟩) := by unfold turnM; rw [if_neg c1, if_neg hb, if_pos a2, if_pos a3, if_neg a4]
                    simp [eT, c1, a2, a3, a4, hnb, hm1, hl1, hl2, hv1, hx0, encib]
                · have eT : turnM 2 x2 t x = (⟨(acM t.m (lkP 2 4 0 x.log)).1, t.held, t.vals, decide (¬ (acM t.m (lkP 2 4 0 x.log)).2.2 = 0)⟩, ⟨x.nx, x.st, x.log ++ [(acM t.m (lkP 2 4 0 x.log)).2.1], x.ver⟩) := by unfold turnM; rw [if_neg c1, if_neg hb, if_pos a2, if_neg a3]
                  simp [eT, c1, a2, a3, hnb, hm1, hl1, hl2, hv1, hx0, encib]
              · by_cases b1 : x.st = 1
                · have eT : turnM 2 x2 t x = (⟨(doM t.m 2 (placeM 16 2 0 4 1) 0 (wr (wr (wr (1000 * 2) + wr (10 * x.nx)) + 5)) []).1, t.held, t.vals ++ [(wr (wr (wr (1000 * 2) + wr (10 * x.nx)) + 5))], decide (¬ (doM t.m 2 (placeM 16 2 0 4 1) 0 (wr (wr (wr (1000 * 2) + wr (10 * x.nx)) + 5)) []).2.2 = 0)⟩, ⟨x.nx, 2, x.log, x.ver⟩) := by unfold turnM; rw [if_neg c1, if_neg hb, if_neg a2, if_pos b1]
                  simp [eT, c1, a2, b1, hnb, hm1, hl1, hl2, hv1, hx0, encib, pl_v, hK2, hK1, hK0]
                · by_cases b2 : x.st = 0
                  · by_cases a3 : (lkP 2 1 0 x.log).done = true
                    · by_cases a4 : (lkP 2 1 0 x.log).is = true
                      · have eT : turnM 2 x2 t x = (⟨t.m, t.held, t.vals, decide (¬ (lkP 2 1 0 x.log).ver = wr ((t.vals.length : Int) - 1))⟩, ⟨x.nx, 1, [], (lkP 2 1 0 x.log).ver⟩) := by unfold turnM; rw [if_neg c1, if_neg hb, if_neg a2, if_neg b1, if_pos b2, if_pos a3, if_pos a4]
                        simp [eT, c1, a2, b2, a3, a4, hnb, hm1, hl1, hl2, hv1, hx0, encib]
                      · have eT : turnM 2 x2 t x = (t, ⟨x.nx, x.st, [], x.ver⟩) := by unfold turnM; rw [if_neg c1, if_neg hb, if_neg a2, if_neg b1, if_pos b2, if_pos a3, if_neg a4]
                        simp [eT, c1, a2, b2, a3, a4, hnb, hm1, hl1, hl2, hv1, hx0, encib]
                    · by_cases a4 : (lkP 2 1 0 x.log).k = 3 ∧ (acM t.m (lkP 2 1 0 x.log)).2.1.2 = true
                      · by_cases a5 : (acM t.m (lkP 2 1 0 x.log)).2.2 = 0
                        · have eT : turnM 2 x2 t x = (⟨(acM t.m (lkP 2 1 0 x.log)).1, wr (t.held + 1), t.vals, decide (¬ wr (t.held + 1) = 1)⟩, ⟨x.nx, x.st, x.log ++ [(acM t.m (lkP 2 1 0 x.log)).2.1], x.ver⟩) := by unfold turnM; rw [if_neg c1, if_neg hb, if_neg a2, if_neg b1, if_pos b2, if_neg a3, if_pos a4, if_pos a5]
                          simp [eT, c1, a2, b2, a3, a4.1, a4.2, a5, hnb, hm1, hl1, hl2, hv1, hx0, encib]
                        · have eT : turnM 2 x2 t x = (⟨(acM t.m (lkP 2 1 0 x.log)).1, wr (t.held + 1), t.vals, true⟩, ⟨x.nx, x.st, x.log ++ [(acM t.m (lkP 2 1 0 x.log)).2.1], x.ver⟩) := by unfold turnM; rw [if_neg c1, if_neg hb, if_neg a2, if_neg b1, if_pos b2, if_neg a3, if_pos a4, if_neg a5]
                          simp [eT, c1, a2, b2, a3, a4.1, a4.2, a5, hnb, hm1, hl1, hl2, hv1, hx0, encib]
                      · have eT : turnM 2 x2 t x = (⟨(acM t.m (lkP 2 1 0 x.log)).1, t.held, t.vals, decide (¬ (acM t.m (lkP 2 1 0 x.log)).2.2 = 0)⟩, ⟨x.nx, x.st, x.log ++ [(acM t.m (lkP 2 1 0 x.log)).2.1], x.ver⟩) := by unfold turnM; rw [if_neg c1, if_neg hb, if_neg a2, if_neg b1, if_pos b2, if_neg a3, if_neg a4]
                        simp [eT, c1, a2, b2, a3, hnb, hm1, hl1, hl2, hv1, hx0, encib]
                        try (intro h5 h6; exact absurd ⟨h5, h6⟩ a4)
                  · by_cases a3 : (lkP 2 2 (wr (x.ver + 1)) x.log).done = true
                    · have eT : turnM 2 x2 t x = (t, ⟨wr (x.nx + 1), 0, [], 0⟩) := by unfold turnM; rw [if_neg c1, if_neg hb, if_neg a2, if_neg b1, if_neg b2, if_pos a3]
                      simp [eT, c1, a2, b1, b2, a3, hnb, hm1, hl1, hl2, hv1, hx0, encib]
                    · by_cases b3 : x.st = 2
                      · have eT : turnM 2 x2 t x = (⟨(acM t.m (lkP 2 2 (wr (x.ver + 1)) x.log)).1, wr (t.held - 1), t.vals, decide (¬ (acM t.m (lkP 2 2 (wr (x.ver + 1)) x.log)).2.2 = 0)⟩, ⟨x.nx, x.st, x.log ++ [(acM t.m (lkP 2 2 (wr (x.ver + 1)) x.log)).2.1], x.ver⟩) := by unfold turnM; rw [if_neg c1, if_neg hb, if_neg a2, if_neg b1, if_neg b2, if_neg a3, if_pos b3]
                        simp [eT, c1, a2, b1, b2, b3, a3, hnb, hm1, hl1, hl2, hv1, hx0, encib]
                      · have eT : turnM 2 x2 t x = (⟨(acM t.m (lkP 2 2 (wr (x.ver + 1)) x.log)).1, t.held, t.vals, decide (¬ (acM t.m (lkP 2 2 (wr (x.ver + 1)) x.log)).2.2 = 0)⟩, ⟨x.nx, x.st, x.log ++ [(acM t.m (lkP 2 2 (wr (x.ver + 1)) x.log)).2.1], x.ver⟩) := by unfold turnM; rw [if_neg c1, if_neg hb, if_neg a2, if_neg b1, if_neg b2, if_neg a3, if_neg b3]
                        simp [eT, c1, a2, b1, b2, b3, a3, hnb, hm1, hl1, hl2, hv1, hx0, encib]
        · refine ⟨fun h => absurd (Int.le_refl _) h, fun _ => ?_⟩
          have e : IntKind.i64.wrap ((w : Int) + 1) = ((w + 1 : Nat) : Int) := by rw [w64 (by omega) (by omega)]; omega
          show DV.int (IntKind.i64.wrap ((w : Int) + 1)) :: _ = DV.int ((w + 1 : Nat) : Int) :: _
          rw [e]
          rfl
      · refine ⟨fun h => absurd (Int.le_refl _) h, fun _ => ?_⟩
        have e : IntKind.i64.wrap ((k : Int) + 1) = ((k + 1 : Nat) : Int) := by rw [w64 (by omega) (by omega)]; omega
        show DV.int (IntKind.i64.wrap ((k : Int) + 1)) :: _ = DV.int ((k + 1 : Nat) : Int) :: _
        rw [e]
        rfl
    · refine ⟨fun h => absurd (Int.le_refl _) h, fun _ => ?_⟩
      have hR3 := rnd_3 (p := (t, s)) hI
      have hr3 : rnM W (t, s) 3 = rndM W (rndM W (rndM W (t, s))) := rfl
      rw [← hr3] at hR3
      generalize rnM W (t, s) 3 = p at *
      obtain ⟨z1, z2, z3, z4, z5, z6⟩ := hR3
      have hW0 : wisN W 1 = wisN W 0 + cntM x0 x0.length := by rw [hW]; rfl
      have hW1 : wisN W 2 = wisN W 1 + cntM x1 x1.length := by rw [hW]; rfl
      have hW2 : wisN W 3 = wisN W 2 + cntM x2 x2.length := by rw [hW]; rfl
      have hs0 : (p.2 0).nx = (x0.length : Int) := by have := z3 0 (by omega); rw [hW] at this; exact this
      have hs1 : (p.2 1).nx = (x1.length : Int) := by have := z3 1 (by omega); rw [hW] at this; exact this
      have hs2 : (p.2 2).nx = (x2.length : Int) := by have := z3 2 (by omega); rw [hW] at this; exact this
      have hn0 := cnt_le x0 x0.length
      have hn1 := cnt_le x1 x1.length
      have hn2 := cnt_le x2 x2.length
      have hw0 : wisN W 0 = 0 := rfl
      have hwn : ∀ w, w ≤ 3 → wisN W w ≤ 24 := fun w hw => by
        rcases (by omega : w = 0 ∨ w = 1 ∨ w = 2 ∨ w = 3) with rfl | rfl | rfl | rfl <;> omega
      have hvl : p.1.vals.length = 1 + wisN W 3 := by
        have : p.1.vals.length = 1 + (cntM x0 x0.length + cntM x1 x1.length + cntM x2 x2.length) := by rw [hW] at z4; exact z4
        omega
      refine ⟨rfl, ?_⟩
      refine rounds_at2 3 (fun w => [.int ((wisN W w : Nat) : Int), .int (w : Nat)]) rfl (fun _ => rfl) (fun w hw => ⟨_, _, rfl, rfl, ?_⟩) ⟨_, rfl, ?_⟩
      · rcases (by omega : w = 0 ∨ w = 1 ∨ w = 2) with rfl | rfl | rfl
        · refine ⟨fun _ => ⟨rfl, ?_⟩, fun h => absurd (show (3 : Int) ≤ 0 from h) (by omega)⟩
          have hc : ∀ i, cntM x0 i ≤ i := cnt_le x0
          have hwis : wisN W 0 ≤ 24 := hwn 0 (by omega)
          refine rounds_at2 x0.length (fun i => [.int ((wisN W 0 + cntM x0 i : Nat) : Int), .int 0, .int i, .int 0]) rfl (fun _ => rfl) (fun i hi => ⟨_, _, rfl, rfl, ?_⟩) ⟨_, rfl, ?_⟩
          · have hci := hc i
            have e1 : IntKind.i64.wrap ((i : Int) + 1) = ((i + 1 : Nat) : Int) := by rw [w64 (by omega) (by omega)]; omega
            have e2 : IntKind.i64.wrap (((wisN W 0 + cntM x0 i : Nat) : Int) + 1) = ((wisN W 0 + (cntM x0 i + 1) : Nat) : Int) := by rw [w64 (by omega) (by omega)]; omega
            refine ⟨fun h => absurd (show (0 : Int) = 2 from h) (by omega), fun _ => ⟨fun h => absurd (show (0 : Int) = 1 from h) (by omega), fun _ => ⟨fun _ => ⟨fun _ => ⟨show (0 : Int) ≤ i by omega, fun h => ?_, fun h => ?_⟩, fun h => absurd (show (x0.length : Int) ≤ i from h) (by omega)⟩, fun h => absurd rfl h⟩⟩⟩
            · show [DV.int (IntKind.i64.wrap (((wisN W 0 + cntM x0 i : Nat) : Int) + 1)), DV.int 0, DV.int (IntKind.i64.wrap ((i : Int) + 1)), DV.int 0] = [DV.int ((wisN W 0 + cntM x0 (i + 1) : Nat) : Int), DV.int 0, DV.int ((i + 1 : Nat) : Int), DV.int 0]
              rw [e1, e2, cnt_in x0 i h]
            · show [DV.int ((wisN W 0 + cntM x0 i : Nat) : Int), DV.int 0, DV.int (IntKind.i64.wrap ((i : Int) + 1)), DV.int 0] = [DV.int ((wisN W 0 + cntM x0 (i + 1) : Nat) : Int), DV.int 0, DV.int ((i + 1 : Nat) : Int), DV.int 0]
              rw [e1, cnt_out x0 i h]
          · refine ⟨fun h => absurd (show (0 : Int) = 2 from h) (by omega), fun _ => ⟨fun h => absurd (show (0 : Int) = 1 from h) (by omega), fun _ => ⟨fun _ => ⟨fun h => absurd (Int.le_refl _) h, fun _ => ⟨fun h => absurd (show (p.2 0).nx = (x0.length : Int) from hs0) h, fun _ => ?_⟩⟩, fun h => absurd rfl h⟩⟩⟩
            show [DV.int ((wisN W 0 + cntM x0 x0.length : Nat) : Int), DV.int 1] = [DV.int ((wisN W 1 : Nat) : Int), DV.int ((1 : Nat) : Int)]
            rw [hW0]
            rfl
        · refine ⟨fun _ => ⟨rfl, ?_⟩, fun h => absurd (show (3 : Int) ≤ 1 from h) (by omega)⟩
          have hc : ∀ i, cntM x1 i ≤ i := cnt_le x1
          have hwis : wisN W 1 ≤ 24 := hwn 1 (by omega)
          refine rounds_at2 x1.length (fun i => [.int ((wisN W 1 + cntM x1 i : Nat) : Int), .int 1, .int i, .int 1]) rfl (fun _ => rfl) (fun i hi => ⟨_, _, rfl, rfl, ?_⟩) ⟨_, rfl, ?_⟩
          · have hci := hc i
            have e1 : IntKind.i64.wrap ((i : Int) + 1) = ((i + 1 : Nat) : Int) := by rw [w64 (by omega) (by omega)]; omega
            have e2 : IntKind.i64.wrap (((wisN W 1 + cntM x1 i : Nat) : Int) + 1) = ((wisN W 1 + (cntM x1 i + 1) : Nat) : Int) := by rw [w64 (by omega) (by omega)]; omega
            refine ⟨fun h => absurd (show (1 : Int) = 2 from h) (by omega), fun _ => ⟨fun _ => ⟨fun _ => ⟨show (0 : Int) ≤ i by omega, fun h => ?_, fun h => ?_⟩, fun h => absurd (show (x1.length : Int) ≤ i from h) (by omega)⟩, fun h => absurd rfl h⟩⟩
            · show [DV.int (IntKind.i64.wrap (((wisN W 1 + cntM x1 i : Nat) : Int) + 1)), DV.int 1, DV.int (IntKind.i64.wrap ((i : Int) + 1)), DV.int 1] = [DV.int ((wisN W 1 + cntM x1 (i + 1) : Nat) : Int), DV.int 1, DV.int ((i + 1 : Nat) : Int), DV.int 1]
              rw [e1, e2, cnt_in x1 i h]
            · show [DV.int ((wisN W 1 + cntM x1 i : Nat) : Int), DV.int 1, DV.int (IntKind.i64.wrap ((i : Int) + 1)), DV.int 1] = [DV.int ((wisN W 1 + cntM x1 (i + 1) : Nat) : Int), DV.int 1, DV.int ((i + 1 : Nat) : Int), DV.int 1]
              rw [e1, cnt_out x1 i h]
          · refine ⟨fun h => absurd (show (1 : Int) = 2 from h) (by omega), fun _ => ⟨fun _ => ⟨fun h => absurd (Int.le_refl _) h, fun _ => ⟨fun h => absurd (show (p.2 1).nx = (x1.length : Int) from hs1) h, fun _ => ?_⟩⟩, fun h => absurd rfl h⟩⟩
            show [DV.int ((wisN W 1 + cntM x1 x1.length : Nat) : Int), DV.int 2] = [DV.int ((wisN W 2 : Nat) : Int), DV.int ((2 : Nat) : Int)]
            rw [hW1]
            rfl
        · refine ⟨fun _ => ⟨rfl, ?_⟩, fun h => absurd (show (3 : Int) ≤ 2 from h) (by omega)⟩
          have hc : ∀ i, cntM x2 i ≤ i := cnt_le x2
          have hwis : wisN W 2 ≤ 24 := hwn 2 (by omega)
          refine rounds_at2 x2.length (fun i => [.int ((wisN W 2 + cntM x2 i : Nat) : Int), .int 2, .int i, .int 2]) rfl (fun _ => rfl) (fun i hi => ⟨_, _, rfl, rfl, ?_⟩) ⟨_, rfl, ?_⟩
          · have hci := hc i
            have e1 : IntKind.i64.wrap ((i : Int) + 1) = ((i + 1 : Nat) : Int) := by rw [w64 (by omega) (by omega)]; omega
            have e2 : IntKind.i64.wrap (((wisN W 2 + cntM x2 i : Nat) : Int) + 1) = ((wisN W 2 + (cntM x2 i + 1) : Nat) : Int) := by rw [w64 (by omega) (by omega)]; omega
            refine ⟨fun _ => ⟨fun _ => ⟨show (0 : Int) ≤ i by omega, fun h => ?_, fun h => ?_⟩, fun h => absurd (show (x2.length : Int) ≤ i from h) (by omega)⟩, fun h => absurd rfl h⟩
            · show [DV.int (IntKind.i64.wrap (((wisN W 2 + cntM x2 i : Nat) : Int) + 1)), DV.int 2, DV.int (IntKind.i64.wrap ((i : Int) + 1)), DV.int 2] = [DV.int ((wisN W 2 + cntM x2 (i + 1) : Nat) : Int), DV.int 2, DV.int ((i + 1 : Nat) : Int), DV.int 2]
              rw [e1, e2, cnt_in x2 i h]
            · show [DV.int ((wisN W 2 + cntM x2 i : Nat) : Int), DV.int 2, DV.int (IntKind.i64.wrap ((i : Int) + 1)), DV.int 2] = [DV.int ((wisN W 2 + cntM x2 (i + 1) : Nat) : Int), DV.int 2, DV.int ((i + 1 : Nat) : Int), DV.int 2]
              rw [e1, cnt_out x2 i h]
          · refine ⟨fun _ => ⟨fun h => absurd (Int.le_refl _) h, fun _ => ⟨fun h => absurd (show (p.2 2).nx = (x2.length : Int) from hs2) h, fun _ => ?_⟩⟩, fun h => absurd rfl h⟩
            show [DV.int ((wisN W 2 + cntM x2 x2.length : Nat) : Int), DV.int 3] = [DV.int ((wisN W 3 : Nat) : Int), DV.int ((3 : Nat) : Int)]
            rw [hW2]
            rfl
      · refine ⟨fun h => absurd (Int.le_refl _) h, fun _ => ?_⟩
        have hw3 := hwn 3 (by omega)
        have E2 : ((p.1.vals.map DV.int).length : Int) = IntKind.i64.wrap (((wisN W 3 : Nat) : Int) + 1) := by rw [List.length_map, hvl, w64 (by omega) (by omega)]; omega
        have E : cellM (List.map DV.i (p.1.m.map DV.int)) 16 = IntKind.i64.wrap (((wisN W 3 : Nat) : Int) * 2 ^ min 1 IntKind.i64.bits) := by
          have e0 : (2 : Int) ^ min 1 IntKind.i64.bits = 2 := rfl
          rw [e0, dece_i, w64 (by omega) (by omega)]
          unfold cellM
          rw [if_neg (by omega)]
          show p.1.m[16]?.getD 0 = _
          rw [z6, hvl]
          omega
        refine ⟨fun _ => ⟨fun _ => ⟨fun _ => ⟨fun _ => E, fun h => absurd E2 h⟩, fun h => absurd z2 h⟩, fun h => ?_⟩, fun h => h⟩
        have h' : p.1.bad = true := h
        rw [z1] at h'
        cases h'
namespace row
open Go.ChangeShapes Go.WideShapes Go.ChangeAt Go.RowKit Go.Joins Go.Deep Go.Proofs.Ytjkdenancggndaa
theorem lifted (os : Os) (started : os.Started) (H : Type) (enc : TypeId × Value → H) :
    ReturnsInHanded {} Try.checked os 3 .any (Rows.lockExclusiveSpec.pre6 enc Try.prog Try.f3 Rows.lockExclusiveRow.domain false) (Rows.lockExclusiveSpec.post enc Try.prog Try.f3 false true false false) := by
  refine returnsInHanded_of_change (C := Try.checked) own started (by kernel_rfl) Try.func3
    (ChangeSpec.witness6 (enc := enc) (C := Try.checked) false ⟨#[], #[.agg #[.slice none 0 0, .slice none 0 0, .slice none 0 0, .slice none 0 0]], []⟩ 8 (by kernel_rfl) (by kernel_rfl) (by kernel_rfl) (by kernel_rfl)) ?_
  intro W base args ds gs before hval0 hW hcnd _
  have hval : ∀ (j : Nat) t v, Try.f3.params[j]? = some t → args[j]? = some v → Value.okWide Try.prog W .any base t v := hval0
  have hW' := hW
  obtain ⟨p, q, hA0, hV, rfl, hfz, hnd⟩ := hW
  have hA : DataW.TrodAll enc Try.prog W 0 (fun _ => true) true Try.f3.params.toList args.toList ds p := hA0
  have hval2 : ∀ (j : Nat) t v, Try.f3.params.toList[j]? = some t → args.toList[j]? = some v → Value.okWide Try.prog W .any base t v := fun j t v a b => hval j t v (by simpa using a) (by simpa using b)
  have hcall := law_of lockEx_pure (fun _ h => h) (by rw [Try.params3]; kernel_rfl) hA hval2
  rw [Try.params3] at hA
  obtain ⟨v0, vs0, d0, ds0, p0, q0, hargs, rfl, rfl, h0, r0⟩ := trodAll_cons hA
  obtain ⟨rfl, rfl, rfl⟩ := trodAll_nil r0
  obtain rfl : args = #[v0] := by cases args; simp_all
  obtain ⟨rfl, rfl⟩ := trodVars_none hV
  have lt0 : ∀ x ∈ p0, x.block < W.heap.size := by obtain ⟨m, hm⟩ := h0; exact DataW.trod_lt m _ _ _ hm
  clear hA0 hval0 hval2
  refine Calls.mono hcall fun e W' ⟨he, bel⟩ => ?_
  subst he
  exact ⟨_, rfl, _, _, _, [], _, [], hW', trodAll_mk1 (shut_bool Try.underlying4 _), (trodAll_cons_mk (Below.trod laidOut (by kernel_rfl) (of_decide_eq_true (by kernel_rfl)) h0 bel lt0) trodAll_mk0), rfl, bel.frame _, fun h => by cases h⟩
theorem over : Rows.lockExclusiveRow.holds Try.pinned (OpenSpec.ofChange Rows.lockExclusiveSpec) :=
  OpenClaim.holds_of_wide 3 Try.f3 rfl rfl rfl rfl rfl rfl rfl ⟨rfl, rfl, rfl, rfl, rfl⟩ rfl rfl rfl rfl rfl (by kernel_rfl) Try.func3 (by kernel_rfl)
    (of_decide_eq_true (by kernel_rfl)) (by unfold Func.isWrapper; first | (rw [if_pos (by decide +kernel)]; kernel_rfl) | (rw [if_neg (by decide +kernel)]; exact ⟨rfl, rfl⟩))
    (fun os started H enc _ => lifted os started H enc)
end row
theorem lockEx_proved : Rows.LockExclusiveSaid := row.over
end Go.Proofs.Ytjkdenancggndaa
