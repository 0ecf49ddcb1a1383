/- The function hallmootref22.Same is a function of data. No condition. -/
import Derived.Test.YtlaebfjfnbiooaaDoorNx
import Derived.Test.YtlaebfjfnbiooaaDoorBd
import Derived.Test.YtlaebfjfnbiooaaDoorOpen
namespace Go.Proofs.YtlaebfjfnbiooaaDoor
set_option linter.unusedVariables false
set_option linter.unusedSimpArgs false
set_option maxRecDepth 100000

def rDSameE (s1 : List (List UInt8)) (w1 : List Tis) (s2 : List (List UInt8)) (w2 : List Tis) : List DV := [.bool (decide (s1 = s2) && decide (w1 = w2))]

def rDSameF (ds : List DV) : List DV := rDSameE (gLs ds 0) (gLis ds 1) (gLs ds 2) (gLis ds 3)
/-- What the executor makes of it. -/
def rDSameTree : PT :=
(.br (.un .not (.bin .eq (.un .len (.var 0)) (.un .len (.var 2))))
 (.leaf [(.bool false)])
 (.br (.un .not (.bin .eq (.un .len (.var 1)) (.un .len (.var 3))))
  (.leaf [(.bool false)])
  (.loop 4 [(.int 0)]
   (.br (.un .not (.bin .le (.un .len (.var 0)) (.var 4)))
    (.asrt (.bin .le (.int 0) (.var 4))
     (.asrt (.un .not (.bin .le (.un .len (.var 2)) (.var 4)))
      (.br (.un .not (.bin .eqs (.bin .idx (.var 0) (.bin .add (.int 0) (.var 4))) (.bin .idx (.var 2) (.bin .add (.int 0) (.var 4)))))
       .fail
       (.leaf [(.un (.wrap .i64) (.bin .add (.var 4) (.int 1)))]))))
    .fail)
   (.br (.un .not (.bin .le (.un .len (.var 0)) (.var 4)))
    (.asrt (.bin .le (.int 0) (.var 4))
     (.asrt (.un .not (.bin .le (.un .len (.var 2)) (.var 4)))
      (.br (.un .not (.bin .eqs (.bin .idx (.var 0) (.bin .add (.int 0) (.var 4))) (.bin .idx (.var 2) (.bin .add (.int 0) (.var 4)))))
       (.leaf [(.bool false)])
       .fail)))
    (.loop 5 [(.int 0)]
     (.br (.un .not (.bin .le (.un .len (.var 1)) (.var 5)))
      (.asrt (.bin .le (.int 0) (.var 5))
       (.asrt (.un .not (.bin .le (.un .len (.var 3)) (.var 5)))
        (.br (.un .not (.bin .and (.bin .eq (.bin .idx (.bin .idx (.var 1) (.bin .add (.int 0) (.var 5))) (.int 0)) (.bin .idx (.bin .idx (.var 3) (.bin .add (.int 0) (.var 5))) (.int 0))) (.bin .eqs (.bin .idx (.bin .idx (.var 1) (.bin .add (.int 0) (.var 5))) (.int 1)) (.bin .idx (.bin .idx (.var 3) (.bin .add (.int 0) (.var 5))) (.int 1)))))
         .fail
         (.leaf [(.un (.wrap .i64) (.bin .add (.var 5) (.int 1)))]))))
      .fail)
     (.br (.un .not (.bin .le (.un .len (.var 1)) (.var 5)))
      (.asrt (.bin .le (.int 0) (.var 5))
       (.asrt (.un .not (.bin .le (.un .len (.var 3)) (.var 5)))
        (.br (.un .not (.bin .and (.bin .eq (.bin .idx (.bin .idx (.var 1) (.bin .add (.int 0) (.var 5))) (.int 0)) (.bin .idx (.bin .idx (.var 3) (.bin .add (.int 0) (.var 5))) (.int 0))) (.bin .eqs (.bin .idx (.bin .idx (.var 1) (.bin .add (.int 0) (.var 5))) (.int 1)) (.bin .idx (.bin .idx (.var 3) (.bin .add (.int 0) (.var 5))) (.int 1)))))
         (.leaf [(.bool false)])
         .fail)))
      (.leaf [(.bool true)])))))))

def rDSameSm : List (Nat × Smy) := []
def rDSameLa : List (LK × LA) := [(⟨59, 9, 6, 5⟩, ⟨[(6, (.int .i64 (.var 5))), (41, .any), (42, .any), (43, .any), (44, .any), (45, .any), (46, .any), (47, .any), (48, .any), (49, .any), (50, .any), (51, .any), (52, .any), (53, .any), (54, .any), (55, .any), (56, .any), (57, .any), (58, .any)], [], [], 1, 0⟩),
  (⟨59, 4, 6, 4⟩, ⟨[(5, (.int .i64 (.var 4))), (23, .any), (24, .any), (25, .any), (26, .any), (27, .any), (28, .any), (29, .any), (30, .any), (31, .any), (32, .any), (33, .any), (34, .any), (35, .any), (36, .any), (37, .any), (38, .any), (39, .any), (40, .any)], [], [], 1, 0⟩)]
def rDSamePhi : Fs := ⟨fun n d => match n with
  | _ => d, 130⟩
theorem rDSameS : SmyOk true Tryd.prog rDSamePhi rDSameSm := smy_nil
theorem rDSameT : treeOk ⟨Tryd.prog, rDSameSm, rDSameLa, true⟩ 4000 14 [.agg [.rows false [.str], .rows false [.int .i64, .str]], .agg [.rows false [.str], .rows false [.int .i64, .str]]] [.one (.pl .bool)] ([]) rDSameTree = true := by decide +kernel
set_option maxHeartbeats 1000000 in
theorem rDSame_pure : PureE true Tryd.prog 14 [.agg [.rows false [.str], .rows false [.int .i64, .str]], .agg [.rows false [.str], .rows false [.int .i64, .str]]] [.one (.pl .bool)] (lenP [(0, 1000000), (1, 1000000), (2, 1000000), (3, 1000000)]) rDSameF := by
  refine pure_tree (X := ⟨Tryd.prog, rDSameSm, rDSameLa, true⟩) (by decide +kernel) (Checked.mixed Tryd.checked) rDSameS (by decide +kernel) (by decide +kernel) rDSameT (by decide +kernel) ?_
  intro ds hl hp
  obtain ⟨d0, d1, d2, d3, rfl⟩ := len4 hl
  have b0 : (d0.l.length : Int) ≤ 1000000 := hp (0, 1000000) (by simp)
  have b1 : (d1.l.length : Int) ≤ 1000000 := hp (1, 1000000) (by simp)
  have b2 : (d2.l.length : Int) ≤ 1000000 := hp (2, 1000000) (by simp)
  have b3 : (d3.l.length : Int) ≤ 1000000 := hp (3, 1000000) (by simp)
  have hF : rDSameF [d0, d1, d2, d3] = rDSameE (d0.l.map DV.s) (d1.l.map decis) (d2.l.map DV.s) (d3.l.map decis) := rfl
  rw [hF]
  clear hF hp hl
  have hN : nrmL (clsOf [.agg [.rows false [.str], .rows false [.int .i64, .str]], .agg [.rows false [.str], .rows false [.int .i64, .str]]]) [d0, d1, d2, d3] = [.list ((d0.l.map DV.s).map DV.str), .list ((d1.l.map decis).map encis), .list ((d2.l.map DV.s).map DV.str), .list ((d3.l.map decis).map encis)] := by
    simp only [clsOf, Sh.cls, List.append_nil, List.cons_append, List.nil_append, nrmL, Cl.nrm, CK.nrm, map_Lis, map_Ls]
  rw [hN]
  clear hN
  rw [← List.length_map (f := DV.s)] at b0
  generalize d0.l.map DV.s = x0 at b0 ⊢
  rw [← List.length_map (f := decis)] at b1
  generalize d1.l.map decis = x1 at b1 ⊢
  rw [← List.length_map (f := DV.s)] at b2
  generalize d2.l.map DV.s = x2 at b2 ⊢
  rw [← List.length_map (f := decis)] at b3
  generalize d3.l.map decis = x3 at b3 ⊢
  refine ⟨facts_nil _, ?_⟩
  unfold rDSameTree rDSameE
  simp only [Sat, clsOf, Sh.cls, List.append_nil, List.cons_append, List.nil_append, nrmL, Cl.nrm, CK.nrm, List.map_cons, List.map_nil, List.length_cons, List.length_nil, List.cons.injEq, DV.bool.injEq, DV.int.injEq, DV.list.injEq, DV.str.injEq, and_true, true_and]
  try simp only [q_le, q_eq, q_eqs, q_eqb, q_and, q_or, q_not, q_bool, iff_true, iff_false, Bool.not_true, Bool.not_false, Bool.false_eq_true, Bool.true_eq_false, eq_self, Bool.not_not]
  simp only [Bool.not_true, Bool.not_false, Bool.true_eq_false, SE.den, evU, evT, ev_le, ev_eq, ev_eqs, ev_eqb, ev_slt, ev_and, ev_or, ev_add, ev_sub, ev_mul, ev_tdiv, ev_tmod, ev_band, ev_bor, ev_bxor, ev_bandn, ev_shl, ev_shr, ev_cat, ev_byte, ev_idx, ev_cons, ev_snoc, ev_app, ev_take, ev_drop, ev_stake, ev_sdrop, ev_rep, leB_q, eqB_q, eqsB_q, not_q, i_if, b_if, l_if, s_if, i_int, b_bool, s_str, l_list, envL, List.getElem?_cons_succ, List.getElem?_cons_zero, List.getElem?_nil, Option.getD_some, Option.getD_none, Int.toNat_natCast, Int.toNat_zero, Int.reduceToNat, List.length_map, get_Li, get_Lb, get_Ls, set_Li, inj_Li, inj_Lb, inj_Ls, rows_i, rows_b, rows_s, Int.zero_add, iff_true, iff_false, and_true, true_and, Bool.false_eq_true, eq_self, not_true_eq_false, not_false_eq_true, List.length_replicate, DV.int.injEq, DV.bool.injEq, DV.str.injEq, DV.list.injEq, List.cons.injEq, f_is_0, rows_is, inj_Lis, f_is_1, rows_is, inj_Lis]
  refine ⟨fun h => ?_, fun h1 => ⟨fun h => ?_, fun h2 => ?_⟩⟩
  · rw [decide_eq_false (p := x0 = x2) (fun e => h (by rw [e]))]; rfl
  · rw [decide_eq_false (p := x1 = x3) (fun e => h (by rw [e]))]; simp
  have l1 : x0.length = x2.length := by omega
  have l2 : x1.length = x3.length := by omega
  refine rounds_find x0.length (fun i => [DV.int i]) (fun i => x0[i]?.getD [] ≠ x2[i]?.getD []) rfl (fun _ => rfl) (fun i hi hs hj => ?_) (fun i hi hs hj => ?_) (fun hj => ?_)
  · have e1 : ¬ (x0.length : Int) ≤ i := by omega
    have e2 : ¬ (x2.length : Int) ≤ i := by omega
    have hs := Classical.not_not.1 hs
    simp only [Bool.not_true, Bool.not_false, Bool.true_eq_false, SE.den, evU, evT, ev_le, ev_eq, ev_eqs, ev_eqb, ev_slt, ev_and, ev_or, ev_add, ev_sub, ev_mul, ev_tdiv, ev_tmod, ev_band, ev_bor, ev_bxor, ev_bandn, ev_shl, ev_shr, ev_cat, ev_byte, ev_idx, ev_cons, ev_snoc, ev_app, ev_take, ev_drop, ev_stake, ev_sdrop, ev_rep, leB_q, eqB_q, eqsB_q, not_q, i_if, b_if, l_if, s_if, i_int, b_bool, s_str, l_list, envL, List.getElem?_cons_succ, List.getElem?_cons_zero, List.getElem?_nil, Option.getD_some, Option.getD_none, Int.toNat_natCast, Int.toNat_zero, Int.reduceToNat, List.length_map, get_Li, get_Lb, get_Ls, set_Li, inj_Li, inj_Lb, inj_Ls, rows_i, rows_b, rows_s, Int.zero_add, iff_true, iff_false, and_true, true_and, Bool.false_eq_true, eq_self, not_true_eq_false, not_false_eq_true, List.length_replicate, DV.int.injEq, DV.bool.injEq, DV.str.injEq, DV.list.injEq, List.cons.injEq, f_is_0, rows_is, inj_Lis, f_is_1, rows_is, inj_Lis, e1, e2, hs, w64 (n := (i : Int) + 1) (by omega) (by omega)]
    simp
  · have e1 : ¬ (x0.length : Int) ≤ i := by omega
    have e2 : ¬ (x2.length : Int) ≤ i := by omega
    have hne : x0 ≠ x2 := fun e => hs (by rw [e])
    have hs : ¬ x0[i]?.getD [] = x2[i]?.getD [] := hs
    simp only [Bool.not_true, Bool.not_false, Bool.true_eq_false, SE.den, evU, evT, ev_le, ev_eq, ev_eqs, ev_eqb, ev_slt, ev_and, ev_or, ev_add, ev_sub, ev_mul, ev_tdiv, ev_tmod, ev_band, ev_bor, ev_bxor, ev_bandn, ev_shl, ev_shr, ev_cat, ev_byte, ev_idx, ev_cons, ev_snoc, ev_app, ev_take, ev_drop, ev_stake, ev_sdrop, ev_rep, leB_q, eqB_q, eqsB_q, not_q, i_if, b_if, l_if, s_if, i_int, b_bool, s_str, l_list, envL, List.getElem?_cons_succ, List.getElem?_cons_zero, List.getElem?_nil, Option.getD_some, Option.getD_none, Int.toNat_natCast, Int.toNat_zero, Int.reduceToNat, List.length_map, get_Li, get_Lb, get_Ls, set_Li, inj_Li, inj_Lb, inj_Ls, rows_i, rows_b, rows_s, Int.zero_add, iff_true, iff_false, and_true, true_and, Bool.false_eq_true, eq_self, not_true_eq_false, not_false_eq_true, List.length_replicate, DV.int.injEq, DV.bool.injEq, DV.str.injEq, DV.list.injEq, List.cons.injEq, f_is_0, rows_is, inj_Lis, f_is_1, rows_is, inj_Lis, e1, e2, hs, hne]
    simp
  · have heq : x0 = x2 := by
      apply List.ext_getElem? fun i => ?_
      by_cases hi : i < x0.length
      · have := Classical.not_not.1 (hj i hi)
        rw [List.getElem?_eq_getElem hi, List.getElem?_eq_getElem (by omega)] at this ⊢
        simpa using this
      · rw [List.getElem?_eq_none (by omega), List.getElem?_eq_none (by omega)]
    subst heq
    simp only [Bool.not_true, Bool.not_false, Bool.true_eq_false, SE.den, evU, evT, ev_le, ev_eq, ev_eqs, ev_eqb, ev_slt, ev_and, ev_or, ev_add, ev_sub, ev_mul, ev_tdiv, ev_tmod, ev_band, ev_bor, ev_bxor, ev_bandn, ev_shl, ev_shr, ev_cat, ev_byte, ev_idx, ev_cons, ev_snoc, ev_app, ev_take, ev_drop, ev_stake, ev_sdrop, ev_rep, leB_q, eqB_q, eqsB_q, not_q, i_if, b_if, l_if, s_if, i_int, b_bool, s_str, l_list, envL, List.getElem?_cons_succ, List.getElem?_cons_zero, List.getElem?_nil, Option.getD_some, Option.getD_none, Int.toNat_natCast, Int.toNat_zero, Int.reduceToNat, List.length_map, get_Li, get_Lb, get_Ls, set_Li, inj_Li, inj_Lb, inj_Ls, rows_i, rows_b, rows_s, Int.zero_add, iff_true, iff_false, and_true, true_and, Bool.false_eq_true, eq_self, not_true_eq_false, not_false_eq_true, List.length_replicate, DV.int.injEq, DV.bool.injEq, DV.str.injEq, DV.list.injEq, List.cons.injEq, f_is_0, rows_is, inj_Lis, f_is_1, rows_is, inj_Lis]
    refine ⟨fun h => absurd (Int.le_refl _) h, fun _ => ⟨rfl, ?_⟩⟩
    refine rounds_find x1.length (fun i => [DV.int i]) (fun i => x1[i]?.getD dis ≠ x3[i]?.getD dis) rfl (fun _ => rfl) (fun i hi hs hj => ?_) (fun i hi hs hj => ?_) (fun hj => ?_)
    · have e1 : ¬ (x1.length : Int) ≤ i := by omega
      have e2 : ¬ (x3.length : Int) ≤ i := by omega
      have hs := Classical.not_not.1 hs
      simp only [Bool.not_true, Bool.not_false, Bool.true_eq_false, SE.den, evU, evT, ev_le, ev_eq, ev_eqs, ev_eqb, ev_slt, ev_and, ev_or, ev_add, ev_sub, ev_mul, ev_tdiv, ev_tmod, ev_band, ev_bor, ev_bxor, ev_bandn, ev_shl, ev_shr, ev_cat, ev_byte, ev_idx, ev_cons, ev_snoc, ev_app, ev_take, ev_drop, ev_stake, ev_sdrop, ev_rep, leB_q, eqB_q, eqsB_q, not_q, i_if, b_if, l_if, s_if, i_int, b_bool, s_str, l_list, envL, List.getElem?_cons_succ, List.getElem?_cons_zero, List.getElem?_nil, Option.getD_some, Option.getD_none, Int.toNat_natCast, Int.toNat_zero, Int.reduceToNat, List.length_map, get_Li, get_Lb, get_Ls, set_Li, inj_Li, inj_Lb, inj_Ls, rows_i, rows_b, rows_s, Int.zero_add, iff_true, iff_false, and_true, true_and, Bool.false_eq_true, eq_self, not_true_eq_false, not_false_eq_true, List.length_replicate, DV.int.injEq, DV.bool.injEq, DV.str.injEq, DV.list.injEq, List.cons.injEq, f_is_0, rows_is, inj_Lis, f_is_1, rows_is, inj_Lis, List.cons_append, List.nil_append, e1, e2, hs, w64 (n := (i : Int) + 1) (by omega) (by omega)]
      simp
    · have e1 : ¬ (x1.length : Int) ≤ i := by omega
      have e2 : ¬ (x3.length : Int) ≤ i := by omega
      have hne : x1 ≠ x3 := fun e => hs (by rw [e])
      have hs : ¬ x1[i]?.getD dis = x3[i]?.getD dis := hs
      simp only [Bool.not_true, Bool.not_false, Bool.true_eq_false, SE.den, evU, evT, ev_le, ev_eq, ev_eqs, ev_eqb, ev_slt, ev_and, ev_or, ev_add, ev_sub, ev_mul, ev_tdiv, ev_tmod, ev_band, ev_bor, ev_bxor, ev_bandn, ev_shl, ev_shr, ev_cat, ev_byte, ev_idx, ev_cons, ev_snoc, ev_app, ev_take, ev_drop, ev_stake, ev_sdrop, ev_rep, leB_q, eqB_q, eqsB_q, not_q, i_if, b_if, l_if, s_if, i_int, b_bool, s_str, l_list, envL, List.getElem?_cons_succ, List.getElem?_cons_zero, List.getElem?_nil, Option.getD_some, Option.getD_none, Int.toNat_natCast, Int.toNat_zero, Int.reduceToNat, List.length_map, get_Li, get_Lb, get_Ls, set_Li, inj_Li, inj_Lb, inj_Ls, rows_i, rows_b, rows_s, Int.zero_add, iff_true, iff_false, and_true, true_and, Bool.false_eq_true, eq_self, not_true_eq_false, not_false_eq_true, List.length_replicate, DV.int.injEq, DV.bool.injEq, DV.str.injEq, DV.list.injEq, List.cons.injEq, f_is_0, rows_is, inj_Lis, f_is_1, rows_is, inj_Lis, List.cons_append, List.nil_append, e1, e2, hne]
      grind
    · have heq : x1 = x3 := by
        apply List.ext_getElem? fun i => ?_
        by_cases hi : i < x1.length
        · have := Classical.not_not.1 (hj i hi)
          rw [List.getElem?_eq_getElem hi, List.getElem?_eq_getElem (by omega)] at this ⊢
          simpa using this
        · rw [List.getElem?_eq_none (by omega), List.getElem?_eq_none (by omega)]
      subst heq
      simp only [Bool.not_true, Bool.not_false, Bool.true_eq_false, SE.den, evU, evT, ev_le, ev_eq, ev_eqs, ev_eqb, ev_slt, ev_and, ev_or, ev_add, ev_sub, ev_mul, ev_tdiv, ev_tmod, ev_band, ev_bor, ev_bxor, ev_bandn, ev_shl, ev_shr, ev_cat, ev_byte, ev_idx, ev_cons, ev_snoc, ev_app, ev_take, ev_drop, ev_stake, ev_sdrop, ev_rep, leB_q, eqB_q, eqsB_q, not_q, i_if, b_if, l_if, s_if, i_int, b_bool, s_str, l_list, envL, List.getElem?_cons_succ, List.getElem?_cons_zero, List.getElem?_nil, Option.getD_some, Option.getD_none, Int.toNat_natCast, Int.toNat_zero, Int.reduceToNat, List.length_map, get_Li, get_Lb, get_Ls, set_Li, inj_Li, inj_Lb, inj_Ls, rows_i, rows_b, rows_s, Int.zero_add, iff_true, iff_false, and_true, true_and, Bool.false_eq_true, eq_self, not_true_eq_false, not_false_eq_true, List.length_replicate, DV.int.injEq, DV.bool.injEq, DV.str.injEq, DV.list.injEq, List.cons.injEq, f_is_0, rows_is, inj_Lis, f_is_1, rows_is, inj_Lis, List.cons_append, List.nil_append]
      simp
end Go.Proofs.YtlaebfjfnbiooaaDoor
