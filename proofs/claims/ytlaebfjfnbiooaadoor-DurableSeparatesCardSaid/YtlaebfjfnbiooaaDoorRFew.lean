/- The function hallmootref22.Few is a function of data. No condition. -/
import Derived.Test.YtlaebfjfnbiooaaDoorDRight
import Derived.Test.YtlaebfjfnbiooaaDoorBd
import Derived.Test.YtlaebfjfnbiooaaDoorOpen
namespace Go.Proofs.YtlaebfjfnbiooaaDoor
set_option linter.unusedVariables false
set_option linter.unusedSimpArgs false
set_option maxRecDepth 100000

def fewDM (sec : List (List UInt8)) (was : List Tis) : Bool := decide ((sec.length : Int) ≤ 600) && (decide ((was.length : Int) ≤ 60) && (sec.all (fun s => decide ((s.length : Int) ≤ 60)) && was.all fun w => decide ((w.2.length : Int) ≤ 60)))
def rFewE (sec : List (List UInt8)) (was : List Tis) : List DV := [.bool (fewDM sec was)]

def rFewF (ds : List DV) : List DV := rFewE (gLs ds 0) (gLis ds 1)
/-- What the executor makes of it. -/
def rFewTree : PT :=
(.br (.un .not (.bin .le (.un .len (.var 0)) (.int 600)))
 (.leaf [(.bool false)])
 (.br (.un .not (.bin .le (.un .len (.var 1)) (.int 60)))
  (.leaf [(.bool false)])
  (.loop 2 [(.int 0)]
   (.br (.un .not (.bin .le (.un .len (.var 0)) (.var 2)))
    (.asrt (.bin .le (.int 0) (.var 2))
     (.br (.un .not (.bin .le (.un .slen (.bin .idx (.var 0) (.bin .add (.int 0) (.var 2)))) (.int 60)))
      .fail
      (.leaf [(.un (.wrap .i64) (.bin .add (.var 2) (.int 1)))])))
    .fail)
   (.br (.un .not (.bin .le (.un .len (.var 0)) (.var 2)))
    (.asrt (.bin .le (.int 0) (.var 2))
     (.br (.un .not (.bin .le (.un .slen (.bin .idx (.var 0) (.bin .add (.int 0) (.var 2)))) (.int 60)))
      (.leaf [(.bool false)])
      .fail))
    (.loop 3 [(.int 0)]
     (.br (.un .not (.bin .le (.un .len (.var 1)) (.var 3)))
      (.asrt (.bin .le (.int 0) (.var 3))
       (.br (.un .not (.bin .le (.un .slen (.bin .idx (.bin .idx (.var 1) (.bin .add (.int 0) (.var 3))) (.int 1))) (.int 60)))
        .fail
        (.leaf [(.un (.wrap .i64) (.bin .add (.var 3) (.int 1)))])))
      .fail)
     (.br (.un .not (.bin .le (.un .len (.var 1)) (.var 3)))
      (.asrt (.bin .le (.int 0) (.var 3))
       (.br (.un .not (.bin .le (.un .slen (.bin .idx (.bin .idx (.var 1) (.bin .add (.int 0) (.var 3))) (.int 1))) (.int 60)))
        (.leaf [(.bool false)])
        .fail))
      (.leaf [(.bool true)])))))))

def rFewSm : List (Nat × Smy) := []
def rFewLa : List (LK × LA) := [(⟨44, 9, 3, 3⟩, ⟨[(4, (.int .i64 (.var 3))), (29, .any), (30, .any), (31, .any), (32, .any), (33, .any), (34, .any), (35, .any), (36, .any), (37, .any), (38, .any), (39, .any), (40, .any), (41, .any), (42, .any), (43, .any)], [], [], 1, 0⟩),
  (⟨44, 4, 3, 2⟩, ⟨[(3, (.int .i64 (.var 2))), (15, .any), (16, .any), (17, .any), (18, .any), (19, .any), (20, .any), (21, .any), (22, .any), (23, .any), (24, .any), (25, .any), (26, .any), (27, .any), (28, .any)], [], [], 1, 0⟩)]
def rFewPhi : Fs := ⟨fun n d => match n with
  | _ => d, 130⟩
theorem rFewS : SmyOk true Tryd.prog rFewPhi rFewSm := smy_nil
theorem rFewT : treeOk ⟨Tryd.prog, rFewSm, rFewLa, true⟩ 4000 9 [.agg [.rows false [.str], .rows false [.int .i64, .str]]] [.one (.pl .bool)] ([]) rFewTree = true := by decide +kernel
set_option maxHeartbeats 1000000 in
theorem rFew_pure : PureE true Tryd.prog 9 [.agg [.rows false [.str], .rows false [.int .i64, .str]]] [.one (.pl .bool)] (lenP [(0, 9223372036854775807), (1, 9223372036854775807)]) rFewF := by
  refine pure_tree (X := ⟨Tryd.prog, rFewSm, rFewLa, true⟩) (by decide +kernel) (Checked.mixed Tryd.checked) rFewS (by decide +kernel) (by decide +kernel) rFewT (by decide +kernel) ?_
  intro ds hl hp
  obtain ⟨d0, d1, rfl⟩ := len2 hl
  have b0 : (d0.l.length : Int) ≤ 9223372036854775807 := hp (0, 9223372036854775807) (by simp)
  have b1 : (d1.l.length : Int) ≤ 9223372036854775807 := hp (1, 9223372036854775807) (by simp)
  have hF : rFewF [d0, d1] = rFewE (d0.l.map DV.s) (d1.l.map decis) := rfl
  rw [hF]
  clear hF hp hl
  have hN : nrmL (clsOf [.agg [.rows false [.str], .rows false [.int .i64, .str]]]) [d0, d1] = [.list ((d0.l.map DV.s).map DV.str), .list ((d1.l.map decis).map encis)] := by
    simp only [clsOf, Sh.cls, List.append_nil, List.cons_append, List.nil_append, nrmL, Cl.nrm, CK.nrm, map_Lis, map_Ls]
  rw [hN]
  clear hN
  rw [← List.length_map (f := DV.s)] at b0
  generalize d0.l.map DV.s = x0 at b0 ⊢
  rw [← List.length_map (f := decis)] at b1
  generalize d1.l.map decis = x1 at b1 ⊢
  refine ⟨facts_nil _, ?_⟩
  unfold rFewTree rFewE
  simp only [Sat, clsOf, Sh.cls, List.append_nil, List.cons_append, List.nil_append, nrmL, Cl.nrm, CK.nrm, List.map_cons, List.map_nil, List.length_cons, List.length_nil, List.cons.injEq, DV.bool.injEq, DV.int.injEq, DV.list.injEq, DV.str.injEq, and_true, true_and]
  try simp only [q_le, q_eq, q_eqs, q_eqb, q_and, q_or, q_not, q_bool, iff_true, iff_false, Bool.not_true, Bool.not_false, Bool.false_eq_true, Bool.true_eq_false, eq_self, Bool.not_not]
  simp only [Bool.not_true, Bool.not_false, Bool.true_eq_false, SE.den, evU, evT, ev_le, ev_eq, ev_eqs, ev_eqb, ev_slt, ev_and, ev_or, ev_add, ev_sub, ev_mul, ev_tdiv, ev_tmod, ev_band, ev_bor, ev_bxor, ev_bandn, ev_shl, ev_shr, ev_cat, ev_byte, ev_idx, ev_cons, ev_snoc, ev_app, ev_take, ev_drop, ev_stake, ev_sdrop, ev_rep, leB_q, eqB_q, eqsB_q, not_q, i_if, b_if, l_if, s_if, i_int, b_bool, s_str, l_list, envL, List.getElem?_cons_succ, List.getElem?_cons_zero, List.getElem?_nil, Option.getD_some, Option.getD_none, Int.toNat_natCast, Int.toNat_zero, Int.reduceToNat, List.length_map, get_Li, get_Lb, get_Ls, set_Li, inj_Li, inj_Lb, inj_Ls, rows_i, rows_b, rows_s, Int.zero_add, iff_true, iff_false, and_true, true_and, Bool.false_eq_true, eq_self, not_true_eq_false, not_false_eq_true, List.length_replicate, DV.int.injEq, DV.bool.injEq, DV.str.injEq, DV.list.injEq, List.cons.injEq, f_is_0, rows_is, inj_Lis, f_is_1, rows_is, inj_Lis]
  refine ⟨fun h => by unfold fewDM; rw [decide_eq_false (by omega)]; rfl, fun h600 => ⟨fun h => by unfold fewDM; rw [decide_eq_false (p := (x1.length : Int) ≤ 60) (by omega)]; simp, fun h60 => ?_⟩⟩
  have hd : fewDM x0 x1 = (x0.all (fun s => decide ((s.length : Int) ≤ 60)) && x1.all fun w => decide ((w.2.length : Int) ≤ 60)) := by unfold fewDM; rw [decide_eq_true h600, decide_eq_true h60]; rfl
  rw [hd]
  refine rounds_find x0.length (fun i => [DV.int i]) (fun i => ¬ ((x0[i]?.getD []).length : Int) ≤ 60) rfl (fun _ => rfl) (fun i hi hs hj => ?_) (fun i hi hs hj => ?_) (fun hj => ?_)
  · have h1 : ¬ (x0.length : Int) ≤ i := by omega
    have hs := Classical.not_not.1 hs
    simp only [Bool.not_true, Bool.not_false, Bool.true_eq_false, SE.den, evU, evT, ev_le, ev_eq, ev_eqs, ev_eqb, ev_slt, ev_and, ev_or, ev_add, ev_sub, ev_mul, ev_tdiv, ev_tmod, ev_band, ev_bor, ev_bxor, ev_bandn, ev_shl, ev_shr, ev_cat, ev_byte, ev_idx, ev_cons, ev_snoc, ev_app, ev_take, ev_drop, ev_stake, ev_sdrop, ev_rep, leB_q, eqB_q, eqsB_q, not_q, i_if, b_if, l_if, s_if, i_int, b_bool, s_str, l_list, envL, List.getElem?_cons_succ, List.getElem?_cons_zero, List.getElem?_nil, Option.getD_some, Option.getD_none, Int.toNat_natCast, Int.toNat_zero, Int.reduceToNat, List.length_map, get_Li, get_Lb, get_Ls, set_Li, inj_Li, inj_Lb, inj_Ls, rows_i, rows_b, rows_s, Int.zero_add, iff_true, iff_false, and_true, true_and, Bool.false_eq_true, eq_self, not_true_eq_false, not_false_eq_true, List.length_replicate, DV.int.injEq, DV.bool.injEq, DV.str.injEq, DV.list.injEq, List.cons.injEq, f_is_0, rows_is, inj_Lis, f_is_1, rows_is, inj_Lis, h1, hs, w64 (n := (i : Int) + 1) (by omega) (by omega)]
    simp
  · have h1 : ¬ (x0.length : Int) ≤ i := by omega
    have ha : x0.all (fun s => decide ((s.length : Int) ≤ 60)) = false := not_all [] hi (decide_eq_false hs)
    simp only [Bool.not_true, Bool.not_false, Bool.true_eq_false, SE.den, evU, evT, ev_le, ev_eq, ev_eqs, ev_eqb, ev_slt, ev_and, ev_or, ev_add, ev_sub, ev_mul, ev_tdiv, ev_tmod, ev_band, ev_bor, ev_bxor, ev_bandn, ev_shl, ev_shr, ev_cat, ev_byte, ev_idx, ev_cons, ev_snoc, ev_app, ev_take, ev_drop, ev_stake, ev_sdrop, ev_rep, leB_q, eqB_q, eqsB_q, not_q, i_if, b_if, l_if, s_if, i_int, b_bool, s_str, l_list, envL, List.getElem?_cons_succ, List.getElem?_cons_zero, List.getElem?_nil, Option.getD_some, Option.getD_none, Int.toNat_natCast, Int.toNat_zero, Int.reduceToNat, List.length_map, get_Li, get_Lb, get_Ls, set_Li, inj_Li, inj_Lb, inj_Ls, rows_i, rows_b, rows_s, Int.zero_add, iff_true, iff_false, and_true, true_and, Bool.false_eq_true, eq_self, not_true_eq_false, not_false_eq_true, List.length_replicate, DV.int.injEq, DV.bool.injEq, DV.str.injEq, DV.list.injEq, List.cons.injEq, f_is_0, rows_is, inj_Lis, f_is_1, rows_is, inj_Lis, h1, hs, ha]
    simp
  · have ha : x0.all (fun s => decide ((s.length : Int) ≤ 60)) = true := all_of [] fun i hi => decide_eq_true (Classical.not_not.1 (hj i hi))
    simp only [Bool.not_true, Bool.not_false, Bool.true_eq_false, SE.den, evU, evT, ev_le, ev_eq, ev_eqs, ev_eqb, ev_slt, ev_and, ev_or, ev_add, ev_sub, ev_mul, ev_tdiv, ev_tmod, ev_band, ev_bor, ev_bxor, ev_bandn, ev_shl, ev_shr, ev_cat, ev_byte, ev_idx, ev_cons, ev_snoc, ev_app, ev_take, ev_drop, ev_stake, ev_sdrop, ev_rep, leB_q, eqB_q, eqsB_q, not_q, i_if, b_if, l_if, s_if, i_int, b_bool, s_str, l_list, envL, List.getElem?_cons_succ, List.getElem?_cons_zero, List.getElem?_nil, Option.getD_some, Option.getD_none, Int.toNat_natCast, Int.toNat_zero, Int.reduceToNat, List.length_map, get_Li, get_Lb, get_Ls, set_Li, inj_Li, inj_Lb, inj_Ls, rows_i, rows_b, rows_s, Int.zero_add, iff_true, iff_false, and_true, true_and, Bool.false_eq_true, eq_self, not_true_eq_false, not_false_eq_true, List.length_replicate, DV.int.injEq, DV.bool.injEq, DV.str.injEq, DV.list.injEq, List.cons.injEq, f_is_0, rows_is, inj_Lis, f_is_1, rows_is, inj_Lis, ha]
    refine ⟨fun h => absurd (Int.le_refl _) h, fun _ => ⟨rfl, ?_⟩⟩
    refine rounds_find x1.length (fun i => [DV.int i]) (fun i => ¬ ((x1[i]?.getD dis).2.length : Int) ≤ 60) rfl (fun _ => rfl) (fun i hi hs hj => ?_) (fun i hi hs hj => ?_) (fun hj => ?_)
    · have h1 : ¬ (x1.length : Int) ≤ i := by omega
      have hs := Classical.not_not.1 hs
      simp only [Bool.not_true, Bool.not_false, Bool.true_eq_false, SE.den, evU, evT, ev_le, ev_eq, ev_eqs, ev_eqb, ev_slt, ev_and, ev_or, ev_add, ev_sub, ev_mul, ev_tdiv, ev_tmod, ev_band, ev_bor, ev_bxor, ev_bandn, ev_shl, ev_shr, ev_cat, ev_byte, ev_idx, ev_cons, ev_snoc, ev_app, ev_take, ev_drop, ev_stake, ev_sdrop, ev_rep, leB_q, eqB_q, eqsB_q, not_q, i_if, b_if, l_if, s_if, i_int, b_bool, s_str, l_list, envL, List.getElem?_cons_succ, List.getElem?_cons_zero, List.getElem?_nil, Option.getD_some, Option.getD_none, Int.toNat_natCast, Int.toNat_zero, Int.reduceToNat, List.length_map, get_Li, get_Lb, get_Ls, set_Li, inj_Li, inj_Lb, inj_Ls, rows_i, rows_b, rows_s, Int.zero_add, iff_true, iff_false, and_true, true_and, Bool.false_eq_true, eq_self, not_true_eq_false, not_false_eq_true, List.length_replicate, DV.int.injEq, DV.bool.injEq, DV.str.injEq, DV.list.injEq, List.cons.injEq, f_is_0, rows_is, inj_Lis, f_is_1, rows_is, inj_Lis, List.cons_append, List.nil_append, h1, hs, w64 (n := (i : Int) + 1) (by omega) (by omega)]
      simp
    · have h1 : ¬ (x1.length : Int) ≤ i := by omega
      have hb : x1.all (fun w => decide ((w.2.length : Int) ≤ 60)) = false := not_all dis hi (decide_eq_false hs)
      simp only [Bool.not_true, Bool.not_false, Bool.true_eq_false, SE.den, evU, evT, ev_le, ev_eq, ev_eqs, ev_eqb, ev_slt, ev_and, ev_or, ev_add, ev_sub, ev_mul, ev_tdiv, ev_tmod, ev_band, ev_bor, ev_bxor, ev_bandn, ev_shl, ev_shr, ev_cat, ev_byte, ev_idx, ev_cons, ev_snoc, ev_app, ev_take, ev_drop, ev_stake, ev_sdrop, ev_rep, leB_q, eqB_q, eqsB_q, not_q, i_if, b_if, l_if, s_if, i_int, b_bool, s_str, l_list, envL, List.getElem?_cons_succ, List.getElem?_cons_zero, List.getElem?_nil, Option.getD_some, Option.getD_none, Int.toNat_natCast, Int.toNat_zero, Int.reduceToNat, List.length_map, get_Li, get_Lb, get_Ls, set_Li, inj_Li, inj_Lb, inj_Ls, rows_i, rows_b, rows_s, Int.zero_add, iff_true, iff_false, and_true, true_and, Bool.false_eq_true, eq_self, not_true_eq_false, not_false_eq_true, List.length_replicate, DV.int.injEq, DV.bool.injEq, DV.str.injEq, DV.list.injEq, List.cons.injEq, f_is_0, rows_is, inj_Lis, f_is_1, rows_is, inj_Lis, List.cons_append, List.nil_append, h1, hs, hb]
      simp
    · have hb : x1.all (fun w => decide ((w.2.length : Int) ≤ 60)) = true := all_of dis fun i hi => decide_eq_true (Classical.not_not.1 (hj i hi))
      simp only [Bool.not_true, Bool.not_false, Bool.true_eq_false, SE.den, evU, evT, ev_le, ev_eq, ev_eqs, ev_eqb, ev_slt, ev_and, ev_or, ev_add, ev_sub, ev_mul, ev_tdiv, ev_tmod, ev_band, ev_bor, ev_bxor, ev_bandn, ev_shl, ev_shr, ev_cat, ev_byte, ev_idx, ev_cons, ev_snoc, ev_app, ev_take, ev_drop, ev_stake, ev_sdrop, ev_rep, leB_q, eqB_q, eqsB_q, not_q, i_if, b_if, l_if, s_if, i_int, b_bool, s_str, l_list, envL, List.getElem?_cons_succ, List.getElem?_cons_zero, List.getElem?_nil, Option.getD_some, Option.getD_none, Int.toNat_natCast, Int.toNat_zero, Int.reduceToNat, List.length_map, get_Li, get_Lb, get_Ls, set_Li, inj_Li, inj_Lb, inj_Ls, rows_i, rows_b, rows_s, Int.zero_add, iff_true, iff_false, and_true, true_and, Bool.false_eq_true, eq_self, not_true_eq_false, not_false_eq_true, List.length_replicate, DV.int.injEq, DV.bool.injEq, DV.str.injEq, DV.list.injEq, List.cons.injEq, f_is_0, rows_is, inj_Lis, f_is_1, rows_is, inj_Lis, List.cons_append, List.nil_append, hb]
      simp
end Go.Proofs.YtlaebfjfnbiooaaDoor
