/- The function hallmootref03.Same is a function of data. No condition. -/
import Derived.Test.YtkfjgggiopegbaaDoorBd
import Derived.Test.YtkfjgggiopegbaaDoorOpen
namespace Go.Proofs.YtkfjgggiopegbaaDoor
set_option linter.unusedVariables false
set_option linter.unusedSimpArgs false
set_option maxRecDepth 100000

def r3SameE (a b : List Int) : List DV := [.bool (decide (a = b))]

def r3SameF (ds : List DV) : List DV := r3SameE (gLi ds 0) (gLi ds 1)
/-- What the executor makes of it. -/
def r3SameTree : PT :=
(.br (.un .not (.bin .eq (.un .len (.var 0)) (.un .len (.var 1))))
 (.leaf [(.bool false)])
 (.loop 2 [(.int 0)]
  (.br (.un .not (.bin .le (.un .len (.var 0)) (.var 2)))
   (.asrt (.bin .le (.int 0) (.var 2))
    (.asrt (.un .not (.bin .le (.un .len (.var 1)) (.var 2)))
     (.br (.un .not (.bin .eq (.bin .idx (.var 0) (.bin .add (.int 0) (.var 2))) (.bin .idx (.var 1) (.bin .add (.int 0) (.var 2)))))
      .fail
      (.leaf [(.un (.wrap .i64) (.bin .add (.var 2) (.int 1)))]))))
   .fail)
  (.br (.un .not (.bin .le (.un .len (.var 0)) (.var 2)))
   (.asrt (.bin .le (.int 0) (.var 2))
    (.asrt (.un .not (.bin .le (.un .len (.var 1)) (.var 2)))
     (.br (.un .not (.bin .eq (.bin .idx (.var 0) (.bin .add (.int 0) (.var 2))) (.bin .idx (.var 1) (.bin .add (.int 0) (.var 2)))))
      (.leaf [(.bool false)])
      .fail)))
   (.leaf [(.bool true)]))))

def r3SameSm : List (Nat × Smy) := []
def r3SameLa : List (LK × LA) := [(⟨26, 4, 2, 2, 1⟩, ⟨[(5, (.int .i64 (.var 2))), (11, .any), (12, .any), (13, .any), (14, .any), (15, .any), (16, .any), (17, .any), (18, .any), (19, .any), (20, .any), (21, .any), (22, .any), (23, .any), (24, .any), (25, .any)], [], [], 1, 0⟩)]
def r3SamePhi : Fs := ⟨fun n d => match n with
  | _ => d, 147⟩
theorem r3SameS : SmyOk true Tryd.prog r3SamePhi r3SameSm := smy_nil
theorem r3SameT : treeOk ⟨Tryd.prog, r3SameSm, r3SameLa, true⟩ 4000 116 [.one (.rows false [.int .u8]), .one (.rows false [.int .u8])] [.one (.pl .bool)] ([]) r3SameTree = true := by decide +kernel
set_option maxHeartbeats 1000000 in
theorem r3Same_pure : PureE true Tryd.prog 116 [.one (.rows false [.int .u8]), .one (.rows false [.int .u8])] [.one (.pl .bool)] (lenP [(0, 1000000), (1, 1000000)]) r3SameF := by
  refine pure_tree (X := ⟨Tryd.prog, r3SameSm, r3SameLa, true⟩) (by decide +kernel) (Checked.mixed Tryd.checked) r3SameS (by decide +kernel) (by decide +kernel) r3SameT (by decide +kernel) ?_
  intro ds hl hp
  obtain ⟨d0, d1, rfl⟩ := len2 hl
  have b0 : (d0.l.length : Int) ≤ 1000000 := hp (0, 1000000) (by simp)
  have b1 : (d1.l.length : Int) ≤ 1000000 := hp (1, 1000000) (by simp)
  have hF : r3SameF [d0, d1] = r3SameE (d0.l.map DV.i) (d1.l.map DV.i) := rfl
  rw [hF]
  clear hF hp hl
  have hN : nrmL (clsOf [.one (.rows false [.int .u8]), .one (.rows false [.int .u8])]) [d0, d1] = [.list ((d0.l.map DV.i).map DV.int), .list ((d1.l.map DV.i).map DV.int)] := by
    simp only [clsOf, Sh.cls, List.append_nil, List.cons_append, List.nil_append, nrmL, Cl.nrm, CK.nrm, map_Li]
  rw [hN]
  clear hN
  rw [← List.length_map (f := DV.i)] at b0
  generalize d0.l.map DV.i = x0 at b0 ⊢
  rw [← List.length_map (f := DV.i)] at b1
  generalize d1.l.map DV.i = x1 at b1 ⊢
  refine ⟨facts_nil _, ?_⟩
  unfold r3SameTree r3SameE
  simp only [Sat, clsOf, Sh.cls, List.append_nil, List.cons_append, List.nil_append, nrmL, Cl.nrm, CK.nrm, List.map_cons, List.map_nil, List.length_cons, List.length_nil, List.cons.injEq, DV.bool.injEq, DV.int.injEq, DV.list.injEq, DV.str.injEq, and_true, true_and]
  simp only [q_le, q_eq, q_eqs, q_eqb, q_and, q_or, q_not, q_bool, iff_true, iff_false, Bool.not_true, Bool.not_false, Bool.false_eq_true, Bool.true_eq_false, eq_self, Bool.not_not]
  simp only [Bool.not_true, Bool.not_false, Bool.true_eq_false, SE.den, evU, evT, ev_le, ev_eq, ev_eqs, ev_eqb, ev_slt, ev_and, ev_or, ev_add, ev_sub, ev_mul, ev_tdiv, ev_tmod, ev_band, ev_bor, ev_bxor, ev_bandn, ev_shl, ev_shr, ev_cat, ev_byte, ev_idx, ev_cons, ev_snoc, ev_app, ev_take, ev_drop, ev_stake, ev_sdrop, ev_rep, leB_q, eqB_q, eqsB_q, not_q, i_if, b_if, l_if, s_if, i_int, b_bool, s_str, l_list, envL, List.getElem?_cons_succ, List.getElem?_cons_zero, List.getElem?_nil, Option.getD_some, Option.getD_none, Int.toNat_natCast, Int.toNat_zero, Int.reduceToNat, List.length_map, get_Li, get_Lb, get_Ls, set_Li, inj_Li, inj_Lb, inj_Ls, rows_i, rows_b, rows_s, Int.zero_add, iff_true, iff_false, and_true, true_and, Bool.false_eq_true, eq_self, not_true_eq_false, not_false_eq_true, List.length_replicate, DV.int.injEq, DV.bool.injEq, DV.str.injEq, DV.list.injEq, List.cons.injEq]
  refine ⟨fun h => ?_, fun h => ?_⟩
  · exact (decide_eq_false (fun e => h (by rw [e]))).symm
  · have hl : x0.length = x1.length := by omega
    refine rounds_find x0.length (fun i => [DV.int i]) (fun i => x0[i]?.getD 0 ≠ x1[i]?.getD 0) rfl (fun _ => rfl) (fun i hi hs hj => ?_) (fun i hi hs hj => ?_) (fun hj => ?_)
    · simp only [Bool.not_true, Bool.not_false, Bool.true_eq_false, SE.den, evU, evT, ev_le, ev_eq, ev_eqs, ev_eqb, ev_slt, ev_and, ev_or, ev_add, ev_sub, ev_mul, ev_tdiv, ev_tmod, ev_band, ev_bor, ev_bxor, ev_bandn, ev_shl, ev_shr, ev_cat, ev_byte, ev_idx, ev_cons, ev_snoc, ev_app, ev_take, ev_drop, ev_stake, ev_sdrop, ev_rep, leB_q, eqB_q, eqsB_q, not_q, i_if, b_if, l_if, s_if, i_int, b_bool, s_str, l_list, envL, List.getElem?_cons_succ, List.getElem?_cons_zero, List.getElem?_nil, Option.getD_some, Option.getD_none, Int.toNat_natCast, Int.toNat_zero, Int.reduceToNat, List.length_map, get_Li, get_Lb, get_Ls, set_Li, inj_Li, inj_Lb, inj_Ls, rows_i, rows_b, rows_s, Int.zero_add, iff_true, iff_false, and_true, true_and, Bool.false_eq_true, eq_self, not_true_eq_false, not_false_eq_true, List.length_replicate, DV.int.injEq, DV.bool.injEq, DV.str.injEq, DV.list.injEq, List.cons.injEq]
      simp only [w64 (n := (i : Int) + 1) (by omega) (by omega)]
      grind
    · simp only [Bool.not_true, Bool.not_false, Bool.true_eq_false, SE.den, evU, evT, ev_le, ev_eq, ev_eqs, ev_eqb, ev_slt, ev_and, ev_or, ev_add, ev_sub, ev_mul, ev_tdiv, ev_tmod, ev_band, ev_bor, ev_bxor, ev_bandn, ev_shl, ev_shr, ev_cat, ev_byte, ev_idx, ev_cons, ev_snoc, ev_app, ev_take, ev_drop, ev_stake, ev_sdrop, ev_rep, leB_q, eqB_q, eqsB_q, not_q, i_if, b_if, l_if, s_if, i_int, b_bool, s_str, l_list, envL, List.getElem?_cons_succ, List.getElem?_cons_zero, List.getElem?_nil, Option.getD_some, Option.getD_none, Int.toNat_natCast, Int.toNat_zero, Int.reduceToNat, List.length_map, get_Li, get_Lb, get_Ls, set_Li, inj_Li, inj_Lb, inj_Ls, rows_i, rows_b, rows_s, Int.zero_add, iff_true, iff_false, and_true, true_and, Bool.false_eq_true, eq_self, not_true_eq_false, not_false_eq_true, List.length_replicate, DV.int.injEq, DV.bool.injEq, DV.str.injEq, DV.list.injEq, List.cons.injEq]
      grind
    · simp only [Bool.not_true, Bool.not_false, Bool.true_eq_false, SE.den, evU, evT, ev_le, ev_eq, ev_eqs, ev_eqb, ev_slt, ev_and, ev_or, ev_add, ev_sub, ev_mul, ev_tdiv, ev_tmod, ev_band, ev_bor, ev_bxor, ev_bandn, ev_shl, ev_shr, ev_cat, ev_byte, ev_idx, ev_cons, ev_snoc, ev_app, ev_take, ev_drop, ev_stake, ev_sdrop, ev_rep, leB_q, eqB_q, eqsB_q, not_q, i_if, b_if, l_if, s_if, i_int, b_bool, s_str, l_list, envL, List.getElem?_cons_succ, List.getElem?_cons_zero, List.getElem?_nil, Option.getD_some, Option.getD_none, Int.toNat_natCast, Int.toNat_zero, Int.reduceToNat, List.length_map, get_Li, get_Lb, get_Ls, set_Li, inj_Li, inj_Lb, inj_Ls, rows_i, rows_b, rows_s, Int.zero_add, iff_true, iff_false, and_true, true_and, Bool.false_eq_true, eq_self, not_true_eq_false, not_false_eq_true, List.length_replicate, DV.int.injEq, DV.bool.injEq, DV.str.injEq, DV.list.injEq, List.cons.injEq]
      have : x0 = x1 := List.ext_getElem? fun i => by
        by_cases hi : i < x0.length
        · have := hj i hi
          rw [List.getElem?_eq_getElem hi, List.getElem?_eq_getElem (by omega)] at this ⊢
          simpa using this
        · rw [List.getElem?_eq_none (by omega), List.getElem?_eq_none (by omega)]
      grind
end Go.Proofs.YtkfjgggiopegbaaDoor
