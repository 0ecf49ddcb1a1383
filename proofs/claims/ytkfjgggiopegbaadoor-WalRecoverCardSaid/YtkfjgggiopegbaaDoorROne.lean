/- The function hallmootref23.One is a function of data. No condition. -/
import Derived.Test.YtkfjgggiopegbaaDoorWalN
import Derived.Test.YtkfjgggiopegbaaDoorBd
import Derived.Test.YtkfjgggiopegbaaDoorOpen
namespace Go.Proofs.YtkfjgggiopegbaaDoor
set_option linter.unusedVariables false
set_option linter.unusedSimpArgs false
set_option maxRecDepth 100000

def oneM23 (v : Int) (w : List Tii) (v' : Int) (w' : List Tii) : Bool := decide (v = v' ∧ w = w')
def rOneE (v : Int) (w : List Tii) (v' : Int) (w' : List Tii) : List DV := [.bool (oneM23 v w v' w')]

def rOneF (ds : List DV) : List DV := rOneE (gi ds 0) (gLii ds 1) (gi ds 2) (gLii ds 3)
/-- What the executor makes of it. -/
def rOneTree : PT :=
(.br (.un .not (.bin .eq (.var 0) (.var 2)))
 (.leaf [(.bool false)])
 (.br (.un .not (.bin .eq (.un .len (.var 1)) (.un .len (.var 3))))
  (.leaf [(.bool false)])
  (.loop 4 [(.int 0)]
   (.br (.un .not (.bin .le (.un .len (.var 1)) (.var 4)))
    (.asrt (.bin .le (.int 0) (.var 4))
     (.asrt (.un .not (.bin .le (.un .len (.var 3)) (.var 4)))
      (.br (.un .not (.bin .and (.bin .eq (.bin .idx (.bin .idx (.var 1) (.bin .add (.int 0) (.var 4))) (.int 0)) (.bin .idx (.bin .idx (.var 3) (.bin .add (.int 0) (.var 4))) (.int 0))) (.bin .eq (.bin .idx (.bin .idx (.var 1) (.bin .add (.int 0) (.var 4))) (.int 1)) (.bin .idx (.bin .idx (.var 3) (.bin .add (.int 0) (.var 4))) (.int 1)))))
       .fail
       (.leaf [(.un (.wrap .i64) (.bin .add (.var 4) (.int 1)))]))))
    .fail)
   (.br (.un .not (.bin .le (.un .len (.var 1)) (.var 4)))
    (.asrt (.bin .le (.int 0) (.var 4))
     (.asrt (.un .not (.bin .le (.un .len (.var 3)) (.var 4)))
      (.br (.un .not (.bin .and (.bin .eq (.bin .idx (.bin .idx (.var 1) (.bin .add (.int 0) (.var 4))) (.int 0)) (.bin .idx (.bin .idx (.var 3) (.bin .add (.int 0) (.var 4))) (.int 0))) (.bin .eq (.bin .idx (.bin .idx (.var 1) (.bin .add (.int 0) (.var 4))) (.int 1)) (.bin .idx (.bin .idx (.var 3) (.bin .add (.int 0) (.var 4))) (.int 1)))))
       (.leaf [(.bool false)])
       .fail)))
    (.leaf [(.bool true)])))))

def rOneSm : List (Nat × Smy) := []
def rOneLa : List (LK × LA) := [(⟨38, 4, 6, 4, 2⟩, ⟨[(5, (.int .i64 (.var 4))), (20, .any), (21, .any), (22, .any), (23, .any), (24, .any), (25, .any), (26, .any), (27, .any), (28, .any), (29, .any), (30, .any), (31, .any), (32, .any), (33, .any), (34, .any), (35, .any), (36, .any), (37, .any)], [], [], 1, 0⟩)]
def rOnePhi : Fs := ⟨fun n d => match n with
  | _ => d, 147⟩
theorem rOneS : SmyOk true Tryd.prog rOnePhi rOneSm := smy_nil
theorem rOneT : treeOk ⟨Tryd.prog, rOneSm, rOneLa, true⟩ 4000 14 [.agg [.pl (.int .i64), .rows false [.int .i64, .int .i64]], .agg [.pl (.int .i64), .rows false [.int .i64, .int .i64]]] [.one (.pl .bool)] ([]) rOneTree = true := by decide +kernel
set_option maxHeartbeats 1000000 in
theorem rOne_pure : PureE true Tryd.prog 14 [.agg [.pl (.int .i64), .rows false [.int .i64, .int .i64]], .agg [.pl (.int .i64), .rows false [.int .i64, .int .i64]]] [.one (.pl .bool)] (lenP [(1, 1000000), (3, 1000000)]) rOneF := by
  refine pure_tree (X := ⟨Tryd.prog, rOneSm, rOneLa, true⟩) (by decide +kernel) (Checked.mixed Tryd.checked) rOneS (by decide +kernel) (by decide +kernel) rOneT (by decide +kernel) ?_
  intro ds hl hp
  obtain ⟨d0, d1, d2, d3, rfl⟩ := len4 hl
  have b1 : (d1.l.length : Int) ≤ 1000000 := hp (1, 1000000) (by simp)
  have b3 : (d3.l.length : Int) ≤ 1000000 := hp (3, 1000000) (by simp)
  have hF : rOneF [d0, d1, d2, d3] = rOneE d0.i (d1.l.map decii) d2.i (d3.l.map decii) := rfl
  rw [hF]
  clear hF hp hl
  have hN : nrmL (clsOf [.agg [.pl (.int .i64), .rows false [.int .i64, .int .i64]], .agg [.pl (.int .i64), .rows false [.int .i64, .int .i64]]]) [d0, d1, d2, d3] = [.int d0.i, .list ((d1.l.map decii).map encii), .int d2.i, .list ((d3.l.map decii).map encii)] := by
    simp only [clsOf, Sh.cls, List.append_nil, List.cons_append, List.nil_append, nrmL, Cl.nrm, CK.nrm, map_Lii]
  rw [hN]
  clear hN
  generalize d0.i = x0
  rw [← List.length_map (f := decii)] at b1
  generalize d1.l.map decii = x1 at b1 ⊢
  generalize d2.i = x2
  rw [← List.length_map (f := decii)] at b3
  generalize d3.l.map decii = x3 at b3 ⊢
  refine ⟨facts_nil _, ?_⟩
  unfold rOneTree rOneE oneM23
  simp only [Sat, clsOf, Sh.cls, List.append_nil, List.cons_append, List.nil_append, nrmL, Cl.nrm, CK.nrm, List.map_cons, List.map_nil, List.length_cons, List.length_nil, List.cons.injEq, DV.bool.injEq, DV.int.injEq, DV.list.injEq, DV.str.injEq, and_true, true_and]
  simp only [q_le, q_eq, q_eqs, q_eqb, q_and, q_or, q_not, q_bool, iff_true, iff_false, Bool.not_true, Bool.not_false, Bool.false_eq_true, Bool.true_eq_false, eq_self, Bool.not_not]
  simp only [Bool.not_true, Bool.not_false, Bool.true_eq_false, SE.den, evU, evT, ev_le, ev_eq, ev_eqs, ev_eqb, ev_slt, ev_and, ev_or, ev_add, ev_sub, ev_mul, ev_tdiv, ev_tmod, ev_band, ev_bor, ev_bxor, ev_bandn, ev_shl, ev_shr, ev_cat, ev_byte, ev_idx, ev_cons, ev_snoc, ev_app, ev_take, ev_drop, ev_stake, ev_sdrop, ev_rep, leB_q, eqB_q, eqsB_q, not_q, i_if, b_if, l_if, s_if, i_int, b_bool, s_str, l_list, envL, List.getElem?_cons_succ, List.getElem?_cons_zero, List.getElem?_nil, Option.getD_some, Option.getD_none, Int.toNat_natCast, Int.toNat_zero, Int.reduceToNat, List.length_map, get_Li, get_Lb, get_Ls, set_Li, inj_Li, inj_Lb, inj_Ls, rows_i, rows_b, rows_s, Int.zero_add, iff_true, iff_false, and_true, true_and, Bool.false_eq_true, eq_self, not_true_eq_false, not_false_eq_true, List.length_replicate, DV.int.injEq, DV.bool.injEq, DV.str.injEq, DV.list.injEq, List.cons.injEq, f_ii_0, rows_ii, inj_Lii, f_ii_1, rows_ii, inj_Lii, rOnePhi, gi, gb, gs, gLi, gLu, gLb, gLs, dece_i, dece_b, dece_s]
  refine ⟨fun h => ?_, fun hv => ⟨fun h => ?_, fun hl => ?_⟩⟩
  · exact (decide_eq_false (fun e => h e.1)).symm
  · exact (decide_eq_false (fun e => h (by rw [e.2]))).symm
  · subst hv
    have hl' : x1.length = x3.length := by omega
    refine rounds_find x1.length (fun i => [DV.int i]) (fun i => x1[i]?.getD dii ≠ x3[i]?.getD dii) rfl (fun _ => rfl) (fun i hi hs hj => ?_) (fun i hi hs hj => ?_) (fun hj => ?_)
    · have hs' : x1[i]?.getD dii = x3[i]?.getD dii := by simpa using hs
      simp only [Bool.not_true, Bool.not_false, Bool.true_eq_false, SE.den, evU, evT, ev_le, ev_eq, ev_eqs, ev_eqb, ev_slt, ev_and, ev_or, ev_add, ev_sub, ev_mul, ev_tdiv, ev_tmod, ev_band, ev_bor, ev_bxor, ev_bandn, ev_shl, ev_shr, ev_cat, ev_byte, ev_idx, ev_cons, ev_snoc, ev_app, ev_take, ev_drop, ev_stake, ev_sdrop, ev_rep, leB_q, eqB_q, eqsB_q, not_q, i_if, b_if, l_if, s_if, i_int, b_bool, s_str, l_list, envL, List.getElem?_cons_succ, List.getElem?_cons_zero, List.getElem?_nil, Option.getD_some, Option.getD_none, Int.toNat_natCast, Int.toNat_zero, Int.reduceToNat, List.length_map, get_Li, get_Lb, get_Ls, set_Li, inj_Li, inj_Lb, inj_Ls, rows_i, rows_b, rows_s, Int.zero_add, iff_true, iff_false, and_true, true_and, Bool.false_eq_true, eq_self, not_true_eq_false, not_false_eq_true, List.length_replicate, DV.int.injEq, DV.bool.injEq, DV.str.injEq, DV.list.injEq, List.cons.injEq, f_ii_0, rows_ii, inj_Lii, f_ii_1, rows_ii, inj_Lii, rOnePhi, gi, gb, gs, gLi, gLu, gLb, gLs, dece_i, dece_b, dece_s, raw_ii_0, raw_ii_1, w64 (n := (i : Int) + 1) (by omega) (by omega), hs']
      have e1 : ¬ (x1.length : Int) ≤ i := by omega
      have e2 : ¬ (x3.length : Int) ≤ i := by omega
      simp [e1, e2]
    · simp only [Bool.not_true, Bool.not_false, Bool.true_eq_false, SE.den, evU, evT, ev_le, ev_eq, ev_eqs, ev_eqb, ev_slt, ev_and, ev_or, ev_add, ev_sub, ev_mul, ev_tdiv, ev_tmod, ev_band, ev_bor, ev_bxor, ev_bandn, ev_shl, ev_shr, ev_cat, ev_byte, ev_idx, ev_cons, ev_snoc, ev_app, ev_take, ev_drop, ev_stake, ev_sdrop, ev_rep, leB_q, eqB_q, eqsB_q, not_q, i_if, b_if, l_if, s_if, i_int, b_bool, s_str, l_list, envL, List.getElem?_cons_succ, List.getElem?_cons_zero, List.getElem?_nil, Option.getD_some, Option.getD_none, Int.toNat_natCast, Int.toNat_zero, Int.reduceToNat, List.length_map, get_Li, get_Lb, get_Ls, set_Li, inj_Li, inj_Lb, inj_Ls, rows_i, rows_b, rows_s, Int.zero_add, iff_true, iff_false, and_true, true_and, Bool.false_eq_true, eq_self, not_true_eq_false, not_false_eq_true, List.length_replicate, DV.int.injEq, DV.bool.injEq, DV.str.injEq, DV.list.injEq, List.cons.injEq, f_ii_0, rows_ii, inj_Lii, f_ii_1, rows_ii, inj_Lii, rOnePhi, gi, gb, gs, gLi, gLu, gLb, gLs, dece_i, dece_b, dece_s, raw_ii_0, raw_ii_1]
      have e1 : ¬ (x1.length : Int) ≤ i := by omega
      have e2 : ¬ (x3.length : Int) ≤ i := by omega
      have hne : ¬ x1 = x3 := fun e => hs (by rw [e])
      have hd : ¬ ((x1[i]?.getD dii).1 = (x3[i]?.getD dii).1 ∧ (x1[i]?.getD dii).2 = (x3[i]?.getD dii).2) := fun e => hs (Prod.ext e.1 e.2)
      simp [e1, e2, hne]
      try (intro a b; exact hd ⟨a, b⟩)
      try exact fun a b => hd ⟨a, b⟩
    · simp only [Bool.not_true, Bool.not_false, Bool.true_eq_false, SE.den, evU, evT, ev_le, ev_eq, ev_eqs, ev_eqb, ev_slt, ev_and, ev_or, ev_add, ev_sub, ev_mul, ev_tdiv, ev_tmod, ev_band, ev_bor, ev_bxor, ev_bandn, ev_shl, ev_shr, ev_cat, ev_byte, ev_idx, ev_cons, ev_snoc, ev_app, ev_take, ev_drop, ev_stake, ev_sdrop, ev_rep, leB_q, eqB_q, eqsB_q, not_q, i_if, b_if, l_if, s_if, i_int, b_bool, s_str, l_list, envL, List.getElem?_cons_succ, List.getElem?_cons_zero, List.getElem?_nil, Option.getD_some, Option.getD_none, Int.toNat_natCast, Int.toNat_zero, Int.reduceToNat, List.length_map, get_Li, get_Lb, get_Ls, set_Li, inj_Li, inj_Lb, inj_Ls, rows_i, rows_b, rows_s, Int.zero_add, iff_true, iff_false, and_true, true_and, Bool.false_eq_true, eq_self, not_true_eq_false, not_false_eq_true, List.length_replicate, DV.int.injEq, DV.bool.injEq, DV.str.injEq, DV.list.injEq, List.cons.injEq, f_ii_0, rows_ii, inj_Lii, f_ii_1, rows_ii, inj_Lii, rOnePhi, gi, gb, gs, gLi, gLu, gLb, gLs, dece_i, dece_b, dece_s]
      have : x1 = x3 := List.ext_getElem? fun i => by
        by_cases hi : i < x1.length
        · have := hj i hi
          rw [List.getElem?_eq_getElem hi, List.getElem?_eq_getElem (by omega)] at this ⊢
          simpa using this
        · rw [List.getElem?_eq_none (by omega), List.getElem?_eq_none (by omega)]
      simp [this]
end Go.Proofs.YtkfjgggiopegbaaDoor
