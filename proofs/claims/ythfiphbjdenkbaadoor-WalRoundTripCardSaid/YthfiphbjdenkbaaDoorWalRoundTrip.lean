/- WalRoundTrip: the law returns true for every input, and each argument reads afterwards as it read before. No condition. -/
import Derived.Test.YthfiphbjdenkbaaDoorLSane23
import Derived.Test.YthfiphbjdenkbaaDoorWRecord
import Derived.Test.YthfiphbjdenkbaaDoorRValid
import Derived.Test.YthfiphbjdenkbaaDoorWParse
import Derived.Test.YthfiphbjdenkbaaDoorROne
import Derived.Test.YthfiphbjdenkbaaDoorTie
import Derived.Test.YthfiphbjdenkbaaDoorCards
import Derived.Lay
import Derived.SevenTiedAt
import Derived.Test.YthfiphbjdenkbaaDoorBd
import Derived.Test.YthfiphbjdenkbaaDoorOpen
namespace Go.Proofs.YthfiphbjdenkbaaDoor
set_option linter.unusedVariables false
set_option linter.unusedSimpArgs false
set_option maxRecDepth 100000



def walRoundTripF (ds : List DV) : List DV := [.bool true]
/-- What the executor makes of it. -/
def walRoundTripTree : PT :=
(.br (.un .not (.bin .le (.un .len (.var 1)) (.int 40)))
 (.leaf [(.bin .idx (.fn 112 .nil) (.int 0))])
 (.br (.un .not (.bin .le (.un .len (.var 2)) (.int 40)))
  (.leaf [(.bin .idx (.fn 112 .nil) (.int 0))])
  (.loop 4 [(.int 0)]
   (.br (.un .not (.bin .le (.un .len (.var 2)) (.var 4)))
    (.asrt (.bin .le (.int 0) (.var 4))
     (.br (.un .not (.bin .le (.un .slen (.bin .idx (.var 2) (.bin .add (.int 0) (.var 4)))) (.int 60)))
      .fail
      (.leaf [(.un (.wrap .i64) (.bin .add (.var 4) (.int 1)))])))
    .fail)
   (.br (.un .not (.bin .le (.un .len (.var 2)) (.var 4)))
    (.asrt (.bin .le (.int 0) (.var 4))
     (.br (.un .not (.bin .le (.un .slen (.bin .idx (.var 2) (.bin .add (.int 0) (.var 4)))) (.int 60)))
      (.leaf [(.bin .idx (.fn 112 .nil) (.int 0))])
      .fail))
    (.br (.un .not (.bin .le (.un .len (.var 3)) (.int 40)))
     (.leaf [(.bin .idx (.fn 112 .nil) (.int 0))])
     (.loop 5 [(.int 0)]
      (.br (.un .not (.bin .le (.un .len (.var 3)) (.var 5)))
       (.asrt (.bin .le (.int 0) (.var 5))
        (.br (.un .not (.bin .le (.un .slen (.bin .idx (.var 3) (.bin .add (.int 0) (.var 5)))) (.int 60)))
         .fail
         (.leaf [(.un (.wrap .i64) (.bin .add (.var 5) (.int 1)))])))
       .fail)
      (.br (.un .not (.bin .le (.un .len (.var 3)) (.var 5)))
       (.asrt (.bin .le (.int 0) (.var 5))
        (.br (.un .not (.bin .le (.un .slen (.bin .idx (.var 3) (.bin .add (.int 0) (.var 5)))) (.int 60)))
         (.leaf [(.bin .idx (.fn 112 .nil) (.int 0))])
         .fail))
       (.br (.un .not (.bin .le (.un .len (.var 2)) (.int 20)))
        (.leaf [(.bin .idx (.fn 112 .nil) (.int 0))])
        (.br (.un .not (.bin .le (.un .len (.var 3)) (.int 20)))
         (.leaf [(.bin .idx (.fn 112 .nil) (.int 0))])
         (.br (.un .not (.bin .idx (.fn 114 (.bin .cons (.var 0) (.bin .cons (.var 1) .nil))) (.int 0)))
          (.br (.bin .idx (.fn 112 .nil) (.int 0))
           (.leaf [(.bin .eq (.un .len (.bin .idx (.fn 103 (.bin .cons (.var 0) (.bin .cons (.var 1) .nil))) (.int 0))) (.int 0))])
           (.leaf [(.bool false)]))
          (.loop 6 [(.int 0)]
           (.br (.un .not (.bin .le (.un .len (.bin .idx (.fn 103 (.bin .cons (.var 0) (.bin .cons (.var 1) .nil))) (.int 0))) (.var 6)))
            (.asrt (.bin .le (.int 0) (.var 6))
             (.br (.un .not (.bin .eq (.un .slen (.bin .idx (.bin .idx (.fn 103 (.bin .cons (.var 0) (.bin .cons (.var 1) .nil))) (.int 0)) (.bin .add (.int 0) (.var 6)))) (.int 32)))
              .fail
              (.leaf [(.un (.wrap .i64) (.bin .add (.var 6) (.int 1)))])))
            .fail)
           (.br (.un .not (.bin .le (.un .len (.bin .idx (.fn 103 (.bin .cons (.var 0) (.bin .cons (.var 1) .nil))) (.int 0))) (.var 6)))
            (.asrt (.bin .le (.int 0) (.var 6))
             (.br (.un .not (.bin .eq (.un .slen (.bin .idx (.bin .idx (.fn 103 (.bin .cons (.var 0) (.bin .cons (.var 1) .nil))) (.int 0)) (.bin .add (.int 0) (.var 6)))) (.int 32)))
              (.leaf [(.bool false)])
              .fail))
            (.asrt (.bin .le (.bin .add (.un .len (.var 2)) (.un .len (.bin .idx (.fn 103 (.bin .cons (.var 0) (.bin .cons (.var 1) .nil))) (.int 0)))) (.int 4294967296))
             (.asrt (.bin .eq (.bin .add (.un .len (.var 2)) (.un .len (.bin .idx (.fn 103 (.bin .cons (.var 0) (.bin .cons (.var 1) .nil))) (.int 0)))) (.un .len (.bin .app (.var 2) (.bin .idx (.fn 103 (.bin .cons (.var 0) (.bin .cons (.var 1) .nil))) (.int 0)))))
              (.asrt (.bin .le (.bin .add (.bin .add (.un .len (.var 2)) (.un .len (.bin .idx (.fn 103 (.bin .cons (.var 0) (.bin .cons (.var 1) .nil))) (.int 0)))) (.un .len (.var 3))) (.int 4294967296))
               (.asrt (.bin .le (.bin .add (.bin .add (.un .len (.var 2)) (.un .len (.bin .idx (.fn 103 (.bin .cons (.var 0) (.bin .cons (.var 1) .nil))) (.int 0)))) (.un .len (.var 3))) (.int 1000))
                (.br (.bin .idx (.fn 112 .nil) (.int 0))
                 (.br (.bin .le (.int 1) (.un .len (.bin .idx (.fn 103 (.bin .cons (.var 0) (.bin .cons (.var 1) .nil))) (.int 0))))
                  (.br (.bin .le (.un .len (.bin .idx (.fn 103 (.bin .cons (.var 0) (.bin .cons (.var 1) .nil))) (.int 0))) (.int 26))
                   (.br (.bin .eq (.bin .idx (.fn 105 (.bin .cons (.bin .app (.bin .app (.var 2) (.bin .idx (.fn 103 (.bin .cons (.var 0) (.bin .cons (.var 1) .nil))) (.int 0))) (.var 3)) (.bin .cons (.un .len (.var 2)) .nil))) (.int 3)) (.int 0))
                    (.br (.bin .eq (.bin .idx (.fn 105 (.bin .cons (.bin .app (.bin .app (.var 2) (.bin .idx (.fn 103 (.bin .cons (.var 0) (.bin .cons (.var 1) .nil))) (.int 0))) (.var 3)) (.bin .cons (.un .len (.var 2)) .nil))) (.int 2)) (.un .len (.bin .idx (.fn 103 (.bin .cons (.var 0) (.bin .cons (.var 1) .nil))) (.int 0))))
                     (.asrt (.bin .le (.un .len (.bin .idx (.fn 105 (.bin .cons (.bin .app (.bin .app (.var 2) (.bin .idx (.fn 103 (.bin .cons (.var 0) (.bin .cons (.var 1) .nil))) (.int 0))) (.var 3)) (.bin .cons (.un .len (.var 2)) .nil))) (.int 1))) (.int 1000000))
                      (.leaf [(.bin .idx (.fn 113 (.bin .cons (.bin .idx (.fn 105 (.bin .cons (.bin .app (.bin .app (.var 2) (.bin .idx (.fn 103 (.bin .cons (.var 0) (.bin .cons (.var 1) .nil))) (.int 0))) (.var 3)) (.bin .cons (.un .len (.var 2)) .nil))) (.int 0)) (.bin .cons (.bin .idx (.fn 105 (.bin .cons (.bin .app (.bin .app (.var 2) (.bin .idx (.fn 103 (.bin .cons (.var 0) (.bin .cons (.var 1) .nil))) (.int 0))) (.var 3)) (.bin .cons (.un .len (.var 2)) .nil))) (.int 1)) (.bin .cons (.var 0) (.bin .cons (.var 1) .nil))))) (.int 0))]))
                     (.leaf [(.bool false)]))
                    (.leaf [(.bool false)]))
                   (.leaf [(.bool false)]))
                  (.leaf [(.bool false)]))
                 (.leaf [(.bool false)]))))))))))))))))))

def walRoundTripSm : List (Nat × Smy) := [(9, ⟨112, [], [.one (.pl .bool)], fun _ => [], none⟩), (12, ⟨103, [.agg [.pl (.int .i64), .rows false [.int .i64, .int .i64]]], [.one (.rows true [.str])], lenC [(1, 40)], none⟩), (30, ⟨114, [.agg [.pl (.int .i64), .rows false [.int .i64, .int .i64]]], [.one (.pl .bool)], lenC [(1, 9223372036854775807)], none⟩), (17, ⟨105, [.one (.rows false [.str]), .one (.pl (.int .i64))], [.agg [.pl (.int .i64), .rows true [.int .i64, .int .i64]], .one (.pl (.int .i64)), .one (.pl (.int .i64))], lenC [(0, 1000)], none⟩), (21, ⟨113, [.agg [.pl (.int .i64), .rows false [.int .i64, .int .i64]], .agg [.pl (.int .i64), .rows false [.int .i64, .int .i64]]], [.one (.pl .bool)], lenC [(1, 1000000), (3, 1000000)], none⟩)]
def walRoundTripLa : List (LK × LA) := [(⟨19, 4, 6, 4⟩, ⟨[(3, (.int .i64 (.var 4))), (7, .any), (8, .any), (9, .any), (10, .any), (11, .any), (12, .any), (13, .any), (14, .any), (15, .any), (16, .any), (17, .any), (18, .any)], [], [], 1, 0⟩),
  (⟨19, 4, 6, 5⟩, ⟨[(3, (.int .i64 (.var 5))), (7, .any), (8, .any), (9, .any), (10, .any), (11, .any), (12, .any), (13, .any), (14, .any), (15, .any), (16, .any), (17, .any), (18, .any)], [], [], 1, 0⟩),
  (⟨105, 9, 8, 6⟩, ⟨[(10, (.int .i64 (.var 6))), (52, .any), (53, .any), (54, .any), (55, .any), (56, .any), (57, .any), (58, .any), (59, .any), (60, .any), (61, .any), (62, .any), (63, .any)], [], [], 1, 0⟩)]
def walRoundTripPhi : Nat → DV → DV := fun n d => match n with
  | 112 => .list (lSane23F d.l)
  | 103 => .list (wRecordF d.l)
  | 114 => .list (rValidF d.l)
  | 105 => .list (wParseF d.l)
  | 113 => .list (rOneF d.l)
  | _ => d
theorem walRoundTripS : SmyOk Tryd.prog walRoundTripPhi walRoundTripSm := (smy_cons (fun _ => True) lSane23F lSane23_pure (fun _ _ _ _ => trivial) (fun _ => rfl) (fun _ h => by cases h) (smy_cons (lenP [(1, 40)]) wRecordF wRecord_pure (len_hp [(1, 40)]) (fun _ => rfl) (fun _ h => by cases h) (smy_cons (lenP [(1, 9223372036854775807)]) rValidF rValid_pure (len_hp [(1, 9223372036854775807)]) (fun _ => rfl) (fun _ h => by cases h) (smy_cons (lenP [(0, 1000)]) wParseF wParse_pure (len_hp [(0, 1000)]) (fun _ => rfl) (fun _ h => by cases h) (smy_cons (lenP [(1, 1000000), (3, 1000000)]) rOneF rOne_pure (len_hp [(1, 1000000), (3, 1000000)]) (fun _ => rfl) (fun _ h => by cases h) smy_nil)))))
theorem walRoundTripT : treeOk ⟨Tryd.prog, walRoundTripSm, walRoundTripLa⟩ 4000 5 [.agg [.pl (.int .i64), .rows false [.int .i64, .int .i64]], .one (.rows false [.str]), .one (.rows false [.str])] [.one (.pl .bool)] (rng 0 9223372036854775807 (.un .len (.var 1)) ++ (rng 0 9223372036854775807 (.un .len (.var 2)) ++ (rng 0 9223372036854775807 (.un .len (.var 3)) ++ ([])))) walRoundTripTree = true := by decide +kernel
set_option maxHeartbeats 1000000 in
theorem walRoundTrip_pure : Pure Tryd.prog 5 [.agg [.pl (.int .i64), .rows false [.int .i64, .int .i64]], .one (.rows false [.str]), .one (.rows false [.str])] [.one (.pl .bool)] (Wts (clsOf [.agg [.pl (.int .i64), .rows false [.int .i64, .int .i64]], .one (.rows false [.str]), .one (.rows false [.str])])) walRoundTripF := by
  refine pure_tree (X := ⟨Tryd.prog, walRoundTripSm, walRoundTripLa⟩) (Checked.mixed Tryd.checked) walRoundTripS (by decide +kernel) (by decide +kernel) walRoundTripT (by decide +kernel) ?_
  intro ds hl hp
  obtain ⟨d0, d1, d2, d3, rfl⟩ := len4 hl
  obtain ⟨_, _, he, w0, hp⟩ := hp
  cases he
  have r0 : -9223372036854775808 ≤ d0.i ∧ d0.i ≤ 9223372036854775807 := wt_i w0 rfl rfl
  clear w0
  obtain ⟨_, _, he, w1, hp⟩ := hp
  cases he
  have b1 : ((d1.l.map decii).length : Int) ≤ 9223372036854775807 := by rw [List.length_map]; exact wt_len w1
  have v1 := wt_ii w1
  clear w1
  obtain ⟨_, _, he, w2, hp⟩ := hp
  cases he
  have b2 : ((d2.l.map DV.s).length : Int) ≤ 9223372036854775807 := by rw [List.length_map]; exact wt_len w2
  have v2 : ∀ v ∈ d2.l.map DV.s, (v.length : Int) ≤ 9223372036854775807 := wt_strs w2
  clear w2
  obtain ⟨_, _, he, w3, hp⟩ := hp
  cases he
  have b3 : ((d3.l.map DV.s).length : Int) ≤ 9223372036854775807 := by rw [List.length_map]; exact wt_len w3
  have v3 : ∀ v ∈ d3.l.map DV.s, (v.length : Int) ≤ 9223372036854775807 := wt_strs w3
  clear w3
  have hN : nrmL (clsOf [.agg [.pl (.int .i64), .rows false [.int .i64, .int .i64]], .one (.rows false [.str]), .one (.rows false [.str])]) [d0, d1, d2, d3] = [.int d0.i, .list ((d1.l.map decii).map encii), .list ((d2.l.map DV.s).map DV.str), .list ((d3.l.map DV.s).map DV.str)] := by
    simp only [clsOf, Sh.cls, List.append_nil, List.cons_append, List.nil_append, nrmL, Cl.nrm, CK.nrm, map_Lii, map_Ls]
  have hF : walRoundTripF [d0, d1, d2, d3] = [.bool true] := rfl
  rw [hN, hF]
  clear hN hp hl hF
  generalize d0.i = x0 at r0 ⊢
  generalize d1.l.map decii = x1 at b1 v1 ⊢
  generalize d2.l.map DV.s = x2 at b2 v2 ⊢
  generalize d3.l.map DV.s = x3 at b3 v3 ⊢
  refine ⟨(rng_ok (e := .un .len (.var 1)) (Int.natCast_nonneg _) (by show ((x1.map _).length : Int) ≤ _; rw [List.length_map]; exact b1) (rng_ok (e := .un .len (.var 2)) (Int.natCast_nonneg _) (by show ((x2.map _).length : Int) ≤ _; rw [List.length_map]; exact b2) (rng_ok (e := .un .len (.var 3)) (Int.natCast_nonneg _) (by show ((x3.map _).length : Int) ≤ _; rw [List.length_map]; exact b3) (facts_nil _)))), ?_⟩
  unfold walRoundTripTree
  simp only [Sat, clsOf, Sh.cls, List.append_nil, List.cons_append, List.nil_append, nrmL, Cl.nrm, CK.nrm, List.map_cons, List.map_nil, List.length_cons, List.length_nil, List.cons.injEq, DV.bool.injEq, DV.int.injEq, DV.list.injEq, DV.str.injEq, and_true, true_and]
  simp only [q_le, q_eq, q_eqs, q_eqb, q_and, q_or, q_not, q_bool, iff_true, iff_false, Bool.not_true, Bool.not_false, Bool.false_eq_true, Bool.true_eq_false, eq_self, Bool.not_not]
  simp only [Bool.not_true, Bool.not_false, Bool.true_eq_false, SE.den, evU, evT, ev_le, ev_eq, ev_eqs, ev_eqb, ev_slt, ev_and, ev_or, ev_add, ev_sub, ev_mul, ev_tdiv, ev_tmod, ev_band, ev_bor, ev_bxor, ev_bandn, ev_shl, ev_shr, ev_cat, ev_byte, ev_idx, ev_cons, ev_snoc, ev_app, ev_take, ev_drop, ev_stake, ev_sdrop, ev_rep, leB_q, eqB_q, eqsB_q, not_q, i_if, b_if, l_if, s_if, i_int, b_bool, s_str, l_list, envL, List.getElem?_cons_succ, List.getElem?_cons_zero, List.getElem?_nil, Option.getD_some, Option.getD_none, Int.toNat_natCast, Int.toNat_zero, Int.reduceToNat, List.length_map, get_Li, get_Lb, get_Ls, set_Li, inj_Li, inj_Lb, inj_Ls, rows_i, rows_b, rows_s, Int.zero_add, iff_true, iff_false, and_true, true_and, Bool.false_eq_true, eq_self, not_true_eq_false, not_false_eq_true, List.length_replicate, DV.int.injEq, DV.bool.injEq, DV.str.injEq, DV.list.injEq, List.cons.injEq, f_ii_0, rows_ii, inj_Lii, f_ii_1, rows_ii, inj_Lii, walRoundTripPhi, lSane23F, lSane23E, wRecordF, wRecordE, rValidF, rValidE, wParseF, wParseE, rOneF, rOneE, gi, gb, gs, gLi, gLu, gLb, gLs, dece_i, dece_b, dece_s, gLii, deces_ii, lSane23E]
  have hw : rgeW x1 := fun x hx => v1 x hx
  refine ⟨fun _ => trivial, fun h1 => ⟨fun _ => trivial, fun h2 => ?_⟩⟩
  refine rounds_find x2.length (fun i => [DV.int i]) (fun i => 60 < (x2[i]?.getD []).length) rfl (fun _ => rfl) (fun i hi hs hj => ?_) (fun i hi hs hj => ?_) (fun hj => ?_)
  · simp only [Bool.not_true, Bool.not_false, Bool.true_eq_false, SE.den, evU, evT, ev_le, ev_eq, ev_eqs, ev_eqb, ev_slt, ev_and, ev_or, ev_add, ev_sub, ev_mul, ev_tdiv, ev_tmod, ev_band, ev_bor, ev_bxor, ev_bandn, ev_shl, ev_shr, ev_cat, ev_byte, ev_idx, ev_cons, ev_snoc, ev_app, ev_take, ev_drop, ev_stake, ev_sdrop, ev_rep, leB_q, eqB_q, eqsB_q, not_q, i_if, b_if, l_if, s_if, i_int, b_bool, s_str, l_list, envL, List.getElem?_cons_succ, List.getElem?_cons_zero, List.getElem?_nil, Option.getD_some, Option.getD_none, Int.toNat_natCast, Int.toNat_zero, Int.reduceToNat, List.length_map, get_Li, get_Lb, get_Ls, set_Li, inj_Li, inj_Lb, inj_Ls, rows_i, rows_b, rows_s, Int.zero_add, iff_true, iff_false, and_true, true_and, Bool.false_eq_true, eq_self, not_true_eq_false, not_false_eq_true, List.length_replicate, DV.int.injEq, DV.bool.injEq, DV.str.injEq, DV.list.injEq, List.cons.injEq, f_ii_0, rows_ii, inj_Lii, f_ii_1, rows_ii, inj_Lii, w64 (n := (i : Int) + 1) (by omega) (by omega)]
    exact ⟨fun _ => ⟨by omega, fun h => absurd (by omega) h, fun _ => rfl⟩, fun h => absurd h (by omega)⟩
  · simp only [Bool.not_true, Bool.not_false, Bool.true_eq_false, SE.den, evU, evT, ev_le, ev_eq, ev_eqs, ev_eqb, ev_slt, ev_and, ev_or, ev_add, ev_sub, ev_mul, ev_tdiv, ev_tmod, ev_band, ev_bor, ev_bxor, ev_bandn, ev_shl, ev_shr, ev_cat, ev_byte, ev_idx, ev_cons, ev_snoc, ev_app, ev_take, ev_drop, ev_stake, ev_sdrop, ev_rep, leB_q, eqB_q, eqsB_q, not_q, i_if, b_if, l_if, s_if, i_int, b_bool, s_str, l_list, envL, List.getElem?_cons_succ, List.getElem?_cons_zero, List.getElem?_nil, Option.getD_some, Option.getD_none, Int.toNat_natCast, Int.toNat_zero, Int.reduceToNat, List.length_map, get_Li, get_Lb, get_Ls, set_Li, inj_Li, inj_Lb, inj_Ls, rows_i, rows_b, rows_s, Int.zero_add, iff_true, iff_false, and_true, true_and, Bool.false_eq_true, eq_self, not_true_eq_false, not_false_eq_true, List.length_replicate, DV.int.injEq, DV.bool.injEq, DV.str.injEq, DV.list.injEq, List.cons.injEq, f_ii_0, rows_ii, inj_Lii, f_ii_1, rows_ii, inj_Lii]
    exact ⟨fun _ => ⟨by omega, fun _ => trivial, fun h => absurd h (by omega)⟩, fun h => absurd h (by omega)⟩
  · simp only [Bool.not_true, Bool.not_false, Bool.true_eq_false, SE.den, evU, evT, ev_le, ev_eq, ev_eqs, ev_eqb, ev_slt, ev_and, ev_or, ev_add, ev_sub, ev_mul, ev_tdiv, ev_tmod, ev_band, ev_bor, ev_bxor, ev_bandn, ev_shl, ev_shr, ev_cat, ev_byte, ev_idx, ev_cons, ev_snoc, ev_app, ev_take, ev_drop, ev_stake, ev_sdrop, ev_rep, leB_q, eqB_q, eqsB_q, not_q, i_if, b_if, l_if, s_if, i_int, b_bool, s_str, l_list, envL, List.getElem?_cons_succ, List.getElem?_cons_zero, List.getElem?_nil, Option.getD_some, Option.getD_none, Int.toNat_natCast, Int.toNat_zero, Int.reduceToNat, List.length_map, get_Li, get_Lb, get_Ls, set_Li, inj_Li, inj_Lb, inj_Ls, rows_i, rows_b, rows_s, Int.zero_add, iff_true, iff_false, and_true, true_and, Bool.false_eq_true, eq_self, not_true_eq_false, not_false_eq_true, List.length_replicate, DV.int.injEq, DV.bool.injEq, DV.str.injEq, DV.list.injEq, List.cons.injEq, f_ii_0, rows_ii, inj_Lii, f_ii_1, rows_ii, inj_Lii]
    refine ⟨fun h => absurd (Int.le_refl _) h, fun _ => ⟨fun _ => trivial, fun h3 => ?_⟩⟩
    refine ⟨rfl, ?_⟩
    refine rounds_find x3.length (fun i => [DV.int i]) (fun i => 60 < (x3[i]?.getD []).length) rfl (fun _ => rfl) (fun i hi hs hj => ?_) (fun i hi hs hj => ?_) (fun hj => ?_)
    · simp only [Bool.not_true, Bool.not_false, Bool.true_eq_false, SE.den, evU, evT, ev_le, ev_eq, ev_eqs, ev_eqb, ev_slt, ev_and, ev_or, ev_add, ev_sub, ev_mul, ev_tdiv, ev_tmod, ev_band, ev_bor, ev_bxor, ev_bandn, ev_shl, ev_shr, ev_cat, ev_byte, ev_idx, ev_cons, ev_snoc, ev_app, ev_take, ev_drop, ev_stake, ev_sdrop, ev_rep, leB_q, eqB_q, eqsB_q, not_q, i_if, b_if, l_if, s_if, i_int, b_bool, s_str, l_list, envL, List.getElem?_cons_succ, List.getElem?_cons_zero, List.getElem?_nil, Option.getD_some, Option.getD_none, Int.toNat_natCast, Int.toNat_zero, Int.reduceToNat, List.length_map, get_Li, get_Lb, get_Ls, set_Li, inj_Li, inj_Lb, inj_Ls, rows_i, rows_b, rows_s, Int.zero_add, iff_true, iff_false, and_true, true_and, Bool.false_eq_true, eq_self, not_true_eq_false, not_false_eq_true, List.length_replicate, DV.int.injEq, DV.bool.injEq, DV.str.injEq, DV.list.injEq, List.cons.injEq, f_ii_0, rows_ii, inj_Lii, f_ii_1, rows_ii, inj_Lii, List.cons_append, List.nil_append, w64 (n := (i : Int) + 1) (by omega) (by omega)]
      exact ⟨fun _ => ⟨by omega, fun h => absurd (by omega) h, fun _ => rfl⟩, fun h => absurd h (by omega)⟩
    · simp only [Bool.not_true, Bool.not_false, Bool.true_eq_false, SE.den, evU, evT, ev_le, ev_eq, ev_eqs, ev_eqb, ev_slt, ev_and, ev_or, ev_add, ev_sub, ev_mul, ev_tdiv, ev_tmod, ev_band, ev_bor, ev_bxor, ev_bandn, ev_shl, ev_shr, ev_cat, ev_byte, ev_idx, ev_cons, ev_snoc, ev_app, ev_take, ev_drop, ev_stake, ev_sdrop, ev_rep, leB_q, eqB_q, eqsB_q, not_q, i_if, b_if, l_if, s_if, i_int, b_bool, s_str, l_list, envL, List.getElem?_cons_succ, List.getElem?_cons_zero, List.getElem?_nil, Option.getD_some, Option.getD_none, Int.toNat_natCast, Int.toNat_zero, Int.reduceToNat, List.length_map, get_Li, get_Lb, get_Ls, set_Li, inj_Li, inj_Lb, inj_Ls, rows_i, rows_b, rows_s, Int.zero_add, iff_true, iff_false, and_true, true_and, Bool.false_eq_true, eq_self, not_true_eq_false, not_false_eq_true, List.length_replicate, DV.int.injEq, DV.bool.injEq, DV.str.injEq, DV.list.injEq, List.cons.injEq, f_ii_0, rows_ii, inj_Lii, f_ii_1, rows_ii, inj_Lii, List.cons_append, List.nil_append]
      exact ⟨fun _ => ⟨by omega, fun _ => trivial, fun h => absurd h (by omega)⟩, fun h => absurd h (by omega)⟩
    · simp only [Bool.not_true, Bool.not_false, Bool.true_eq_false, SE.den, evU, evT, ev_le, ev_eq, ev_eqs, ev_eqb, ev_slt, ev_and, ev_or, ev_add, ev_sub, ev_mul, ev_tdiv, ev_tmod, ev_band, ev_bor, ev_bxor, ev_bandn, ev_shl, ev_shr, ev_cat, ev_byte, ev_idx, ev_cons, ev_snoc, ev_app, ev_take, ev_drop, ev_stake, ev_sdrop, ev_rep, leB_q, eqB_q, eqsB_q, not_q, i_if, b_if, l_if, s_if, i_int, b_bool, s_str, l_list, envL, List.getElem?_cons_succ, List.getElem?_cons_zero, List.getElem?_nil, Option.getD_some, Option.getD_none, Int.toNat_natCast, Int.toNat_zero, Int.reduceToNat, List.length_map, get_Li, get_Lb, get_Ls, set_Li, inj_Li, inj_Lb, inj_Ls, rows_i, rows_b, rows_s, Int.zero_add, iff_true, iff_false, and_true, true_and, Bool.false_eq_true, eq_self, not_true_eq_false, not_false_eq_true, List.length_replicate, DV.int.injEq, DV.bool.injEq, DV.str.injEq, DV.list.injEq, List.cons.injEq, f_ii_0, rows_ii, inj_Lii, f_ii_1, rows_ii, inj_Lii, List.cons_append, List.nil_append]
      refine ⟨fun h => absurd (Int.le_refl _) h, fun _ => ⟨fun _ => trivial, fun h4 => ⟨fun _ => trivial, fun h5 => ⟨fun hv => ?_, fun hv => ⟨rfl, ?_⟩⟩⟩⟩⟩
      · have : recordM x0 x1 = [] := by unfold recordM; rw [if_neg (by simp [hv])]
        rw [this]
        exact ⟨fun _ => rfl, fun h => h⟩
      · have hsec := record_secs hv hw
        have hle := record_le x0 hw
        have hge : 1 ≤ (recordM x0 x1).length := by rw [record_len hv]; exact (body_len hv hw).2.1
        have hpr := parse_record hv hw x2 x3
        have h32 : ∀ i, i < (recordM x0 x1).length → ((recordM x0 x1)[i]?.getD []).length = 32 := fun i hi => by
          rw [List.getElem?_eq_getElem hi]
          exact hsec _ (List.getElem_mem hi)
        generalize recordM x0 x1 = R at *
        refine rounds_find R.length (fun i => [DV.int i]) (fun i => (R[i]?.getD []).length ≠ 32) rfl (fun _ => rfl) (fun i hi hs hj => ?_) (fun i hi hs hj => absurd (h32 i hi) hs) (fun hj => ?_)
        · simp only [Bool.not_true, Bool.not_false, Bool.true_eq_false, SE.den, evU, evT, ev_le, ev_eq, ev_eqs, ev_eqb, ev_slt, ev_and, ev_or, ev_add, ev_sub, ev_mul, ev_tdiv, ev_tmod, ev_band, ev_bor, ev_bxor, ev_bandn, ev_shl, ev_shr, ev_cat, ev_byte, ev_idx, ev_cons, ev_snoc, ev_app, ev_take, ev_drop, ev_stake, ev_sdrop, ev_rep, leB_q, eqB_q, eqsB_q, not_q, i_if, b_if, l_if, s_if, i_int, b_bool, s_str, l_list, envL, List.getElem?_cons_succ, List.getElem?_cons_zero, List.getElem?_nil, Option.getD_some, Option.getD_none, Int.toNat_natCast, Int.toNat_zero, Int.reduceToNat, List.length_map, get_Li, get_Lb, get_Ls, set_Li, inj_Li, inj_Lb, inj_Ls, rows_i, rows_b, rows_s, Int.zero_add, iff_true, iff_false, and_true, true_and, Bool.false_eq_true, eq_self, not_true_eq_false, not_false_eq_true, List.length_replicate, DV.int.injEq, DV.bool.injEq, DV.str.injEq, DV.list.injEq, List.cons.injEq, f_ii_0, rows_ii, inj_Lii, f_ii_1, rows_ii, inj_Lii, List.cons_append, List.nil_append, w64 (n := (i : Int) + 1) (by omega) (by omega)]
          have := h32 i hi
          exact ⟨fun _ => ⟨by omega, fun h => absurd (by omega) h, fun _ => rfl⟩, fun h => absurd h (by omega)⟩
        · simp only [Bool.not_true, Bool.not_false, Bool.true_eq_false, SE.den, evU, evT, ev_le, ev_eq, ev_eqs, ev_eqb, ev_slt, ev_and, ev_or, ev_add, ev_sub, ev_mul, ev_tdiv, ev_tmod, ev_band, ev_bor, ev_bxor, ev_bandn, ev_shl, ev_shr, ev_cat, ev_byte, ev_idx, ev_cons, ev_snoc, ev_app, ev_take, ev_drop, ev_stake, ev_sdrop, ev_rep, leB_q, eqB_q, eqsB_q, not_q, i_if, b_if, l_if, s_if, i_int, b_bool, s_str, l_list, envL, List.getElem?_cons_succ, List.getElem?_cons_zero, List.getElem?_nil, Option.getD_some, Option.getD_none, Int.toNat_natCast, Int.toNat_zero, Int.reduceToNat, List.length_map, get_Li, get_Lb, get_Ls, set_Li, inj_Li, inj_Lb, inj_Ls, rows_i, rows_b, rows_s, Int.zero_add, iff_true, iff_false, and_true, true_and, Bool.false_eq_true, eq_self, not_true_eq_false, not_false_eq_true, List.length_replicate, DV.int.injEq, DV.bool.injEq, DV.str.injEq, DV.list.injEq, List.cons.injEq, f_ii_0, rows_ii, inj_Lii, f_ii_1, rows_ii, inj_Lii, walRoundTripPhi, lSane23F, lSane23E, wRecordF, wRecordE, rValidF, rValidE, wParseF, wParseE, rOneF, rOneE, gi, gb, gs, gLi, gLu, gLb, gLs, dece_i, dece_b, dece_s, gLii, deces_ii, List.cons_append, List.nil_append, app_Ls, dece_s, List.length_append, hpr, parse4, deces_ii]
          have hone : oneM23 x0 x1 x0 x1 = true := by unfold oneM23; simp
          exact ⟨fun h => absurd (Int.le_refl _) h, fun _ => ⟨by omega, by omega, by omega, by omega, fun _ => ⟨fun _ => ⟨fun _ => ⟨fun _ => ⟨fun _ => ⟨by omega, hone⟩, fun h => h⟩, fun h => h⟩, fun h => absurd (by omega) h⟩, fun h => absurd (by omega) h⟩, fun h => h⟩⟩
namespace row
open Go.ChangeShapes Go.WideShapes Go.ChangeAt Go.RowKit Go.Joins Go.Deep Go.Proofs.YthfiphbjdenkbaaDoor
theorem lifted (os : Os) (started : os.Started) (H : Type) (enc : TypeId × Value → H) :
    ReturnsInHanded {} Tryd.checked os 5 .any (fun w args => (Rows.walRoundTripSpec.pre enc Tryd.prog Tryd.f5 [] false w args ∧ laidMetH Tryd.prog Rows.walRoundTripRow.laid w) ∧ sizedMet enc Tryd.prog Tryd.f5 (OpenSpec.ofChange Rows.walRoundTripSpec) false w args) (Rows.walRoundTripSpec.post enc Tryd.prog Tryd.f5 false true false false) := by
  refine returnsInHanded_of_change_and (C := Tryd.checked) (X := fun w _ => laidMetH Tryd.prog Rows.walRoundTripRow.laid w) (fun _ _ _ hh h => h.of_heap hh) own started (by kernel_rfl) Tryd.func5
    (ChangeSpec.witness_shaped (enc := enc) (C := Tryd.checked) (os := os) (X := fun w _ => laidMetH Tryd.prog Rows.walRoundTripRow.laid w) false (World.laidAll Tryd.prog os Rows.walRoundTripRow.laid) #[.agg #[.int .i64 0, .slice none 0 0], .slice none 0 0, .slice none 0 0] 8 (World.laidAll_os _ _ _)
      (World.shaped_of_ZipB (by kernel_rfl) (by kernel_rfl)) (by kernel_rfl) (by kernel_rfl) (by kernel_rfl)
      (by rw [MakeChecks.laidMetH_plain _ _ _ (by kernel_rfl)]; exact laidMet_laidAll _ (by kernel_rfl) (by kernel_rfl))) ?_
  intro W base args ds gs before hval0 hW hcnd _ _ _
  have hval : ∀ (j : Nat) t v, Tryd.f5.params[j]? = some t → args[j]? = some v → Value.okWide Tryd.prog W .any base t v := hval0
  have hW' := hW
  obtain ⟨p, q, hA0, hV, rfl, hfz, hnd⟩ := hW
  have hA : DataW.TrodAll enc Tryd.prog W 0 (fun _ => true) true Tryd.f5.params.toList args.toList ds p := hA0
  have hval2 : ∀ (j : Nat) t v, Tryd.f5.params.toList[j]? = some t → args.toList[j]? = some v → Value.okWide Tryd.prog W .any base t v := fun j t v a b => hval j t v (by simpa using a) (by simpa using b)
  have hcall := law_of walRoundTrip_pure (fun _ h => h) (by rw [Tryd.params5]; kernel_rfl) hA hval2
  rw [Tryd.params5] at hA
  obtain ⟨v0, vs0, d0, ds0, p0, q0, hargs, rfl, rfl, h0, r0⟩ := trodAll_cons hA
  obtain ⟨v1, vs1, d1, ds1, p1, q1, rfl, rfl, rfl, h1, r1⟩ := trodAll_cons r0
  obtain ⟨v2, vs2, d2, ds2, p2, q2, rfl, rfl, rfl, h2, r2⟩ := trodAll_cons r1
  obtain ⟨rfl, rfl, rfl⟩ := trodAll_nil r2
  obtain rfl : args = #[v0, v1, v2] := by cases args; simp_all
  obtain ⟨rfl, rfl⟩ := trodVars_none hV
  have lt0 : ∀ x ∈ p0, x.block < W.heap.size := by obtain ⟨m, hm⟩ := h0; exact DataW.trod_lt m _ _ _ hm
  have lt1 : ∀ x ∈ p1, x.block < W.heap.size := by obtain ⟨m, hm⟩ := h1; exact DataW.trod_lt m _ _ _ hm
  have lt2 : ∀ x ∈ p2, x.block < W.heap.size := by obtain ⟨m, hm⟩ := h2; exact DataW.trod_lt m _ _ _ hm
  clear hA0 hval0 hval2
  refine Calls.mono hcall fun e W' ⟨he, bel⟩ => ?_
  subst he
  exact ⟨_, rfl, _, _, _, [], _, [], hW', trodAll_mk1 (shut_bool Tryd.underlying4 _), (trodAll_cons_mk (Below.trod laidOut (by kernel_rfl) (of_decide_eq_true (by kernel_rfl)) h0 bel lt0) (trodAll_cons_mk (Below.trod laidOut (by kernel_rfl) (of_decide_eq_true (by kernel_rfl)) h1 bel lt1) (trodAll_cons_mk (Below.trod laidOut (by kernel_rfl) (of_decide_eq_true (by kernel_rfl)) h2 bel lt2) trodAll_mk0))), rfl, bel.frame _, fun h => by cases h⟩
theorem over : Rows.walRoundTripRow.holds Tryd.pinned (OpenSpec.ofChange Rows.walRoundTripSpec) :=
  OpenClaim.holds_of_wide 5 Tryd.f5 rfl rfl rfl rfl rfl rfl rfl ⟨rfl, rfl, rfl, rfl, rfl⟩ rfl rfl rfl rfl rfl (by kernel_rfl) Tryd.func5 (by kernel_rfl)
    (of_decide_eq_true (by kernel_rfl)) (by unfold Func.isWrapper; first | (rw [if_pos (by decide +kernel)]; kernel_rfl) | (rw [if_neg (by decide +kernel)]; exact ⟨rfl, rfl⟩))
    (fun os started H enc _ => lifted os started H enc)
end row
theorem walRoundTrip_proved : Rows.WalRoundTripCardSaid :=
  Claim7.holds_tied_plain_at .later [] [.data, .pinned] true _ false row.over (fun _ h => by cases h) (by kernel_rfl) (fun _ h => by cases h) walRoundTrip_row_tie rfl ⟨rfl, rfl⟩ (by kernel_rfl) rfl
    (fun f fn hf hfn => by
      obtain rfl : f = 5 := Option.some.inj ((show Tryd.prog.funcNamed Rows.walRoundTripRow.func = some 5 by kernel_rfl).symm.trans hf) |>.symm
      obtain rfl : fn = Tryd.f5 := (Option.some.inj (Tryd.func5.symm.trans hfn)).symm
      exact ⟨by kernel_rfl, fun j t ht => by
        have hm : t ∈ Tryd.f5.params.toList := by simpa using Array.mem_of_getElem? ht
        have hall : (Tryd.f5.params.toList.all fun u => !Tryd.prog.wantsStandIn u) = true := by kernel_rfl
        exact (show Tryd.prog.wantsStandIn t = false by simpa using List.all_eq_true.1 hall t hm)⟩)
    (by kernel_rfl)
end Go.Proofs.YthfiphbjdenkbaaDoor
