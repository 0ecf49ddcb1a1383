/- WalParse: the law returns true for every input, and each argument reads afterwards as it read before. No condition. -/
import Derived.Test.YtkfjgggiopegbaaDoorLSane23
import Derived.Test.YtkfjgggiopegbaaDoorWParse
import Derived.Test.YtkfjgggiopegbaaDoorR3Parse
import Derived.Test.YtkfjgggiopegbaaDoorWRecover
import Derived.Test.YtkfjgggiopegbaaDoorR3Recover
import Derived.Test.YtkfjgggiopegbaaDoorROne
import Derived.Test.YtkfjgggiopegbaaDoorWalR3
import Derived.Test.YtkfjgggiopegbaaDoorTie
import Derived.Test.YtkfjgggiopegbaaDoorCards
import Derived.Lay
import Derived.SevenTiedAt
import Derived.Test.YtkfjgggiopegbaaDoorBd
import Derived.Test.YtkfjgggiopegbaaDoorOpen
namespace Go.Proofs.YtkfjgggiopegbaaDoor
set_option linter.unusedVariables false
set_option linter.unusedSimpArgs false
set_option maxRecDepth 100000



def walParseF (ds : List DV) : List DV := [.bool true]
/-- What the executor makes of it. -/
def walParseTree : PT :=
(.br (.un .not (.bin .le (.un .len (.var 0)) (.int 40)))
 (.leaf [(.bin .idx (.fn 112 .nil) (.int 0))])
 (.loop 2 [(.int 0)]
  (.br (.un .not (.bin .le (.un .len (.var 0)) (.var 2)))
   (.asrt (.bin .le (.int 0) (.var 2))
    (.br (.un .not (.bin .le (.un .slen (.bin .idx (.var 0) (.bin .add (.int 0) (.var 2)))) (.int 60)))
     .fail
     (.leaf [(.un (.wrap .i64) (.bin .add (.var 2) (.int 1)))])))
   .fail)
  (.br (.un .not (.bin .le (.un .len (.var 0)) (.var 2)))
   (.asrt (.bin .le (.int 0) (.var 2))
    (.br (.un .not (.bin .le (.un .slen (.bin .idx (.var 0) (.bin .add (.int 0) (.var 2)))) (.int 60)))
     (.leaf [(.bin .idx (.fn 112 .nil) (.int 0))])
     .fail))
   (.br (.bin .idx (.fn 112 .nil) (.int 0))
    (.asrt (.bin .le (.un .len (.bin .idx (.fn 105 (.bin .cons (.var 0) (.bin .cons (.var 1) .nil))) (.int 1))) (.int 1000000))
     (.asrt (.bin .le (.un .len (.bin .idx (.fn 158 (.bin .cons (.var 0) (.bin .cons (.var 1) .nil))) (.int 1))) (.int 1000000))
      (.br (.bin .idx (.fn 113 (.bin .cons (.bin .idx (.fn 105 (.bin .cons (.var 0) (.bin .cons (.var 1) .nil))) (.int 0)) (.bin .cons (.bin .idx (.fn 105 (.bin .cons (.var 0) (.bin .cons (.var 1) .nil))) (.int 1)) (.bin .cons (.bin .idx (.fn 158 (.bin .cons (.var 0) (.bin .cons (.var 1) .nil))) (.int 0)) (.bin .cons (.bin .idx (.fn 158 (.bin .cons (.var 0) (.bin .cons (.var 1) .nil))) (.int 1)) .nil))))) (.int 0))
       (.br (.bin .eq (.bin .idx (.fn 105 (.bin .cons (.var 0) (.bin .cons (.var 1) .nil))) (.int 2)) (.bin .idx (.fn 158 (.bin .cons (.var 0) (.bin .cons (.var 1) .nil))) (.int 2)))
        (.br (.bin .eq (.bin .idx (.fn 105 (.bin .cons (.var 0) (.bin .cons (.var 1) .nil))) (.int 3)) (.bin .idx (.fn 158 (.bin .cons (.var 0) (.bin .cons (.var 1) .nil))) (.int 3)))
         (.br (.un .not (.bin .eq (.un .len (.bin .idx (.fn 153 (.bin .cons (.var 0) .nil)) (.int 0))) (.un .len (.bin .idx (.fn 159 (.bin .cons (.var 0) .nil)) (.int 0)))))
          (.leaf [(.bool false)])
          (.loop 3 [(.int 0)]
           (.br (.un .not (.bin .le (.un .len (.bin .idx (.fn 153 (.bin .cons (.var 0) .nil)) (.int 0))) (.var 3)))
            (.asrt (.bin .le (.int 0) (.var 3))
             (.asrt (.un .not (.bin .le (.un .len (.bin .idx (.fn 159 (.bin .cons (.var 0) .nil)) (.int 0))) (.var 3)))
              (.asrt (.bin .le (.un .len (.bin .idx (.bin .idx (.bin .idx (.fn 153 (.bin .cons (.var 0) .nil)) (.int 0)) (.bin .add (.int 0) (.var 3))) (.int 1))) (.int 1000000))
               (.asrt (.bin .le (.un .len (.bin .idx (.bin .idx (.bin .idx (.fn 159 (.bin .cons (.var 0) .nil)) (.int 0)) (.bin .add (.int 0) (.var 3))) (.int 1))) (.int 1000000))
                (.br (.un .not (.bin .idx (.fn 113 (.bin .cons (.bin .idx (.bin .idx (.bin .idx (.fn 153 (.bin .cons (.var 0) .nil)) (.int 0)) (.bin .add (.int 0) (.var 3))) (.int 0)) (.bin .cons (.bin .idx (.bin .idx (.bin .idx (.fn 153 (.bin .cons (.var 0) .nil)) (.int 0)) (.bin .add (.int 0) (.var 3))) (.int 1)) (.bin .cons (.bin .idx (.bin .idx (.bin .idx (.fn 159 (.bin .cons (.var 0) .nil)) (.int 0)) (.bin .add (.int 0) (.var 3))) (.int 0)) (.bin .cons (.bin .idx (.bin .idx (.bin .idx (.fn 159 (.bin .cons (.var 0) .nil)) (.int 0)) (.bin .add (.int 0) (.var 3))) (.int 1)) .nil))))) (.int 0)))
                 .fail
                 (.leaf [(.un (.wrap .i64) (.bin .add (.var 3) (.int 1)))]))))))
            .fail)
           (.br (.un .not (.bin .le (.un .len (.bin .idx (.fn 153 (.bin .cons (.var 0) .nil)) (.int 0))) (.var 3)))
            (.asrt (.bin .le (.int 0) (.var 3))
             (.asrt (.un .not (.bin .le (.un .len (.bin .idx (.fn 159 (.bin .cons (.var 0) .nil)) (.int 0))) (.var 3)))
              (.asrt (.bin .le (.un .len (.bin .idx (.bin .idx (.bin .idx (.fn 153 (.bin .cons (.var 0) .nil)) (.int 0)) (.bin .add (.int 0) (.var 3))) (.int 1))) (.int 1000000))
               (.asrt (.bin .le (.un .len (.bin .idx (.bin .idx (.bin .idx (.fn 159 (.bin .cons (.var 0) .nil)) (.int 0)) (.bin .add (.int 0) (.var 3))) (.int 1))) (.int 1000000))
                (.br (.un .not (.bin .idx (.fn 113 (.bin .cons (.bin .idx (.bin .idx (.bin .idx (.fn 153 (.bin .cons (.var 0) .nil)) (.int 0)) (.bin .add (.int 0) (.var 3))) (.int 0)) (.bin .cons (.bin .idx (.bin .idx (.bin .idx (.fn 153 (.bin .cons (.var 0) .nil)) (.int 0)) (.bin .add (.int 0) (.var 3))) (.int 1)) (.bin .cons (.bin .idx (.bin .idx (.bin .idx (.fn 159 (.bin .cons (.var 0) .nil)) (.int 0)) (.bin .add (.int 0) (.var 3))) (.int 0)) (.bin .cons (.bin .idx (.bin .idx (.bin .idx (.fn 159 (.bin .cons (.var 0) .nil)) (.int 0)) (.bin .add (.int 0) (.var 3))) (.int 1)) .nil))))) (.int 0)))
                 (.leaf [(.bool false)])
                 .fail)))))
            (.leaf [(.bin .eq (.bin .idx (.fn 153 (.bin .cons (.var 0) .nil)) (.int 1)) (.bin .idx (.fn 159 (.bin .cons (.var 0) .nil)) (.int 1)))]))))
         (.leaf [(.bool false)]))
        (.leaf [(.bool false)]))
       (.leaf [(.bool false)]))))
    (.leaf [(.bool false)])))))

def walParseSm : List (Nat × Smy) := [(8, ⟨112, [], [.one (.pl .bool)], fun _ => [], none⟩), (10, ⟨105, [.one (.rows false [.str]), .one (.pl (.int .i64))], [.agg [.pl (.int .i64), .rows true [.int .i64, .int .i64]], .one (.pl (.int .i64)), .one (.pl (.int .i64))], lenC [(0, 1000)], none⟩), (11, ⟨158, [.one (.rows false [.str]), .one (.pl (.int .i64))], [.agg [.pl (.int .i64), .rows false [.int .i64, .int .i64]], .one (.pl (.int .i64)), .one (.pl (.int .i64))], fun es => lenC [(0, 1000)] es ++ rgeC [(1, -9223372036854775808, 9223372036854775807)] es, none⟩), (12, ⟨153, [.one (.rows false [.str])], [.one (.nst [.pl (.int .i64), .sub [.int .i64, .int .i64]]), .one (.pl (.int .i64))], lenC [(0, 1000)], none⟩), (13, ⟨159, [.one (.rows false [.str])], [.one (.nst [.pl (.int .i64), .sub [.int .i64, .int .i64]]), .one (.pl (.int .i64))], lenC [(0, 1000)], none⟩), (14, ⟨113, [.agg [.pl (.int .i64), .rows false [.int .i64, .int .i64]], .agg [.pl (.int .i64), .rows false [.int .i64, .int .i64]]], [.one (.pl .bool)], lenC [(1, 1000000), (3, 1000000)], none⟩)]
def walParseLa : List (LK × LA) := [(⟨29, 4, 8, 3, 9⟩, ⟨[(5, (.int .i64 (.var 3))), (6, .any), (12, .any), (13, .any), (14, .any), (15, .any), (16, .any), (17, .any), (18, .any), (19, .any), (20, .any), (21, .any), (22, .any), (23, .any), (24, .any), (25, .any), (26, .any), (27, .any), (28, .any)], [], [], 1, 0⟩),
  (⟨19, 4, 2, 2, 1⟩, ⟨[(3, (.int .i64 (.var 2))), (7, .any), (8, .any), (9, .any), (10, .any), (11, .any), (12, .any), (13, .any), (14, .any), (15, .any), (16, .any), (17, .any), (18, .any)], [], [], 1, 0⟩)]
def walParsePhi : Fs := ⟨fun n d => match n with
  | 112 => .list (lSane23F d.l)
  | 105 => .list (wParseF d.l)
  | 158 => .list (r3ParseF d.l)
  | 153 => .list (wRecoverF d.l)
  | 159 => .list (r3RecoverF d.l)
  | 113 => .list (rOneF d.l)
  | _ => d, 147⟩
theorem walParseS : SmyOk false Tryd.prog walParsePhi walParseSm := (smy_cons (fun _ => True) lSane23F lSane23_pure (fun _ _ _ _ => trivial) (fun _ => rfl) (fun _ h => by cases h) (smy_cons (lenP [(0, 1000)]) wParseF wParse_pure.wide (len_hp [(0, 1000)]) (fun _ => rfl) (fun _ h => by cases h) (smy_cons (fun ds => lenP [(0, 1000)] ds ∧ rgeP [(1, -9223372036854775808, 9223372036854775807)] ds) r3ParseF r3Parse_pure.wide (both_hp [(0, 1000)] [(1, -9223372036854775808, 9223372036854775807)]) (fun _ => rfl) (fun _ h => by cases h) (smy_cons (lenP [(0, 1000)]) wRecoverF wRecover_pure.wide (len_hp [(0, 1000)]) (fun _ => rfl) (fun _ h => by cases h) (smy_cons (lenP [(0, 1000)]) r3RecoverF r3Recover_pure.wide (len_hp [(0, 1000)]) (fun _ => rfl) (fun _ h => by cases h) (smy_cons (lenP [(1, 1000000), (3, 1000000)]) rOneF rOne_pure.wide (len_hp [(1, 1000000), (3, 1000000)]) (fun _ => rfl) (fun _ h => by cases h) smy_nil))))))
theorem walParseT : treeOk ⟨Tryd.prog, walParseSm, walParseLa, false⟩ 4000 3 [.one (.rows false [.str]), .one (.pl (.int .i64))] [.one (.pl .bool)] (rng 0 9223372036854775807 (.un .len (.var 0)) ++ (rng (-9223372036854775808) 9223372036854775807 (.var 1) ++ ([]))) walParseTree = true := by decide +kernel
set_option maxHeartbeats 1000000 in
theorem walParse_pure : PureE false Tryd.prog 3 [.one (.rows false [.str]), .one (.pl (.int .i64))] [.one (.pl .bool)] (Wts (clsOf [.one (.rows false [.str]), .one (.pl (.int .i64))])) walParseF := by
  refine pure_tree (X := ⟨Tryd.prog, walParseSm, walParseLa, false⟩) (by decide +kernel) (Checked.mixed Tryd.checked) walParseS (by decide +kernel) (by decide +kernel) walParseT (by decide +kernel) ?_
  intro ds hl hp
  obtain ⟨d0, d1, rfl⟩ := len2 hl
  obtain ⟨_, _, he, w0, hp⟩ := hp
  cases he
  have b0 : ((d0.l.map DV.s).length : Int) ≤ 9223372036854775807 := by rw [List.length_map]; exact wt_len w0
  have v0 : ∀ v ∈ d0.l.map DV.s, (v.length : Int) ≤ 9223372036854775807 := wt_strs w0
  clear w0
  obtain ⟨_, _, he, w1, hp⟩ := hp
  cases he
  have r1 : -9223372036854775808 ≤ d1.i ∧ d1.i ≤ 9223372036854775807 := wt_i w1 rfl rfl
  clear w1
  have hN : nrmL (clsOf [.one (.rows false [.str]), .one (.pl (.int .i64))]) [d0, d1] = [.list ((d0.l.map DV.s).map DV.str), .int d1.i] := by
    simp only [clsOf, Sh.cls, List.append_nil, List.cons_append, List.nil_append, nrmL, Cl.nrm, CK.nrm, map_Ls]
  have hF : walParseF [d0, d1] = [.bool true] := rfl
  rw [hN, hF]
  clear hN hp hl hF
  generalize d0.l.map DV.s = x0 at b0 v0 ⊢
  generalize d1.i = x1 at r1 ⊢
  refine ⟨(rng_ok (e := .un .len (.var 0)) (Int.natCast_nonneg _) (by show ((x0.map _).length : Int) ≤ _; rw [List.length_map]; exact b0) (rng_ok (e := .var 1) r1.1 r1.2 (facts_nil _))), ?_⟩
  unfold walParseTree
  simp only [Sat, clsOf, Sh.cls, List.append_nil, List.cons_append, List.nil_append, nrmL, Cl.nrm, CK.nrm, List.map_cons, List.map_nil, List.length_cons, List.length_nil, List.cons.injEq, DV.bool.injEq, DV.int.injEq, DV.list.injEq, DV.str.injEq, and_true, true_and]
  simp only [q_le, q_eq, q_eqs, q_eqb, q_and, q_or, q_not, q_bool, iff_true, iff_false, Bool.not_true, Bool.not_false, Bool.false_eq_true, Bool.true_eq_false, eq_self, Bool.not_not]
  simp only [Bool.not_true, Bool.not_false, Bool.true_eq_false, SE.den, evU, evT, ev_le, ev_eq, ev_eqs, ev_eqb, ev_slt, ev_and, ev_or, ev_add, ev_sub, ev_mul, ev_tdiv, ev_tmod, ev_band, ev_bor, ev_bxor, ev_bandn, ev_shl, ev_shr, ev_cat, ev_byte, ev_idx, ev_cons, ev_snoc, ev_app, ev_take, ev_drop, ev_stake, ev_sdrop, ev_rep, leB_q, eqB_q, eqsB_q, not_q, i_if, b_if, l_if, s_if, i_int, b_bool, s_str, l_list, envL, List.getElem?_cons_succ, List.getElem?_cons_zero, List.getElem?_nil, Option.getD_some, Option.getD_none, Int.toNat_natCast, Int.toNat_zero, Int.reduceToNat, List.length_map, get_Li, get_Lb, get_Ls, set_Li, inj_Li, inj_Lb, inj_Ls, rows_i, rows_b, rows_s, Int.zero_add, iff_true, iff_false, and_true, true_and, Bool.false_eq_true, eq_self, not_true_eq_false, not_false_eq_true, List.length_replicate, DV.int.injEq, DV.bool.injEq, DV.str.injEq, DV.list.injEq, List.cons.injEq, f_En_0, rows_En, inj_LEn, f_En_1, rows_En, inj_LEn, f_ii_0, rows_ii, inj_Lii, f_ii_1, rows_ii, inj_Lii, walParsePhi, lSane23F, lSane23E, wParseF, wParseE, r3ParseF, r3ParseE, wRecoverF, wRecoverE, r3RecoverF, r3RecoverE, rOneF, rOneE, gi, gb, gs, gLi, gLu, gLb, gLs, dece_i, dece_b, dece_s, gLEn, deces_En, gLii, deces_ii, lSane23E, parse3_eq]
  refine ⟨fun _ => trivial, fun h40 => ?_⟩
  refine rounds_find x0.length (fun i => [DV.int i]) (fun i => 60 < (x0[i]?.getD []).length) rfl (fun _ => rfl) (fun i hi hs hj => ?_) (fun i hi hs hj => ?_) (fun hj => ?_)
  · simp only [Bool.not_true, Bool.not_false, Bool.true_eq_false, SE.den, evU, evT, ev_le, ev_eq, ev_eqs, ev_eqb, ev_slt, ev_and, ev_or, ev_add, ev_sub, ev_mul, ev_tdiv, ev_tmod, ev_band, ev_bor, ev_bxor, ev_bandn, ev_shl, ev_shr, ev_cat, ev_byte, ev_idx, ev_cons, ev_snoc, ev_app, ev_take, ev_drop, ev_stake, ev_sdrop, ev_rep, leB_q, eqB_q, eqsB_q, not_q, i_if, b_if, l_if, s_if, i_int, b_bool, s_str, l_list, envL, List.getElem?_cons_succ, List.getElem?_cons_zero, List.getElem?_nil, Option.getD_some, Option.getD_none, Int.toNat_natCast, Int.toNat_zero, Int.reduceToNat, List.length_map, get_Li, get_Lb, get_Ls, set_Li, inj_Li, inj_Lb, inj_Ls, rows_i, rows_b, rows_s, Int.zero_add, iff_true, iff_false, and_true, true_and, Bool.false_eq_true, eq_self, not_true_eq_false, not_false_eq_true, List.length_replicate, DV.int.injEq, DV.bool.injEq, DV.str.injEq, DV.list.injEq, List.cons.injEq, f_En_0, rows_En, inj_LEn, f_En_1, rows_En, inj_LEn, f_ii_0, rows_ii, inj_Lii, f_ii_1, rows_ii, inj_Lii, w64 (n := (i : Int) + 1) (by omega) (by omega)]
    exact ⟨fun _ => ⟨by omega, fun h => absurd (by omega) h, fun _ => rfl⟩, fun h => absurd h (by omega)⟩
  · simp only [Bool.not_true, Bool.not_false, Bool.true_eq_false, SE.den, evU, evT, ev_le, ev_eq, ev_eqs, ev_eqb, ev_slt, ev_and, ev_or, ev_add, ev_sub, ev_mul, ev_tdiv, ev_tmod, ev_band, ev_bor, ev_bxor, ev_bandn, ev_shl, ev_shr, ev_cat, ev_byte, ev_idx, ev_cons, ev_snoc, ev_app, ev_take, ev_drop, ev_stake, ev_sdrop, ev_rep, leB_q, eqB_q, eqsB_q, not_q, i_if, b_if, l_if, s_if, i_int, b_bool, s_str, l_list, envL, List.getElem?_cons_succ, List.getElem?_cons_zero, List.getElem?_nil, Option.getD_some, Option.getD_none, Int.toNat_natCast, Int.toNat_zero, Int.reduceToNat, List.length_map, get_Li, get_Lb, get_Ls, set_Li, inj_Li, inj_Lb, inj_Ls, rows_i, rows_b, rows_s, Int.zero_add, iff_true, iff_false, and_true, true_and, Bool.false_eq_true, eq_self, not_true_eq_false, not_false_eq_true, List.length_replicate, DV.int.injEq, DV.bool.injEq, DV.str.injEq, DV.list.injEq, List.cons.injEq, f_En_0, rows_En, inj_LEn, f_En_1, rows_En, inj_LEn, f_ii_0, rows_ii, inj_Lii, f_ii_1, rows_ii, inj_Lii]
    exact ⟨fun _ => ⟨by omega, fun _ => trivial, fun h => absurd h (by omega)⟩, fun h => absurd h (by omega)⟩
  · simp only [Bool.not_true, Bool.not_false, Bool.true_eq_false, SE.den, evU, evT, ev_le, ev_eq, ev_eqs, ev_eqb, ev_slt, ev_and, ev_or, ev_add, ev_sub, ev_mul, ev_tdiv, ev_tmod, ev_band, ev_bor, ev_bxor, ev_bandn, ev_shl, ev_shr, ev_cat, ev_byte, ev_idx, ev_cons, ev_snoc, ev_app, ev_take, ev_drop, ev_stake, ev_sdrop, ev_rep, leB_q, eqB_q, eqsB_q, not_q, i_if, b_if, l_if, s_if, i_int, b_bool, s_str, l_list, envL, List.getElem?_cons_succ, List.getElem?_cons_zero, List.getElem?_nil, Option.getD_some, Option.getD_none, Int.toNat_natCast, Int.toNat_zero, Int.reduceToNat, List.length_map, get_Li, get_Lb, get_Ls, set_Li, inj_Li, inj_Lb, inj_Ls, rows_i, rows_b, rows_s, Int.zero_add, iff_true, iff_false, and_true, true_and, Bool.false_eq_true, eq_self, not_true_eq_false, not_false_eq_true, List.length_replicate, DV.int.injEq, DV.bool.injEq, DV.str.injEq, DV.list.injEq, List.cons.injEq, f_En_0, rows_En, inj_LEn, f_En_1, rows_En, inj_LEn, f_ii_0, rows_ii, inj_Lii, f_ii_1, rows_ii, inj_Lii]
    refine ⟨fun h => absurd (Int.le_refl _) h, fun _ => ?_⟩
    have hw := recover_w x0
    have hl := recover_len x0
    generalize recoverM x0 = R at *
    have hone : ∀ v w, oneM23 v w v w = true := fun v w => by unfold oneM23; simp
    have fin : ∀ {B : List DV → List DV → Prop} {Q : List DV → Prop}, (∀ i : Nat, i < R.1.length → B [.int i] [.int ((i + 1 : Nat) : Int)]) → Q [.int R.1.length] → Rounds B Q [.int 0] := fun hB hQ => rounds_at R.1.length (fun i => [DV.int i]) rfl (fun _ => rfl) hB hQ
    cases hp : parseM x0 x1 with
    | none =>
      simp only [parse4, Bool.not_true, Bool.not_false, Bool.true_eq_false, SE.den, evU, evT, ev_le, ev_eq, ev_eqs, ev_eqb, ev_slt, ev_and, ev_or, ev_add, ev_sub, ev_mul, ev_tdiv, ev_tmod, ev_band, ev_bor, ev_bxor, ev_bandn, ev_shl, ev_shr, ev_cat, ev_byte, ev_idx, ev_cons, ev_snoc, ev_app, ev_take, ev_drop, ev_stake, ev_sdrop, ev_rep, leB_q, eqB_q, eqsB_q, not_q, i_if, b_if, l_if, s_if, i_int, b_bool, s_str, l_list, envL, List.getElem?_cons_succ, List.getElem?_cons_zero, List.getElem?_nil, Option.getD_some, Option.getD_none, Int.toNat_natCast, Int.toNat_zero, Int.reduceToNat, List.length_map, get_Li, get_Lb, get_Ls, set_Li, inj_Li, inj_Lb, inj_Ls, rows_i, rows_b, rows_s, Int.zero_add, iff_true, iff_false, and_true, true_and, Bool.false_eq_true, eq_self, not_true_eq_false, not_false_eq_true, List.length_replicate, DV.int.injEq, DV.bool.injEq, DV.str.injEq, DV.list.injEq, List.cons.injEq, f_En_0, rows_En, inj_LEn, f_En_1, rows_En, inj_LEn, f_ii_0, rows_ii, inj_Lii, f_ii_1, rows_ii, inj_Lii, walParsePhi, lSane23F, lSane23E, wParseF, wParseE, r3ParseF, r3ParseE, wRecoverF, wRecoverE, r3RecoverF, r3RecoverE, rOneF, rOneE, gi, gb, gs, gLi, gLu, gLb, gLs, dece_i, dece_b, dece_s, gLEn, deces_En, gLii, deces_ii, deces_ii, hone, List.map_nil, List.length_nil]
      refine ⟨fun _ => ⟨by omega, by omega, fun _ => ⟨fun _ => ⟨fun _ => ⟨fun h => h, fun _ => ⟨rfl, ?_⟩⟩, fun h => h⟩, fun h => h⟩, fun h => h⟩, fun h => h⟩
      refine fin (fun i hi => ?_) ?_
      · have := hw i
        have hwi : IntKind.i64.wrap ((i : Int) + 1) = ((i + 1 : Nat) : Int) := by rw [w64 (by omega) (by omega)]; omega
        simp only [Bool.not_true, Bool.not_false, Bool.true_eq_false, SE.den, evU, evT, ev_le, ev_eq, ev_eqs, ev_eqb, ev_slt, ev_and, ev_or, ev_add, ev_sub, ev_mul, ev_tdiv, ev_tmod, ev_band, ev_bor, ev_bxor, ev_bandn, ev_shl, ev_shr, ev_cat, ev_byte, ev_idx, ev_cons, ev_snoc, ev_app, ev_take, ev_drop, ev_stake, ev_sdrop, ev_rep, leB_q, eqB_q, eqsB_q, not_q, i_if, b_if, l_if, s_if, i_int, b_bool, s_str, l_list, envL, List.getElem?_cons_succ, List.getElem?_cons_zero, List.getElem?_nil, Option.getD_some, Option.getD_none, Int.toNat_natCast, Int.toNat_zero, Int.reduceToNat, List.length_map, get_Li, get_Lb, get_Ls, set_Li, inj_Li, inj_Lb, inj_Ls, rows_i, rows_b, rows_s, Int.zero_add, iff_true, iff_false, and_true, true_and, Bool.false_eq_true, eq_self, not_true_eq_false, not_false_eq_true, List.length_replicate, DV.int.injEq, DV.bool.injEq, DV.str.injEq, DV.list.injEq, List.cons.injEq, f_En_0, rows_En, inj_LEn, f_En_1, rows_En, inj_LEn, f_ii_0, rows_ii, inj_Lii, f_ii_1, rows_ii, inj_Lii, List.cons_append, List.nil_append, hwi]
        exact ⟨fun _ => ⟨by omega, by omega, by omega, by omega, fun h => h, fun _ => trivial⟩, fun h => absurd h (by omega)⟩
      · simp only [Bool.not_true, Bool.not_false, Bool.true_eq_false, SE.den, evU, evT, ev_le, ev_eq, ev_eqs, ev_eqb, ev_slt, ev_and, ev_or, ev_add, ev_sub, ev_mul, ev_tdiv, ev_tmod, ev_band, ev_bor, ev_bxor, ev_bandn, ev_shl, ev_shr, ev_cat, ev_byte, ev_idx, ev_cons, ev_snoc, ev_app, ev_take, ev_drop, ev_stake, ev_sdrop, ev_rep, leB_q, eqB_q, eqsB_q, not_q, i_if, b_if, l_if, s_if, i_int, b_bool, s_str, l_list, envL, List.getElem?_cons_succ, List.getElem?_cons_zero, List.getElem?_nil, Option.getD_some, Option.getD_none, Int.toNat_natCast, Int.toNat_zero, Int.reduceToNat, List.length_map, get_Li, get_Lb, get_Ls, set_Li, inj_Li, inj_Lb, inj_Ls, rows_i, rows_b, rows_s, Int.zero_add, iff_true, iff_false, and_true, true_and, Bool.false_eq_true, eq_self, not_true_eq_false, not_false_eq_true, List.length_replicate, DV.int.injEq, DV.bool.injEq, DV.str.injEq, DV.list.injEq, List.cons.injEq, f_En_0, rows_En, inj_LEn, f_En_1, rows_En, inj_LEn, f_ii_0, rows_ii, inj_Lii, f_ii_1, rows_ii, inj_Lii, List.cons_append, List.nil_append]
        exact ⟨fun h => absurd (Int.le_refl _) h, fun _ => trivial⟩
    | some r =>
      have hr := parse_w hp
      simp only [parse4, Bool.not_true, Bool.not_false, Bool.true_eq_false, SE.den, evU, evT, ev_le, ev_eq, ev_eqs, ev_eqb, ev_slt, ev_and, ev_or, ev_add, ev_sub, ev_mul, ev_tdiv, ev_tmod, ev_band, ev_bor, ev_bxor, ev_bandn, ev_shl, ev_shr, ev_cat, ev_byte, ev_idx, ev_cons, ev_snoc, ev_app, ev_take, ev_drop, ev_stake, ev_sdrop, ev_rep, leB_q, eqB_q, eqsB_q, not_q, i_if, b_if, l_if, s_if, i_int, b_bool, s_str, l_list, envL, List.getElem?_cons_succ, List.getElem?_cons_zero, List.getElem?_nil, Option.getD_some, Option.getD_none, Int.toNat_natCast, Int.toNat_zero, Int.reduceToNat, List.length_map, get_Li, get_Lb, get_Ls, set_Li, inj_Li, inj_Lb, inj_Ls, rows_i, rows_b, rows_s, Int.zero_add, iff_true, iff_false, and_true, true_and, Bool.false_eq_true, eq_self, not_true_eq_false, not_false_eq_true, List.length_replicate, DV.int.injEq, DV.bool.injEq, DV.str.injEq, DV.list.injEq, List.cons.injEq, f_En_0, rows_En, inj_LEn, f_En_1, rows_En, inj_LEn, f_ii_0, rows_ii, inj_Lii, f_ii_1, rows_ii, inj_Lii, walParsePhi, lSane23F, lSane23E, wParseF, wParseE, r3ParseF, r3ParseE, wRecoverF, wRecoverE, r3RecoverF, r3RecoverE, rOneF, rOneE, gi, gb, gs, gLi, gLu, gLb, gLs, dece_i, dece_b, dece_s, gLEn, deces_En, gLii, deces_ii, deces_ii, hone]
      refine ⟨fun _ => ⟨by omega, by omega, fun _ => ⟨fun _ => ⟨fun _ => ⟨fun h => h, fun _ => ⟨rfl, ?_⟩⟩, fun h => h⟩, fun h => h⟩, fun h => h⟩, fun h => h⟩
      refine fin (fun i hi => ?_) ?_
      · have := hw i
        have hwi : IntKind.i64.wrap ((i : Int) + 1) = ((i + 1 : Nat) : Int) := by rw [w64 (by omega) (by omega)]; omega
        simp only [Bool.not_true, Bool.not_false, Bool.true_eq_false, SE.den, evU, evT, ev_le, ev_eq, ev_eqs, ev_eqb, ev_slt, ev_and, ev_or, ev_add, ev_sub, ev_mul, ev_tdiv, ev_tmod, ev_band, ev_bor, ev_bxor, ev_bandn, ev_shl, ev_shr, ev_cat, ev_byte, ev_idx, ev_cons, ev_snoc, ev_app, ev_take, ev_drop, ev_stake, ev_sdrop, ev_rep, leB_q, eqB_q, eqsB_q, not_q, i_if, b_if, l_if, s_if, i_int, b_bool, s_str, l_list, envL, List.getElem?_cons_succ, List.getElem?_cons_zero, List.getElem?_nil, Option.getD_some, Option.getD_none, Int.toNat_natCast, Int.toNat_zero, Int.reduceToNat, List.length_map, get_Li, get_Lb, get_Ls, set_Li, inj_Li, inj_Lb, inj_Ls, rows_i, rows_b, rows_s, Int.zero_add, iff_true, iff_false, and_true, true_and, Bool.false_eq_true, eq_self, not_true_eq_false, not_false_eq_true, List.length_replicate, DV.int.injEq, DV.bool.injEq, DV.str.injEq, DV.list.injEq, List.cons.injEq, f_En_0, rows_En, inj_LEn, f_En_1, rows_En, inj_LEn, f_ii_0, rows_ii, inj_Lii, f_ii_1, rows_ii, inj_Lii, List.cons_append, List.nil_append, hwi]
        exact ⟨fun _ => ⟨by omega, by omega, by omega, by omega, fun h => h, fun _ => trivial⟩, fun h => absurd h (by omega)⟩
      · simp only [Bool.not_true, Bool.not_false, Bool.true_eq_false, SE.den, evU, evT, ev_le, ev_eq, ev_eqs, ev_eqb, ev_slt, ev_and, ev_or, ev_add, ev_sub, ev_mul, ev_tdiv, ev_tmod, ev_band, ev_bor, ev_bxor, ev_bandn, ev_shl, ev_shr, ev_cat, ev_byte, ev_idx, ev_cons, ev_snoc, ev_app, ev_take, ev_drop, ev_stake, ev_sdrop, ev_rep, leB_q, eqB_q, eqsB_q, not_q, i_if, b_if, l_if, s_if, i_int, b_bool, s_str, l_list, envL, List.getElem?_cons_succ, List.getElem?_cons_zero, List.getElem?_nil, Option.getD_some, Option.getD_none, Int.toNat_natCast, Int.toNat_zero, Int.reduceToNat, List.length_map, get_Li, get_Lb, get_Ls, set_Li, inj_Li, inj_Lb, inj_Ls, rows_i, rows_b, rows_s, Int.zero_add, iff_true, iff_false, and_true, true_and, Bool.false_eq_true, eq_self, not_true_eq_false, not_false_eq_true, List.length_replicate, DV.int.injEq, DV.bool.injEq, DV.str.injEq, DV.list.injEq, List.cons.injEq, f_En_0, rows_En, inj_LEn, f_En_1, rows_En, inj_LEn, f_ii_0, rows_ii, inj_Lii, f_ii_1, rows_ii, inj_Lii, List.cons_append, List.nil_append]
        exact ⟨fun h => absurd (Int.le_refl _) h, fun _ => trivial⟩
namespace row
open Go.ChangeShapes Go.WideShapes Go.ChangeAt Go.RowKit Go.Joins Go.Deep Go.Proofs.YtkfjgggiopegbaaDoor
theorem lifted (os : Os) (started : os.Started) (H : Type) (enc : TypeId × Value → H) :
    ReturnsInHanded {} Tryd.checked os 3 .any (fun w args => (Rows.walParseSpec.pre enc Tryd.prog Tryd.f3 [] false w args ∧ laidMetH Tryd.prog Rows.walParseRow.laid w) ∧ sizedMet enc Tryd.prog Tryd.f3 (OpenSpec.ofChange Rows.walParseSpec) false w args) (Rows.walParseSpec.post enc Tryd.prog Tryd.f3 false true false false) := by
  refine returnsInHanded_of_change_and (C := Tryd.checked) (X := fun w _ => laidMetH Tryd.prog Rows.walParseRow.laid w) (fun _ _ _ hh h => h.of_heap hh) own started (by kernel_rfl) Tryd.func3
    (ChangeSpec.witness_shaped (enc := enc) (C := Tryd.checked) (os := os) (X := fun w _ => laidMetH Tryd.prog Rows.walParseRow.laid w) false (World.laidAll Tryd.prog os Rows.walParseRow.laid) #[.slice none 0 0, .int .i64 0] 8 (World.laidAll_os _ _ _)
      (World.shaped_of_ZipB (by kernel_rfl) (by kernel_rfl)) (by kernel_rfl) (by kernel_rfl) (by kernel_rfl)
      (by rw [MakeChecks.laidMetH_plain _ _ _ (by kernel_rfl)]; exact laidMet_laidAll _ (by kernel_rfl) (by kernel_rfl))) ?_
  intro W base args ds gs before hval0 hW hcnd _ _ _
  have hval : ∀ (j : Nat) t v, Tryd.f3.params[j]? = some t → args[j]? = some v → Value.okWide Tryd.prog W .any base t v := hval0
  have hW' := hW
  obtain ⟨p, q, hA0, hV, rfl, hfz, hnd⟩ := hW
  have hA : DataW.TrodAll enc Tryd.prog W 0 (fun _ => true) true Tryd.f3.params.toList args.toList ds p := hA0
  have hval2 : ∀ (j : Nat) t v, Tryd.f3.params.toList[j]? = some t → args.toList[j]? = some v → Value.okWide Tryd.prog W .any base t v := fun j t v a b => hval j t v (by simpa using a) (by simpa using b)
  have hcall := law_of walParse_pure (fun _ h => h) (by rw [Tryd.params3]; kernel_rfl) hA hval2
  rw [Tryd.params3] at hA
  obtain ⟨v0, vs0, d0, ds0, p0, q0, hargs, rfl, rfl, h0, r0⟩ := trodAll_cons hA
  obtain ⟨v1, vs1, d1, ds1, p1, q1, rfl, rfl, rfl, h1, r1⟩ := trodAll_cons r0
  obtain ⟨rfl, rfl, rfl⟩ := trodAll_nil r1
  obtain rfl : args = #[v0, v1] := by cases args; simp_all
  obtain ⟨rfl, rfl⟩ := trodVars_none hV
  have lt0 : ∀ x ∈ p0, x.block < W.heap.size := by obtain ⟨m, hm⟩ := h0; exact DataW.trod_lt m _ _ _ hm
  have lt1 : ∀ x ∈ p1, x.block < W.heap.size := by obtain ⟨m, hm⟩ := h1; exact DataW.trod_lt m _ _ _ hm
  clear hA0 hval0 hval2
  refine Calls.mono hcall fun e W' ⟨he, bel⟩ => ?_
  subst he
  exact ⟨_, rfl, _, _, _, [], _, [], hW', trodAll_mk1 (shut_bool Tryd.underlying4 _), (trodAll_cons_mk (Below.trod laidOut (by kernel_rfl) (of_decide_eq_true (by kernel_rfl)) h0 bel lt0) (trodAll_cons_mk (Below.trod laidOut (by kernel_rfl) (of_decide_eq_true (by kernel_rfl)) h1 bel lt1) trodAll_mk0)), rfl, bel.frame _, fun h => by cases h⟩
theorem over : Rows.walParseRow.holds Tryd.pinned (OpenSpec.ofChange Rows.walParseSpec) :=
  OpenClaim.holds_of_wide 3 Tryd.f3 rfl rfl rfl rfl rfl rfl rfl ⟨rfl, rfl, rfl, rfl, rfl⟩ rfl rfl rfl rfl rfl (by kernel_rfl) Tryd.func3 (by kernel_rfl)
    (of_decide_eq_true (by kernel_rfl)) (by unfold Func.isWrapper; first | (rw [if_pos (by decide +kernel)]; kernel_rfl) | (rw [if_neg (by decide +kernel)]; exact ⟨rfl, rfl⟩))
    (fun os started H enc _ => lifted os started H enc)
end row
theorem walParse_proved : Rows.WalParseCardSaid :=
  Claim7.holds_tied_plain_at .later [] [.data, .pinned] true _ false row.over (fun _ h => by cases h) (by kernel_rfl) (fun _ h => by cases h) walParse_row_tie rfl ⟨rfl, rfl⟩ (by kernel_rfl) rfl
    (fun f fn hf hfn => by
      obtain rfl : f = 3 := Option.some.inj ((show Tryd.prog.funcNamed Rows.walParseRow.func = some 3 by kernel_rfl).symm.trans hf) |>.symm
      obtain rfl : fn = Tryd.f3 := (Option.some.inj (Tryd.func3.symm.trans hfn)).symm
      exact ⟨by kernel_rfl, fun j t ht => by
        have hm : t ∈ Tryd.f3.params.toList := by simpa using Array.mem_of_getElem? ht
        have hall : (Tryd.f3.params.toList.all fun u => !Tryd.prog.wantsStandIn u) = true := by kernel_rfl
        exact (show Tryd.prog.wantsStandIn t = false by simpa using List.all_eq_true.1 hall t hm)⟩)
    (by kernel_rfl)
end Go.Proofs.YtkfjgggiopegbaaDoor
