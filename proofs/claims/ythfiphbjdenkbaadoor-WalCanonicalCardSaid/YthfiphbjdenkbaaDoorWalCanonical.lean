/- WalCanonical: the law returns true for every input, and each argument reads afterwards as it read before. No condition. -/
import Derived.Test.YthfiphbjdenkbaaDoorLSane23
import Derived.Test.YthfiphbjdenkbaaDoorWRecord
import Derived.Test.YthfiphbjdenkbaaDoorWParse
import Derived.Test.YthfiphbjdenkbaaDoorRTexts
import Derived.Test.YthfiphbjdenkbaaDoorTie
import Derived.Test.YthfiphbjdenkbaaDoorCards
import Derived.Lay
import Derived.SevenTiedAt
import Derived.Test.YthfiphbjdenkbaaDoorBd
import Derived.Test.YthfiphbjdenkbaaDoorOpen
namespace Go.Proofs.YthfiphbjdenkbaaDoor
set_option linter.unusedVariables false
set_option linter.unusedSimpArgs false
set_option maxRecDepth 100000



def walCanonicalF (ds : List DV) : List DV := [.bool true]
/-- What the executor makes of it. -/
def walCanonicalTree : PT :=
(.br (.un .not (.bin .le (.un .len (.var 0)) (.int 40)))
 (.leaf [(.bin .idx (.fn 112 .nil) (.int 0))])
 (.loop 2 [(.int 0)]
  (.br (.un .not (.bin .le (.un .len (.var 0)) (.var 2)))
   (.asrt (.bin .le (.int 0) (.var 2))
    (.br (.un .not (.bin .le (.un .slen (.bin .idx (.var 0) (.bin .add (.int 0) (.var 2)))) (.int 60)))
     .fail
     (.leaf [(.un (.wrap .i64) (.bin .add (.var 2) (.int 1)))])))
   .fail)
  (.br (.un .not (.bin .le (.un .len (.var 0)) (.var 2)))
   (.asrt (.bin .le (.int 0) (.var 2))
    (.br (.un .not (.bin .le (.un .slen (.bin .idx (.var 0) (.bin .add (.int 0) (.var 2)))) (.int 60)))
     (.leaf [(.bin .idx (.fn 112 .nil) (.int 0))])
     .fail))
   (.br (.un .not (.bin .eq (.bin .idx (.fn 105 (.bin .cons (.var 0) (.bin .cons (.var 1) .nil))) (.int 3)) (.int 0)))
    (.br (.bin .idx (.fn 112 .nil) (.int 0))
     (.br (.bin .eq (.bin .idx (.fn 105 (.bin .cons (.var 0) (.bin .cons (.var 1) .nil))) (.int 3)) (.int 11))
      (.br (.bin .eq (.bin .idx (.fn 105 (.bin .cons (.var 0) (.bin .cons (.var 1) .nil))) (.int 2)) (.int 0))
       (.leaf [(.bin .eq (.un .len (.bin .idx (.fn 105 (.bin .cons (.var 0) (.bin .cons (.var 1) .nil))) (.int 1))) (.int 0))])
       (.leaf [(.bool false)]))
      (.leaf [(.bool false)]))
     (.leaf [(.bool false)]))
    (.br (.un .not (.bin .le (.int 0) (.var 1)))
     (.leaf [(.bool false)])
     (.br (.un .not (.bin .le (.int 1) (.bin .idx (.fn 105 (.bin .cons (.var 0) (.bin .cons (.var 1) .nil))) (.int 2))))
      (.leaf [(.bool false)])
      (.br (.un .not (.bin .le (.bin .idx (.fn 105 (.bin .cons (.var 0) (.bin .cons (.var 1) .nil))) (.int 2)) (.un (.wrap .i64) (.bin .sub (.un .len (.var 0)) (.var 1)))))
       (.leaf [(.bool false)])
       (.br (.bin .idx (.fn 112 .nil) (.int 0))
        (.asrt (.bin .le (.un .len (.bin .idx (.fn 105 (.bin .cons (.var 0) (.bin .cons (.var 1) .nil))) (.int 1))) (.int 40))
         (.asrt (.bin .le (.un .len (.bin .idx (.fn 103 (.bin .cons (.bin .idx (.fn 105 (.bin .cons (.var 0) (.bin .cons (.var 1) .nil))) (.int 0)) (.bin .cons (.bin .idx (.fn 105 (.bin .cons (.var 0) (.bin .cons (.var 1) .nil))) (.int 1)) .nil))) (.int 0))) (.int 1000000))
          (.asrt (.bin .le (.un .len (.bin .take (.bin .drop (.var 0) (.bin .add (.int 0) (.var 1))) (.bin .sub (.un (.wrap .i64) (.bin .add (.var 1) (.bin .idx (.fn 105 (.bin .cons (.var 0) (.bin .cons (.var 1) .nil))) (.int 2)))) (.var 1)))) (.int 1000000))
           (.leaf [(.bin .idx (.fn 115 (.bin .cons (.bin .idx (.fn 103 (.bin .cons (.bin .idx (.fn 105 (.bin .cons (.var 0) (.bin .cons (.var 1) .nil))) (.int 0)) (.bin .cons (.bin .idx (.fn 105 (.bin .cons (.var 0) (.bin .cons (.var 1) .nil))) (.int 1)) .nil))) (.int 0)) (.bin .cons (.bin .take (.bin .drop (.var 0) (.bin .add (.int 0) (.var 1))) (.bin .sub (.un (.wrap .i64) (.bin .add (.var 1) (.bin .idx (.fn 105 (.bin .cons (.var 0) (.bin .cons (.var 1) .nil))) (.int 2)))) (.var 1))) .nil))) (.int 0))]))))
        (.leaf [(.bool false)])))))))))

def walCanonicalSm : List (Nat × Smy) := [(9, ⟨112, [], [.one (.pl .bool)], fun _ => [], none⟩), (12, ⟨103, [.agg [.pl (.int .i64), .rows false [.int .i64, .int .i64]]], [.one (.rows true [.str])], lenC [(1, 40)], none⟩), (17, ⟨105, [.one (.rows false [.str]), .one (.pl (.int .i64))], [.agg [.pl (.int .i64), .rows true [.int .i64, .int .i64]], .one (.pl (.int .i64)), .one (.pl (.int .i64))], lenC [(0, 1000)], none⟩), (11, ⟨115, [.one (.rows false [.str]), .one (.rows false [.str])], [.one (.pl .bool)], lenC [(0, 1000000), (1, 1000000)], none⟩)]
def walCanonicalLa : List (LK × LA) := [(⟨19, 4, 2, 2⟩, ⟨[(3, (.int .i64 (.var 2))), (7, .any), (8, .any), (9, .any), (10, .any), (11, .any), (12, .any), (13, .any), (14, .any), (15, .any), (16, .any), (17, .any), (18, .any)], [], [], 1, 0⟩)]
def walCanonicalPhi : Nat → DV → DV := fun n d => match n with
  | 112 => .list (lSane23F d.l)
  | 103 => .list (wRecordF d.l)
  | 105 => .list (wParseF d.l)
  | 115 => .list (rTextsF d.l)
  | _ => d
theorem walCanonicalS : SmyOk Tryd.prog walCanonicalPhi walCanonicalSm := (smy_cons (fun _ => True) lSane23F lSane23_pure (fun _ _ _ _ => trivial) (fun _ => rfl) (fun _ h => by cases h) (smy_cons (lenP [(1, 40)]) wRecordF wRecord_pure (len_hp [(1, 40)]) (fun _ => rfl) (fun _ h => by cases h) (smy_cons (lenP [(0, 1000)]) wParseF wParse_pure (len_hp [(0, 1000)]) (fun _ => rfl) (fun _ h => by cases h) (smy_cons (lenP [(0, 1000000), (1, 1000000)]) rTextsF rTexts_pure (len_hp [(0, 1000000), (1, 1000000)]) (fun _ => rfl) (fun _ h => by cases h) smy_nil))))
theorem walCanonicalT : treeOk ⟨Tryd.prog, walCanonicalSm, walCanonicalLa⟩ 4000 6 [.one (.rows false [.str]), .one (.pl (.int .i64))] [.one (.pl .bool)] (rng 0 9223372036854775807 (.un .len (.var 0)) ++ (rng (-9223372036854775808) 9223372036854775807 (.var 1) ++ ([]))) walCanonicalTree = true := by decide +kernel
set_option maxHeartbeats 1000000 in
theorem walCanonical_pure : Pure Tryd.prog 6 [.one (.rows false [.str]), .one (.pl (.int .i64))] [.one (.pl .bool)] (Wts (clsOf [.one (.rows false [.str]), .one (.pl (.int .i64))])) walCanonicalF := by
  refine pure_tree (X := ⟨Tryd.prog, walCanonicalSm, walCanonicalLa⟩) (Checked.mixed Tryd.checked) walCanonicalS (by decide +kernel) (by decide +kernel) walCanonicalT (by decide +kernel) ?_
  intro ds hl hp
  obtain ⟨d0, d1, rfl⟩ := len2 hl
  obtain ⟨_, _, he, w0, hp⟩ := hp
  cases he
  have b0 : ((d0.l.map DV.s).length : Int) ≤ 9223372036854775807 := by rw [List.length_map]; exact wt_len w0
  have v0 : ∀ v ∈ d0.l.map DV.s, (v.length : Int) ≤ 9223372036854775807 := wt_strs w0
  clear w0
  obtain ⟨_, _, he, w1, hp⟩ := hp
  cases he
  have r1 : -9223372036854775808 ≤ d1.i ∧ d1.i ≤ 9223372036854775807 := wt_i w1 rfl rfl
  clear w1
  have hN : nrmL (clsOf [.one (.rows false [.str]), .one (.pl (.int .i64))]) [d0, d1] = [.list ((d0.l.map DV.s).map DV.str), .int d1.i] := by
    simp only [clsOf, Sh.cls, List.append_nil, List.cons_append, List.nil_append, nrmL, Cl.nrm, CK.nrm, map_Ls]
  have hF : walCanonicalF [d0, d1] = [.bool true] := rfl
  rw [hN, hF]
  clear hN hp hl hF
  generalize d0.l.map DV.s = x0 at b0 v0 ⊢
  generalize d1.i = x1 at r1 ⊢
  refine ⟨(rng_ok (e := .un .len (.var 0)) (Int.natCast_nonneg _) (by show ((x0.map _).length : Int) ≤ _; rw [List.length_map]; exact b0) (rng_ok (e := .var 1) r1.1 r1.2 (facts_nil _))), ?_⟩
  unfold walCanonicalTree
  simp only [Sat, clsOf, Sh.cls, List.append_nil, List.cons_append, List.nil_append, nrmL, Cl.nrm, CK.nrm, List.map_cons, List.map_nil, List.length_cons, List.length_nil, List.cons.injEq, DV.bool.injEq, DV.int.injEq, DV.list.injEq, DV.str.injEq, and_true, true_and]
  simp only [q_le, q_eq, q_eqs, q_eqb, q_and, q_or, q_not, q_bool, iff_true, iff_false, Bool.not_true, Bool.not_false, Bool.false_eq_true, Bool.true_eq_false, eq_self, Bool.not_not]
  simp only [Bool.not_true, Bool.not_false, Bool.true_eq_false, SE.den, evU, evT, ev_le, ev_eq, ev_eqs, ev_eqb, ev_slt, ev_and, ev_or, ev_add, ev_sub, ev_mul, ev_tdiv, ev_tmod, ev_band, ev_bor, ev_bxor, ev_bandn, ev_shl, ev_shr, ev_cat, ev_byte, ev_idx, ev_cons, ev_snoc, ev_app, ev_take, ev_drop, ev_stake, ev_sdrop, ev_rep, leB_q, eqB_q, eqsB_q, not_q, i_if, b_if, l_if, s_if, i_int, b_bool, s_str, l_list, envL, List.getElem?_cons_succ, List.getElem?_cons_zero, List.getElem?_nil, Option.getD_some, Option.getD_none, Int.toNat_natCast, Int.toNat_zero, Int.reduceToNat, List.length_map, get_Li, get_Lb, get_Ls, set_Li, inj_Li, inj_Lb, inj_Ls, rows_i, rows_b, rows_s, Int.zero_add, iff_true, iff_false, and_true, true_and, Bool.false_eq_true, eq_self, not_true_eq_false, not_false_eq_true, List.length_replicate, DV.int.injEq, DV.bool.injEq, DV.str.injEq, DV.list.injEq, List.cons.injEq, f_ii_0, rows_ii, inj_Lii, f_ii_1, rows_ii, inj_Lii, walCanonicalPhi, lSane23F, lSane23E, wRecordF, wRecordE, wParseF, wParseE, rTextsF, rTextsE, gi, gb, gs, gLi, gLu, gLb, gLs, dece_i, dece_b, dece_s, gLii, deces_ii, lSane23E]
  refine ⟨fun _ => trivial, fun h40 => ?_⟩
  refine rounds_find x0.length (fun i => [DV.int i]) (fun i => 60 < (x0[i]?.getD []).length) rfl (fun _ => rfl) (fun i hi hs hj => ?_) (fun i hi hs hj => ?_) (fun hj => ?_)
  · simp only [Bool.not_true, Bool.not_false, Bool.true_eq_false, SE.den, evU, evT, ev_le, ev_eq, ev_eqs, ev_eqb, ev_slt, ev_and, ev_or, ev_add, ev_sub, ev_mul, ev_tdiv, ev_tmod, ev_band, ev_bor, ev_bxor, ev_bandn, ev_shl, ev_shr, ev_cat, ev_byte, ev_idx, ev_cons, ev_snoc, ev_app, ev_take, ev_drop, ev_stake, ev_sdrop, ev_rep, leB_q, eqB_q, eqsB_q, not_q, i_if, b_if, l_if, s_if, i_int, b_bool, s_str, l_list, envL, List.getElem?_cons_succ, List.getElem?_cons_zero, List.getElem?_nil, Option.getD_some, Option.getD_none, Int.toNat_natCast, Int.toNat_zero, Int.reduceToNat, List.length_map, get_Li, get_Lb, get_Ls, set_Li, inj_Li, inj_Lb, inj_Ls, rows_i, rows_b, rows_s, Int.zero_add, iff_true, iff_false, and_true, true_and, Bool.false_eq_true, eq_self, not_true_eq_false, not_false_eq_true, List.length_replicate, DV.int.injEq, DV.bool.injEq, DV.str.injEq, DV.list.injEq, List.cons.injEq, f_ii_0, rows_ii, inj_Lii, f_ii_1, rows_ii, inj_Lii, w64 (n := (i : Int) + 1) (by omega) (by omega)]
    exact ⟨fun _ => ⟨by omega, fun h => absurd (by omega) h, fun _ => rfl⟩, fun h => absurd h (by omega)⟩
  · simp only [Bool.not_true, Bool.not_false, Bool.true_eq_false, SE.den, evU, evT, ev_le, ev_eq, ev_eqs, ev_eqb, ev_slt, ev_and, ev_or, ev_add, ev_sub, ev_mul, ev_tdiv, ev_tmod, ev_band, ev_bor, ev_bxor, ev_bandn, ev_shl, ev_shr, ev_cat, ev_byte, ev_idx, ev_cons, ev_snoc, ev_app, ev_take, ev_drop, ev_stake, ev_sdrop, ev_rep, leB_q, eqB_q, eqsB_q, not_q, i_if, b_if, l_if, s_if, i_int, b_bool, s_str, l_list, envL, List.getElem?_cons_succ, List.getElem?_cons_zero, List.getElem?_nil, Option.getD_some, Option.getD_none, Int.toNat_natCast, Int.toNat_zero, Int.reduceToNat, List.length_map, get_Li, get_Lb, get_Ls, set_Li, inj_Li, inj_Lb, inj_Ls, rows_i, rows_b, rows_s, Int.zero_add, iff_true, iff_false, and_true, true_and, Bool.false_eq_true, eq_self, not_true_eq_false, not_false_eq_true, List.length_replicate, DV.int.injEq, DV.bool.injEq, DV.str.injEq, DV.list.injEq, List.cons.injEq, f_ii_0, rows_ii, inj_Lii, f_ii_1, rows_ii, inj_Lii]
    exact ⟨fun _ => ⟨by omega, fun _ => trivial, fun h => absurd h (by omega)⟩, fun h => absurd h (by omega)⟩
  · simp only [Bool.not_true, Bool.not_false, Bool.true_eq_false, SE.den, evU, evT, ev_le, ev_eq, ev_eqs, ev_eqb, ev_slt, ev_and, ev_or, ev_add, ev_sub, ev_mul, ev_tdiv, ev_tmod, ev_band, ev_bor, ev_bxor, ev_bandn, ev_shl, ev_shr, ev_cat, ev_byte, ev_idx, ev_cons, ev_snoc, ev_app, ev_take, ev_drop, ev_stake, ev_sdrop, ev_rep, leB_q, eqB_q, eqsB_q, not_q, i_if, b_if, l_if, s_if, i_int, b_bool, s_str, l_list, envL, List.getElem?_cons_succ, List.getElem?_cons_zero, List.getElem?_nil, Option.getD_some, Option.getD_none, Int.toNat_natCast, Int.toNat_zero, Int.reduceToNat, List.length_map, get_Li, get_Lb, get_Ls, set_Li, inj_Li, inj_Lb, inj_Ls, rows_i, rows_b, rows_s, Int.zero_add, iff_true, iff_false, and_true, true_and, Bool.false_eq_true, eq_self, not_true_eq_false, not_false_eq_true, List.length_replicate, DV.int.injEq, DV.bool.injEq, DV.str.injEq, DV.list.injEq, List.cons.injEq, f_ii_0, rows_ii, inj_Lii, f_ii_1, rows_ii, inj_Lii]
    refine ⟨fun h => absurd (Int.le_refl _) h, fun _ => ?_⟩
    cases hp : parseM x0 x1 with
    | none => exact ⟨fun _ => ⟨fun _ => ⟨fun _ => ⟨fun _ => rfl, fun h => absurd (show (0 : Int) = 0 from rfl) h⟩, fun h => absurd (show (11 : Int) = 11 from rfl) h⟩, fun h => h⟩, fun h => absurd (show (11 : Int) = 0 from h) (by omega)⟩
    | some r =>
      obtain ⟨⟨v, w⟩, n⟩ := r
      obtain ⟨c1, c2, c3, c4, c5, c6, c7⟩ := parse_canon hp
      obtain ⟨a, rfl⟩ : ∃ a : Nat, x1 = a := ⟨x1.toNat, by omega⟩
      have hw1 : IntKind.i64.wrap ((x0.length : Int) - a) = x0.length - a := w64 (by omega) (by omega)
      have hw2 : IntKind.i64.wrap ((a : Int) + n) = a + n := w64 (by omega) (by omega)
      have hn : ((a : Int) + n - a).toNat = n := by omega
      have hwl : (w.length : Int) ≤ 40 := by have := (validM_iff.1 c1).2.2.2; simp only at this; omega
      have hr := record_le v c2
      simp only at c7
      simp only [parse4, Bool.not_true, Bool.not_false, Bool.true_eq_false, SE.den, evU, evT, ev_le, ev_eq, ev_eqs, ev_eqb, ev_slt, ev_and, ev_or, ev_add, ev_sub, ev_mul, ev_tdiv, ev_tmod, ev_band, ev_bor, ev_bxor, ev_bandn, ev_shl, ev_shr, ev_cat, ev_byte, ev_idx, ev_cons, ev_snoc, ev_app, ev_take, ev_drop, ev_stake, ev_sdrop, ev_rep, leB_q, eqB_q, eqsB_q, not_q, i_if, b_if, l_if, s_if, i_int, b_bool, s_str, l_list, envL, List.getElem?_cons_succ, List.getElem?_cons_zero, List.getElem?_nil, Option.getD_some, Option.getD_none, Int.toNat_natCast, Int.toNat_zero, Int.reduceToNat, List.length_map, get_Li, get_Lb, get_Ls, set_Li, inj_Li, inj_Lb, inj_Ls, rows_i, rows_b, rows_s, Int.zero_add, iff_true, iff_false, and_true, true_and, Bool.false_eq_true, eq_self, not_true_eq_false, not_false_eq_true, List.length_replicate, DV.int.injEq, DV.bool.injEq, DV.str.injEq, DV.list.injEq, List.cons.injEq, f_ii_0, rows_ii, inj_Lii, f_ii_1, rows_ii, inj_Lii, walCanonicalPhi, lSane23F, lSane23E, wRecordF, wRecordE, wParseF, wParseE, rTextsF, rTextsE, gi, gb, gs, gLi, gLu, gLb, gLs, dece_i, dece_b, dece_s, gLii, deces_ii, hw1, hw2, hn, deces_ii, take_Ls, drop_Ls, dece_s, Int.toNat_natCast] at c7 ⊢
      rw [c7] at hr ⊢
      exact ⟨fun h => h.elim, fun _ => ⟨fun h => h c3, fun _ => ⟨fun h => absurd (by omega) h, fun _ => ⟨fun h => absurd (by omega) h, fun _ => ⟨fun _ => ⟨hwl, by omega, by omega, by simp⟩, fun h => h⟩⟩⟩⟩⟩
namespace row
open Go.ChangeShapes Go.WideShapes Go.ChangeAt Go.RowKit Go.Joins Go.Deep Go.Proofs.YthfiphbjdenkbaaDoor
theorem lifted (os : Os) (started : os.Started) (H : Type) (enc : TypeId × Value → H) :
    ReturnsInHanded {} Tryd.checked os 6 .any (fun w args => (Rows.walCanonicalSpec.pre enc Tryd.prog Tryd.f6 [] false w args ∧ laidMetH Tryd.prog Rows.walCanonicalRow.laid w) ∧ sizedMet enc Tryd.prog Tryd.f6 (OpenSpec.ofChange Rows.walCanonicalSpec) false w args) (Rows.walCanonicalSpec.post enc Tryd.prog Tryd.f6 false true false false) := by
  refine returnsInHanded_of_change_and (C := Tryd.checked) (X := fun w _ => laidMetH Tryd.prog Rows.walCanonicalRow.laid w) (fun _ _ _ hh h => h.of_heap hh) own started (by kernel_rfl) Tryd.func6
    (ChangeSpec.witness_shaped (enc := enc) (C := Tryd.checked) (os := os) (X := fun w _ => laidMetH Tryd.prog Rows.walCanonicalRow.laid w) false (World.laidAll Tryd.prog os Rows.walCanonicalRow.laid) #[.slice none 0 0, .int .i64 0] 8 (World.laidAll_os _ _ _)
      (World.shaped_of_ZipB (by kernel_rfl) (by kernel_rfl)) (by kernel_rfl) (by kernel_rfl) (by kernel_rfl)
      (by rw [MakeChecks.laidMetH_plain _ _ _ (by kernel_rfl)]; exact laidMet_laidAll _ (by kernel_rfl) (by kernel_rfl))) ?_
  intro W base args ds gs before hval0 hW hcnd _ _ _
  have hval : ∀ (j : Nat) t v, Tryd.f6.params[j]? = some t → args[j]? = some v → Value.okWide Tryd.prog W .any base t v := hval0
  have hW' := hW
  obtain ⟨p, q, hA0, hV, rfl, hfz, hnd⟩ := hW
  have hA : DataW.TrodAll enc Tryd.prog W 0 (fun _ => true) true Tryd.f6.params.toList args.toList ds p := hA0
  have hval2 : ∀ (j : Nat) t v, Tryd.f6.params.toList[j]? = some t → args.toList[j]? = some v → Value.okWide Tryd.prog W .any base t v := fun j t v a b => hval j t v (by simpa using a) (by simpa using b)
  have hcall := law_of walCanonical_pure (fun _ h => h) (by rw [Tryd.params6]; kernel_rfl) hA hval2
  rw [Tryd.params6] at hA
  obtain ⟨v0, vs0, d0, ds0, p0, q0, hargs, rfl, rfl, h0, r0⟩ := trodAll_cons hA
  obtain ⟨v1, vs1, d1, ds1, p1, q1, rfl, rfl, rfl, h1, r1⟩ := trodAll_cons r0
  obtain ⟨rfl, rfl, rfl⟩ := trodAll_nil r1
  obtain rfl : args = #[v0, v1] := by cases args; simp_all
  obtain ⟨rfl, rfl⟩ := trodVars_none hV
  have lt0 : ∀ x ∈ p0, x.block < W.heap.size := by obtain ⟨m, hm⟩ := h0; exact DataW.trod_lt m _ _ _ hm
  have lt1 : ∀ x ∈ p1, x.block < W.heap.size := by obtain ⟨m, hm⟩ := h1; exact DataW.trod_lt m _ _ _ hm
  clear hA0 hval0 hval2
  refine Calls.mono hcall fun e W' ⟨he, bel⟩ => ?_
  subst he
  exact ⟨_, rfl, _, _, _, [], _, [], hW', trodAll_mk1 (shut_bool Tryd.underlying4 _), (trodAll_cons_mk (Below.trod laidOut (by kernel_rfl) (of_decide_eq_true (by kernel_rfl)) h0 bel lt0) (trodAll_cons_mk (Below.trod laidOut (by kernel_rfl) (of_decide_eq_true (by kernel_rfl)) h1 bel lt1) trodAll_mk0)), rfl, bel.frame _, fun h => by cases h⟩
theorem over : Rows.walCanonicalRow.holds Tryd.pinned (OpenSpec.ofChange Rows.walCanonicalSpec) :=
  OpenClaim.holds_of_wide 6 Tryd.f6 rfl rfl rfl rfl rfl rfl rfl ⟨rfl, rfl, rfl, rfl, rfl⟩ rfl rfl rfl rfl rfl (by kernel_rfl) Tryd.func6 (by kernel_rfl)
    (of_decide_eq_true (by kernel_rfl)) (by unfold Func.isWrapper; first | (rw [if_pos (by decide +kernel)]; kernel_rfl) | (rw [if_neg (by decide +kernel)]; exact ⟨rfl, rfl⟩))
    (fun os started H enc _ => lifted os started H enc)
end row
theorem walCanonical_proved : Rows.WalCanonicalCardSaid :=
  Claim7.holds_tied_plain_at .later [] [.data, .pinned] true _ false row.over (fun _ h => by cases h) (by kernel_rfl) (fun _ h => by cases h) walCanonical_row_tie rfl ⟨rfl, rfl⟩ (by kernel_rfl) rfl
    (fun f fn hf hfn => by
      obtain rfl : f = 6 := Option.some.inj ((show Tryd.prog.funcNamed Rows.walCanonicalRow.func = some 6 by kernel_rfl).symm.trans hf) |>.symm
      obtain rfl : fn = Tryd.f6 := (Option.some.inj (Tryd.func6.symm.trans hfn)).symm
      exact ⟨by kernel_rfl, fun j t ht => by
        have hm : t ∈ Tryd.f6.params.toList := by simpa using Array.mem_of_getElem? ht
        have hall : (Tryd.f6.params.toList.all fun u => !Tryd.prog.wantsStandIn u) = true := by kernel_rfl
        exact (show Tryd.prog.wantsStandIn t = false by simpa using List.all_eq_true.1 hall t hm)⟩)
    (by kernel_rfl)
end Go.Proofs.YthfiphbjdenkbaaDoor
