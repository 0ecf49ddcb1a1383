/- MemCasOnce: the law returns true for every input, and each argument reads afterwards as it read before. No condition. -/
import Derived.Test.YtbnbljeegghgiaaLSane02
import Derived.Test.YtbnbljeegghgiaaMemDo
import Derived.Test.YtbnbljeegghgiaaRSame
import Derived.Test.YtbnbljeegghgiaaBd
import Derived.Test.YtbnbljeegghgiaaOpen
namespace Go.Proofs.Ytbnbljeegghgiaa
set_option linter.unusedVariables false
set_option linter.unusedSimpArgs false
set_option maxRecDepth 100000

theorem cas1 (n v : Int) : doM [n] 3 0 n v [] = ([v], (n, true), 0) := by simp [doM, rightM, nextM]
theorem cas2 {n m : Int} (v : Int) (h : m ≠ n) : doM [m] 3 0 n v [] = ([m], (m, false), 0) := by simp [doM, rightM, nextM, h]

def memCasOnceF (ds : List DV) : List DV := [.bool true]
/-- What the executor makes of it. -/
def memCasOnceTree : PT :=
(.br (.un .not (.bin .le (.un .len (.var 1)) (.int 20)))
 (.leaf [(.bin .idx (.fn 12 .nil) (.int 0))])
 (.br (.bin .eq (.un .len (.var 1)) (.int 0))
  (.leaf [(.bin .idx (.fn 12 .nil) (.int 0))])
  (.loop 2 [(.int 0), (.int 0), (.bin .cons (.var 0) .nil)]
   (.br (.un .not (.bin .le (.un .len (.var 1)) (.var 3)))
    (.asrt (.bin .le (.int 0) (.var 3))
     (.br (.bin .eq (.bin .idx (.var 1) (.bin .add (.int 0) (.var 3))) (.var 0))
      .fail
      (.asrt (.bin .le (.un .len (.var 4)) (.int 1000000))
       (.br (.un .not (.bin .eq (.bin .idx (.fn 0 (.bin .cons (.var 4) (.bin .cons (.int 3) (.bin .cons (.int 0) (.bin .cons (.var 0) (.bin .cons (.bin .idx (.var 1) (.bin .add (.int 0) (.var 3))) (.bin .cons (.str []) .nil))))))) (.int 3)) (.int 0)))
        .fail
        (.br (.un .not (.bin .eqb (.bin .idx (.fn 0 (.bin .cons (.var 4) (.bin .cons (.int 3) (.bin .cons (.int 0) (.bin .cons (.var 0) (.bin .cons (.bin .idx (.var 1) (.bin .add (.int 0) (.var 3))) (.bin .cons (.str []) .nil))))))) (.int 2)) (.bin .eq (.var 3) (.int 0))))
         .fail
         (.br (.bin .idx (.fn 0 (.bin .cons (.var 4) (.bin .cons (.int 3) (.bin .cons (.int 0) (.bin .cons (.var 0) (.bin .cons (.bin .idx (.var 1) (.bin .add (.int 0) (.var 3))) (.bin .cons (.str []) .nil))))))) (.int 2))
          (.leaf [(.un (.wrap .i64) (.bin .add (.var 2) (.int 1))), (.un (.wrap .i64) (.bin .add (.var 3) (.int 1))), (.bin .idx (.fn 0 (.bin .cons (.var 4) (.bin .cons (.int 3) (.bin .cons (.int 0) (.bin .cons (.var 0) (.bin .cons (.bin .idx (.var 1) (.bin .add (.int 0) (.var 3))) (.bin .cons (.str []) .nil))))))) (.int 0))])
          (.leaf [(.var 2), (.un (.wrap .i64) (.bin .add (.var 3) (.int 1))), (.bin .idx (.fn 0 (.bin .cons (.var 4) (.bin .cons (.int 3) (.bin .cons (.int 0) (.bin .cons (.var 0) (.bin .cons (.bin .idx (.var 1) (.bin .add (.int 0) (.var 3))) (.bin .cons (.str []) .nil))))))) (.int 0))])))))))
    .fail)
   (.br (.un .not (.bin .le (.un .len (.var 1)) (.var 3)))
    (.asrt (.bin .le (.int 0) (.var 3))
     (.br (.bin .eq (.bin .idx (.var 1) (.bin .add (.int 0) (.var 3))) (.var 0))
      (.leaf [(.bin .idx (.fn 12 .nil) (.int 0))])
      (.asrt (.bin .le (.un .len (.var 4)) (.int 1000000))
       (.br (.un .not (.bin .eq (.bin .idx (.fn 0 (.bin .cons (.var 4) (.bin .cons (.int 3) (.bin .cons (.int 0) (.bin .cons (.var 0) (.bin .cons (.bin .idx (.var 1) (.bin .add (.int 0) (.var 3))) (.bin .cons (.str []) .nil))))))) (.int 3)) (.int 0)))
        (.leaf [(.bool false)])
        (.br (.un .not (.bin .eqb (.bin .idx (.fn 0 (.bin .cons (.var 4) (.bin .cons (.int 3) (.bin .cons (.int 0) (.bin .cons (.var 0) (.bin .cons (.bin .idx (.var 1) (.bin .add (.int 0) (.var 3))) (.bin .cons (.str []) .nil))))))) (.int 2)) (.bin .eq (.var 3) (.int 0))))
         (.leaf [(.bool false)])
         .fail)))))
    (.br (.bin .idx (.fn 12 .nil) (.int 0))
     (.br (.bin .eq (.var 2) (.int 1))
      (.asrt (.bin .le (.un .len (.var 4)) (.int 1000000))
       (.asrt (.bin .le (.un .len (.bin .cons (.bin .idx (.var 1) (.int 0)) .nil)) (.int 1000000))
        (.leaf [(.bin .idx (.fn 4 (.bin .cons (.var 4) (.bin .cons (.bin .cons (.bin .idx (.var 1) (.int 0)) .nil) .nil))) (.int 0))])))
      (.leaf [(.bool false)]))
     (.leaf [(.bool false)]))))))

def memCasOnceSm : List (Nat × Smy) := [(31, ⟨12, [], [.one (.pl .bool)], fun _ => []⟩), (32, ⟨0, [.agg [.rows false [.int .i64]], .agg [.pl (.int .i64), .pl (.int .i64), .pl (.int .i64), .pl (.int .i64), .pl .str]], [.agg [.rows false [.int .i64]], .agg [.pl (.int .i64), .pl .bool], .one (.pl (.int .i64))], lenC [(0, 1000000)]⟩), (37, ⟨4, [.agg [.rows false [.int .i64]], .agg [.rows false [.int .i64]]], [.one (.pl .bool)], lenC [(0, 1000000), (1, 1000000)]⟩)]
def memCasOnceLa : List (LK × LA) := [(⟨78, 7, 4⟩, ⟨[(7, (.int .i64 (.var 2))), (8, (.int .i64 (.var 3))), (9, .any), (10, .any), (11, .any), (25, .any), (26, .any), (27, .any), (28, .any), (29, .any), (30, .any), (31, .any), (32, .any), (33, .any), (34, .any), (35, .any), (36, .any), (37, .any), (38, .any), (39, .any), (40, .any), (41, .any), (42, .any), (43, .any), (44, .any), (45, .any), (46, .any), (47, .any), (48, .any), (49, .any), (50, .any), (51, .any), (52, .any), (53, .any), (54, .any), (55, .any), (56, .any), (57, .any), (58, .any), (59, .any), (60, .any), (61, .any), (62, .any), (63, .any)], [(3, (.cells [(.sl 4 1 (.int 0) (.un .len (.var 4)) none)])), (4, (.ro [.int .i64] (.var 4)))], [2], 3, 1⟩)]
def memCasOncePhi : Nat → DV → DV := fun n d => match n with
  | 12 => .list (lSane02F d.l)
  | 0 => .list (memDoF d.l)
  | 4 => .list (rSameF d.l)
  | _ => d
theorem memCasOnceS : SmyOk Try.prog memCasOncePhi memCasOnceSm := (smy_cons (fun _ => True) lSane02F lSane02_pure (fun _ _ _ _ => trivial) (fun _ => rfl) (smy_cons (lenP [(0, 1000000)]) memDoF memDo_pure (len_hp [(0, 1000000)]) (fun _ => rfl) (smy_cons (lenP [(0, 1000000), (1, 1000000)]) rSameF rSame_pure (len_hp [(0, 1000000), (1, 1000000)]) (fun _ => rfl) smy_nil)))
theorem memCasOnceT : treeOk ⟨Try.prog, memCasOnceSm, memCasOnceLa⟩ 4000 13 [.one (.pl (.int .i64)), .one (.rows false [.int .i64])] [.one (.pl .bool)] (rng (-9223372036854775808) 9223372036854775807 (.var 0) ++ (rng 0 9223372036854775807 (.un .len (.var 1)) ++ ([]))) memCasOnceTree = true := by decide +kernel
set_option maxHeartbeats 1000000 in
theorem memCasOnce_pure : Pure Try.prog 13 [.one (.pl (.int .i64)), .one (.rows false [.int .i64])] [.one (.pl .bool)] (Wts (clsOf [.one (.pl (.int .i64)), .one (.rows false [.int .i64])])) memCasOnceF := by
  refine pure_tree (X := ⟨Try.prog, memCasOnceSm, memCasOnceLa⟩) (Checked.mixed Try.checked) memCasOnceS (by decide +kernel) (by decide +kernel) memCasOnceT (by decide +kernel) ?_
  intro ds hl hp
  obtain ⟨d0, d1, rfl⟩ := len2 hl
  obtain ⟨_, _, he, w0, hp⟩ := hp
  cases he
  have r0 : -9223372036854775808 ≤ d0.i ∧ d0.i ≤ 9223372036854775807 := wt_i w0 rfl rfl
  clear w0
  obtain ⟨_, _, he, w1, hp⟩ := hp
  cases he
  have b1 : ((d1.l.map DV.i).length : Int) ≤ 9223372036854775807 := by rw [List.length_map]; exact wt_len w1
  have v1 : ∀ v ∈ d1.l.map DV.i, -9223372036854775808 ≤ v ∧ v ≤ 9223372036854775807 := wt_ints w1 rfl rfl
  clear w1
  have hN : nrmL (clsOf [.one (.pl (.int .i64)), .one (.rows false [.int .i64])]) [d0, d1] = [.int d0.i, .list ((d1.l.map DV.i).map DV.int)] := by
    simp only [clsOf, Sh.cls, List.append_nil, List.cons_append, List.nil_append, nrmL, Cl.nrm, CK.nrm, map_Li]
  have hF : memCasOnceF [d0, d1] = [.bool true] := rfl
  rw [hN, hF]
  clear hN hp hl hF
  generalize d0.i = x0 at r0 ⊢
  generalize d1.l.map DV.i = x1 at b1 v1 ⊢
  refine ⟨(rng_ok (e := .var 0) r0.1 r0.2 (rng_ok (e := .un .len (.var 1)) (Int.natCast_nonneg _) (by show ((x1.map _).length : Int) ≤ _; rw [List.length_map]; exact b1) (facts_nil _))), ?_⟩
  unfold memCasOnceTree
  simp only [Sat, clsOf, Sh.cls, List.append_nil, List.cons_append, List.nil_append, nrmL, Cl.nrm, CK.nrm, List.map_cons, List.map_nil, List.length_cons, List.length_nil, List.cons.injEq, DV.bool.injEq, DV.int.injEq, DV.list.injEq, DV.str.injEq, and_true, true_and]
  simp only [q_le, q_eq, q_eqs, q_eqb, q_and, q_or, q_not, q_bool, iff_true, iff_false, Bool.not_true, Bool.not_false, Bool.false_eq_true, Bool.true_eq_false, eq_self, Bool.not_not]
  simp only [SE.den, evU, evB, evT, i_int, b_bool, s_str, l_list, envL, List.getElem?_cons_succ, List.getElem?_cons_zero, List.getElem?_nil, Option.getD_some, Option.getD_none, Int.toNat_natCast, Int.toNat_zero, Int.reduceToNat, List.length_map, get_Li, get_Lb, get_Ls, set_Li, inj_Li, inj_Lb, inj_Ls, rows_i, rows_b, rows_s, Int.zero_add, iff_true, iff_false, and_true, true_and, Bool.false_eq_true, eq_self, not_true_eq_false, not_false_eq_true, List.length_replicate, DV.int.injEq, DV.bool.injEq, DV.str.injEq, DV.list.injEq, List.cons.injEq, memCasOncePhi, lSane02F, lSane02E, memDoF, memDoE, rSameF, rSameE, gi, gb, gs, gLi, gLu, gLb, gLs, dece_i, dece_b, dece_s, List.map_cons, List.map_nil, List.length_cons, List.length_nil]
  refine ⟨by simp, fun hl => ⟨by simp, fun hz => ?_⟩⟩
  have hw : IntKind.i64.wrap 1 = 1 := by decide
  have hl0 : x1 ≠ [] := fun h => by rw [h] at hz; exact hz rfl
  have hl1 : ¬ (x1.length : Int) ≤ 0 := by omega
  refine rounds_find x1.length (fun i => if i = 0 then [.int 0, .int 0, .list [.int x0]] else [.int 1, .int i, .list [.int (x1[0]?.getD 0)]]) (fun i => x1[i]?.getD 0 = x0) rfl (fun i => by split <;> rfl) (fun i hi hs hj => ?_) (fun i hi hs hj => ?_) (fun hj => ?_)
  · have hi' : ¬ (x1.length : Int) ≤ i := by omega
    rcases Nat.eq_zero_or_pos i with rfl | hp
    · simp only [if_true, if_neg (Nat.succ_ne_zero 0), SE.den, evU, evB, evT, i_int, b_bool, s_str, l_list, envL, List.getElem?_cons_succ, List.getElem?_cons_zero, List.getElem?_nil, Option.getD_some, Option.getD_none, Int.toNat_natCast, Int.toNat_zero, Int.reduceToNat, List.length_map, get_Li, get_Lb, get_Ls, set_Li, inj_Li, inj_Lb, inj_Ls, rows_i, rows_b, rows_s, Int.zero_add, iff_true, iff_false, and_true, true_and, Bool.false_eq_true, eq_self, not_true_eq_false, not_false_eq_true, List.length_replicate, DV.int.injEq, DV.bool.injEq, DV.str.injEq, DV.list.injEq, List.cons.injEq, memCasOncePhi, lSane02F, lSane02E, memDoF, memDoE, rSameF, rSameE, gi, gb, gs, gLi, gLu, gLb, gLs, dece_i, dece_b, dece_s, List.map_cons, List.map_nil, cas1, hs]
      simp [hw, hl0, hl1]
      try omega
    · have h0 : x1[0]?.getD 0 ≠ x0 := hj 0 hp
      simp only [if_neg (Nat.succ_ne_zero i), if_neg (show i ≠ 0 by omega), SE.den, evU, evB, evT, i_int, b_bool, s_str, l_list, envL, List.getElem?_cons_succ, List.getElem?_cons_zero, List.getElem?_nil, Option.getD_some, Option.getD_none, Int.toNat_natCast, Int.toNat_zero, Int.reduceToNat, List.length_map, get_Li, get_Lb, get_Ls, set_Li, inj_Li, inj_Lb, inj_Ls, rows_i, rows_b, rows_s, Int.zero_add, iff_true, iff_false, and_true, true_and, Bool.false_eq_true, eq_self, not_true_eq_false, not_false_eq_true, List.length_replicate, DV.int.injEq, DV.bool.injEq, DV.str.injEq, DV.list.injEq, List.cons.injEq, memCasOncePhi, lSane02F, lSane02E, memDoF, memDoE, rSameF, rSameE, gi, gb, gs, gLi, gLu, gLb, gLs, dece_i, dece_b, dece_s, List.map_cons, List.map_nil, cas2 _ h0, hs, w64 (n := (i : Int) + 1) (by omega) (by omega)]
      have : ¬ (i : Int) = 0 := by omega
      simp [this, hi']
      try omega
  · have hi' : ¬ (x1.length : Int) ≤ i := by omega
    rcases Nat.eq_zero_or_pos i with rfl | hp
    · simp only [if_true, SE.den, evU, evB, evT, i_int, b_bool, s_str, l_list, envL, List.getElem?_cons_succ, List.getElem?_cons_zero, List.getElem?_nil, Option.getD_some, Option.getD_none, Int.toNat_natCast, Int.toNat_zero, Int.reduceToNat, List.length_map, get_Li, get_Lb, get_Ls, set_Li, inj_Li, inj_Lb, inj_Ls, rows_i, rows_b, rows_s, Int.zero_add, iff_true, iff_false, and_true, true_and, Bool.false_eq_true, eq_self, not_true_eq_false, not_false_eq_true, List.length_replicate, DV.int.injEq, DV.bool.injEq, DV.str.injEq, DV.list.injEq, List.cons.injEq, memCasOncePhi, lSane02F, lSane02E, memDoF, memDoE, rSameF, rSameE, gi, gb, gs, gLi, gLu, gLb, gLs, dece_i, dece_b, dece_s, List.map_cons, List.map_nil, hs]
      simp [hl0, hl1]
      try omega
    · simp only [if_neg (show i ≠ 0 by omega), SE.den, evU, evB, evT, i_int, b_bool, s_str, l_list, envL, List.getElem?_cons_succ, List.getElem?_cons_zero, List.getElem?_nil, Option.getD_some, Option.getD_none, Int.toNat_natCast, Int.toNat_zero, Int.reduceToNat, List.length_map, get_Li, get_Lb, get_Ls, set_Li, inj_Li, inj_Lb, inj_Ls, rows_i, rows_b, rows_s, Int.zero_add, iff_true, iff_false, and_true, true_and, Bool.false_eq_true, eq_self, not_true_eq_false, not_false_eq_true, List.length_replicate, DV.int.injEq, DV.bool.injEq, DV.str.injEq, DV.list.injEq, List.cons.injEq, memCasOncePhi, lSane02F, lSane02E, memDoF, memDoE, rSameF, rSameE, gi, gb, gs, gLi, gLu, gLb, gLs, dece_i, dece_b, dece_s, List.map_cons, List.map_nil, hs]
      simp [hi']
  · have h0 : x1.length ≠ 0 := by omega
    simp only [if_neg h0, SE.den, evU, evB, evT, i_int, b_bool, s_str, l_list, envL, List.getElem?_cons_succ, List.getElem?_cons_zero, List.getElem?_nil, Option.getD_some, Option.getD_none, Int.toNat_natCast, Int.toNat_zero, Int.reduceToNat, List.length_map, get_Li, get_Lb, get_Ls, set_Li, inj_Li, inj_Lb, inj_Ls, rows_i, rows_b, rows_s, Int.zero_add, iff_true, iff_false, and_true, true_and, Bool.false_eq_true, eq_self, not_true_eq_false, not_false_eq_true, List.length_replicate, DV.int.injEq, DV.bool.injEq, DV.str.injEq, DV.list.injEq, List.cons.injEq, memCasOncePhi, lSane02F, lSane02E, memDoF, memDoE, rSameF, rSameE, gi, gb, gs, gLi, gLu, gLb, gLs, dece_i, dece_b, dece_s, List.map_cons, List.map_nil, List.length_cons, List.length_nil]
    simp
namespace row
open Go.ChangeShapes Go.WideShapes Go.ChangeAt Go.RowKit Go.Joins Go.Deep Go.Proofs.Ytbnbljeegghgiaa
theorem lifted (os : Os) (started : os.Started) (H : Type) (enc : TypeId × Value → H) :
    ReturnsInHanded {} Try.checked os 13 .any (Rows.memCasOnceSpec.pre6 enc Try.prog Try.f13 Rows.memCasOnceRow.domain false) (Rows.memCasOnceSpec.post enc Try.prog Try.f13 false true false false) := by
  refine returnsInHanded_of_change (C := Try.checked) own started (by kernel_rfl) Try.func13
    (ChangeSpec.witness6 (enc := enc) (C := Try.checked) false ⟨#[], #[.int .i64 0, .slice none 0 0], []⟩ 8 (by kernel_rfl) (by kernel_rfl) (by kernel_rfl) (by kernel_rfl)) ?_
  intro W base args ds gs before hval0 hW hcnd _
  have hval : ∀ (j : Nat) t v, Try.f13.params[j]? = some t → args[j]? = some v → Value.okWide Try.prog W .any base t v := hval0
  have hW' := hW
  obtain ⟨p, q, hA0, hV, rfl, hfz, hnd⟩ := hW
  have hA : DataW.TrodAll enc Try.prog W 0 (fun _ => true) true Try.f13.params.toList args.toList ds p := hA0
  have hval2 : ∀ (j : Nat) t v, Try.f13.params.toList[j]? = some t → args.toList[j]? = some v → Value.okWide Try.prog W .any base t v := fun j t v a b => hval j t v (by simpa using a) (by simpa using b)
  have hcall := law_of memCasOnce_pure (fun _ h => h) (by rw [Try.params13]; kernel_rfl) hA hval2
  rw [Try.params13] at hA
  obtain ⟨v0, vs0, d0, ds0, p0, q0, hargs, rfl, rfl, h0, r0⟩ := trodAll_cons hA
  obtain ⟨v1, vs1, d1, ds1, p1, q1, rfl, rfl, rfl, h1, r1⟩ := trodAll_cons r0
  obtain ⟨rfl, rfl, rfl⟩ := trodAll_nil r1
  obtain rfl : args = #[v0, v1] := by cases args; simp_all
  obtain ⟨rfl, rfl⟩ := trodVars_none hV
  have lt0 : ∀ x ∈ p0, x.block < W.heap.size := by obtain ⟨m, hm⟩ := h0; exact DataW.trod_lt m _ _ _ hm
  have lt1 : ∀ x ∈ p1, x.block < W.heap.size := by obtain ⟨m, hm⟩ := h1; exact DataW.trod_lt m _ _ _ hm
  clear hA0 hval0 hval2
  refine Calls.mono hcall fun e W' ⟨he, bel⟩ => ?_
  subst he
  exact ⟨_, rfl, _, _, _, [], _, [], hW', trodAll_mk1 (shut_bool Try.underlying4 _), (trodAll_cons_mk (Below.trod laidOut (by kernel_rfl) (of_decide_eq_true (by kernel_rfl)) h0 bel lt0) (trodAll_cons_mk (Below.trod laidOut (by kernel_rfl) (of_decide_eq_true (by kernel_rfl)) h1 bel lt1) trodAll_mk0)), rfl, bel.frame _, fun h => by cases h⟩
theorem over : Rows.memCasOnceRow.holds Try.pinned (OpenSpec.ofChange Rows.memCasOnceSpec) :=
  OpenClaim.holds_of_wide 13 Try.f13 rfl rfl rfl rfl rfl rfl rfl ⟨rfl, rfl, rfl, rfl, rfl⟩ rfl rfl rfl rfl rfl (by kernel_rfl) Try.func13 (by kernel_rfl)
    (of_decide_eq_true (by kernel_rfl)) (by unfold Func.isWrapper; first | (rw [if_pos (by decide +kernel)]; kernel_rfl) | (rw [if_neg (by decide +kernel)]; exact ⟨rfl, rfl⟩))
    (fun os started H enc _ => lifted os started H enc)
end row
theorem memCasOnce_proved : Rows.MemCasOnceSaid := row.over
end Go.Proofs.Ytbnbljeegghgiaa
