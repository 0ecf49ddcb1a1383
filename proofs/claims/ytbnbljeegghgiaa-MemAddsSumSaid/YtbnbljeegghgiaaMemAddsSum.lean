/- MemAddsSum: the law returns true for every input, and each argument reads afterwards as it read before. No condition. -/
import Derived.Test.YtbnbljeegghgiaaLSane02
import Derived.Test.YtbnbljeegghgiaaMemDo
import Derived.Test.YtbnbljeegghgiaaRSame
import Derived.Test.YtbnbljeegghgiaaBd
import Derived.Test.YtbnbljeegghgiaaOpen
namespace Go.Proofs.Ytbnbljeegghgiaa
set_option linter.unusedVariables false
set_option linter.unusedSimpArgs false
set_option maxRecDepth 100000

theorem add1 (s v : Int) : doM [0, s] 4 1 0 v [] = ([0, IntKind.i64.wrap (s + v)], (s, true), 0) := by simp [doM, rightM, nextM]

def memAddsSumF (ds : List DV) : List DV := [.bool true]
/-- What the executor makes of it. -/
def memAddsSumTree : PT :=
(.br (.un .not (.bin .le (.un .len (.var 0)) (.int 40)))
 (.leaf [(.bin .idx (.fn 12 .nil) (.int 0))])
 (.loop 2 [(.var 1), (.int 0), (.bin .cons (.int 0) (.bin .cons (.var 1) .nil))]
  (.br (.un .not (.bin .le (.un .len (.var 0)) (.var 3)))
   (.asrt (.bin .le (.int 0) (.var 3))
    (.asrt (.bin .le (.un .len (.var 4)) (.int 1000000))
     (.br (.un .not (.bin .eq (.bin .idx (.fn 0 (.bin .cons (.var 4) (.bin .cons (.int 4) (.bin .cons (.int 1) (.bin .cons (.int 0) (.bin .cons (.bin .idx (.var 0) (.bin .add (.int 0) (.var 3))) (.bin .cons (.str []) .nil))))))) (.int 3)) (.int 0)))
      .fail
      (.br (.un .not (.bin .eq (.bin .idx (.fn 0 (.bin .cons (.var 4) (.bin .cons (.int 4) (.bin .cons (.int 1) (.bin .cons (.int 0) (.bin .cons (.bin .idx (.var 0) (.bin .add (.int 0) (.var 3))) (.bin .cons (.str []) .nil))))))) (.int 1)) (.var 2)))
       .fail
       (.br (.un .not (.bin .idx (.fn 0 (.bin .cons (.var 4) (.bin .cons (.int 4) (.bin .cons (.int 1) (.bin .cons (.int 0) (.bin .cons (.bin .idx (.var 0) (.bin .add (.int 0) (.var 3))) (.bin .cons (.str []) .nil))))))) (.int 2)))
        .fail
        (.leaf [(.un (.wrap .i64) (.bin .add (.var 2) (.bin .idx (.var 0) (.bin .add (.int 0) (.var 3))))), (.un (.wrap .i64) (.bin .add (.var 3) (.int 1))), (.bin .idx (.fn 0 (.bin .cons (.var 4) (.bin .cons (.int 4) (.bin .cons (.int 1) (.bin .cons (.int 0) (.bin .cons (.bin .idx (.var 0) (.bin .add (.int 0) (.var 3))) (.bin .cons (.str []) .nil))))))) (.int 0))]))))))
   .fail)
  (.br (.un .not (.bin .le (.un .len (.var 0)) (.var 3)))
   (.asrt (.bin .le (.int 0) (.var 3))
    (.asrt (.bin .le (.un .len (.var 4)) (.int 1000000))
     (.br (.un .not (.bin .eq (.bin .idx (.fn 0 (.bin .cons (.var 4) (.bin .cons (.int 4) (.bin .cons (.int 1) (.bin .cons (.int 0) (.bin .cons (.bin .idx (.var 0) (.bin .add (.int 0) (.var 3))) (.bin .cons (.str []) .nil))))))) (.int 3)) (.int 0)))
      (.leaf [(.bool false)])
      (.br (.un .not (.bin .eq (.bin .idx (.fn 0 (.bin .cons (.var 4) (.bin .cons (.int 4) (.bin .cons (.int 1) (.bin .cons (.int 0) (.bin .cons (.bin .idx (.var 0) (.bin .add (.int 0) (.var 3))) (.bin .cons (.str []) .nil))))))) (.int 1)) (.var 2)))
       (.leaf [(.bool false)])
       (.br (.un .not (.bin .idx (.fn 0 (.bin .cons (.var 4) (.bin .cons (.int 4) (.bin .cons (.int 1) (.bin .cons (.int 0) (.bin .cons (.bin .idx (.var 0) (.bin .add (.int 0) (.var 3))) (.bin .cons (.str []) .nil))))))) (.int 2)))
        (.leaf [(.bool false)])
        .fail)))))
   (.br (.bin .idx (.fn 12 .nil) (.int 0))
    (.asrt (.bin .le (.un .len (.var 4)) (.int 1000000))
     (.asrt (.bin .le (.un .len (.bin .cons (.int 0) (.bin .cons (.var 2) .nil))) (.int 1000000))
      (.leaf [(.bin .idx (.fn 4 (.bin .cons (.var 4) (.bin .cons (.bin .cons (.int 0) (.bin .cons (.var 2) .nil)) .nil))) (.int 0))])))
    (.leaf [(.bool false)])))))

def memAddsSumSm : List (Nat × Smy) := [(31, ⟨12, [], [.one (.pl .bool)], fun _ => []⟩), (32, ⟨0, [.agg [.rows false [.int .i64]], .agg [.pl (.int .i64), .pl (.int .i64), .pl (.int .i64), .pl (.int .i64), .pl .str]], [.agg [.rows false [.int .i64]], .agg [.pl (.int .i64), .pl .bool], .one (.pl (.int .i64))], lenC [(0, 1000000)]⟩), (37, ⟨4, [.agg [.rows false [.int .i64]], .agg [.rows false [.int .i64]]], [.one (.pl .bool)], lenC [(0, 1000000), (1, 1000000)]⟩)]
def memAddsSumLa : List (LK × LA) := [(⟨66, 7, 4⟩, ⟨[(7, (.int .i64 (.var 2))), (8, (.int .i64 (.var 3))), (9, .any), (10, .any), (11, .any), (21, .any), (22, .any), (23, .any), (24, .any), (25, .any), (26, .any), (27, .any), (28, .any), (29, .any), (30, .any), (31, .any), (32, .any), (33, .any), (34, .any), (35, .any), (36, .any), (37, .any), (38, .any), (39, .any), (40, .any), (41, .any), (42, .any), (43, .any), (44, .any), (45, .any), (46, .any), (47, .any), (48, .any), (49, .any), (50, .any), (51, .any), (52, .any), (53, .any), (54, .any), (55, .any), (56, .any), (57, .any)], [(3, (.cells [(.sl 4 1 (.int 0) (.un .len (.var 4)) none)])), (4, (.ro [.int .i64] (.var 4)))], [2], 3, 1⟩)]
def memAddsSumPhi : Nat → DV → DV := fun n d => match n with
  | 12 => .list (lSane02F d.l)
  | 0 => .list (memDoF d.l)
  | 4 => .list (rSameF d.l)
  | _ => d
theorem memAddsSumS : SmyOk Try.prog memAddsSumPhi memAddsSumSm := (smy_cons (fun _ => True) lSane02F lSane02_pure (fun _ _ _ _ => trivial) (fun _ => rfl) (smy_cons (lenP [(0, 1000000)]) memDoF memDo_pure (len_hp [(0, 1000000)]) (fun _ => rfl) (smy_cons (lenP [(0, 1000000), (1, 1000000)]) rSameF rSame_pure (len_hp [(0, 1000000), (1, 1000000)]) (fun _ => rfl) smy_nil)))
theorem memAddsSumT : treeOk ⟨Try.prog, memAddsSumSm, memAddsSumLa⟩ 4000 12 [.one (.rows false [.int .i64]), .one (.pl (.int .i64))] [.one (.pl .bool)] (rng 0 9223372036854775807 (.un .len (.var 0)) ++ (rng (-9223372036854775808) 9223372036854775807 (.var 1) ++ ([]))) memAddsSumTree = true := by decide +kernel
set_option maxHeartbeats 1000000 in
theorem memAddsSum_pure : Pure Try.prog 12 [.one (.rows false [.int .i64]), .one (.pl (.int .i64))] [.one (.pl .bool)] (Wts (clsOf [.one (.rows false [.int .i64]), .one (.pl (.int .i64))])) memAddsSumF := by
  refine pure_tree (X := ⟨Try.prog, memAddsSumSm, memAddsSumLa⟩) (Checked.mixed Try.checked) memAddsSumS (by decide +kernel) (by decide +kernel) memAddsSumT (by decide +kernel) ?_
  intro ds hl hp
  obtain ⟨d0, d1, rfl⟩ := len2 hl
  obtain ⟨_, _, he, w0, hp⟩ := hp
  cases he
  have b0 : ((d0.l.map DV.i).length : Int) ≤ 9223372036854775807 := by rw [List.length_map]; exact wt_len w0
  have v0 : ∀ v ∈ d0.l.map DV.i, -9223372036854775808 ≤ v ∧ v ≤ 9223372036854775807 := wt_ints w0 rfl rfl
  clear w0
  obtain ⟨_, _, he, w1, hp⟩ := hp
  cases he
  have r1 : -9223372036854775808 ≤ d1.i ∧ d1.i ≤ 9223372036854775807 := wt_i w1 rfl rfl
  clear w1
  have hN : nrmL (clsOf [.one (.rows false [.int .i64]), .one (.pl (.int .i64))]) [d0, d1] = [.list ((d0.l.map DV.i).map DV.int), .int d1.i] := by
    simp only [clsOf, Sh.cls, List.append_nil, List.cons_append, List.nil_append, nrmL, Cl.nrm, CK.nrm, map_Li]
  have hF : memAddsSumF [d0, d1] = [.bool true] := rfl
  rw [hN, hF]
  clear hN hp hl hF
  generalize d0.l.map DV.i = x0 at b0 v0 ⊢
  generalize d1.i = x1 at r1 ⊢
  refine ⟨(rng_ok (e := .un .len (.var 0)) (Int.natCast_nonneg _) (by show ((x0.map _).length : Int) ≤ _; rw [List.length_map]; exact b0) (rng_ok (e := .var 1) r1.1 r1.2 (facts_nil _))), ?_⟩
  unfold memAddsSumTree
  simp only [Sat, clsOf, Sh.cls, List.append_nil, List.cons_append, List.nil_append, nrmL, Cl.nrm, CK.nrm, List.map_cons, List.map_nil, List.length_cons, List.length_nil, List.cons.injEq, DV.bool.injEq, DV.int.injEq, DV.list.injEq, DV.str.injEq, and_true, true_and]
  simp only [q_le, q_eq, q_eqs, q_eqb, q_and, q_or, q_not, q_bool, iff_true, iff_false, Bool.not_true, Bool.not_false, Bool.false_eq_true, Bool.true_eq_false, eq_self, Bool.not_not]
  simp only [SE.den, evU, evB, evT, i_int, b_bool, s_str, l_list, envL, List.getElem?_cons_succ, List.getElem?_cons_zero, List.getElem?_nil, Option.getD_some, Option.getD_none, Int.toNat_natCast, Int.toNat_zero, Int.reduceToNat, List.length_map, get_Li, get_Lb, get_Ls, set_Li, inj_Li, inj_Lb, inj_Ls, rows_i, rows_b, rows_s, Int.zero_add, iff_true, iff_false, and_true, true_and, Bool.false_eq_true, eq_self, not_true_eq_false, not_false_eq_true, List.length_replicate, DV.int.injEq, DV.bool.injEq, DV.str.injEq, DV.list.injEq, List.cons.injEq, memAddsSumPhi, lSane02F, lSane02E, memDoF, memDoE, rSameF, rSameE, gi, gb, gs, gLi, gLu, gLb, gLs, dece_i, dece_b, dece_s, List.map_cons, List.map_nil, List.length_cons, List.length_nil]
  refine ⟨by simp, fun hl => ?_⟩
  refine rounds_inv (fun y => ∃ (i : Nat) (s : Int), y = [.int s, .int i, .list [.int 0, .int s]] ∧ i ≤ x0.length) (fun y => x0.length - ((y[1]?).getD (DV.int 0)).i.toNat) ⟨0, x1, rfl, Nat.zero_le _⟩ ?_
  rintro y ⟨i, s, rfl, hi⟩
  rcases Nat.lt_or_ge i x0.length with hlt | hge
  · refine .inr ⟨[.int (IntKind.i64.wrap (s + x0[i]?.getD 0)), .int ((i + 1 : Nat) : Int), .list [.int 0, .int (IntKind.i64.wrap (s + x0[i]?.getD 0))]], ?_, rfl, ⟨i + 1, _, rfl, hlt⟩, ?_⟩
    · simp only [SE.den, evU, evB, evT, i_int, b_bool, s_str, l_list, envL, List.getElem?_cons_succ, List.getElem?_cons_zero, List.getElem?_nil, Option.getD_some, Option.getD_none, Int.toNat_natCast, Int.toNat_zero, Int.reduceToNat, List.length_map, get_Li, get_Lb, get_Ls, set_Li, inj_Li, inj_Lb, inj_Ls, rows_i, rows_b, rows_s, Int.zero_add, iff_true, iff_false, and_true, true_and, Bool.false_eq_true, eq_self, not_true_eq_false, not_false_eq_true, List.length_replicate, DV.int.injEq, DV.bool.injEq, DV.str.injEq, DV.list.injEq, List.cons.injEq, memAddsSumPhi, lSane02F, lSane02E, memDoF, memDoE, rSameF, rSameE, gi, gb, gs, gLi, gLu, gLb, gLs, dece_i, dece_b, dece_s, List.map_cons, List.map_nil, add1, w64 (n := (i : Int) + 1) (by omega) (by omega)]
      have : ¬ (x0.length : Int) ≤ i := by omega
      simp [this]
    · simp only [SE.den, evU, evB, evT, i_int, b_bool, s_str, l_list, envL, List.getElem?_cons_succ, List.getElem?_cons_zero, List.getElem?_nil, Option.getD_some, Option.getD_none, Int.toNat_natCast, Int.toNat_zero, Int.reduceToNat, List.length_map, get_Li, get_Lb, get_Ls, set_Li, inj_Li, inj_Lb, inj_Ls, rows_i, rows_b, rows_s, Int.zero_add, iff_true, iff_false, and_true, true_and, Bool.false_eq_true, eq_self, not_true_eq_false, not_false_eq_true, List.length_replicate, DV.int.injEq, DV.bool.injEq, DV.str.injEq, DV.list.injEq, List.cons.injEq]
      omega
  · refine .inl ?_
    have : (x0.length : Int) ≤ i := by omega
    simp only [SE.den, evU, evB, evT, i_int, b_bool, s_str, l_list, envL, List.getElem?_cons_succ, List.getElem?_cons_zero, List.getElem?_nil, Option.getD_some, Option.getD_none, Int.toNat_natCast, Int.toNat_zero, Int.reduceToNat, List.length_map, get_Li, get_Lb, get_Ls, set_Li, inj_Li, inj_Lb, inj_Ls, rows_i, rows_b, rows_s, Int.zero_add, iff_true, iff_false, and_true, true_and, Bool.false_eq_true, eq_self, not_true_eq_false, not_false_eq_true, List.length_replicate, DV.int.injEq, DV.bool.injEq, DV.str.injEq, DV.list.injEq, List.cons.injEq, memAddsSumPhi, lSane02F, lSane02E, memDoF, memDoE, rSameF, rSameE, gi, gb, gs, gLi, gLu, gLb, gLs, dece_i, dece_b, dece_s, List.map_cons, List.map_nil, List.length_cons, List.length_nil]
    simp [this]
namespace row
open Go.ChangeShapes Go.WideShapes Go.ChangeAt Go.RowKit Go.Joins Go.Deep Go.Proofs.Ytbnbljeegghgiaa
theorem lifted (os : Os) (started : os.Started) (H : Type) (enc : TypeId × Value → H) :
    ReturnsInHanded {} Try.checked os 12 .any (Rows.memAddsSumSpec.pre6 enc Try.prog Try.f12 Rows.memAddsSumRow.domain false) (Rows.memAddsSumSpec.post enc Try.prog Try.f12 false true false false) := by
  refine returnsInHanded_of_change (C := Try.checked) own started (by kernel_rfl) Try.func12
    (ChangeSpec.witness6 (enc := enc) (C := Try.checked) false ⟨#[], #[.slice none 0 0, .int .i64 0], []⟩ 8 (by kernel_rfl) (by kernel_rfl) (by kernel_rfl) (by kernel_rfl)) ?_
  intro W base args ds gs before hval0 hW hcnd _
  have hval : ∀ (j : Nat) t v, Try.f12.params[j]? = some t → args[j]? = some v → Value.okWide Try.prog W .any base t v := hval0
  have hW' := hW
  obtain ⟨p, q, hA0, hV, rfl, hfz, hnd⟩ := hW
  have hA : DataW.TrodAll enc Try.prog W 0 (fun _ => true) true Try.f12.params.toList args.toList ds p := hA0
  have hval2 : ∀ (j : Nat) t v, Try.f12.params.toList[j]? = some t → args.toList[j]? = some v → Value.okWide Try.prog W .any base t v := fun j t v a b => hval j t v (by simpa using a) (by simpa using b)
  have hcall := law_of memAddsSum_pure (fun _ h => h) (by rw [Try.params12]; kernel_rfl) hA hval2
  rw [Try.params12] at hA
  obtain ⟨v0, vs0, d0, ds0, p0, q0, hargs, rfl, rfl, h0, r0⟩ := trodAll_cons hA
  obtain ⟨v1, vs1, d1, ds1, p1, q1, rfl, rfl, rfl, h1, r1⟩ := trodAll_cons r0
  obtain ⟨rfl, rfl, rfl⟩ := trodAll_nil r1
  obtain rfl : args = #[v0, v1] := by cases args; simp_all
  obtain ⟨rfl, rfl⟩ := trodVars_none hV
  have lt0 : ∀ x ∈ p0, x.block < W.heap.size := by obtain ⟨m, hm⟩ := h0; exact DataW.trod_lt m _ _ _ hm
  have lt1 : ∀ x ∈ p1, x.block < W.heap.size := by obtain ⟨m, hm⟩ := h1; exact DataW.trod_lt m _ _ _ hm
  clear hA0 hval0 hval2
  refine Calls.mono hcall fun e W' ⟨he, bel⟩ => ?_
  subst he
  exact ⟨_, rfl, _, _, _, [], _, [], hW', trodAll_mk1 (shut_bool Try.underlying4 _), (trodAll_cons_mk (Below.trod laidOut (by kernel_rfl) (of_decide_eq_true (by kernel_rfl)) h0 bel lt0) (trodAll_cons_mk (Below.trod laidOut (by kernel_rfl) (of_decide_eq_true (by kernel_rfl)) h1 bel lt1) trodAll_mk0)), rfl, bel.frame _, fun h => by cases h⟩
theorem over : Rows.memAddsSumRow.holds Try.pinned (OpenSpec.ofChange Rows.memAddsSumSpec) :=
  OpenClaim.holds_of_wide 12 Try.f12 rfl rfl rfl rfl rfl rfl rfl ⟨rfl, rfl, rfl, rfl, rfl⟩ rfl rfl rfl rfl rfl (by kernel_rfl) Try.func12 (by kernel_rfl)
    (of_decide_eq_true (by kernel_rfl)) (by unfold Func.isWrapper; first | (rw [if_pos (by decide +kernel)]; kernel_rfl) | (rw [if_neg (by decide +kernel)]; exact ⟨rfl, rfl⟩))
    (fun os started H enc _ => lifted os started H enc)
end row
theorem memAddsSum_proved : Rows.MemAddsSumSaid := row.over
end Go.Proofs.Ytbnbljeegghgiaa
