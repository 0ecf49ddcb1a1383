/- MemMatchesSpec: the law returns true for every input, and each argument reads afterwards as it read before. No condition. -/
import Derived.Test.YtbnbljeegghgiaaLSane02
import Derived.Test.YtbnbljeegghgiaaMemDo
import Derived.Test.YtbnbljeegghgiaaRDo
import Derived.Test.YtbnbljeegghgiaaMRight
import Derived.Test.YtbnbljeegghgiaaRRight
import Derived.Test.YtbnbljeegghgiaaMSame
import Derived.Test.YtbnbljeegghgiaaRSame
import Derived.Test.YtbnbljeegghgiaaBd
import Derived.Test.YtbnbljeegghgiaaOpen
namespace Go.Proofs.Ytbnbljeegghgiaa
set_option linter.unusedVariables false
set_option linter.unusedSimpArgs false
set_option maxRecDepth 100000

theorem doM_len (l : List Int) (k c o n : Int) (s : List UInt8) : (doM l k c o n s).1.length = l.length := by unfold doM; split <;> (try split) <;> simp

def memMatchesF (ds : List DV) : List DV := [.bool true]
/-- What the executor makes of it. -/
def memMatchesTree : PT :=
(.br (.un .not (.bin .le (.un .len (.var 0)) (.int 200)))
 (.leaf [(.bin .idx (.fn 12 .nil) (.int 0))])
 (.br (.un .not (.bin .le (.un .len (.var 1)) (.int 200)))
  (.leaf [(.bin .idx (.fn 12 .nil) (.int 0))])
  (.br (.bin .idx (.fn 12 .nil) (.int 0))
   (.br (.bin .eqb (.bin .idx (.fn 1 (.bin .cons (.var 2) (.bin .cons (.var 3) (.bin .cons (.var 4) (.bin .cons (.var 5) (.bin .cons (.var 6) .nil)))))) (.int 0)) (.bin .idx (.fn 2 (.bin .cons (.var 2) (.bin .cons (.var 3) (.bin .cons (.var 4) (.bin .cons (.var 5) (.bin .cons (.var 6) .nil)))))) (.int 0)))
    (.br (.bin .eqb (.bin .idx (.fn 5 (.bin .cons (.var 0) (.bin .cons (.var 1) .nil))) (.int 0)) (.bin .idx (.fn 4 (.bin .cons (.var 0) (.bin .cons (.var 1) .nil))) (.int 0)))
     (.asrt (.bin .le (.un .len (.bin .idx (.fn 0 (.bin .cons (.var 0) (.bin .cons (.var 2) (.bin .cons (.var 3) (.bin .cons (.var 4) (.bin .cons (.var 5) (.bin .cons (.var 6) .nil))))))) (.int 0))) (.int 1000000))
      (.asrt (.bin .le (.un .len (.bin .idx (.fn 3 (.bin .cons (.var 0) (.bin .cons (.var 2) (.bin .cons (.var 3) (.bin .cons (.var 4) (.bin .cons (.var 5) (.bin .cons (.var 6) .nil))))))) (.int 0))) (.int 1000000))
       (.br (.bin .idx (.fn 4 (.bin .cons (.bin .idx (.fn 0 (.bin .cons (.var 0) (.bin .cons (.var 2) (.bin .cons (.var 3) (.bin .cons (.var 4) (.bin .cons (.var 5) (.bin .cons (.var 6) .nil))))))) (.int 0)) (.bin .cons (.bin .idx (.fn 3 (.bin .cons (.var 0) (.bin .cons (.var 2) (.bin .cons (.var 3) (.bin .cons (.var 4) (.bin .cons (.var 5) (.bin .cons (.var 6) .nil))))))) (.int 0)) .nil))) (.int 0))
        (.br (.bin .and (.bin .eq (.bin .idx (.fn 0 (.bin .cons (.var 0) (.bin .cons (.var 2) (.bin .cons (.var 3) (.bin .cons (.var 4) (.bin .cons (.var 5) (.bin .cons (.var 6) .nil))))))) (.int 1)) (.bin .idx (.fn 3 (.bin .cons (.var 0) (.bin .cons (.var 2) (.bin .cons (.var 3) (.bin .cons (.var 4) (.bin .cons (.var 5) (.bin .cons (.var 6) .nil))))))) (.int 1))) (.bin .eqb (.bin .idx (.fn 0 (.bin .cons (.var 0) (.bin .cons (.var 2) (.bin .cons (.var 3) (.bin .cons (.var 4) (.bin .cons (.var 5) (.bin .cons (.var 6) .nil))))))) (.int 2)) (.bin .idx (.fn 3 (.bin .cons (.var 0) (.bin .cons (.var 2) (.bin .cons (.var 3) (.bin .cons (.var 4) (.bin .cons (.var 5) (.bin .cons (.var 6) .nil))))))) (.int 2))))
         (.leaf [(.bin .eq (.bin .idx (.fn 0 (.bin .cons (.var 0) (.bin .cons (.var 2) (.bin .cons (.var 3) (.bin .cons (.var 4) (.bin .cons (.var 5) (.bin .cons (.var 6) .nil))))))) (.int 3)) (.bin .idx (.fn 3 (.bin .cons (.var 0) (.bin .cons (.var 2) (.bin .cons (.var 3) (.bin .cons (.var 4) (.bin .cons (.var 5) (.bin .cons (.var 6) .nil))))))) (.int 3)))])
         (.leaf [(.bool false)]))
        (.leaf [(.bool false)]))))
     (.leaf [(.bool false)]))
    (.leaf [(.bool false)]))
   (.leaf [(.bool false)]))))

def memMatchesSm : List (Nat × Smy) := [(31, ⟨12, [], [.one (.pl .bool)], fun _ => []⟩), (32, ⟨0, [.agg [.rows false [.int .i64]], .agg [.pl (.int .i64), .pl (.int .i64), .pl (.int .i64), .pl (.int .i64), .pl .str]], [.agg [.rows false [.int .i64]], .agg [.pl (.int .i64), .pl .bool], .one (.pl (.int .i64))], lenC [(0, 1000000)]⟩), (33, ⟨3, [.agg [.rows false [.int .i64]], .agg [.pl (.int .i64), .pl (.int .i64), .pl (.int .i64), .pl (.int .i64), .pl .str]], [.agg [.rows false [.int .i64]], .agg [.pl (.int .i64), .pl .bool], .one (.pl (.int .i64))], lenC [(0, 1000000)]⟩), (34, ⟨1, [.agg [.pl (.int .i64), .pl (.int .i64), .pl (.int .i64), .pl (.int .i64), .pl .str]], [.one (.pl .bool)], fun _ => []⟩), (35, ⟨2, [.agg [.pl (.int .i64), .pl (.int .i64), .pl (.int .i64), .pl (.int .i64), .pl .str]], [.one (.pl .bool)], fun _ => []⟩), (62, ⟨5, [.one (.rows false [.int .i64]), .one (.rows false [.int .i64])], [.one (.pl .bool)], lenC [(0, 1000000), (1, 1000000)]⟩), (37, ⟨4, [.agg [.rows false [.int .i64]], .agg [.rows false [.int .i64]]], [.one (.pl .bool)], lenC [(0, 1000000), (1, 1000000)]⟩)]
def memMatchesLa : List (LK × LA) := []
def memMatchesPhi : Nat → DV → DV := fun n d => match n with
  | 12 => .list (lSane02F d.l)
  | 0 => .list (memDoF d.l)
  | 3 => .list (rDoF d.l)
  | 1 => .list (mRightF d.l)
  | 2 => .list (rRightF d.l)
  | 5 => .list (mSameF d.l)
  | 4 => .list (rSameF d.l)
  | _ => d
theorem memMatchesS : SmyOk Try.prog memMatchesPhi memMatchesSm := (smy_cons (fun _ => True) lSane02F lSane02_pure (fun _ _ _ _ => trivial) (fun _ => rfl) (smy_cons (lenP [(0, 1000000)]) memDoF memDo_pure (len_hp [(0, 1000000)]) (fun _ => rfl) (smy_cons (lenP [(0, 1000000)]) rDoF rDo_pure (len_hp [(0, 1000000)]) (fun _ => rfl) (smy_cons (fun _ => True) mRightF mRight_pure (fun _ _ _ _ => trivial) (fun _ => rfl) (smy_cons (fun _ => True) rRightF rRight_pure (fun _ _ _ _ => trivial) (fun _ => rfl) (smy_cons (lenP [(0, 1000000), (1, 1000000)]) mSameF mSame_pure (len_hp [(0, 1000000), (1, 1000000)]) (fun _ => rfl) (smy_cons (lenP [(0, 1000000), (1, 1000000)]) rSameF rSame_pure (len_hp [(0, 1000000), (1, 1000000)]) (fun _ => rfl) smy_nil)))))))
theorem memMatchesT : treeOk ⟨Try.prog, memMatchesSm, memMatchesLa⟩ 4000 7 [.agg [.rows false [.int .i64]], .agg [.rows false [.int .i64]], .agg [.pl (.int .i64), .pl (.int .i64), .pl (.int .i64), .pl (.int .i64), .pl .str]] [.one (.pl .bool)] (rng 0 9223372036854775807 (.un .len (.var 0)) ++ (rng 0 9223372036854775807 (.un .len (.var 1)) ++ (rng (-9223372036854775808) 9223372036854775807 (.var 2) ++ (rng (-9223372036854775808) 9223372036854775807 (.var 3) ++ (rng (-9223372036854775808) 9223372036854775807 (.var 4) ++ (rng (-9223372036854775808) 9223372036854775807 (.var 5) ++ (rng 0 9223372036854775807 (.un .slen (.var 6)) ++ ([])))))))) memMatchesTree = true := by decide +kernel
set_option maxHeartbeats 1000000 in
theorem memMatches_pure : Pure Try.prog 7 [.agg [.rows false [.int .i64]], .agg [.rows false [.int .i64]], .agg [.pl (.int .i64), .pl (.int .i64), .pl (.int .i64), .pl (.int .i64), .pl .str]] [.one (.pl .bool)] (Wts (clsOf [.agg [.rows false [.int .i64]], .agg [.rows false [.int .i64]], .agg [.pl (.int .i64), .pl (.int .i64), .pl (.int .i64), .pl (.int .i64), .pl .str]])) memMatchesF := by
  refine pure_tree (X := ⟨Try.prog, memMatchesSm, memMatchesLa⟩) (Checked.mixed Try.checked) memMatchesS (by decide +kernel) (by decide +kernel) memMatchesT (by decide +kernel) ?_
  intro ds hl hp
  obtain ⟨d0, d1, d2, d3, d4, d5, d6, rfl⟩ := len7 hl
  obtain ⟨_, _, he, w0, hp⟩ := hp
  cases he
  have b0 : ((d0.l.map DV.i).length : Int) ≤ 9223372036854775807 := by rw [List.length_map]; exact wt_len w0
  have v0 : ∀ v ∈ d0.l.map DV.i, -9223372036854775808 ≤ v ∧ v ≤ 9223372036854775807 := wt_ints w0 rfl rfl
  clear w0
  obtain ⟨_, _, he, w1, hp⟩ := hp
  cases he
  have b1 : ((d1.l.map DV.i).length : Int) ≤ 9223372036854775807 := by rw [List.length_map]; exact wt_len w1
  have v1 : ∀ v ∈ d1.l.map DV.i, -9223372036854775808 ≤ v ∧ v ≤ 9223372036854775807 := wt_ints w1 rfl rfl
  clear w1
  obtain ⟨_, _, he, w2, hp⟩ := hp
  cases he
  have r2 : -9223372036854775808 ≤ d2.i ∧ d2.i ≤ 9223372036854775807 := wt_i w2 rfl rfl
  clear w2
  obtain ⟨_, _, he, w3, hp⟩ := hp
  cases he
  have r3 : -9223372036854775808 ≤ d3.i ∧ d3.i ≤ 9223372036854775807 := wt_i w3 rfl rfl
  clear w3
  obtain ⟨_, _, he, w4, hp⟩ := hp
  cases he
  have r4 : -9223372036854775808 ≤ d4.i ∧ d4.i ≤ 9223372036854775807 := wt_i w4 rfl rfl
  clear w4
  obtain ⟨_, _, he, w5, hp⟩ := hp
  cases he
  have r5 : -9223372036854775808 ≤ d5.i ∧ d5.i ≤ 9223372036854775807 := wt_i w5 rfl rfl
  clear w5
  obtain ⟨_, _, he, w6, hp⟩ := hp
  cases he
  have r6 : (d6.s.length : Int) ≤ 9223372036854775807 := wt_s w6
  clear w6
  have hN : nrmL (clsOf [.agg [.rows false [.int .i64]], .agg [.rows false [.int .i64]], .agg [.pl (.int .i64), .pl (.int .i64), .pl (.int .i64), .pl (.int .i64), .pl .str]]) [d0, d1, d2, d3, d4, d5, d6] = [.list ((d0.l.map DV.i).map DV.int), .list ((d1.l.map DV.i).map DV.int), .int d2.i, .int d3.i, .int d4.i, .int d5.i, .str d6.s] := by
    simp only [clsOf, Sh.cls, List.append_nil, List.cons_append, List.nil_append, nrmL, Cl.nrm, CK.nrm, map_Li]
  have hF : memMatchesF [d0, d1, d2, d3, d4, d5, d6] = [.bool true] := rfl
  rw [hN, hF]
  clear hN hp hl hF
  generalize d0.l.map DV.i = x0 at b0 v0 ⊢
  generalize d1.l.map DV.i = x1 at b1 v1 ⊢
  generalize d2.i = x2 at r2 ⊢
  generalize d3.i = x3 at r3 ⊢
  generalize d4.i = x4 at r4 ⊢
  generalize d5.i = x5 at r5 ⊢
  generalize d6.s = x6 at r6 ⊢
  refine ⟨(rng_ok (e := .un .len (.var 0)) (Int.natCast_nonneg _) (by show ((x0.map _).length : Int) ≤ _; rw [List.length_map]; exact b0) (rng_ok (e := .un .len (.var 1)) (Int.natCast_nonneg _) (by show ((x1.map _).length : Int) ≤ _; rw [List.length_map]; exact b1) (rng_ok (e := .var 2) r2.1 r2.2 (rng_ok (e := .var 3) r3.1 r3.2 (rng_ok (e := .var 4) r4.1 r4.2 (rng_ok (e := .var 5) r5.1 r5.2 (rng_ok (e := .un .slen (.var 6)) (Int.natCast_nonneg _) r6 (facts_nil _)))))))), ?_⟩
  unfold memMatchesTree
  simp only [Sat, clsOf, Sh.cls, List.append_nil, List.cons_append, List.nil_append, nrmL, Cl.nrm, CK.nrm, List.map_cons, List.map_nil, List.length_cons, List.length_nil, List.cons.injEq, DV.bool.injEq, DV.int.injEq, DV.list.injEq, DV.str.injEq, and_true, true_and]
  simp only [q_le, q_eq, q_eqs, q_eqb, q_and, q_or, q_not, q_bool, iff_true, iff_false, Bool.not_true, Bool.not_false, Bool.false_eq_true, Bool.true_eq_false, eq_self, Bool.not_not]
  simp only [SE.den, evU, evB, evT, i_int, b_bool, s_str, l_list, envL, List.getElem?_cons_succ, List.getElem?_cons_zero, List.getElem?_nil, Option.getD_some, Option.getD_none, Int.toNat_natCast, Int.toNat_zero, Int.reduceToNat, List.length_map, get_Li, get_Lb, get_Ls, set_Li, inj_Li, inj_Lb, inj_Ls, rows_i, rows_b, rows_s, Int.zero_add, iff_true, iff_false, and_true, true_and, Bool.false_eq_true, eq_self, not_true_eq_false, not_false_eq_true, List.length_replicate, DV.int.injEq, DV.bool.injEq, DV.str.injEq, DV.list.injEq, List.cons.injEq, memMatchesPhi, lSane02F, lSane02E, memDoF, memDoE, rDoF, rDoE, mRightF, mRightE, rRightF, rRightE, mSameF, mSameE, rSameF, rSameE, gi, gb, gs, gLi, gLu, gLb, gLs, dece_i, dece_b, dece_s]
  simp [doM_len]
  trace_state
  omega
namespace row
open Go.ChangeShapes Go.WideShapes Go.ChangeAt Go.RowKit Go.Joins Go.Deep Go.Proofs.Ytbnbljeegghgiaa
theorem lifted (os : Os) (started : os.Started) (H : Type) (enc : TypeId × Value → H) :
    ReturnsInHanded {} Try.checked os 7 .any (Rows.memMatchesSpecSpec.pre6 enc Try.prog Try.f7 Rows.memMatchesSpecRow.domain false) (Rows.memMatchesSpecSpec.post enc Try.prog Try.f7 false true false false) := by
  refine returnsInHanded_of_change (C := Try.checked) own started (by kernel_rfl) Try.func7
    (ChangeSpec.witness6 (enc := enc) (C := Try.checked) false ⟨#[], #[.agg #[.slice none 0 0], .agg #[.slice none 0 0], .agg #[.int .i64 0, .int .i64 0, .int .i64 0, .int .i64 0, .string ⟨#[]⟩]], []⟩ 8 (by kernel_rfl) (by kernel_rfl) (by kernel_rfl) (by kernel_rfl)) ?_
  intro W base args ds gs before hval0 hW hcnd _
  have hval : ∀ (j : Nat) t v, Try.f7.params[j]? = some t → args[j]? = some v → Value.okWide Try.prog W .any base t v := hval0
  have hW' := hW
  obtain ⟨p, q, hA0, hV, rfl, hfz, hnd⟩ := hW
  have hA : DataW.TrodAll enc Try.prog W 0 (fun _ => true) true Try.f7.params.toList args.toList ds p := hA0
  have hval2 : ∀ (j : Nat) t v, Try.f7.params.toList[j]? = some t → args.toList[j]? = some v → Value.okWide Try.prog W .any base t v := fun j t v a b => hval j t v (by simpa using a) (by simpa using b)
  have hcall := law_of memMatches_pure (fun _ h => h) (by rw [Try.params7]; kernel_rfl) hA hval2
  rw [Try.params7] at hA
  obtain ⟨v0, vs0, d0, ds0, p0, q0, hargs, rfl, rfl, h0, r0⟩ := trodAll_cons hA
  obtain ⟨v1, vs1, d1, ds1, p1, q1, rfl, rfl, rfl, h1, r1⟩ := trodAll_cons r0
  obtain ⟨v2, vs2, d2, ds2, p2, q2, rfl, rfl, rfl, h2, r2⟩ := trodAll_cons r1
  obtain ⟨rfl, rfl, rfl⟩ := trodAll_nil r2
  obtain rfl : args = #[v0, v1, v2] := by cases args; simp_all
  obtain ⟨rfl, rfl⟩ := trodVars_none hV
  have lt0 : ∀ x ∈ p0, x.block < W.heap.size := by obtain ⟨m, hm⟩ := h0; exact DataW.trod_lt m _ _ _ hm
  have lt1 : ∀ x ∈ p1, x.block < W.heap.size := by obtain ⟨m, hm⟩ := h1; exact DataW.trod_lt m _ _ _ hm
  have lt2 : ∀ x ∈ p2, x.block < W.heap.size := by obtain ⟨m, hm⟩ := h2; exact DataW.trod_lt m _ _ _ hm
  clear hA0 hval0 hval2
  refine Calls.mono hcall fun e W' ⟨he, bel⟩ => ?_
  subst he
  exact ⟨_, rfl, _, _, _, [], _, [], hW', trodAll_mk1 (shut_bool Try.underlying4 _), (trodAll_cons_mk (Below.trod laidOut (by kernel_rfl) (of_decide_eq_true (by kernel_rfl)) h0 bel lt0) (trodAll_cons_mk (Below.trod laidOut (by kernel_rfl) (of_decide_eq_true (by kernel_rfl)) h1 bel lt1) (trodAll_cons_mk (Below.trod laidOut (by kernel_rfl) (of_decide_eq_true (by kernel_rfl)) h2 bel lt2) trodAll_mk0))), rfl, bel.frame _, fun h => by cases h⟩
theorem over : Rows.memMatchesSpecRow.holds Try.pinned (OpenSpec.ofChange Rows.memMatchesSpecSpec) :=
  OpenClaim.holds_of_wide 7 Try.f7 rfl rfl rfl rfl rfl rfl rfl ⟨rfl, rfl, rfl, rfl, rfl⟩ rfl rfl rfl rfl rfl (by kernel_rfl) Try.func7 (by kernel_rfl)
    (of_decide_eq_true (by kernel_rfl)) (by unfold Func.isWrapper; first | (rw [if_pos (by decide +kernel)]; kernel_rfl) | (rw [if_neg (by decide +kernel)]; exact ⟨rfl, rfl⟩))
    (fun os started H enc _ => lifted os started H enc)
end row
theorem memMatches_proved : Rows.MemMatchesSpecSaid := row.over
end Go.Proofs.Ytbnbljeegghgiaa
