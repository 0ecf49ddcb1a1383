/- WaitAloneCounts: the law returns true for every input, and each argument reads afterwards as it read before. No condition. -/
import Derived.Test.YtolphdchkbcoeaaLSane21
import Derived.Test.YtolphdchkbcoeaaRDo
import Derived.Test.YtolphdchkbcoeaaTNext
import Derived.Test.YtolphdchkbcoeaaROfM
import Derived.Test.YtolphdchkbcoeaaRWt
import Derived.Test.YtolphdchkbcoeaaRWord
import Derived.Test.YtolphdchkbcoeaaRWk
import Derived.Test.YtolphdchkbcoeaaBd
import Derived.Test.YtolphdchkbcoeaaOpen
namespace Go.Proofs.Ytolphdchkbcoeaa
set_option linter.unusedVariables false
set_option linter.unusedSimpArgs false
set_option maxRecDepth 100000


def waitAloneCountsF (ds : List DV) : List DV := [.bool true]
/-- What the executor makes of it. -/
def waitAloneCountsTree : PT :=
(.br (.bin .idx (.fn 126 .nil) (.int 0))
 (.leaf [(.bool true)])
 (.leaf [(.bool false)]))

def waitAloneCountsSm : List (Nat × Smy) := [(8, ⟨126, [], [.one (.pl .bool)], fun _ => [], none⟩), (24, ⟨3, [.agg [.rows false [.int .i64]], .agg [.pl (.int .i64), .pl (.int .i64), .pl (.int .i64), .pl (.int .i64), .pl .str]], [.agg [.rows false [.int .i64]], .agg [.pl (.int .i64), .pl .bool], .one (.pl (.int .i64))], lenC [(0, 1000000)], some rDoF⟩), (10, ⟨106, [.agg [.pl (.int .i64), .pl (.int .i64), .pl (.int .i64), .pl (.int .i64), .pl (.int .i64), .pl (.int .i64), .pl (.int .i64), .pl (.int .i64), .pl (.int .i64), .pl (.int .i64), .pl (.int .i64), .pl (.int .i64), .pl (.int .i64)], .one (.pl (.int .i64)), .agg [.pl (.int .i64), .pl (.int .i64), .pl (.int .i64), .pl (.int .i64), .pl (.int .i64), .pl (.int .i64), .pl (.int .i64), .rows false [.int .i64, .int .i64, .int .i64], .rows false [.int .i64, .int .i64], .rows false [.bool]], .one (.rows false [.int .i64, .bool])], [.agg [.pl (.int .i64), .pl (.int .i64), .pl (.int .i64), .pl (.int .i64), .pl .str], .agg [.pl (.int .i64), .pl (.int .i64), .pl (.int .i64), .pl (.int .i64), .pl .bool, .pl .bool, .pl (.int .i64)], .one (.pl .bool)], lenC [(21, 1000000), (24, 1000000)], some tNextF⟩), (25, ⟨128, [.agg [.pl (.int .i64), .pl (.int .i64), .pl (.int .i64), .pl (.int .i64), .pl (.int .i64)]], [.agg [.pl (.int .i64), .pl (.int .i64), .pl (.int .i64), .pl (.int .i64), .pl (.int .i64), .pl (.int .i64), .pl (.int .i64), .pl (.int .i64), .pl (.int .i64), .pl (.int .i64), .pl (.int .i64), .pl (.int .i64), .pl (.int .i64)], .one (.pl (.int .i64))], fun _ => [], some rOfMF⟩), (22, ⟨52, [.agg [.pl (.int .i64), .pl (.int .i64), .pl (.int .i64), .pl (.int .i64), .pl (.int .i64), .pl (.int .i64), .pl (.int .i64), .pl (.int .i64), .pl (.int .i64), .pl (.int .i64), .pl (.int .i64), .pl (.int .i64), .pl (.int .i64)], .one (.pl (.int .i64))], [.one (.pl (.int .i64))], fun _ => [], some rWtF⟩), (19, ⟨31, [.agg [.pl (.int .i64), .pl (.int .i64), .pl (.int .i64), .pl (.int .i64), .pl (.int .i64), .pl (.int .i64), .pl (.int .i64), .pl (.int .i64), .pl (.int .i64), .pl (.int .i64), .pl (.int .i64), .pl (.int .i64), .pl (.int .i64)], .one (.pl (.int .i64))], [.one (.pl (.int .i64))], fun _ => [], some rWordF⟩), (27, ⟨110, [.agg [.pl (.int .i64), .pl (.int .i64), .pl (.int .i64), .pl (.int .i64), .pl (.int .i64), .pl (.int .i64), .pl (.int .i64), .pl (.int .i64), .pl (.int .i64), .pl (.int .i64), .pl (.int .i64), .pl (.int .i64), .pl (.int .i64)], .one (.pl (.int .i64))], [.one (.pl (.int .i64))], fun _ => [], some rWkF⟩)]
def waitAloneCountsLa : List (LK × LA) := []
def waitAloneCountsPhi : Fs := ⟨fun n d => match n with
  | 126 => .list (lSane21F d.l)
  | 3 => .list (rDoF d.l)
  | 106 => .list (tNextF d.l)
  | 128 => .list (rOfMF d.l)
  | 52 => .list (rWtF d.l)
  | 31 => .list (rWordF d.l)
  | 110 => .list (rWkF d.l)
  | _ => d, 115⟩
theorem waitAloneCountsS : SmyOk true Try.prog waitAloneCountsPhi waitAloneCountsSm := (smy_cons (fun _ => True) lSane21F lSane21_pure (fun _ _ _ _ => trivial) (fun _ => rfl) (fun _ h => by cases h) (smy_cons (lenP [(0, 1000000)]) rDoF rDo_pure (len_hp [(0, 1000000)]) (fun _ => rfl) (fun _ h => by cases h; rfl) (smy_cons (lenP [(21, 1000000), (24, 1000000)]) tNextF tNext_pure (len_hp [(21, 1000000), (24, 1000000)]) (fun _ => rfl) (fun _ h => by cases h; rfl) (smy_cons (fun _ => True) rOfMF rOfM_pure (fun _ _ _ _ => trivial) (fun _ => rfl) (fun _ h => by cases h; rfl) (smy_cons (fun _ => True) rWtF rWt_pure (fun _ _ _ _ => trivial) (fun _ => rfl) (fun _ h => by cases h; rfl) (smy_cons (fun _ => True) rWordF rWord_pure (fun _ _ _ _ => trivial) (fun _ => rfl) (fun _ h => by cases h; rfl) (smy_cons (fun _ => True) rWkF rWk_pure (fun _ _ _ _ => trivial) (fun _ => rfl) (fun _ h => by cases h; rfl) smy_nil)))))))
theorem waitAloneCountsT : treeOk ⟨Try.prog, waitAloneCountsSm, waitAloneCountsLa, true⟩ 4000 6 [.one (.pl (.int .u8)), .one (.pl (.int .u8))] [.one (.pl .bool)] (rng (0) 255 (.var 0) ++ (rng (0) 255 (.var 1) ++ ([]))) waitAloneCountsTree = true := by decide +kernel
set_option maxHeartbeats 1000000 in
theorem waitAloneCounts_pure : PureE true Try.prog 6 [.one (.pl (.int .u8)), .one (.pl (.int .u8))] [.one (.pl .bool)] (Wts (clsOf [.one (.pl (.int .u8)), .one (.pl (.int .u8))])) waitAloneCountsF := by
  refine pure_tree (X := ⟨Try.prog, waitAloneCountsSm, waitAloneCountsLa, true⟩) (by decide +kernel) (Checked.mixed Try.checked) waitAloneCountsS (by decide +kernel) (by decide +kernel) waitAloneCountsT (by decide +kernel) ?_
  intro ds hl hp
  obtain ⟨d0, d1, rfl⟩ := len2 hl
  obtain ⟨_, _, he, w0, hp⟩ := hp
  cases he
  have r0 : 0 ≤ d0.i ∧ d0.i ≤ 255 := wt_i w0 rfl rfl
  clear w0
  obtain ⟨_, _, he, w1, hp⟩ := hp
  cases he
  have r1 : 0 ≤ d1.i ∧ d1.i ≤ 255 := wt_i w1 rfl rfl
  clear w1
  have hN : nrmL (clsOf [.one (.pl (.int .u8)), .one (.pl (.int .u8))]) [d0, d1] = [.int d0.i, .int d1.i] := by
    simp only [clsOf, Sh.cls, List.append_nil, List.cons_append, List.nil_append, nrmL, Cl.nrm, CK.nrm]
  have hF : waitAloneCountsF [d0, d1] = [.bool true] := rfl
  rw [hN, hF]
  clear hN hp hl hF
  generalize d0.i = x0 at r0 ⊢
  generalize d1.i = x1 at r1 ⊢
  refine ⟨(rng_ok (e := .var 0) r0.1 r0.2 (rng_ok (e := .var 1) r1.1 r1.2 (facts_nil _))), ?_⟩
  unfold waitAloneCountsTree
  simp only [Sat, clsOf, Sh.cls, List.append_nil, List.cons_append, List.nil_append, nrmL, Cl.nrm, CK.nrm, List.map_cons, List.map_nil, List.length_cons, List.length_nil, List.cons.injEq, DV.bool.injEq, DV.int.injEq, DV.list.injEq, DV.str.injEq, and_true, true_and]
  simp only [q_le, q_eq, q_eqs, q_eqb, q_and, q_or, q_not, q_bool, iff_true, iff_false, Bool.not_true, Bool.not_false, Bool.false_eq_true, Bool.true_eq_false, eq_self, Bool.not_not]
  simp only [Bool.not_true, Bool.not_false, Bool.true_eq_false, SE.den, evU, evT, ev_le, ev_eq, ev_eqs, ev_eqb, ev_slt, ev_and, ev_or, ev_add, ev_sub, ev_mul, ev_tdiv, ev_tmod, ev_band, ev_bor, ev_bxor, ev_bandn, ev_shl, ev_shr, ev_cat, ev_byte, ev_idx, ev_cons, ev_snoc, ev_app, ev_take, ev_drop, ev_stake, ev_sdrop, ev_rep, leB_q, eqB_q, eqsB_q, not_q, i_if, b_if, l_if, s_if, i_int, b_bool, s_str, l_list, envL, List.getElem?_cons_succ, List.getElem?_cons_zero, List.getElem?_nil, Option.getD_some, Option.getD_none, Int.toNat_natCast, Int.toNat_zero, Int.reduceToNat, List.length_map, get_Li, get_Lb, get_Ls, set_Li, inj_Li, inj_Lb, inj_Ls, rows_i, rows_b, rows_s, Int.zero_add, iff_true, iff_false, and_true, true_and, Bool.false_eq_true, eq_self, not_true_eq_false, not_false_eq_true, List.length_replicate, DV.int.injEq, DV.bool.injEq, DV.str.injEq, DV.list.injEq, List.cons.injEq, f_ib_0, rows_ib, inj_Lib, f_ib_1, rows_ib, inj_Lib, f_ii_0, rows_ii, inj_Lii, f_ii_1, rows_ii, inj_Lii, f_iii_0, rows_iii, inj_Liii, f_iii_1, rows_iii, inj_Liii, f_iii_2, rows_iii, inj_Liii, waitAloneCountsPhi, lSane21F, lSane21E, rDoF, rDoE, tNextF, tNextE, rOfMF, rOfME, rWtF, rWtE, rWordF, rWordE, rWkF, rWkE, gi, gb, gs, gLi, gLu, gLb, gLs, dece_i, dece_b, dece_s, gLib, deces_ib, gLii, deces_ii, gLiii, deces_iii]
  simp
namespace row
open Go.ChangeShapes Go.WideShapes Go.ChangeAt Go.RowKit Go.Joins Go.Deep Go.Proofs.Ytolphdchkbcoeaa
theorem lifted (os : Os) (started : os.Started) (H : Type) (enc : TypeId × Value → H) :
    ReturnsInHanded {} Try.checked os 6 .any (Rows.waitAloneCountsSpec.pre6 enc Try.prog Try.f6 Rows.waitAloneCountsRow.domain false) (Rows.waitAloneCountsSpec.post enc Try.prog Try.f6 false true false false) := by
  refine returnsInHanded_of_change (C := Try.checked) own started (by kernel_rfl) Try.func6
    (ChangeSpec.witness6 (enc := enc) (C := Try.checked) false ⟨#[], #[.int .u8 0, .int .u8 0], []⟩ 8 (by kernel_rfl) (by kernel_rfl) (by kernel_rfl) (by kernel_rfl)) ?_
  intro W base args ds gs before hval0 hW hcnd _
  have hval : ∀ (j : Nat) t v, Try.f6.params[j]? = some t → args[j]? = some v → Value.okWide Try.prog W .any base t v := hval0
  have hW' := hW
  obtain ⟨p, q, hA0, hV, rfl, hfz, hnd⟩ := hW
  have hA : DataW.TrodAll enc Try.prog W 0 (fun _ => true) true Try.f6.params.toList args.toList ds p := hA0
  have hval2 : ∀ (j : Nat) t v, Try.f6.params.toList[j]? = some t → args.toList[j]? = some v → Value.okWide Try.prog W .any base t v := fun j t v a b => hval j t v (by simpa using a) (by simpa using b)
  have hcall := law_of waitAloneCounts_pure (fun _ h => h) (by rw [Try.params6]; kernel_rfl) hA hval2
  rw [Try.params6] at hA
  obtain ⟨v0, vs0, d0, ds0, p0, q0, hargs, rfl, rfl, h0, r0⟩ := trodAll_cons hA
  obtain ⟨v1, vs1, d1, ds1, p1, q1, rfl, rfl, rfl, h1, r1⟩ := trodAll_cons r0
  obtain ⟨rfl, rfl, rfl⟩ := trodAll_nil r1
  obtain rfl : args = #[v0, v1] := by cases args; simp_all
  obtain ⟨rfl, rfl⟩ := trodVars_none hV
  have lt0 : ∀ x ∈ p0, x.block < W.heap.size := by obtain ⟨m, hm⟩ := h0; exact DataW.trod_lt m _ _ _ hm
  have lt1 : ∀ x ∈ p1, x.block < W.heap.size := by obtain ⟨m, hm⟩ := h1; exact DataW.trod_lt m _ _ _ hm
  clear hA0 hval0 hval2
  refine Calls.mono hcall fun e W' ⟨he, bel⟩ => ?_
  subst he
  exact ⟨_, rfl, _, _, _, [], _, [], hW', trodAll_mk1 (shut_bool Try.underlying4 _), (trodAll_cons_mk (Below.trod laidOut (by kernel_rfl) (of_decide_eq_true (by kernel_rfl)) h0 bel lt0) (trodAll_cons_mk (Below.trod laidOut (by kernel_rfl) (of_decide_eq_true (by kernel_rfl)) h1 bel lt1) trodAll_mk0)), rfl, bel.frame _, fun h => by cases h⟩
theorem over : Rows.waitAloneCountsRow.holds Try.pinned (OpenSpec.ofChange Rows.waitAloneCountsSpec) :=
  OpenClaim.holds_of_wide 6 Try.f6 rfl rfl rfl rfl rfl rfl rfl ⟨rfl, rfl, rfl, rfl, rfl⟩ rfl rfl rfl rfl rfl (by kernel_rfl) Try.func6 (by kernel_rfl)
    (of_decide_eq_true (by kernel_rfl)) (by unfold Func.isWrapper; first | (rw [if_pos (by decide +kernel)]; kernel_rfl) | (rw [if_neg (by decide +kernel)]; exact ⟨rfl, rfl⟩))
    (fun os started H enc _ => lifted os started H enc)
end row
theorem waitAloneCounts_proved : Rows.WaitAloneCountsSaid := row.over
end Go.Proofs.Ytolphdchkbcoeaa
