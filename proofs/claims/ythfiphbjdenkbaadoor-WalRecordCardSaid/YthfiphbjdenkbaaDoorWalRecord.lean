/- WalRecord: the law returns true for every input, and each argument reads afterwards as it read before. No condition. -/
import Derived.Test.YthfiphbjdenkbaaDoorLSane23
import Derived.Test.YthfiphbjdenkbaaDoorWRecord
import Derived.Test.YthfiphbjdenkbaaDoorRRecord
import Derived.Test.YthfiphbjdenkbaaDoorRTexts
import Derived.Test.YthfiphbjdenkbaaDoorWSum
import Derived.Test.YthfiphbjdenkbaaDoorRSum23
import Derived.Test.YthfiphbjdenkbaaDoorTie
import Derived.Test.YthfiphbjdenkbaaDoorCards
import Derived.Lay
import Derived.SevenTiedAt
import Derived.Test.YthfiphbjdenkbaaDoorBd
import Derived.Test.YthfiphbjdenkbaaDoorOpen
namespace Go.Proofs.YthfiphbjdenkbaaDoor
set_option linter.unusedVariables false
set_option linter.unusedSimpArgs false
set_option maxRecDepth 100000



def walRecordF (ds : List DV) : List DV := [.bool true]
/-- What the executor makes of it. -/
def walRecordTree : PT :=
(.br (.un .not (.bin .le (.un .len (.var 1)) (.int 40)))
 (.leaf [(.bin .idx (.fn 112 .nil) (.int 0))])
 (.br (.un .not (.bin .le (.un .slen (.var 2)) (.int 500)))
  (.leaf [(.bin .idx (.fn 112 .nil) (.int 0))])
  (.br (.bin .idx (.fn 112 .nil) (.int 0))
   (.asrt (.bin .le (.un .len (.bin .idx (.fn 103 (.bin .cons (.var 0) (.bin .cons (.var 1) .nil))) (.int 0))) (.int 1000000))
    (.asrt (.bin .le (.un .len (.bin .idx (.fn 119 (.bin .cons (.var 0) (.bin .cons (.var 1) .nil))) (.int 0))) (.int 1000000))
     (.br (.bin .idx (.fn 115 (.bin .cons (.bin .idx (.fn 103 (.bin .cons (.var 0) (.bin .cons (.var 1) .nil))) (.int 0)) (.bin .cons (.bin .idx (.fn 119 (.bin .cons (.var 0) (.bin .cons (.var 1) .nil))) (.int 0)) .nil))) (.int 0))
      (.leaf [(.bin .eq (.bin .idx (.fn 94 (.bin .cons (.var 2) .nil)) (.int 0)) (.bin .idx (.fn 116 (.bin .cons (.var 2) .nil)) (.int 0)))])
      (.leaf [(.bool false)]))))
   (.leaf [(.bool false)]))))

def walRecordSm : List (Nat × Smy) := [(9, ⟨112, [], [.one (.pl .bool)], fun _ => [], none⟩), (12, ⟨103, [.agg [.pl (.int .i64), .rows false [.int .i64, .int .i64]]], [.one (.rows true [.str])], lenC [(1, 40)], none⟩), (13, ⟨119, [.agg [.pl (.int .i64), .rows false [.int .i64, .int .i64]]], [.one (.rows true [.str])], lenC [(1, 40)], none⟩), (11, ⟨115, [.one (.rows false [.str]), .one (.rows false [.str])], [.one (.pl .bool)], lenC [(0, 1000000), (1, 1000000)], none⟩), (14, ⟨94, [.one (.pl .str)], [.one (.pl (.int .i64))], fun es => (fun _ => []) es ++ slenC [(0, 0, 1000000)] es, none⟩), (15, ⟨116, [.one (.pl .str)], [.one (.pl (.int .i64))], fun es => (fun _ => []) es ++ slenC [(0, 0, 1000000)] es, none⟩)]
def walRecordLa : List (LK × LA) := []
def walRecordPhi : Nat → DV → DV := fun n d => match n with
  | 112 => .list (lSane23F d.l)
  | 103 => .list (wRecordF d.l)
  | 119 => .list (rRecordF d.l)
  | 115 => .list (rTextsF d.l)
  | 94 => .list (wSumF d.l)
  | 116 => .list (rSum23F d.l)
  | _ => d
theorem walRecordS : SmyOk Tryd.prog walRecordPhi walRecordSm := (smy_cons (fun _ => True) lSane23F lSane23_pure (fun _ _ _ _ => trivial) (fun _ => rfl) (fun _ h => by cases h) (smy_cons (lenP [(1, 40)]) wRecordF wRecord_pure (len_hp [(1, 40)]) (fun _ => rfl) (fun _ h => by cases h) (smy_cons (lenP [(1, 40)]) rRecordF rRecord_pure (len_hp [(1, 40)]) (fun _ => rfl) (fun _ h => by cases h) (smy_cons (lenP [(0, 1000000), (1, 1000000)]) rTextsF rTexts_pure (len_hp [(0, 1000000), (1, 1000000)]) (fun _ => rfl) (fun _ h => by cases h) (smy_cons (fun ds => (fun _ => True) ds ∧ slenP [(0, 0, 1000000)] ds) wSumF wSum_pure (slen_hp (C := fun _ => []) (Q := fun _ => True) [(0, 0, 1000000)] (fun _ _ _ _ => trivial)) (fun _ => rfl) (fun _ h => by cases h) (smy_cons (fun ds => (fun _ => True) ds ∧ slenP [(0, 0, 1000000)] ds) rSum23F rSum23_pure (slen_hp (C := fun _ => []) (Q := fun _ => True) [(0, 0, 1000000)] (fun _ _ _ _ => trivial)) (fun _ => rfl) (fun _ h => by cases h) smy_nil))))))
theorem walRecordT : treeOk ⟨Tryd.prog, walRecordSm, walRecordLa⟩ 4000 3 [.agg [.pl (.int .i64), .rows false [.int .i64, .int .i64]], .one (.pl .str)] [.one (.pl .bool)] (rng 0 9223372036854775807 (.un .len (.var 1)) ++ (rng 0 9223372036854775807 (.un .slen (.var 2)) ++ ([]))) walRecordTree = true := by decide +kernel
set_option maxHeartbeats 1000000 in
theorem walRecord_pure : Pure Tryd.prog 3 [.agg [.pl (.int .i64), .rows false [.int .i64, .int .i64]], .one (.pl .str)] [.one (.pl .bool)] (Wts (clsOf [.agg [.pl (.int .i64), .rows false [.int .i64, .int .i64]], .one (.pl .str)])) walRecordF := by
  refine pure_tree (X := ⟨Tryd.prog, walRecordSm, walRecordLa⟩) (Checked.mixed Tryd.checked) walRecordS (by decide +kernel) (by decide +kernel) walRecordT (by decide +kernel) ?_
  intro ds hl hp
  obtain ⟨d0, d1, d2, rfl⟩ := len3 hl
  obtain ⟨_, _, he, w0, hp⟩ := hp
  cases he
  have r0 : -9223372036854775808 ≤ d0.i ∧ d0.i ≤ 9223372036854775807 := wt_i w0 rfl rfl
  clear w0
  obtain ⟨_, _, he, w1, hp⟩ := hp
  cases he
  have b1 : ((d1.l.map decii).length : Int) ≤ 9223372036854775807 := by rw [List.length_map]; exact wt_len w1
  have v1 := wt_ii w1
  clear w1
  obtain ⟨_, _, he, w2, hp⟩ := hp
  cases he
  have r2 : (d2.s.length : Int) ≤ 9223372036854775807 := wt_s w2
  clear w2
  have hN : nrmL (clsOf [.agg [.pl (.int .i64), .rows false [.int .i64, .int .i64]], .one (.pl .str)]) [d0, d1, d2] = [.int d0.i, .list ((d1.l.map decii).map encii), .str d2.s] := by
    simp only [clsOf, Sh.cls, List.append_nil, List.cons_append, List.nil_append, nrmL, Cl.nrm, CK.nrm, map_Lii]
  have hF : walRecordF [d0, d1, d2] = [.bool true] := rfl
  rw [hN, hF]
  clear hN hp hl hF
  generalize d0.i = x0 at r0 ⊢
  generalize d1.l.map decii = x1 at b1 v1 ⊢
  generalize d2.s = x2 at r2 ⊢
  refine ⟨(rng_ok (e := .un .len (.var 1)) (Int.natCast_nonneg _) (by show ((x1.map _).length : Int) ≤ _; rw [List.length_map]; exact b1) (rng_ok (e := .un .slen (.var 2)) (Int.natCast_nonneg _) r2 (facts_nil _))), ?_⟩
  unfold walRecordTree
  simp only [Sat, clsOf, Sh.cls, List.append_nil, List.cons_append, List.nil_append, nrmL, Cl.nrm, CK.nrm, List.map_cons, List.map_nil, List.length_cons, List.length_nil, List.cons.injEq, DV.bool.injEq, DV.int.injEq, DV.list.injEq, DV.str.injEq, and_true, true_and]
  simp only [q_le, q_eq, q_eqs, q_eqb, q_and, q_or, q_not, q_bool, iff_true, iff_false, Bool.not_true, Bool.not_false, Bool.false_eq_true, Bool.true_eq_false, eq_self, Bool.not_not]
  simp only [Bool.not_true, Bool.not_false, Bool.true_eq_false, SE.den, evU, evT, ev_le, ev_eq, ev_eqs, ev_eqb, ev_slt, ev_and, ev_or, ev_add, ev_sub, ev_mul, ev_tdiv, ev_tmod, ev_band, ev_bor, ev_bxor, ev_bandn, ev_shl, ev_shr, ev_cat, ev_byte, ev_idx, ev_cons, ev_snoc, ev_app, ev_take, ev_drop, ev_stake, ev_sdrop, ev_rep, leB_q, eqB_q, eqsB_q, not_q, i_if, b_if, l_if, s_if, i_int, b_bool, s_str, l_list, envL, List.getElem?_cons_succ, List.getElem?_cons_zero, List.getElem?_nil, Option.getD_some, Option.getD_none, Int.toNat_natCast, Int.toNat_zero, Int.reduceToNat, List.length_map, get_Li, get_Lb, get_Ls, set_Li, inj_Li, inj_Lb, inj_Ls, rows_i, rows_b, rows_s, Int.zero_add, iff_true, iff_false, and_true, true_and, Bool.false_eq_true, eq_self, not_true_eq_false, not_false_eq_true, List.length_replicate, DV.int.injEq, DV.bool.injEq, DV.str.injEq, DV.list.injEq, List.cons.injEq, f_ii_0, rows_ii, inj_Lii, f_ii_1, rows_ii, inj_Lii, walRecordPhi, lSane23F, lSane23E, wRecordF, wRecordE, rRecordF, rRecordE, rTextsF, rTextsE, wSumF, wSumE, rSum23F, rSum23E, gi, gb, gs, gLi, gLu, gLb, gLs, dece_i, dece_b, dece_s, gLii, deces_ii, lSane23E]
  have hw : rgeW x1 := fun x hx => v1 x hx
  rw [record3_eq hw]
  have hr := record_le x0 hw
  refine ⟨fun _ => trivial, fun h1 => ⟨fun _ => trivial, fun h2 => ?_⟩⟩
  refine ⟨fun _ => ⟨by omega, by omega, fun _ => trivial, fun h => ?_⟩, fun h => h⟩
  simp at h
namespace row
open Go.ChangeShapes Go.WideShapes Go.ChangeAt Go.RowKit Go.Joins Go.Deep Go.Proofs.YthfiphbjdenkbaaDoor
theorem lifted (os : Os) (started : os.Started) (H : Type) (enc : TypeId × Value → H) :
    ReturnsInHanded {} Tryd.checked os 3 .any (fun w args => (Rows.walRecordSpec.pre enc Tryd.prog Tryd.f3 [] false w args ∧ laidMetH Tryd.prog Rows.walRecordRow.laid w) ∧ sizedMet enc Tryd.prog Tryd.f3 (OpenSpec.ofChange Rows.walRecordSpec) false w args) (Rows.walRecordSpec.post enc Tryd.prog Tryd.f3 false true false false) := by
  refine returnsInHanded_of_change_and (C := Tryd.checked) (X := fun w _ => laidMetH Tryd.prog Rows.walRecordRow.laid w) (fun _ _ _ hh h => h.of_heap hh) own started (by kernel_rfl) Tryd.func3
    (ChangeSpec.witness_shaped (enc := enc) (C := Tryd.checked) (os := os) (X := fun w _ => laidMetH Tryd.prog Rows.walRecordRow.laid w) false (World.laidAll Tryd.prog os Rows.walRecordRow.laid) #[.agg #[.int .i64 0, .slice none 0 0], .string ⟨#[]⟩] 8 (World.laidAll_os _ _ _)
      (World.shaped_of_ZipB (by kernel_rfl) (by kernel_rfl)) (by kernel_rfl) (by kernel_rfl) (by kernel_rfl)
      (by rw [MakeChecks.laidMetH_plain _ _ _ (by kernel_rfl)]; exact laidMet_laidAll _ (by kernel_rfl) (by kernel_rfl))) ?_
  intro W base args ds gs before hval0 hW hcnd _ _ _
  have hval : ∀ (j : Nat) t v, Tryd.f3.params[j]? = some t → args[j]? = some v → Value.okWide Tryd.prog W .any base t v := hval0
  have hW' := hW
  obtain ⟨p, q, hA0, hV, rfl, hfz, hnd⟩ := hW
  have hA : DataW.TrodAll enc Tryd.prog W 0 (fun _ => true) true Tryd.f3.params.toList args.toList ds p := hA0
  have hval2 : ∀ (j : Nat) t v, Tryd.f3.params.toList[j]? = some t → args.toList[j]? = some v → Value.okWide Tryd.prog W .any base t v := fun j t v a b => hval j t v (by simpa using a) (by simpa using b)
  have hcall := law_of walRecord_pure (fun _ h => h) (by rw [Tryd.params3]; kernel_rfl) hA hval2
  rw [Tryd.params3] at hA
  obtain ⟨v0, vs0, d0, ds0, p0, q0, hargs, rfl, rfl, h0, r0⟩ := trodAll_cons hA
  obtain ⟨v1, vs1, d1, ds1, p1, q1, rfl, rfl, rfl, h1, r1⟩ := trodAll_cons r0
  obtain ⟨rfl, rfl, rfl⟩ := trodAll_nil r1
  obtain rfl : args = #[v0, v1] := by cases args; simp_all
  obtain ⟨rfl, rfl⟩ := trodVars_none hV
  have lt0 : ∀ x ∈ p0, x.block < W.heap.size := by obtain ⟨m, hm⟩ := h0; exact DataW.trod_lt m _ _ _ hm
  have lt1 : ∀ x ∈ p1, x.block < W.heap.size := by obtain ⟨m, hm⟩ := h1; exact DataW.trod_lt m _ _ _ hm
  clear hA0 hval0 hval2
  refine Calls.mono hcall fun e W' ⟨he, bel⟩ => ?_
  subst he
  exact ⟨_, rfl, _, _, _, [], _, [], hW', trodAll_mk1 (shut_bool Tryd.underlying4 _), (trodAll_cons_mk (Below.trod laidOut (by kernel_rfl) (of_decide_eq_true (by kernel_rfl)) h0 bel lt0) (trodAll_cons_mk (Below.trod laidOut (by kernel_rfl) (of_decide_eq_true (by kernel_rfl)) h1 bel lt1) trodAll_mk0)), rfl, bel.frame _, fun h => by cases h⟩
theorem over : Rows.walRecordRow.holds Tryd.pinned (OpenSpec.ofChange Rows.walRecordSpec) :=
  OpenClaim.holds_of_wide 3 Tryd.f3 rfl rfl rfl rfl rfl rfl rfl ⟨rfl, rfl, rfl, rfl, rfl⟩ rfl rfl rfl rfl rfl (by kernel_rfl) Tryd.func3 (by kernel_rfl)
    (of_decide_eq_true (by kernel_rfl)) (by unfold Func.isWrapper; first | (rw [if_pos (by decide +kernel)]; kernel_rfl) | (rw [if_neg (by decide +kernel)]; exact ⟨rfl, rfl⟩))
    (fun os started H enc _ => lifted os started H enc)
end row
theorem walRecord_proved : Rows.WalRecordCardSaid :=
  Claim7.holds_tied_plain_at .later [] [.data, .pinned] true _ false row.over (fun _ h => by cases h) (by kernel_rfl) (fun _ h => by cases h) walRecord_row_tie rfl ⟨rfl, rfl⟩ (by kernel_rfl) rfl
    (fun f fn hf hfn => by
      obtain rfl : f = 3 := Option.some.inj ((show Tryd.prog.funcNamed Rows.walRecordRow.func = some 3 by kernel_rfl).symm.trans hf) |>.symm
      obtain rfl : fn = Tryd.f3 := (Option.some.inj (Tryd.func3.symm.trans hfn)).symm
      exact ⟨by kernel_rfl, fun j t ht => by
        have hm : t ∈ Tryd.f3.params.toList := by simpa using Array.mem_of_getElem? ht
        have hall : (Tryd.f3.params.toList.all fun u => !Tryd.prog.wantsStandIn u) = true := by kernel_rfl
        exact (show Tryd.prog.wantsStandIn t = false by simpa using List.all_eq_true.1 hall t hm)⟩)
    (by kernel_rfl)
end Go.Proofs.YthfiphbjdenkbaaDoor
