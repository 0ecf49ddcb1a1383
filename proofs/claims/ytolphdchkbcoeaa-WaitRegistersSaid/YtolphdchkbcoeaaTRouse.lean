/- The function wait.Rouse is a function of data. No condition. -/
import Derived.Test.YtolphdchkbcoeaaLayWk
import Derived.Test.YtolphdchkbcoeaaWIn
import Derived.Test.YtolphdchkbcoeaaWaM
import Derived.Test.YtolphdchkbcoeaaBd
import Derived.Test.YtolphdchkbcoeaaOpen
namespace Go.Proofs.Ytolphdchkbcoeaa
set_option linter.unusedVariables false
set_option linter.unusedSimpArgs false
set_option maxRecDepth 100000

def rouseM (t a4 mask : Int) : Nat → List Tiiiis
  | 0 => []
  | n + 1 => if hasM mask n = true then rouseM t a4 mask n ++ [(2, placeM a4 t n 4 2, 0, 1, [])] else rouseM t a4 mask n
theorem rouseM_le (t a4 mask : Int) : ∀ n, (rouseM t a4 mask n).length ≤ n
  | 0 => Nat.le_refl _
  | n + 1 => by
    unfold rouseM
    have := rouseM_le t a4 mask n
    split
    · rw [List.length_append]; simp; omega
    · omega
def tRouseE (t l k s m a0 a1 a2 a3 a4 a5 a6 a7 mask : Int) : List DV := [.list ((rouseM t a4 mask t.toNat).map enciiiis)]

def tRouseF (ds : List DV) : List DV := tRouseE (gi ds 0) (gi ds 1) (gi ds 2) (gi ds 3) (gi ds 4) (gi ds 5) (gi ds 6) (gi ds 7) (gi ds 8) (gi ds 9) (gi ds 10) (gi ds 11) (gi ds 12) (gi ds 13)
/-- What the executor makes of it. -/
def tRouseTree : PT :=
(.loop 14 [.nil, (.int 0)]
 (.br (.un .not (.bin .le (.var 0) (.var 15)))
  (.br (.bin .idx (.fn 45 (.bin .cons (.var 13) (.bin .cons (.var 15) .nil))) (.int 0))
   (.asrt (.bin .le (.bin .add (.un .len (.var 14)) (.int 1)) (.int 4294967296))
    (.leaf [(.bin .snoc (.var 14) (.bin .cons (.int 2) (.bin .cons (.bin .idx (.fn 107 (.bin .cons (.var 0) (.bin .cons (.var 1) (.bin .cons (.var 2) (.bin .cons (.var 3) (.bin .cons (.var 4) (.bin .cons (.var 5) (.bin .cons (.var 6) (.bin .cons (.var 7) (.bin .cons (.var 8) (.bin .cons (.var 9) (.bin .cons (.var 10) (.bin .cons (.var 11) (.bin .cons (.var 12) (.bin .cons (.var 15) .nil))))))))))))))) (.int 0)) (.bin .cons (.int 0) (.bin .cons (.int 1) (.bin .cons (.str []) .nil)))))), (.un (.wrap .i64) (.bin .add (.var 15) (.int 1)))]))
   (.leaf [(.var 14), (.un (.wrap .i64) (.bin .add (.var 15) (.int 1)))]))
  .fail)
 (.br (.un .not (.bin .le (.var 0) (.var 15)))
  (.br (.bin .idx (.fn 45 (.bin .cons (.var 13) (.bin .cons (.var 15) .nil))) (.int 0))
   (.asrt (.bin .le (.bin .add (.un .len (.var 14)) (.int 1)) (.int 4294967296))
    .fail)
   .fail)
  (.leaf [(.var 14)])))

def tRouseSm : List (Nat × Smy) := [(42, ⟨107, [.agg [.pl (.int .i64), .pl (.int .i64), .pl (.int .i64), .pl (.int .i64), .pl (.int .i64), .pl (.int .i64), .pl (.int .i64), .pl (.int .i64), .pl (.int .i64), .pl (.int .i64), .pl (.int .i64), .pl (.int .i64), .pl (.int .i64)], .one (.pl (.int .i64))], [.one (.pl (.int .i64))], fun _ => [], none⟩), (41, ⟨45, [.one (.pl (.int .i64)), .one (.pl (.int .i64))], [.one (.pl .bool)], fun _ => [], none⟩)]
def tRouseLa : List (LK × LA) := [(⟨25, 3, 15, 14, 0⟩, ⟨[(5, (.sl 15 5 (.int 0) (.un .len (.var 14)) none)), (6, .any), (10, (.int .i64 (.var 15))), (11, .any), (12, .any), (13, .any), (14, .any), (15, .any), (16, .any), (17, .any), (18, .any), (19, .any), (20, .any), (21, .any), (22, .any), (23, .any)], [(15, (.rows [.int .i64, .int .i64, .int .i64, .int .i64, .str] (.var 14)))], [], 2, 1⟩)]
def tRousePhi : Fs := ⟨fun n d => match n with
  | 107 => .list (layWkF d.l)
  | 45 => .list (wInF d.l)
  | _ => d, 115⟩
theorem tRouseS : SmyOk true Try.prog tRousePhi tRouseSm := (smy_cons (fun _ => True) layWkF layWk_pure (fun _ _ _ _ => trivial) (fun _ => rfl) (fun _ h => by cases h) (smy_cons (fun _ => True) wInF wIn_pure (fun _ _ _ _ => trivial) (fun _ => rfl) (fun _ h => by cases h) smy_nil))
theorem tRouseT : treeOk ⟨Try.prog, tRouseSm, tRouseLa, true⟩ 4000 13 [.agg [.pl (.int .i64), .pl (.int .i64), .pl (.int .i64), .pl (.int .i64), .pl (.int .i64), .pl (.int .i64), .pl (.int .i64), .pl (.int .i64), .pl (.int .i64), .pl (.int .i64), .pl (.int .i64), .pl (.int .i64), .pl (.int .i64)], .one (.pl (.int .i64))] [.one (.rows true [.int .i64, .int .i64, .int .i64, .int .i64, .str])] ([]) tRouseTree = true := by decide +kernel
set_option maxHeartbeats 1000000 in
theorem tRouse_pure : PureE true Try.prog 13 [.agg [.pl (.int .i64), .pl (.int .i64), .pl (.int .i64), .pl (.int .i64), .pl (.int .i64), .pl (.int .i64), .pl (.int .i64), .pl (.int .i64), .pl (.int .i64), .pl (.int .i64), .pl (.int .i64), .pl (.int .i64), .pl (.int .i64)], .one (.pl (.int .i64))] [.one (.rows true [.int .i64, .int .i64, .int .i64, .int .i64, .str])] (fun ds => lenP [] ds ∧ rgeP [(0, -9223372036854775808, 1000000)] ds) tRouseF := by
  refine pure_tree (X := ⟨Try.prog, tRouseSm, tRouseLa, true⟩) (by decide +kernel) (Checked.mixed Try.checked) tRouseS (by decide +kernel) (by decide +kernel) tRouseT (by decide +kernel) ?_
  intro ds hl hp
  obtain ⟨d0, d1, d2, d3, d4, d5, d6, d7, d8, d9, d10, d11, d12, d13, rfl⟩ := len14 hl
  have r0 : -9223372036854775808 ≤ d0.i ∧ d0.i ≤ 1000000 := hp.2 (0, -9223372036854775808, 1000000) (by simp)
  have hF : tRouseF [d0, d1, d2, d3, d4, d5, d6, d7, d8, d9, d10, d11, d12, d13] = tRouseE d0.i d1.i d2.i d3.i d4.i d5.i d6.i d7.i d8.i d9.i d10.i d11.i d12.i d13.i := rfl
  rw [hF]
  clear hF hp hl
  have hN : nrmL (clsOf [.agg [.pl (.int .i64), .pl (.int .i64), .pl (.int .i64), .pl (.int .i64), .pl (.int .i64), .pl (.int .i64), .pl (.int .i64), .pl (.int .i64), .pl (.int .i64), .pl (.int .i64), .pl (.int .i64), .pl (.int .i64), .pl (.int .i64)], .one (.pl (.int .i64))]) [d0, d1, d2, d3, d4, d5, d6, d7, d8, d9, d10, d11, d12, d13] = [.int d0.i, .int d1.i, .int d2.i, .int d3.i, .int d4.i, .int d5.i, .int d6.i, .int d7.i, .int d8.i, .int d9.i, .int d10.i, .int d11.i, .int d12.i, .int d13.i] := by
    simp only [clsOf, Sh.cls, List.append_nil, List.cons_append, List.nil_append, nrmL, Cl.nrm, CK.nrm]
  rw [hN]
  clear hN
  generalize d0.i = x0 at r0 ⊢
  generalize d1.i = x1
  generalize d2.i = x2
  generalize d3.i = x3
  generalize d4.i = x4
  generalize d5.i = x5
  generalize d6.i = x6
  generalize d7.i = x7
  generalize d8.i = x8
  generalize d9.i = x9
  generalize d10.i = x10
  generalize d11.i = x11
  generalize d12.i = x12
  generalize d13.i = x13
  refine ⟨facts_nil _, ?_⟩
  unfold tRouseTree tRouseE
  simp only [Sat, clsOf, Sh.cls, List.append_nil, List.cons_append, List.nil_append, nrmL, Cl.nrm, CK.nrm, List.map_cons, List.map_nil, List.length_cons, List.length_nil, List.cons.injEq, DV.bool.injEq, DV.int.injEq, DV.list.injEq, DV.str.injEq, and_true, true_and]
  simp only [q_le, q_eq, q_eqs, q_eqb, q_and, q_or, q_not, q_bool, iff_true, iff_false, Bool.not_true, Bool.not_false, Bool.false_eq_true, Bool.true_eq_false, eq_self, Bool.not_not]
  simp only [Bool.not_true, Bool.not_false, Bool.true_eq_false, SE.den, evU, evT, ev_le, ev_eq, ev_eqs, ev_eqb, ev_slt, ev_and, ev_or, ev_add, ev_sub, ev_mul, ev_tdiv, ev_tmod, ev_band, ev_bor, ev_bxor, ev_bandn, ev_shl, ev_shr, ev_cat, ev_byte, ev_idx, ev_cons, ev_snoc, ev_app, ev_take, ev_drop, ev_stake, ev_sdrop, ev_rep, leB_q, eqB_q, eqsB_q, not_q, i_if, b_if, l_if, s_if, i_int, b_bool, s_str, l_list, envL, List.getElem?_cons_succ, List.getElem?_cons_zero, List.getElem?_nil, Option.getD_some, Option.getD_none, Int.toNat_natCast, Int.toNat_zero, Int.reduceToNat, List.length_map, get_Li, get_Lb, get_Ls, set_Li, inj_Li, inj_Lb, inj_Ls, rows_i, rows_b, rows_s, Int.zero_add, iff_true, iff_false, and_true, true_and, Bool.false_eq_true, eq_self, not_true_eq_false, not_false_eq_true, List.length_replicate, DV.int.injEq, DV.bool.injEq, DV.str.injEq, DV.list.injEq, List.cons.injEq, f_iiiis_0, rows_iiiis, inj_Liiiis, f_iiiis_1, rows_iiiis, inj_Liiiis, f_iiiis_2, rows_iiiis, inj_Liiiis, f_iiiis_3, rows_iiiis, inj_Liiiis, f_iiiis_4, rows_iiiis, inj_Liiiis, tRousePhi, layWkF, layWkE, wInF, wInE, gi, gb, gs, gLi, gLu, gLb, gLs, dece_i, dece_b, dece_s]
  refine rounds_at x0.toNat (fun i => [.list ((rouseM x0 x9 x13 i).map enciiiis), .int i]) rfl (fun _ => rfl) (fun i hi => ?_) ?_
  · have h2 : ¬ x0 ≤ i := by omega
    have hl := rouseM_le x0 x9 x13 i
    simp only [Bool.not_true, Bool.not_false, Bool.true_eq_false, SE.den, evU, evT, ev_le, ev_eq, ev_eqs, ev_eqb, ev_slt, ev_and, ev_or, ev_add, ev_sub, ev_mul, ev_tdiv, ev_tmod, ev_band, ev_bor, ev_bxor, ev_bandn, ev_shl, ev_shr, ev_cat, ev_byte, ev_idx, ev_cons, ev_snoc, ev_app, ev_take, ev_drop, ev_stake, ev_sdrop, ev_rep, leB_q, eqB_q, eqsB_q, not_q, i_if, b_if, l_if, s_if, i_int, b_bool, s_str, l_list, envL, List.getElem?_cons_succ, List.getElem?_cons_zero, List.getElem?_nil, Option.getD_some, Option.getD_none, Int.toNat_natCast, Int.toNat_zero, Int.reduceToNat, List.length_map, get_Li, get_Lb, get_Ls, set_Li, inj_Li, inj_Lb, inj_Ls, rows_i, rows_b, rows_s, Int.zero_add, iff_true, iff_false, and_true, true_and, Bool.false_eq_true, eq_self, not_true_eq_false, not_false_eq_true, List.length_replicate, DV.int.injEq, DV.bool.injEq, DV.str.injEq, DV.list.injEq, List.cons.injEq, f_iiiis_0, rows_iiiis, inj_Liiiis, f_iiiis_1, rows_iiiis, inj_Liiiis, f_iiiis_2, rows_iiiis, inj_Liiiis, f_iiiis_3, rows_iiiis, inj_Liiiis, f_iiiis_4, rows_iiiis, inj_Liiiis, h2, w64 (n := (i : Int) + 1) (by omega) (by omega)]
    cases hh : hasM x13 i
    · simp [rouseM, hh]
    · simp [rouseM, hh, enciiiis]
      omega
  · simp only [Bool.not_true, Bool.not_false, Bool.true_eq_false, SE.den, evU, evT, ev_le, ev_eq, ev_eqs, ev_eqb, ev_slt, ev_and, ev_or, ev_add, ev_sub, ev_mul, ev_tdiv, ev_tmod, ev_band, ev_bor, ev_bxor, ev_bandn, ev_shl, ev_shr, ev_cat, ev_byte, ev_idx, ev_cons, ev_snoc, ev_app, ev_take, ev_drop, ev_stake, ev_sdrop, ev_rep, leB_q, eqB_q, eqsB_q, not_q, i_if, b_if, l_if, s_if, i_int, b_bool, s_str, l_list, envL, List.getElem?_cons_succ, List.getElem?_cons_zero, List.getElem?_nil, Option.getD_some, Option.getD_none, Int.toNat_natCast, Int.toNat_zero, Int.reduceToNat, List.length_map, get_Li, get_Lb, get_Ls, set_Li, inj_Li, inj_Lb, inj_Ls, rows_i, rows_b, rows_s, Int.zero_add, iff_true, iff_false, and_true, true_and, Bool.false_eq_true, eq_self, not_true_eq_false, not_false_eq_true, List.length_replicate, DV.int.injEq, DV.bool.injEq, DV.str.injEq, DV.list.injEq, List.cons.injEq, f_iiiis_0, rows_iiiis, inj_Liiiis, f_iiiis_1, rows_iiiis, inj_Liiiis, f_iiiis_2, rows_iiiis, inj_Liiiis, f_iiiis_3, rows_iiiis, inj_Liiiis, f_iiiis_4, rows_iiiis, inj_Liiiis]
    have h2 : x0 ≤ (x0.toNat : Int) := by omega
    simp [h2, row_iiiis]
    try omega
end Go.Proofs.Ytolphdchkbcoeaa
