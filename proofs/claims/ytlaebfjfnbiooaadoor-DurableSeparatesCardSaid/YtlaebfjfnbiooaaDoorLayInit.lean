/- The function layout.Init is a function of data. No condition. -/
import Derived.Test.YtlaebfjfnbiooaaDoorLayWord
import Derived.Test.YtlaebfjfnbiooaaDoorBd
import Derived.Test.YtlaebfjfnbiooaaDoorOpen
namespace Go.Proofs.YtlaebfjfnbiooaaDoor
set_option linter.unusedVariables false
set_option linter.unusedSimpArgs false
set_option maxRecDepth 100000

/-- The accesses that store the initial values. -/
def initsM (locs loc : Int) (first : List Int) : Nat → List Tiiiis
  | 0 => []
  | n + 1 => initsM locs loc first n ++ [(2, placeM loc locs n 4 1, 0, first[n]?.getD 0, [])]
def manyI (locs : Int) (first : List Int) : Nat := (min (first.length : Int) locs).toNat
theorem initsM_len (locs loc : Int) (first : List Int) : ∀ n, (initsM locs loc first n).length = n
  | 0 => rfl
  | n + 1 => by simp [initsM, initsM_len locs loc first n]
theorem get_dv (l : List Int) (j : Nat) : ((l.map DV.int)[j]?).getD (DV.int 0) = .int ((l[j]?).getD 0) := by rw [List.getElem?_map]; cases l[j]? <;> rfl
theorem manyI_le (locs : Int) (first : List Int) (h : 0 ≤ locs) : (manyI locs first : Int) ≤ first.length ∧ (manyI locs first : Int) ≤ locs ∧ ((manyI locs first : Int) = first.length ∨ (manyI locs first : Int) = locs) := by unfold manyI; omega
def layInitE (t l k s m a0 a1 a2 a3 a4 a5 a6 a7 : Int) (first : List Int) : List DV := [.list (((2, a1, 0, 1, []) :: initsM l a6 first (manyI l first)).map enciiiis)]

def layInitF (ds : List DV) : List DV := layInitE (gi ds 0) (gi ds 1) (gi ds 2) (gi ds 3) (gi ds 4) (gi ds 5) (gi ds 6) (gi ds 7) (gi ds 8) (gi ds 9) (gi ds 10) (gi ds 11) (gi ds 12) (gLi ds 13)
/-- What the executor makes of it. -/
def layInitTree : PT :=
(.asrt (.bin .le (.int 0) (.tri .ite (.un .not (.bin .le (.un .len (.var 13)) (.var 1))) (.var 1) (.un .len (.var 13))))
 (.asrt (.bin .le (.tri .ite (.un .not (.bin .le (.un .len (.var 13)) (.var 1))) (.var 1) (.un .len (.var 13))) (.un .len (.var 13)))
  (.loop 14 [(.bin .cons (.bin .cons (.int 2) (.bin .cons (.var 6) (.bin .cons (.int 0) (.bin .cons (.int 1) (.bin .cons (.str []) .nil))))) .nil), (.int 0)]
   (.br (.un .not (.bin .le (.bin .sub (.tri .ite (.un .not (.bin .le (.un .len (.var 13)) (.var 1))) (.var 1) (.un .len (.var 13))) (.int 0)) (.var 15)))
    (.asrt (.bin .le (.int 0) (.var 15))
     (.asrt (.un .not (.bin .le (.un .len (.var 13)) (.bin .add (.int 0) (.var 15))))
      (.br (.bin .le (.var 1) (.var 15))
       (.asrt (.bin .le (.bin .add (.un .len (.var 14)) (.int 1)) (.int 4294967296))
        (.leaf [(.bin .snoc (.var 14) (.bin .cons (.int 2) (.bin .cons (.int (-1)) (.bin .cons (.int 0) (.bin .cons (.bin .idx (.var 13) (.bin .add (.int 0) (.var 15))) (.bin .cons (.str []) .nil)))))), (.un (.wrap .i64) (.bin .add (.var 15) (.int 1)))]))
       (.asrt (.bin .le (.bin .add (.un .len (.var 14)) (.int 1)) (.int 4294967296))
        (.leaf [(.bin .snoc (.var 14) (.bin .cons (.int 2) (.bin .cons (.un (.wrap .i64) (.bin .add (.un (.wrap .i64) (.bin .add (.var 11) (.un (.wrap .i64) (.bin .mul (.int 4) (.var 15))))) (.int 1))) (.bin .cons (.int 0) (.bin .cons (.bin .idx (.var 13) (.bin .add (.int 0) (.var 15))) (.bin .cons (.str []) .nil)))))), (.un (.wrap .i64) (.bin .add (.var 15) (.int 1)))])))))
    .fail)
   (.br (.un .not (.bin .le (.bin .sub (.tri .ite (.un .not (.bin .le (.un .len (.var 13)) (.var 1))) (.var 1) (.un .len (.var 13))) (.int 0)) (.var 15)))
    (.asrt (.bin .le (.int 0) (.var 15))
     (.asrt (.un .not (.bin .le (.un .len (.var 13)) (.bin .add (.int 0) (.var 15))))
      (.asrt (.bin .le (.bin .add (.un .len (.var 14)) (.int 1)) (.int 4294967296))
       .fail)))
    (.leaf [(.var 14)])))))

def layInitSm : List (Nat × Smy) := []
def layInitLa : List (LK × LA) := [(⟨36, 3, 16, 14⟩, ⟨[(5, (.sl 16 5 (.int 0) (.un .len (.var 14)) none)), (6, .any), (7, .any), (21, (.int .i64 (.var 15))), (22, .any), (23, .any), (24, .any), (25, .any), (26, .any), (27, .any), (28, .any), (29, .any), (30, .any), (31, .any), (32, .any), (33, .any), (34, .any)], [(16, (.rows [.int .i64, .int .i64, .int .i64, .int .i64, .str] (.var 14)))], [15], 2, 1⟩)]
def layInitPhi : Fs := ⟨fun n d => match n with
  | _ => d, 130⟩
theorem layInitS : SmyOk true Tryd.prog layInitPhi layInitSm := smy_nil
theorem layInitT : treeOk ⟨Tryd.prog, layInitSm, layInitLa, true⟩ 4000 42 [.agg [.pl (.int .i64), .pl (.int .i64), .pl (.int .i64), .pl (.int .i64), .pl (.int .i64), .pl (.int .i64), .pl (.int .i64), .pl (.int .i64), .pl (.int .i64), .pl (.int .i64), .pl (.int .i64), .pl (.int .i64), .pl (.int .i64)], .one (.rows false [.int .i64])] [.one (.rows true [.int .i64, .int .i64, .int .i64, .int .i64, .str])] ([]) layInitTree = true := by decide +kernel
set_option maxHeartbeats 1000000 in
theorem layInit_pure : PureE true Tryd.prog 42 [.agg [.pl (.int .i64), .pl (.int .i64), .pl (.int .i64), .pl (.int .i64), .pl (.int .i64), .pl (.int .i64), .pl (.int .i64), .pl (.int .i64), .pl (.int .i64), .pl (.int .i64), .pl (.int .i64), .pl (.int .i64), .pl (.int .i64)], .one (.rows false [.int .i64])] [.one (.rows true [.int .i64, .int .i64, .int .i64, .int .i64, .str])] (fun ds => lenP [(13, 1000000)] ds ∧ rgeP [(1, 0, 1000)] ds) layInitF := by
  refine pure_tree (X := ⟨Tryd.prog, layInitSm, layInitLa, true⟩) (by decide +kernel) (Checked.mixed Tryd.checked) layInitS (by decide +kernel) (by decide +kernel) layInitT (by decide +kernel) ?_
  intro ds hl hp
  obtain ⟨d0, d1, d2, d3, d4, d5, d6, d7, d8, d9, d10, d11, d12, d13, rfl⟩ := len14 hl
  have b13 : (d13.l.length : Int) ≤ 1000000 := hp.1 (13, 1000000) (by simp)
  have r1 : 0 ≤ d1.i ∧ d1.i ≤ 1000 := hp.2 (1, 0, 1000) (by simp)
  have hF : layInitF [d0, d1, d2, d3, d4, d5, d6, d7, d8, d9, d10, d11, d12, d13] = layInitE d0.i d1.i d2.i d3.i d4.i d5.i d6.i d7.i d8.i d9.i d10.i d11.i d12.i (d13.l.map DV.i) := rfl
  rw [hF]
  clear hF hp hl
  have hN : nrmL (clsOf [.agg [.pl (.int .i64), .pl (.int .i64), .pl (.int .i64), .pl (.int .i64), .pl (.int .i64), .pl (.int .i64), .pl (.int .i64), .pl (.int .i64), .pl (.int .i64), .pl (.int .i64), .pl (.int .i64), .pl (.int .i64), .pl (.int .i64)], .one (.rows false [.int .i64])]) [d0, d1, d2, d3, d4, d5, d6, d7, d8, d9, d10, d11, d12, d13] = [.int d0.i, .int d1.i, .int d2.i, .int d3.i, .int d4.i, .int d5.i, .int d6.i, .int d7.i, .int d8.i, .int d9.i, .int d10.i, .int d11.i, .int d12.i, .list ((d13.l.map DV.i).map DV.int)] := by
    simp only [clsOf, Sh.cls, List.append_nil, List.cons_append, List.nil_append, nrmL, Cl.nrm, CK.nrm, map_Li]
  rw [hN]
  clear hN
  generalize d0.i = x0
  generalize d1.i = x1 at r1 ⊢
  generalize d2.i = x2
  generalize d3.i = x3
  generalize d4.i = x4
  generalize d5.i = x5
  generalize d6.i = x6
  generalize d7.i = x7
  generalize d8.i = x8
  generalize d9.i = x9
  generalize d10.i = x10
  generalize d11.i = x11
  generalize d12.i = x12
  rw [← List.length_map (f := DV.i)] at b13
  generalize d13.l.map DV.i = x13 at b13 ⊢
  refine ⟨facts_nil _, ?_⟩
  unfold layInitTree layInitE
  simp only [Sat, clsOf, Sh.cls, List.append_nil, List.cons_append, List.nil_append, nrmL, Cl.nrm, CK.nrm, List.map_cons, List.map_nil, List.length_cons, List.length_nil, List.cons.injEq, DV.bool.injEq, DV.int.injEq, DV.list.injEq, DV.str.injEq, and_true, true_and]
  simp only [q_le, q_eq, q_eqs, q_eqb, q_and, q_or, q_not, q_bool, iff_true, iff_false, Bool.not_true, Bool.not_false, Bool.false_eq_true, Bool.true_eq_false, eq_self, Bool.not_not]
  simp only [Bool.not_true, Bool.not_false, Bool.true_eq_false, SE.den, evU, evT, ev_le, ev_eq, ev_eqs, ev_eqb, ev_slt, ev_and, ev_or, ev_add, ev_sub, ev_mul, ev_tdiv, ev_tmod, ev_band, ev_bor, ev_bxor, ev_bandn, ev_shl, ev_shr, ev_cat, ev_byte, ev_idx, ev_cons, ev_snoc, ev_app, ev_take, ev_drop, ev_stake, ev_sdrop, ev_rep, leB_q, eqB_q, eqsB_q, not_q, i_if, b_if, l_if, s_if, i_int, b_bool, s_str, l_list, envL, List.getElem?_cons_succ, List.getElem?_cons_zero, List.getElem?_nil, Option.getD_some, Option.getD_none, Int.toNat_natCast, Int.toNat_zero, Int.reduceToNat, List.length_map, get_Li, get_Lb, get_Ls, set_Li, inj_Li, inj_Lb, inj_Ls, rows_i, rows_b, rows_s, Int.zero_add, iff_true, iff_false, and_true, true_and, Bool.false_eq_true, eq_self, not_true_eq_false, not_false_eq_true, List.length_replicate, DV.int.injEq, DV.bool.injEq, DV.str.injEq, DV.list.injEq, List.cons.injEq, f_iiiis_0, rows_iiiis, inj_Liiiis, f_iiiis_1, rows_iiiis, inj_Liiiis, f_iiiis_2, rows_iiiis, inj_Liiiis, f_iiiis_3, rows_iiiis, inj_Liiiis, f_iiiis_4, rows_iiiis, inj_Liiiis]
  obtain ⟨m1, m2, m3⟩ := manyI_le x1 x13 r1.1
  have hm : (if ¬ (x13.length : Int) ≤ x1 then x1 else (x13.length : Int)) = (manyI x1 x13 : Int) := by split <;> omega
  simp only [hm]
  generalize hn : manyI x1 x13 = n at *
  refine ⟨by omega, m1, ?_⟩
  refine rounds_at n (fun i => [.list (((2, x6, 0, 1, []) :: initsM x1 x11 x13 i).map enciiiis), .int i]) rfl (fun _ => rfl) (fun i hi => ?_) ?_
  · have h1 : ¬ (n : Int) - 0 ≤ i := by omega
    have h2 : ¬ (x13.length : Int) ≤ i := by omega
    have h3 : ¬ x1 ≤ i := by omega
    have hp : placeM x11 x1 i 4 1 = IntKind.i64.wrap (IntKind.i64.wrap (x11 + IntKind.i64.wrap (4 * (i : Int))) + 1) := by unfold placeM; rw [if_neg (by omega)]
    simp only [Bool.not_true, Bool.not_false, Bool.true_eq_false, SE.den, evU, evT, ev_le, ev_eq, ev_eqs, ev_eqb, ev_slt, ev_and, ev_or, ev_add, ev_sub, ev_mul, ev_tdiv, ev_tmod, ev_band, ev_bor, ev_bxor, ev_bandn, ev_shl, ev_shr, ev_cat, ev_byte, ev_idx, ev_cons, ev_snoc, ev_app, ev_take, ev_drop, ev_stake, ev_sdrop, ev_rep, leB_q, eqB_q, eqsB_q, not_q, i_if, b_if, l_if, s_if, i_int, b_bool, s_str, l_list, envL, List.getElem?_cons_succ, List.getElem?_cons_zero, List.getElem?_nil, Option.getD_some, Option.getD_none, Int.toNat_natCast, Int.toNat_zero, Int.reduceToNat, List.length_map, get_Li, get_Lb, get_Ls, set_Li, inj_Li, inj_Lb, inj_Ls, rows_i, rows_b, rows_s, Int.zero_add, iff_true, iff_false, and_true, true_and, Bool.false_eq_true, eq_self, not_true_eq_false, not_false_eq_true, List.length_replicate, DV.int.injEq, DV.bool.injEq, DV.str.injEq, DV.list.injEq, List.cons.injEq, f_iiiis_0, rows_iiiis, inj_Liiiis, f_iiiis_1, rows_iiiis, inj_Liiiis, f_iiiis_2, rows_iiiis, inj_Liiiis, f_iiiis_3, rows_iiiis, inj_Liiiis, f_iiiis_4, rows_iiiis, inj_Liiiis, h1, h2, h3, get_dv, w64 (n := (i : Int) + 1) (by omega) (by omega), List.length_cons, initsM_len]
    simp [initsM, hp, enciiiis]
    omega
  · have h1 : (n : Int) - 0 ≤ n := by omega
    simp only [Bool.not_true, Bool.not_false, Bool.true_eq_false, SE.den, evU, evT, ev_le, ev_eq, ev_eqs, ev_eqb, ev_slt, ev_and, ev_or, ev_add, ev_sub, ev_mul, ev_tdiv, ev_tmod, ev_band, ev_bor, ev_bxor, ev_bandn, ev_shl, ev_shr, ev_cat, ev_byte, ev_idx, ev_cons, ev_snoc, ev_app, ev_take, ev_drop, ev_stake, ev_sdrop, ev_rep, leB_q, eqB_q, eqsB_q, not_q, i_if, b_if, l_if, s_if, i_int, b_bool, s_str, l_list, envL, List.getElem?_cons_succ, List.getElem?_cons_zero, List.getElem?_nil, Option.getD_some, Option.getD_none, Int.toNat_natCast, Int.toNat_zero, Int.reduceToNat, List.length_map, get_Li, get_Lb, get_Ls, set_Li, inj_Li, inj_Lb, inj_Ls, rows_i, rows_b, rows_s, Int.zero_add, iff_true, iff_false, and_true, true_and, Bool.false_eq_true, eq_self, not_true_eq_false, not_false_eq_true, List.length_replicate, DV.int.injEq, DV.bool.injEq, DV.str.injEq, DV.list.injEq, List.cons.injEq, f_iiiis_0, rows_iiiis, inj_Liiiis, f_iiiis_1, rows_iiiis, inj_Liiiis, f_iiiis_2, rows_iiiis, inj_Liiiis, f_iiiis_3, rows_iiiis, inj_Liiiis, f_iiiis_4, rows_iiiis, inj_Liiiis, h1]
    simp [row_iiiis]
end Go.Proofs.YtlaebfjfnbiooaaDoor
