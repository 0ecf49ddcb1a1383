/- The function layout.Wake is a function of data. No condition. -/
import Derived.Test.YtolphdchkbcoeaaLayWord
import Derived.Test.YtolphdchkbcoeaaBd
import Derived.Test.YtolphdchkbcoeaaOpen
namespace Go.Proofs.Ytolphdchkbcoeaa
set_option linter.unusedVariables false
set_option linter.unusedSimpArgs false
set_option maxRecDepth 100000

def layWkE (t l k s m a0 a1 a2 a3 a4 a5 a6 a7 n : Int) : List DV := [.int (placeM a4 t n 4 2)]

def layWkF (ds : List DV) : List DV := layWkE (gi ds 0) (gi ds 1) (gi ds 2) (gi ds 3) (gi ds 4) (gi ds 5) (gi ds 6) (gi ds 7) (gi ds 8) (gi ds 9) (gi ds 10) (gi ds 11) (gi ds 12) (gi ds 13)
/-- What the executor makes of it. -/
def layWkTree : PT :=
(.br (.un .not (.bin .le (.int 0) (.var 13)))
 (.leaf [(.int (-1))])
 (.br (.bin .le (.var 0) (.var 13))
  (.leaf [(.int (-1))])
  (.leaf [(.un (.wrap .i64) (.bin .add (.un (.wrap .i64) (.bin .add (.var 9) (.un (.wrap .i64) (.bin .mul (.int 4) (.var 13))))) (.int 2)))])))

def layWkSm : List (Nat × Smy) := []
def layWkLa : List (LK × LA) := []
def layWkPhi : Fs := ⟨fun n d => match n with
  | _ => d, 115⟩
theorem layWkS : SmyOk true Try.prog layWkPhi layWkSm := smy_nil
theorem layWkT : treeOk ⟨Try.prog, layWkSm, layWkLa, true⟩ 4000 42 [.agg [.pl (.int .i64), .pl (.int .i64), .pl (.int .i64), .pl (.int .i64), .pl (.int .i64), .pl (.int .i64), .pl (.int .i64), .pl (.int .i64), .pl (.int .i64), .pl (.int .i64), .pl (.int .i64), .pl (.int .i64), .pl (.int .i64)], .one (.pl (.int .i64))] [.one (.pl (.int .i64))] ([]) layWkTree = true := by decide +kernel
set_option maxHeartbeats 1000000 in
theorem layWk_pure : PureE true Try.prog 42 [.agg [.pl (.int .i64), .pl (.int .i64), .pl (.int .i64), .pl (.int .i64), .pl (.int .i64), .pl (.int .i64), .pl (.int .i64), .pl (.int .i64), .pl (.int .i64), .pl (.int .i64), .pl (.int .i64), .pl (.int .i64), .pl (.int .i64)], .one (.pl (.int .i64))] [.one (.pl (.int .i64))] (fun _ => True) layWkF := by
  refine pure_tree (X := ⟨Try.prog, layWkSm, layWkLa, true⟩) (by decide +kernel) (Checked.mixed Try.checked) layWkS (by decide +kernel) (by decide +kernel) layWkT (by decide +kernel) ?_
  intro ds hl hp
  obtain ⟨d0, d1, d2, d3, d4, d5, d6, d7, d8, d9, d10, d11, d12, d13, rfl⟩ := len14 hl
  have hF : layWkF [d0, d1, d2, d3, d4, d5, d6, d7, d8, d9, d10, d11, d12, d13] = layWkE d0.i d1.i d2.i d3.i d4.i d5.i d6.i d7.i d8.i d9.i d10.i d11.i d12.i d13.i := rfl
  rw [hF]
  clear hF hp hl
  have hN : nrmL (clsOf [.agg [.pl (.int .i64), .pl (.int .i64), .pl (.int .i64), .pl (.int .i64), .pl (.int .i64), .pl (.int .i64), .pl (.int .i64), .pl (.int .i64), .pl (.int .i64), .pl (.int .i64), .pl (.int .i64), .pl (.int .i64), .pl (.int .i64)], .one (.pl (.int .i64))]) [d0, d1, d2, d3, d4, d5, d6, d7, d8, d9, d10, d11, d12, d13] = [.int d0.i, .int d1.i, .int d2.i, .int d3.i, .int d4.i, .int d5.i, .int d6.i, .int d7.i, .int d8.i, .int d9.i, .int d10.i, .int d11.i, .int d12.i, .int d13.i] := by
    simp only [clsOf, Sh.cls, List.append_nil, List.cons_append, List.nil_append, nrmL, Cl.nrm, CK.nrm]
  rw [hN]
  clear hN
  generalize d0.i = x0
  generalize d1.i = x1
  generalize d2.i = x2
  generalize d3.i = x3
  generalize d4.i = x4
  generalize d5.i = x5
  generalize d6.i = x6
  generalize d7.i = x7
  generalize d8.i = x8
  generalize d9.i = x9
  generalize d10.i = x10
  generalize d11.i = x11
  generalize d12.i = x12
  generalize d13.i = x13
  refine ⟨facts_nil _, ?_⟩
  unfold layWkTree layWkE placeM
  simp only [Sat, clsOf, Sh.cls, List.append_nil, List.cons_append, List.nil_append, nrmL, Cl.nrm, CK.nrm, List.map_cons, List.map_nil, List.length_cons, List.length_nil, List.cons.injEq, DV.bool.injEq, DV.int.injEq, DV.list.injEq, DV.str.injEq, and_true, true_and]
  simp only [q_le, q_eq, q_eqs, q_eqb, q_and, q_or, q_not, q_bool, iff_true, iff_false, Bool.not_true, Bool.not_false, Bool.false_eq_true, Bool.true_eq_false, eq_self, Bool.not_not]
  simp only [Bool.not_true, Bool.not_false, Bool.true_eq_false, SE.den, evU, evT, ev_le, ev_eq, ev_eqs, ev_eqb, ev_slt, ev_and, ev_or, ev_add, ev_sub, ev_mul, ev_tdiv, ev_tmod, ev_band, ev_bor, ev_bxor, ev_bandn, ev_shl, ev_shr, ev_cat, ev_byte, ev_idx, ev_cons, ev_snoc, ev_app, ev_take, ev_drop, ev_stake, ev_sdrop, ev_rep, leB_q, eqB_q, eqsB_q, not_q, i_if, b_if, l_if, s_if, i_int, b_bool, s_str, l_list, envL, List.getElem?_cons_succ, List.getElem?_cons_zero, List.getElem?_nil, Option.getD_some, Option.getD_none, Int.toNat_natCast, Int.toNat_zero, Int.reduceToNat, List.length_map, get_Li, get_Lb, get_Ls, set_Li, inj_Li, inj_Lb, inj_Ls, rows_i, rows_b, rows_s, Int.zero_add, iff_true, iff_false, and_true, true_and, Bool.false_eq_true, eq_self, not_true_eq_false, not_false_eq_true, List.length_replicate, DV.int.injEq, DV.bool.injEq, DV.str.injEq, DV.list.injEq, List.cons.injEq]
  repeat' (first | apply And.intro | intro)
  all_goals grind
end Go.Proofs.Ytolphdchkbcoeaa
