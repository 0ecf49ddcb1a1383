/- The function layout.Of is a function of data. No condition. -/
import Derived.Test.YtjkdenancggndaaBd
import Derived.Test.YtjkdenancggndaaOpen
namespace Go.Proofs.Ytjkdenancggndaa
set_option linter.unusedVariables false
set_option linter.unusedSimpArgs false
set_option maxRecDepth 100000

/-- Whether a configuration is valid; its layout. -/
def mayM (t l k s m : Int) : Bool := decide (1 ≤ t ∧ t ≤ 4 ∧ 0 ≤ l ∧ l ≤ 32 ∧ 0 ≤ k ∧ k ≤ 8 ∧ 0 ≤ s ∧ s ≤ 512 ∧ 0 ≤ m ∧ m ≤ 3)
def layOfE (t l k s m : Int) : List DV := if mayM t l k s m = true then [.int t, .int l, .int k, .int s, .int m, .int 0, .int 1, .int 2, .int 3, .int 4, .int (4 + 4 * t), .int (4 + 4 * t + k), .int (4 + 4 * t + k + 4 * l), .int 0]
  else [.int 0, .int 0, .int 0, .int 0, .int 0, .int 0, .int 0, .int 0, .int 0, .int 0, .int 0, .int 0, .int 0, .int 1]

def layOfF (ds : List DV) : List DV := layOfE (gi ds 0) (gi ds 1) (gi ds 2) (gi ds 3) (gi ds 4)
/-- What the executor makes of it. -/
def layOfTree : PT :=
(.br (.bin .le (.int 1) (.var 0))
 (.br (.bin .le (.var 0) (.int 4))
  (.br (.bin .le (.int 0) (.var 1))
   (.br (.bin .le (.var 1) (.int 32))
    (.br (.bin .le (.int 0) (.var 2))
     (.br (.bin .le (.var 2) (.int 8))
      (.br (.bin .le (.int 0) (.var 3))
       (.br (.bin .le (.var 3) (.int 512))
        (.br (.bin .le (.int 0) (.var 4))
         (.br (.un .not (.bin .le (.var 4) (.int 3)))
          (.leaf [(.int 0), (.int 0), (.int 0), (.int 0), (.int 0), (.int 0), (.int 0), (.int 0), (.int 0), (.int 0), (.int 0), (.int 0), (.int 0), (.int 1)])
          (.leaf [(.var 0), (.var 1), (.var 2), (.var 3), (.var 4), (.int 0), (.int 1), (.int 2), (.int 3), (.un (.wrap .i64) (.bin .sub (.un (.wrap .i64) (.bin .add (.int 4) (.un (.wrap .i64) (.bin .mul (.int 4) (.var 0))))) (.un (.wrap .i64) (.bin .mul (.int 4) (.var 0))))), (.un (.wrap .i64) (.bin .sub (.un (.wrap .i64) (.bin .add (.un (.wrap .i64) (.bin .add (.int 4) (.un (.wrap .i64) (.bin .mul (.int 4) (.var 0))))) (.var 2))) (.var 2))), (.un (.wrap .i64) (.bin .sub (.un (.wrap .i64) (.bin .add (.un (.wrap .i64) (.bin .add (.un (.wrap .i64) (.bin .add (.int 4) (.un (.wrap .i64) (.bin .mul (.int 4) (.var 0))))) (.var 2))) (.un (.wrap .i64) (.bin .mul (.int 4) (.var 1))))) (.un (.wrap .i64) (.bin .mul (.int 4) (.var 1))))), (.un (.wrap .i64) (.bin .add (.un (.wrap .i64) (.bin .add (.un (.wrap .i64) (.bin .add (.int 4) (.un (.wrap .i64) (.bin .mul (.int 4) (.var 0))))) (.var 2))) (.un (.wrap .i64) (.bin .mul (.int 4) (.var 1))))), (.int 0)]))
         (.leaf [(.int 0), (.int 0), (.int 0), (.int 0), (.int 0), (.int 0), (.int 0), (.int 0), (.int 0), (.int 0), (.int 0), (.int 0), (.int 0), (.int 1)]))
        (.leaf [(.int 0), (.int 0), (.int 0), (.int 0), (.int 0), (.int 0), (.int 0), (.int 0), (.int 0), (.int 0), (.int 0), (.int 0), (.int 0), (.int 1)]))
       (.leaf [(.int 0), (.int 0), (.int 0), (.int 0), (.int 0), (.int 0), (.int 0), (.int 0), (.int 0), (.int 0), (.int 0), (.int 0), (.int 0), (.int 1)]))
      (.leaf [(.int 0), (.int 0), (.int 0), (.int 0), (.int 0), (.int 0), (.int 0), (.int 0), (.int 0), (.int 0), (.int 0), (.int 0), (.int 0), (.int 1)]))
     (.leaf [(.int 0), (.int 0), (.int 0), (.int 0), (.int 0), (.int 0), (.int 0), (.int 0), (.int 0), (.int 0), (.int 0), (.int 0), (.int 0), (.int 1)]))
    (.leaf [(.int 0), (.int 0), (.int 0), (.int 0), (.int 0), (.int 0), (.int 0), (.int 0), (.int 0), (.int 0), (.int 0), (.int 0), (.int 0), (.int 1)]))
   (.leaf [(.int 0), (.int 0), (.int 0), (.int 0), (.int 0), (.int 0), (.int 0), (.int 0), (.int 0), (.int 0), (.int 0), (.int 0), (.int 0), (.int 1)]))
  (.leaf [(.int 0), (.int 0), (.int 0), (.int 0), (.int 0), (.int 0), (.int 0), (.int 0), (.int 0), (.int 0), (.int 0), (.int 0), (.int 0), (.int 1)]))
 (.leaf [(.int 0), (.int 0), (.int 0), (.int 0), (.int 0), (.int 0), (.int 0), (.int 0), (.int 0), (.int 0), (.int 0), (.int 0), (.int 0), (.int 1)]))

def layOfSm : List (Nat × Smy) := []
def layOfLa : List (LK × LA) := []
def layOfPhi : Nat → DV → DV := fun n d => match n with
  | _ => d
theorem layOfS : SmyOk Try.prog layOfPhi layOfSm := smy_nil
theorem layOfT : treeOk ⟨Try.prog, layOfSm, layOfLa⟩ 4000 18 [.agg [.pl (.int .i64), .pl (.int .i64), .pl (.int .i64), .pl (.int .i64), .pl (.int .i64)]] [.agg [.pl (.int .i64), .pl (.int .i64), .pl (.int .i64), .pl (.int .i64), .pl (.int .i64), .pl (.int .i64), .pl (.int .i64), .pl (.int .i64), .pl (.int .i64), .pl (.int .i64), .pl (.int .i64), .pl (.int .i64), .pl (.int .i64)], .one (.pl (.int .i64))] ([]) layOfTree = true := by decide +kernel
set_option maxHeartbeats 1000000 in
theorem layOf_pure : Pure Try.prog 18 [.agg [.pl (.int .i64), .pl (.int .i64), .pl (.int .i64), .pl (.int .i64), .pl (.int .i64)]] [.agg [.pl (.int .i64), .pl (.int .i64), .pl (.int .i64), .pl (.int .i64), .pl (.int .i64), .pl (.int .i64), .pl (.int .i64), .pl (.int .i64), .pl (.int .i64), .pl (.int .i64), .pl (.int .i64), .pl (.int .i64), .pl (.int .i64)], .one (.pl (.int .i64))] (fun _ => True) layOfF := by
  refine pure_tree (X := ⟨Try.prog, layOfSm, layOfLa⟩) (Checked.mixed Try.checked) layOfS (by decide +kernel) (by decide +kernel) layOfT (by decide +kernel) ?_
  intro ds hl hp
  obtain ⟨d0, d1, d2, d3, d4, rfl⟩ := len5 hl
  have hF : layOfF [d0, d1, d2, d3, d4] = layOfE d0.i d1.i d2.i d3.i d4.i := rfl
  rw [hF]
  clear hF hp hl
  have hN : nrmL (clsOf [.agg [.pl (.int .i64), .pl (.int .i64), .pl (.int .i64), .pl (.int .i64), .pl (.int .i64)]]) [d0, d1, d2, d3, d4] = [.int d0.i, .int d1.i, .int d2.i, .int d3.i, .int d4.i] := by
    simp only [clsOf, Sh.cls, List.append_nil, List.cons_append, List.nil_append, nrmL, Cl.nrm, CK.nrm]
  rw [hN]
  clear hN
  generalize d0.i = x0
  generalize d1.i = x1
  generalize d2.i = x2
  generalize d3.i = x3
  generalize d4.i = x4
  refine ⟨facts_nil _, ?_⟩
  unfold layOfTree layOfE
  by_cases hm : mayM x0 x1 x2 x3 x4 = true
  · rw [if_pos hm]
    unfold mayM at hm
    simp only [decide_eq_true_eq] at hm
    simp only [Sat, clsOf, Sh.cls, List.append_nil, List.cons_append, List.nil_append, nrmL, Cl.nrm, CK.nrm, List.map_cons, List.map_nil, List.length_cons, List.length_nil, List.cons.injEq, DV.bool.injEq, DV.int.injEq, DV.list.injEq, DV.str.injEq, and_true, true_and]
    simp only [q_le, q_eq, q_eqs, q_eqb, q_and, q_or, q_not, q_bool, iff_true, iff_false, Bool.not_true, Bool.not_false, Bool.false_eq_true, Bool.true_eq_false, eq_self, Bool.not_not]
    simp only [Bool.not_true, Bool.not_false, Bool.true_eq_false, SE.den, evU, evT, ev_le, ev_eq, ev_eqs, ev_eqb, ev_slt, ev_and, ev_or, ev_add, ev_sub, ev_mul, ev_tdiv, ev_tmod, ev_band, ev_bor, ev_bxor, ev_bandn, ev_shl, ev_shr, ev_cat, ev_byte, ev_idx, ev_cons, ev_snoc, ev_app, ev_take, ev_drop, ev_stake, ev_sdrop, ev_rep, leB_q, eqB_q, eqsB_q, not_q, i_if, b_if, l_if, s_if, i_int, b_bool, s_str, l_list, envL, List.getElem?_cons_succ, List.getElem?_cons_zero, List.getElem?_nil, Option.getD_some, Option.getD_none, Int.toNat_natCast, Int.toNat_zero, Int.reduceToNat, List.length_map, get_Li, get_Lb, get_Ls, set_Li, inj_Li, inj_Lb, inj_Ls, rows_i, rows_b, rows_s, Int.zero_add, iff_true, iff_false, and_true, true_and, Bool.false_eq_true, eq_self, not_true_eq_false, not_false_eq_true, List.length_replicate, DV.int.injEq, DV.bool.injEq, DV.str.injEq, DV.list.injEq, List.cons.injEq, w64_eq]
    repeat' (first | apply And.intro | intro)
    all_goals first | omega | rfl | (simp; done) | trace_state
  · rw [if_neg hm]
    unfold mayM at hm
    simp only [decide_eq_true_eq] at hm
    simp only [Sat, clsOf, Sh.cls, List.append_nil, List.cons_append, List.nil_append, nrmL, Cl.nrm, CK.nrm, List.map_cons, List.map_nil, List.length_cons, List.length_nil, List.cons.injEq, DV.bool.injEq, DV.int.injEq, DV.list.injEq, DV.str.injEq, and_true, true_and]
    simp only [q_le, q_eq, q_eqs, q_eqb, q_and, q_or, q_not, q_bool, iff_true, iff_false, Bool.not_true, Bool.not_false, Bool.false_eq_true, Bool.true_eq_false, eq_self, Bool.not_not]
    simp only [Bool.not_true, Bool.not_false, Bool.true_eq_false, SE.den, evU, evT, ev_le, ev_eq, ev_eqs, ev_eqb, ev_slt, ev_and, ev_or, ev_add, ev_sub, ev_mul, ev_tdiv, ev_tmod, ev_band, ev_bor, ev_bxor, ev_bandn, ev_shl, ev_shr, ev_cat, ev_byte, ev_idx, ev_cons, ev_snoc, ev_app, ev_take, ev_drop, ev_stake, ev_sdrop, ev_rep, leB_q, eqB_q, eqsB_q, not_q, i_if, b_if, l_if, s_if, i_int, b_bool, s_str, l_list, envL, List.getElem?_cons_succ, List.getElem?_cons_zero, List.getElem?_nil, Option.getD_some, Option.getD_none, Int.toNat_natCast, Int.toNat_zero, Int.reduceToNat, List.length_map, get_Li, get_Lb, get_Ls, set_Li, inj_Li, inj_Lb, inj_Ls, rows_i, rows_b, rows_s, Int.zero_add, iff_true, iff_false, and_true, true_and, Bool.false_eq_true, eq_self, not_true_eq_false, not_false_eq_true, List.length_replicate, DV.int.injEq, DV.bool.injEq, DV.str.injEq, DV.list.injEq, List.cons.injEq, w64_eq]
    repeat' (first | apply And.intro | intro)
    all_goals first | omega | rfl | (simp; done) | trace_state
end Go.Proofs.Ytjkdenancggndaa
