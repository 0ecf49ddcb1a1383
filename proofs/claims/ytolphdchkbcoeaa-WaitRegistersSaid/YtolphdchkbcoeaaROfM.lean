/- The function hallmootref15.Of is a function of data. No condition. -/
import Derived.Test.YtolphdchkbcoeaaLayM
import Derived.Test.YtolphdchkbcoeaaBd
import Derived.Test.YtolphdchkbcoeaaOpen
namespace Go.Proofs.Ytolphdchkbcoeaa
set_option linter.unusedVariables false
set_option linter.unusedSimpArgs false
set_option maxRecDepth 100000

def rOfME (t l k s m : Int) : List DV := layOfE t l k s m

def rOfMF (ds : List DV) : List DV := rOfME (gi ds 0) (gi ds 1) (gi ds 2) (gi ds 3) (gi ds 4)
/-- What the executor makes of it. -/
def rOfMTree : PT :=
(.br (.un .not (.bin .le (.int 1) (.var 0)))
 (.leaf [(.int 0), (.int 0), (.int 0), (.int 0), (.int 0), (.int 0), (.int 0), (.int 0), (.int 0), (.int 0), (.int 0), (.int 0), (.int 0), (.int 1)])
 (.br (.un .not (.bin .le (.var 0) (.int 4)))
  (.leaf [(.int 0), (.int 0), (.int 0), (.int 0), (.int 0), (.int 0), (.int 0), (.int 0), (.int 0), (.int 0), (.int 0), (.int 0), (.int 0), (.int 1)])
  (.br (.un .not (.bin .le (.int 0) (.var 1)))
   (.leaf [(.int 0), (.int 0), (.int 0), (.int 0), (.int 0), (.int 0), (.int 0), (.int 0), (.int 0), (.int 0), (.int 0), (.int 0), (.int 0), (.int 1)])
   (.br (.un .not (.bin .le (.var 1) (.int 32)))
    (.leaf [(.int 0), (.int 0), (.int 0), (.int 0), (.int 0), (.int 0), (.int 0), (.int 0), (.int 0), (.int 0), (.int 0), (.int 0), (.int 0), (.int 1)])
    (.br (.un .not (.bin .le (.int 0) (.var 2)))
     (.leaf [(.int 0), (.int 0), (.int 0), (.int 0), (.int 0), (.int 0), (.int 0), (.int 0), (.int 0), (.int 0), (.int 0), (.int 0), (.int 0), (.int 1)])
     (.br (.un .not (.bin .le (.var 2) (.int 8)))
      (.leaf [(.int 0), (.int 0), (.int 0), (.int 0), (.int 0), (.int 0), (.int 0), (.int 0), (.int 0), (.int 0), (.int 0), (.int 0), (.int 0), (.int 1)])
      (.br (.bin .le (.int 0) (.var 3))
       (.br (.bin .le (.var 3) (.int 512))
        (.br (.bin .le (.int 0) (.var 4))
         (.br (.un .not (.bin .le (.var 4) (.int 3)))
          (.leaf [(.int 0), (.int 0), (.int 0), (.int 0), (.int 0), (.int 0), (.int 0), (.int 0), (.int 0), (.int 0), (.int 0), (.int 0), (.int 0), (.int 1)])
          (.leaf [(.var 0), (.var 1), (.var 2), (.var 3), (.var 4), (.int 0), (.int 1), (.int 2), (.int 3), (.int 4), (.un (.wrap .i64) (.bin .add (.int 4) (.un (.wrap .i64) (.bin .mul (.int 4) (.var 0))))), (.un (.wrap .i64) (.bin .add (.un (.wrap .i64) (.bin .add (.int 4) (.un (.wrap .i64) (.bin .mul (.int 4) (.var 0))))) (.var 2))), (.un (.wrap .i64) (.bin .add (.un (.wrap .i64) (.bin .add (.un (.wrap .i64) (.bin .add (.int 4) (.un (.wrap .i64) (.bin .mul (.int 4) (.var 0))))) (.var 2))) (.un (.wrap .i64) (.bin .mul (.int 4) (.var 1))))), (.int 0)]))
         (.leaf [(.int 0), (.int 0), (.int 0), (.int 0), (.int 0), (.int 0), (.int 0), (.int 0), (.int 0), (.int 0), (.int 0), (.int 0), (.int 0), (.int 1)]))
        (.leaf [(.int 0), (.int 0), (.int 0), (.int 0), (.int 0), (.int 0), (.int 0), (.int 0), (.int 0), (.int 0), (.int 0), (.int 0), (.int 0), (.int 1)]))
       (.leaf [(.int 0), (.int 0), (.int 0), (.int 0), (.int 0), (.int 0), (.int 0), (.int 0), (.int 0), (.int 0), (.int 0), (.int 0), (.int 0), (.int 1)]))))))))

def rOfMSm : List (Nat × Smy) := []
def rOfMLa : List (LK × LA) := []
def rOfMPhi : Fs := ⟨fun n d => match n with
  | _ => d, 115⟩
theorem rOfMS : SmyOk true Try.prog rOfMPhi rOfMSm := smy_nil
theorem rOfMT : treeOk ⟨Try.prog, rOfMSm, rOfMLa, true⟩ 4000 25 [.agg [.pl (.int .i64), .pl (.int .i64), .pl (.int .i64), .pl (.int .i64), .pl (.int .i64)]] [.agg [.pl (.int .i64), .pl (.int .i64), .pl (.int .i64), .pl (.int .i64), .pl (.int .i64), .pl (.int .i64), .pl (.int .i64), .pl (.int .i64), .pl (.int .i64), .pl (.int .i64), .pl (.int .i64), .pl (.int .i64), .pl (.int .i64)], .one (.pl (.int .i64))] ([]) rOfMTree = true := by decide +kernel
set_option maxHeartbeats 1000000 in
theorem rOfM_pure : PureE true Try.prog 25 [.agg [.pl (.int .i64), .pl (.int .i64), .pl (.int .i64), .pl (.int .i64), .pl (.int .i64)]] [.agg [.pl (.int .i64), .pl (.int .i64), .pl (.int .i64), .pl (.int .i64), .pl (.int .i64), .pl (.int .i64), .pl (.int .i64), .pl (.int .i64), .pl (.int .i64), .pl (.int .i64), .pl (.int .i64), .pl (.int .i64), .pl (.int .i64)], .one (.pl (.int .i64))] (fun _ => True) rOfMF := by
  refine pure_tree (X := ⟨Try.prog, rOfMSm, rOfMLa, true⟩) (by decide +kernel) (Checked.mixed Try.checked) rOfMS (by decide +kernel) (by decide +kernel) rOfMT (by decide +kernel) ?_
  intro ds hl hp
  obtain ⟨d0, d1, d2, d3, d4, rfl⟩ := len5 hl
  have hF : rOfMF [d0, d1, d2, d3, d4] = rOfME d0.i d1.i d2.i d3.i d4.i := rfl
  rw [hF]
  clear hF hp hl
  have hN : nrmL (clsOf [.agg [.pl (.int .i64), .pl (.int .i64), .pl (.int .i64), .pl (.int .i64), .pl (.int .i64)]]) [d0, d1, d2, d3, d4] = [.int d0.i, .int d1.i, .int d2.i, .int d3.i, .int d4.i] := by
    simp only [clsOf, Sh.cls, List.append_nil, List.cons_append, List.nil_append, nrmL, Cl.nrm, CK.nrm]
  rw [hN]
  clear hN
  generalize d0.i = x0
  generalize d1.i = x1
  generalize d2.i = x2
  generalize d3.i = x3
  generalize d4.i = x4
  refine ⟨facts_nil _, ?_⟩
  unfold rOfMTree rOfME layOfE
  by_cases hm : mayM x0 x1 x2 x3 x4 = true
  · rw [if_pos hm]
    unfold mayM at hm
    simp only [decide_eq_true_eq] at hm
    simp only [Sat, clsOf, Sh.cls, List.append_nil, List.cons_append, List.nil_append, nrmL, Cl.nrm, CK.nrm, List.map_cons, List.map_nil, List.length_cons, List.length_nil, List.cons.injEq, DV.bool.injEq, DV.int.injEq, DV.list.injEq, DV.str.injEq, and_true, true_and]
    simp only [q_le, q_eq, q_eqs, q_eqb, q_and, q_or, q_not, q_bool, iff_true, iff_false, Bool.not_true, Bool.not_false, Bool.false_eq_true, Bool.true_eq_false, eq_self, Bool.not_not]
    simp only [Bool.not_true, Bool.not_false, Bool.true_eq_false, SE.den, evU, evT, ev_le, ev_eq, ev_eqs, ev_eqb, ev_slt, ev_and, ev_or, ev_add, ev_sub, ev_mul, ev_tdiv, ev_tmod, ev_band, ev_bor, ev_bxor, ev_bandn, ev_shl, ev_shr, ev_cat, ev_byte, ev_idx, ev_cons, ev_snoc, ev_app, ev_take, ev_drop, ev_stake, ev_sdrop, ev_rep, leB_q, eqB_q, eqsB_q, not_q, i_if, b_if, l_if, s_if, i_int, b_bool, s_str, l_list, envL, List.getElem?_cons_succ, List.getElem?_cons_zero, List.getElem?_nil, Option.getD_some, Option.getD_none, Int.toNat_natCast, Int.toNat_zero, Int.reduceToNat, List.length_map, get_Li, get_Lb, get_Ls, set_Li, inj_Li, inj_Lb, inj_Ls, rows_i, rows_b, rows_s, Int.zero_add, iff_true, iff_false, and_true, true_and, Bool.false_eq_true, eq_self, not_true_eq_false, not_false_eq_true, List.length_replicate, DV.int.injEq, DV.bool.injEq, DV.str.injEq, DV.list.injEq, List.cons.injEq, w64_eq]
    repeat' (first | apply And.intro | intro)
    all_goals first | omega | rfl | (simp; done) | trace_state
  · rw [if_neg hm]
    unfold mayM at hm
    simp only [decide_eq_true_eq] at hm
    simp only [Sat, clsOf, Sh.cls, List.append_nil, List.cons_append, List.nil_append, nrmL, Cl.nrm, CK.nrm, List.map_cons, List.map_nil, List.length_cons, List.length_nil, List.cons.injEq, DV.bool.injEq, DV.int.injEq, DV.list.injEq, DV.str.injEq, and_true, true_and]
    simp only [q_le, q_eq, q_eqs, q_eqb, q_and, q_or, q_not, q_bool, iff_true, iff_false, Bool.not_true, Bool.not_false, Bool.false_eq_true, Bool.true_eq_false, eq_self, Bool.not_not]
    simp only [Bool.not_true, Bool.not_false, Bool.true_eq_false, SE.den, evU, evT, ev_le, ev_eq, ev_eqs, ev_eqb, ev_slt, ev_and, ev_or, ev_add, ev_sub, ev_mul, ev_tdiv, ev_tmod, ev_band, ev_bor, ev_bxor, ev_bandn, ev_shl, ev_shr, ev_cat, ev_byte, ev_idx, ev_cons, ev_snoc, ev_app, ev_take, ev_drop, ev_stake, ev_sdrop, ev_rep, leB_q, eqB_q, eqsB_q, not_q, i_if, b_if, l_if, s_if, i_int, b_bool, s_str, l_list, envL, List.getElem?_cons_succ, List.getElem?_cons_zero, List.getElem?_nil, Option.getD_some, Option.getD_none, Int.toNat_natCast, Int.toNat_zero, Int.reduceToNat, List.length_map, get_Li, get_Lb, get_Ls, set_Li, inj_Li, inj_Lb, inj_Ls, rows_i, rows_b, rows_s, Int.zero_add, iff_true, iff_false, and_true, true_and, Bool.false_eq_true, eq_self, not_true_eq_false, not_false_eq_true, List.length_replicate, DV.int.injEq, DV.bool.injEq, DV.str.injEq, DV.list.injEq, List.cons.injEq, w64_eq]
    repeat' (first | apply And.intro | intro)
    all_goals first | omega | rfl | (simp; done) | trace_state
end Go.Proofs.Ytolphdchkbcoeaa
