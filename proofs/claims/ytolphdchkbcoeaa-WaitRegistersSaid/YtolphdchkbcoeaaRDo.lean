/- The function hallmootref02.Do is a function of data. No condition. -/
import Derived.Test.YtolphdchkbcoeaaMemDo
import Derived.Test.YtolphdchkbcoeaaBd
import Derived.Test.YtolphdchkbcoeaaOpen
namespace Go.Proofs.Ytolphdchkbcoeaa
set_option linter.unusedVariables false
set_option linter.unusedSimpArgs false
set_option maxRecDepth 100000

def rDoE (l : List Int) (k c o n : Int) (s : List UInt8) : List DV := memDoE l k c o n s

def rDoF (ds : List DV) : List DV := rDoE (gLi ds 0) (gi ds 1) (gi ds 2) (gi ds 3) (gi ds 4) (gs ds 5)
/-- What the executor makes of it. -/
def rDoTree : PT :=
(.br (.un .not (.bin .le (.int 1) (.var 1)))
 (.leaf [(.var 0), (.int 0), (.bool false), (.int 1)])
 (.br (.un .not (.bin .le (.var 1) (.int 4)))
  (.leaf [(.var 0), (.int 0), (.bool false), (.int 1)])
  (.br (.un .not (.bin .le (.int 0) (.var 2)))
   (.leaf [(.var 0), (.int 0), (.bool false), (.int 1)])
   (.br (.un .not (.bin .eqs (.var 5) (.str [])))
    (.leaf [(.var 0), (.int 0), (.bool false), (.int 1)])
    (.br (.bin .eq (.var 1) (.int 3))
     (.br (.bin .le (.un .len (.var 0)) (.var 2))
      (.leaf [(.var 0), (.int 0), (.bool false), (.int 8)])
      (.br (.un .not (.bin .eq (.bin .idx (.var 0) (.bin .add (.int 0) (.var 2))) (.var 3)))
       (.leaf [(.var 0), (.bin .idx (.var 0) (.bin .add (.int 0) (.var 2))), (.bool false), (.int 0)])
       (.asrt (.bin .le (.un .len (.var 0)) (.int 4294967296))
        (.leaf [(.tri .set (.var 0) (.bin .add (.int 0) (.var 2)) (.var 4)), (.bin .idx (.var 0) (.bin .add (.int 0) (.var 2))), (.bool true), (.int 0)]))))
     (.br (.bin .eq (.var 3) (.int 0))
      (.br (.un .not (.bin .eq (.var 1) (.int 1)))
       (.br (.bin .le (.un .len (.var 0)) (.var 2))
        (.leaf [(.var 0), (.int 0), (.bool false), (.int 8)])
        (.br (.bin .eq (.var 1) (.int 4))
         (.asrt (.bin .le (.un .len (.var 0)) (.int 4294967296))
          (.leaf [(.tri .set (.var 0) (.bin .add (.int 0) (.var 2)) (.un (.wrap .i64) (.bin .add (.bin .idx (.var 0) (.bin .add (.int 0) (.var 2))) (.var 4)))), (.bin .idx (.var 0) (.bin .add (.int 0) (.var 2))), (.bool true), (.int 0)]))
         (.asrt (.bin .le (.un .len (.var 0)) (.int 4294967296))
          (.leaf [(.tri .set (.var 0) (.bin .add (.int 0) (.var 2)) (.var 4)), (.bin .idx (.var 0) (.bin .add (.int 0) (.var 2))), (.bool true), (.int 0)]))))
       (.br (.un .not (.bin .eq (.var 4) (.int 0)))
        (.leaf [(.var 0), (.int 0), (.bool false), (.int 1)])
        (.br (.bin .le (.un .len (.var 0)) (.var 2))
         (.leaf [(.var 0), (.int 0), (.bool false), (.int 8)])
         (.leaf [(.var 0), (.bin .idx (.var 0) (.bin .add (.int 0) (.var 2))), (.bool true), (.int 0)]))))
      (.leaf [(.var 0), (.int 0), (.bool false), (.int 1)])))))))

def rDoSm : List (Nat × Smy) := []
def rDoLa : List (LK × LA) := []
def rDoPhi : Fs := ⟨fun n d => match n with
  | _ => d, 115⟩
theorem rDoS : SmyOk true Try.prog rDoPhi rDoSm := smy_nil
theorem rDoT : treeOk ⟨Try.prog, rDoSm, rDoLa, true⟩ 4000 24 [.agg [.rows false [.int .i64]], .agg [.pl (.int .i64), .pl (.int .i64), .pl (.int .i64), .pl (.int .i64), .pl .str]] [.agg [.rows false [.int .i64]], .agg [.pl (.int .i64), .pl .bool], .one (.pl (.int .i64))] ([]) rDoTree = true := by decide +kernel
set_option maxHeartbeats 1000000 in
theorem rDo_pure : PureE true Try.prog 24 [.agg [.rows false [.int .i64]], .agg [.pl (.int .i64), .pl (.int .i64), .pl (.int .i64), .pl (.int .i64), .pl .str]] [.agg [.rows false [.int .i64]], .agg [.pl (.int .i64), .pl .bool], .one (.pl (.int .i64))] (lenP [(0, 1000000)]) rDoF := by
  refine pure_tree (X := ⟨Try.prog, rDoSm, rDoLa, true⟩) (by decide +kernel) (Checked.mixed Try.checked) rDoS (by decide +kernel) (by decide +kernel) rDoT (by decide +kernel) ?_
  intro ds hl hp
  obtain ⟨d0, d1, d2, d3, d4, d5, rfl⟩ := len6 hl
  have b0 : (d0.l.length : Int) ≤ 1000000 := hp (0, 1000000) (by simp)
  have hF : rDoF [d0, d1, d2, d3, d4, d5] = rDoE (d0.l.map DV.i) d1.i d2.i d3.i d4.i d5.s := rfl
  rw [hF]
  clear hF hp hl
  have hN : nrmL (clsOf [.agg [.rows false [.int .i64]], .agg [.pl (.int .i64), .pl (.int .i64), .pl (.int .i64), .pl (.int .i64), .pl .str]]) [d0, d1, d2, d3, d4, d5] = [.list ((d0.l.map DV.i).map DV.int), .int d1.i, .int d2.i, .int d3.i, .int d4.i, .str d5.s] := by
    simp only [clsOf, Sh.cls, List.append_nil, List.cons_append, List.nil_append, nrmL, Cl.nrm, CK.nrm, map_Li]
  rw [hN]
  clear hN
  rw [← List.length_map (f := DV.i)] at b0
  generalize d0.l.map DV.i = x0 at b0 ⊢
  generalize d1.i = x1
  generalize d2.i = x2
  generalize d3.i = x3
  generalize d4.i = x4
  generalize d5.s = x5
  refine ⟨facts_nil _, ?_⟩
  unfold rDoTree rDoE memDoE
  simp only [Sat, clsOf, Sh.cls, List.append_nil, List.cons_append, List.nil_append, nrmL, Cl.nrm, CK.nrm, List.map_cons, List.map_nil, List.length_cons, List.length_nil, List.cons.injEq, DV.bool.injEq, DV.int.injEq, DV.list.injEq, DV.str.injEq, and_true, true_and]
  simp only [q_le, q_eq, q_eqs, q_eqb, q_and, q_or, q_not, q_bool, iff_true, iff_false, Bool.not_true, Bool.not_false, Bool.false_eq_true, Bool.true_eq_false, eq_self, Bool.not_not]
  simp only [Bool.not_true, Bool.not_false, Bool.true_eq_false, SE.den, evU, evT, ev_le, ev_eq, ev_eqs, ev_eqb, ev_slt, ev_and, ev_or, ev_add, ev_sub, ev_mul, ev_tdiv, ev_tmod, ev_band, ev_bor, ev_bxor, ev_bandn, ev_shl, ev_shr, ev_cat, ev_byte, ev_idx, ev_cons, ev_snoc, ev_app, ev_take, ev_drop, ev_stake, ev_sdrop, ev_rep, leB_q, eqB_q, eqsB_q, not_q, i_if, b_if, l_if, s_if, i_int, b_bool, s_str, l_list, envL, List.getElem?_cons_succ, List.getElem?_cons_zero, List.getElem?_nil, Option.getD_some, Option.getD_none, Int.toNat_natCast, Int.toNat_zero, Int.reduceToNat, List.length_map, get_Li, get_Lb, get_Ls, set_Li, inj_Li, inj_Lb, inj_Ls, rows_i, rows_b, rows_s, Int.zero_add, iff_true, iff_false, and_true, true_and, Bool.false_eq_true, eq_self, not_true_eq_false, not_false_eq_true, List.length_replicate, DV.int.injEq, DV.bool.injEq, DV.str.injEq, DV.list.injEq, List.cons.injEq]
  have hs : ∀ v, ¬ (x0.length : Int) ≤ x2 → 0 ≤ x2 → v = x0[x2.toNat]?.getD 0 → x0.set x2.toNat v = x0 := fun v h h0 e => by rw [e]; exact set_same _ _ _ (by omega)
  repeat' (first | apply And.intro | intro)
  all_goals grind [doM, rightM, nextM]
end Go.Proofs.Ytolphdchkbcoeaa
