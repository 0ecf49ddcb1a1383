/- The function durable.Do is a function of data. No condition. -/
import Derived.Test.YtlaebfjfnbiooaaDoorMemDo
import Derived.Test.YtlaebfjfnbiooaaDoorDWrite
import Derived.Test.YtlaebfjfnbiooaaDoorDSync
import Derived.Test.YtlaebfjfnbiooaaDoorBd
import Derived.Test.YtlaebfjfnbiooaaDoorOpen
namespace Go.Proofs.YtlaebfjfnbiooaaDoor
set_option linter.unusedVariables false
set_option linter.unusedSimpArgs false
set_option maxRecDepth 100000

/-- An access of the memory or of the device. -/
def duM (l : List Int) (sec : List (List UInt8)) (was : List Tis) (k c o n : Int) (b : List UInt8) : List Int × List (List UInt8) × List Tis × Tib × Int :=
  if k = 5 then
    (if o = 0 ∧ n = 0 then (if (writeM sec was c b).2.2 = 0 then (l, (writeM sec was c b).1, (writeM sec was c b).2.1, (0, true), 0) else (l, sec, was, (0, false), (writeM sec was c b).2.2))
    else (l, sec, was, (0, false), 1))
  else if k = 6 then
    (if c = 0 ∧ o = 0 ∧ n = 0 ∧ b = [] then (l, sec, [], (0, true), 0) else (l, sec, was, (0, false), 1))
  else ((doM l k c o n b).1, sec, was, (doM l k c o n b).2.1, (doM l k c o n b).2.2)
def duD (r : List Int × List (List UInt8) × List Tis × Tib × Int) : List DV := [.list (r.1.map DV.int), .list (r.2.1.map DV.str), .list (r.2.2.1.map encis), .int r.2.2.2.1.1, .bool r.2.2.2.1.2, .int r.2.2.2.2]
def uDoE (l : List Int) (sec : List (List UInt8)) (was : List Tis) (k c o n : Int) (b : List UInt8) : List DV := duD (duM l sec was k c o n b)
theorem nrm_du (r : List Int × List (List UInt8) × List Tis × Tib × Int) : nrmL [Cl.rows false [CK.int IntKind.i64], Cl.rows false [CK.str], Cl.rows false [CK.int IntKind.i64, CK.str], Cl.pl (CK.int IntKind.i64), Cl.pl CK.bool, Cl.pl (CK.int IntKind.i64)] (duD r) = duD r := by
  unfold duD
  simp only [nrmL, Cl.nrm, CK.nrm, map_Li, map_Ls, map_Lis, DV.i, DV.b, l_list, dece_i, dece_s, deces_is]

def uDoF (ds : List DV) : List DV := uDoE (gLi ds 0) (gLs ds 1) (gLis ds 2) (gi ds 3) (gi ds 4) (gi ds 5) (gi ds 6) (gs ds 7)
/-- What the executor makes of it. -/
def uDoTree : PT :=
(.br (.bin .eq (.var 3) (.int 5))
 (.br (.un .not (.bin .eq (.var 5) (.int 0)))
  (.leaf [(.var 0), (.var 1), (.var 2), (.int 0), (.bool false), (.int 1)])
  (.br (.un .not (.bin .eq (.var 6) (.int 0)))
   (.leaf [(.var 0), (.var 1), (.var 2), (.int 0), (.bool false), (.int 1)])
   (.asrt (.bin .le (.un .len (.var 1)) (.int 1000000))
    (.asrt (.bin .le (.un .len (.var 2)) (.int 1000000))
     (.br (.un .not (.bin .eq (.bin .idx (.fn 79 (.bin .cons (.var 1) (.bin .cons (.var 2) (.bin .cons (.var 4) (.bin .cons (.var 7) .nil))))) (.int 2)) (.int 0)))
      (.leaf [(.var 0), (.var 1), (.var 2), (.int 0), (.bool false), (.bin .idx (.fn 79 (.bin .cons (.var 1) (.bin .cons (.var 2) (.bin .cons (.var 4) (.bin .cons (.var 7) .nil))))) (.int 2))])
      (.leaf [(.var 0), (.bin .idx (.fn 79 (.bin .cons (.var 1) (.bin .cons (.var 2) (.bin .cons (.var 4) (.bin .cons (.var 7) .nil))))) (.int 0)), (.bin .idx (.fn 79 (.bin .cons (.var 1) (.bin .cons (.var 2) (.bin .cons (.var 4) (.bin .cons (.var 7) .nil))))) (.int 1)), (.int 0), (.bool true), (.int 0)]))))))
 (.br (.bin .eq (.var 3) (.int 6))
  (.br (.un .not (.bin .and (.bin .eq (.var 3) (.int 6)) (.bin .and (.bin .eq (.var 4) (.int 0)) (.bin .and (.bin .eq (.var 5) (.int 0)) (.bin .and (.bin .eq (.var 6) (.int 0)) (.bin .eqs (.var 7) (.str [])))))))
   (.leaf [(.var 0), (.var 1), (.var 2), (.int 0), (.bool false), (.int 1)])
   (.asrt (.bin .le (.un .len (.var 1)) (.int 1000000))
    (.leaf [(.var 0), (.bin .idx (.fn 81 (.bin .cons (.var 1) (.bin .cons (.var 2) .nil))) (.int 0)), (.bin .idx (.fn 81 (.bin .cons (.var 1) (.bin .cons (.var 2) .nil))) (.int 1)), (.int 0), (.bool true), (.int 0)])))
  (.asrt (.bin .le (.un .len (.var 0)) (.int 1000000))
   (.leaf [(.bin .idx (.fn 0 (.bin .cons (.var 0) (.bin .cons (.var 3) (.bin .cons (.var 4) (.bin .cons (.var 5) (.bin .cons (.var 6) (.bin .cons (.var 7) .nil))))))) (.int 0)), (.var 1), (.var 2), (.bin .idx (.fn 0 (.bin .cons (.var 0) (.bin .cons (.var 3) (.bin .cons (.var 4) (.bin .cons (.var 5) (.bin .cons (.var 6) (.bin .cons (.var 7) .nil))))))) (.int 1)), (.bin .idx (.fn 0 (.bin .cons (.var 0) (.bin .cons (.var 3) (.bin .cons (.var 4) (.bin .cons (.var 5) (.bin .cons (.var 6) (.bin .cons (.var 7) .nil))))))) (.int 2)), (.bin .idx (.fn 0 (.bin .cons (.var 0) (.bin .cons (.var 3) (.bin .cons (.var 4) (.bin .cons (.var 5) (.bin .cons (.var 6) (.bin .cons (.var 7) .nil))))))) (.int 3))]))))

def uDoSm : List (Nat × Smy) := [(36, ⟨0, [.agg [.rows false [.int .i64]], .agg [.pl (.int .i64), .pl (.int .i64), .pl (.int .i64), .pl (.int .i64), .pl .str]], [.agg [.rows false [.int .i64]], .agg [.pl (.int .i64), .pl .bool], .one (.pl (.int .i64))], lenC [(0, 1000000)], none⟩), (33, ⟨79, [.agg [.rows false [.str], .rows false [.int .i64, .str]], .one (.pl (.int .i64)), .one (.pl .str)], [.agg [.rows false [.str], .rows false [.int .i64, .str]], .one (.pl (.int .i64))], lenC [(0, 1000000), (1, 1000000)], none⟩), (35, ⟨81, [.agg [.rows false [.str], .rows false [.int .i64, .str]]], [.agg [.rows false [.str], .rows false [.int .i64, .str]]], lenC [(0, 1000000)], none⟩)]
def uDoLa : List (LK × LA) := []
def uDoPhi : Fs := ⟨fun n d => match n with
  | 0 => .list (memDoF d.l)
  | 79 => .list (dWriteF d.l)
  | 81 => .list (dSyncF d.l)
  | _ => d, 130⟩
theorem uDoS : SmyOk true Tryd.prog uDoPhi uDoSm := (smy_cons (lenP [(0, 1000000)]) memDoF memDo_pure (len_hp [(0, 1000000)]) (fun _ => rfl) (fun _ h => by cases h) (smy_cons (lenP [(0, 1000000), (1, 1000000)]) dWriteF dWrite_pure (len_hp [(0, 1000000), (1, 1000000)]) (fun _ => rfl) (fun _ h => by cases h) (smy_cons (lenP [(0, 1000000)]) dSyncF dSync_pure (len_hp [(0, 1000000)]) (fun _ => rfl) (fun _ h => by cases h) smy_nil)))
theorem uDoT : treeOk ⟨Tryd.prog, uDoSm, uDoLa, true⟩ 4000 11 [.agg [.rows false [.int .i64]], .agg [.rows false [.str], .rows false [.int .i64, .str]], .agg [.pl (.int .i64), .pl (.int .i64), .pl (.int .i64), .pl (.int .i64), .pl .str]] [.agg [.rows false [.int .i64]], .agg [.rows false [.str], .rows false [.int .i64, .str]], .agg [.pl (.int .i64), .pl .bool], .one (.pl (.int .i64))] ([]) uDoTree = true := by decide +kernel
set_option maxHeartbeats 1000000 in
theorem uDo_pure : PureE true Tryd.prog 11 [.agg [.rows false [.int .i64]], .agg [.rows false [.str], .rows false [.int .i64, .str]], .agg [.pl (.int .i64), .pl (.int .i64), .pl (.int .i64), .pl (.int .i64), .pl .str]] [.agg [.rows false [.int .i64]], .agg [.rows false [.str], .rows false [.int .i64, .str]], .agg [.pl (.int .i64), .pl .bool], .one (.pl (.int .i64))] (lenP [(0, 1000000), (1, 1000000), (2, 1000000)]) uDoF := by
  refine pure_tree (X := ⟨Tryd.prog, uDoSm, uDoLa, true⟩) (by decide +kernel) (Checked.mixed Tryd.checked) uDoS (by decide +kernel) (by decide +kernel) uDoT (by decide +kernel) ?_
  intro ds hl hp
  obtain ⟨d0, d1, d2, d3, d4, d5, d6, d7, rfl⟩ := len8 hl
  have b0 : (d0.l.length : Int) ≤ 1000000 := hp (0, 1000000) (by simp)
  have b1 : (d1.l.length : Int) ≤ 1000000 := hp (1, 1000000) (by simp)
  have b2 : (d2.l.length : Int) ≤ 1000000 := hp (2, 1000000) (by simp)
  have hF : uDoF [d0, d1, d2, d3, d4, d5, d6, d7] = uDoE (d0.l.map DV.i) (d1.l.map DV.s) (d2.l.map decis) d3.i d4.i d5.i d6.i d7.s := rfl
  rw [hF]
  clear hF hp hl
  have hN : nrmL (clsOf [.agg [.rows false [.int .i64]], .agg [.rows false [.str], .rows false [.int .i64, .str]], .agg [.pl (.int .i64), .pl (.int .i64), .pl (.int .i64), .pl (.int .i64), .pl .str]]) [d0, d1, d2, d3, d4, d5, d6, d7] = [.list ((d0.l.map DV.i).map DV.int), .list ((d1.l.map DV.s).map DV.str), .list ((d2.l.map decis).map encis), .int d3.i, .int d4.i, .int d5.i, .int d6.i, .str d7.s] := by
    simp only [clsOf, Sh.cls, List.append_nil, List.cons_append, List.nil_append, nrmL, Cl.nrm, CK.nrm, map_Li, map_Lis, map_Ls]
  rw [hN]
  clear hN
  rw [← List.length_map (f := DV.i)] at b0
  generalize d0.l.map DV.i = x0 at b0 ⊢
  rw [← List.length_map (f := DV.s)] at b1
  generalize d1.l.map DV.s = x1 at b1 ⊢
  rw [← List.length_map (f := decis)] at b2
  generalize d2.l.map decis = x2 at b2 ⊢
  generalize d3.i = x3
  generalize d4.i = x4
  generalize d5.i = x5
  generalize d6.i = x6
  generalize d7.s = x7
  refine ⟨facts_nil _, ?_⟩
  unfold uDoTree uDoE
  simp only [Sat, clsOf, Sh.cls, List.append_nil, List.cons_append, List.nil_append, nrmL, Cl.nrm, CK.nrm, List.map_cons, List.map_nil, List.length_cons, List.length_nil, List.cons.injEq, DV.bool.injEq, DV.int.injEq, DV.list.injEq, DV.str.injEq, and_true, true_and]
  simp only [q_le, q_eq, q_eqs, q_eqb, q_and, q_or, q_not, q_bool, iff_true, iff_false, Bool.not_true, Bool.not_false, Bool.false_eq_true, Bool.true_eq_false, eq_self, Bool.not_not]
  simp only [Bool.not_true, Bool.not_false, Bool.true_eq_false, SE.den, evU, evT, ev_le, ev_eq, ev_eqs, ev_eqb, ev_slt, ev_and, ev_or, ev_add, ev_sub, ev_mul, ev_tdiv, ev_tmod, ev_band, ev_bor, ev_bxor, ev_bandn, ev_shl, ev_shr, ev_cat, ev_byte, ev_idx, ev_cons, ev_snoc, ev_app, ev_take, ev_drop, ev_stake, ev_sdrop, ev_rep, leB_q, eqB_q, eqsB_q, not_q, i_if, b_if, l_if, s_if, i_int, b_bool, s_str, l_list, envL, List.getElem?_cons_succ, List.getElem?_cons_zero, List.getElem?_nil, Option.getD_some, Option.getD_none, Int.toNat_natCast, Int.toNat_zero, Int.reduceToNat, List.length_map, get_Li, get_Lb, get_Ls, set_Li, inj_Li, inj_Lb, inj_Ls, rows_i, rows_b, rows_s, Int.zero_add, iff_true, iff_false, and_true, true_and, Bool.false_eq_true, eq_self, not_true_eq_false, not_false_eq_true, List.length_replicate, DV.int.injEq, DV.bool.injEq, DV.str.injEq, DV.list.injEq, List.cons.injEq, f_is_0, rows_is, inj_Lis, f_is_1, rows_is, inj_Lis, uDoPhi, memDoF, memDoE, dWriteF, dWriteE, dSyncF, dSyncE, gi, gb, gs, gLi, gLu, gLb, gLs, dece_i, dece_b, dece_s, gLis, deces_is, nrm_du]
  repeat' (first | apply And.intro | intro)
  all_goals first | omega | (simp_all [duD, duM]; done) | (simp only [duM, duD]; simp_all; done) | skip
  · rename_i h5 h6 hn
    rw [show duM x0 x1 x2 x3 x4 x5 x6 x7 = (x0, x1, x2, (0, false), 1) by
      unfold duM
      rw [if_neg h5, if_pos h6, if_neg (fun h => hn ⟨h6, h⟩)]]
    rfl
end Go.Proofs.YtlaebfjfnbiooaaDoor
