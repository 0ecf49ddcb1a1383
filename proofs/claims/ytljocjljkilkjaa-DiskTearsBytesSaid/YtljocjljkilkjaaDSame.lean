/- The function disk.Same is a function of data. No condition. -/
import Derived.Test.YtljocjljkilkjaaEqS
import Derived.Test.YtljocjljkilkjaaEqW
import Derived.Test.YtljocjljkilkjaaNx
import Derived.Test.YtljocjljkilkjaaBd
import Derived.Test.YtljocjljkilkjaaOpen
namespace Go.Proofs.Ytljocjljkilkjaa
set_option linter.unusedVariables false
set_option linter.unusedSimpArgs false
set_option maxRecDepth 100000

def dSameE (s1 : List (List UInt8)) (w1 : List Tis) (s2 : List (List UInt8)) (w2 : List Tis) : List DV := [.bool (decide (s1 = s2) && decide (w1 = w2))]

def dSameF (ds : List DV) : List DV := dSameE (gLs ds 0) (gLis ds 1) (gLs ds 2) (gLis ds 3)
/-- What the executor makes of it. -/
def dSameTree : PT :=
(.asrt (.bin .le (.un .len (.var 0)) (.int 1000000))
 (.asrt (.bin .le (.un .len (.var 2)) (.int 1000000))
  (.br (.bin .idx (.fn 75 (.bin .cons (.var 0) (.bin .cons (.var 2) .nil))) (.int 0))
   (.asrt (.bin .le (.un .len (.var 1)) (.int 1000000))
    (.asrt (.bin .le (.un .len (.var 3)) (.int 1000000))
     (.leaf [(.bin .idx (.fn 77 (.bin .cons (.var 1) (.bin .cons (.var 3) .nil))) (.int 0))])))
   (.leaf [(.bool false)]))))

def dSameSm : List (Nat × Smy) := [(31, ⟨75, [.one (.rows false [.str]), .one (.rows false [.str])], [.one (.pl .bool)], lenC [(0, 1000000), (1, 1000000)], none⟩), (32, ⟨77, [.one (.rows false [.int .i64, .str]), .one (.rows false [.int .i64, .str])], [.one (.pl .bool)], lenC [(0, 1000000), (1, 1000000)], none⟩)]
def dSameLa : List (LK × LA) := []
def dSamePhi : Nat → DV → DV := fun n d => match n with
  | 75 => .list (eqSF d.l)
  | 77 => .list (eqWF d.l)
  | _ => d
theorem dSameS : SmyOk Try.prog dSamePhi dSameSm := (smy_cons (lenP [(0, 1000000), (1, 1000000)]) eqSF eqS_pure (len_hp [(0, 1000000), (1, 1000000)]) (fun _ => rfl) (fun _ h => by cases h) (smy_cons (lenP [(0, 1000000), (1, 1000000)]) eqWF eqW_pure (len_hp [(0, 1000000), (1, 1000000)]) (fun _ => rfl) (fun _ h => by cases h) smy_nil))
theorem dSameT : treeOk ⟨Try.prog, dSameSm, dSameLa⟩ 4000 13 [.agg [.rows false [.str], .rows false [.int .i64, .str]], .agg [.rows false [.str], .rows false [.int .i64, .str]]] [.one (.pl .bool)] ([]) dSameTree = true := by decide +kernel
set_option maxHeartbeats 1000000 in
theorem dSame_pure : Pure Try.prog 13 [.agg [.rows false [.str], .rows false [.int .i64, .str]], .agg [.rows false [.str], .rows false [.int .i64, .str]]] [.one (.pl .bool)] (lenP [(0, 1000000), (1, 1000000), (2, 1000000), (3, 1000000)]) dSameF := by
  refine pure_tree (X := ⟨Try.prog, dSameSm, dSameLa⟩) (Checked.mixed Try.checked) dSameS (by decide +kernel) (by decide +kernel) dSameT (by decide +kernel) ?_
  intro ds hl hp
  obtain ⟨d0, d1, d2, d3, rfl⟩ := len4 hl
  have b0 : (d0.l.length : Int) ≤ 1000000 := hp (0, 1000000) (by simp)
  have b1 : (d1.l.length : Int) ≤ 1000000 := hp (1, 1000000) (by simp)
  have b2 : (d2.l.length : Int) ≤ 1000000 := hp (2, 1000000) (by simp)
  have b3 : (d3.l.length : Int) ≤ 1000000 := hp (3, 1000000) (by simp)
  have hF : dSameF [d0, d1, d2, d3] = dSameE (d0.l.map DV.s) (d1.l.map decis) (d2.l.map DV.s) (d3.l.map decis) := rfl
  rw [hF]
  clear hF hp hl
  have hN : nrmL (clsOf [.agg [.rows false [.str], .rows false [.int .i64, .str]], .agg [.rows false [.str], .rows false [.int .i64, .str]]]) [d0, d1, d2, d3] = [.list ((d0.l.map DV.s).map DV.str), .list ((d1.l.map decis).map encis), .list ((d2.l.map DV.s).map DV.str), .list ((d3.l.map decis).map encis)] := by
    simp only [clsOf, Sh.cls, List.append_nil, List.cons_append, List.nil_append, nrmL, Cl.nrm, CK.nrm, map_Lis, map_Ls]
  rw [hN]
  clear hN
  rw [← List.length_map (f := DV.s)] at b0
  generalize d0.l.map DV.s = x0 at b0 ⊢
  rw [← List.length_map (f := decis)] at b1
  generalize d1.l.map decis = x1 at b1 ⊢
  rw [← List.length_map (f := DV.s)] at b2
  generalize d2.l.map DV.s = x2 at b2 ⊢
  rw [← List.length_map (f := decis)] at b3
  generalize d3.l.map decis = x3 at b3 ⊢
  refine ⟨facts_nil _, ?_⟩
  unfold dSameTree dSameE
  simp only [Sat, clsOf, Sh.cls, List.append_nil, List.cons_append, List.nil_append, nrmL, Cl.nrm, CK.nrm, List.map_cons, List.map_nil, List.length_cons, List.length_nil, List.cons.injEq, DV.bool.injEq, DV.int.injEq, DV.list.injEq, DV.str.injEq, and_true, true_and]
  try simp only [q_le, q_eq, q_eqs, q_eqb, q_and, q_or, q_not, q_bool, iff_true, iff_false, Bool.not_true, Bool.not_false, Bool.false_eq_true, Bool.true_eq_false, eq_self, Bool.not_not]
  simp only [Bool.not_true, Bool.not_false, Bool.true_eq_false, SE.den, evU, evT, ev_le, ev_eq, ev_eqs, ev_eqb, ev_slt, ev_and, ev_or, ev_add, ev_sub, ev_mul, ev_tdiv, ev_tmod, ev_band, ev_bor, ev_bxor, ev_bandn, ev_shl, ev_shr, ev_cat, ev_byte, ev_idx, ev_cons, ev_snoc, ev_app, ev_take, ev_drop, ev_stake, ev_sdrop, ev_rep, leB_q, eqB_q, eqsB_q, not_q, i_if, b_if, l_if, s_if, i_int, b_bool, s_str, l_list, envL, List.getElem?_cons_succ, List.getElem?_cons_zero, List.getElem?_nil, Option.getD_some, Option.getD_none, Int.toNat_natCast, Int.toNat_zero, Int.reduceToNat, List.length_map, get_Li, get_Lb, get_Ls, set_Li, inj_Li, inj_Lb, inj_Ls, rows_i, rows_b, rows_s, Int.zero_add, iff_true, iff_false, and_true, true_and, Bool.false_eq_true, eq_self, not_true_eq_false, not_false_eq_true, List.length_replicate, DV.int.injEq, DV.bool.injEq, DV.str.injEq, DV.list.injEq, List.cons.injEq, f_is_0, rows_is, inj_Lis, f_is_1, rows_is, inj_Lis, dSamePhi, eqSF, eqSE, eqWF, eqWE, gi, gb, gs, gLi, gLu, gLb, gLs, dece_i, dece_b, dece_s, gLis, deces_is]
  repeat' (first | apply And.intro | intro)
  all_goals first
    | (simp_all; done)
    | trace_state
end Go.Proofs.Ytljocjljkilkjaa
