/- The function disk.Write is a function of data. No condition. -/
import Derived.Test.YtlaebfjfnbiooaaDoorClS
import Derived.Test.YtlaebfjfnbiooaaDoorClW
import Derived.Test.YtlaebfjfnbiooaaDoorBd
import Derived.Test.YtlaebfjfnbiooaaDoorOpen
namespace Go.Proofs.YtlaebfjfnbiooaaDoor
set_option linter.unusedVariables false
set_option linter.unusedSimpArgs false
set_option maxRecDepth 100000

/-- A write: the sectors, the undo records, the error. -/
def writeM (sec : List (List UInt8)) (was : List Tis) (at' : Int) (b : List UInt8) : List (List UInt8) × List Tis × Int :=
  if 0 ≤ at' ∧ at' < sec.length then (if (b.length : Int) = 32 then (sec.set at'.toNat b, was ++ [(at', sec[at'.toNat]?.getD [])], 0) else (sec, was, 1)) else (sec, was, 8)
def dWriteE (sec : List (List UInt8)) (was : List Tis) (at' : Int) (b : List UInt8) : List DV := [.list ((writeM sec was at' b).1.map DV.str), .list ((writeM sec was at' b).2.1.map encis), .int (writeM sec was at' b).2.2]

def dWriteF (ds : List DV) : List DV := dWriteE (gLs ds 0) (gLis ds 1) (gi ds 2) (gs ds 3)
/-- What the executor makes of it. -/
def dWriteTree : PT :=
(.br (.bin .le (.int 0) (.var 2))
 (.br (.bin .le (.un .len (.var 0)) (.var 2))
  (.leaf [(.var 0), (.var 1), (.int 8)])
  (.br (.un .not (.bin .eq (.un .slen (.var 3)) (.int 32)))
   (.leaf [(.var 0), (.var 1), (.int 1)])
   (.asrt (.bin .le (.un .len (.var 0)) (.int 1000000))
    (.asrt (.bin .le (.un .len (.var 1)) (.int 1000000))
     (.asrt (.bin .le (.bin .add (.un .len (.bin .idx (.fn 71 (.bin .cons (.var 1) .nil)) (.int 0))) (.int 1)) (.int 4294967296))
      (.asrt (.un .not (.bin .le (.un .len (.bin .idx (.fn 65 (.bin .cons (.var 0) .nil)) (.int 0))) (.var 2)))
       (.leaf [(.tri .set (.bin .idx (.fn 65 (.bin .cons (.var 0) .nil)) (.int 0)) (.bin .add (.int 0) (.var 2)) (.var 3)), (.bin .snoc (.bin .idx (.fn 71 (.bin .cons (.var 1) .nil)) (.int 0)) (.bin .cons (.var 2) (.bin .cons (.bin .idx (.var 0) (.bin .add (.int 0) (.var 2))) .nil))), (.int 0)])))))))
 (.leaf [(.var 0), (.var 1), (.int 8)]))

def dWriteSm : List (Nat × Smy) := [(61, ⟨65, [.one (.rows false [.str])], [.one (.rows true [.str])], lenC [(0, 1000000)], none⟩), (62, ⟨71, [.one (.rows false [.int .i64, .str])], [.one (.rows true [.int .i64, .str])], lenC [(0, 1000000)], none⟩)]
def dWriteLa : List (LK × LA) := []
def dWritePhi : Fs := ⟨fun n d => match n with
  | 65 => .list (clSF d.l)
  | 71 => .list (clWF d.l)
  | _ => d, 130⟩
theorem dWriteS : SmyOk true Tryd.prog dWritePhi dWriteSm := (smy_cons (lenP [(0, 1000000)]) clSF clS_pure (len_hp [(0, 1000000)]) (fun _ => rfl) (fun _ h => by cases h) (smy_cons (lenP [(0, 1000000)]) clWF clW_pure (len_hp [(0, 1000000)]) (fun _ => rfl) (fun _ h => by cases h) smy_nil))
theorem dWriteT : treeOk ⟨Tryd.prog, dWriteSm, dWriteLa, true⟩ 4000 33 [.agg [.rows false [.str], .rows false [.int .i64, .str]], .one (.pl (.int .i64)), .one (.pl .str)] [.agg [.rows false [.str], .rows false [.int .i64, .str]], .one (.pl (.int .i64))] ([]) dWriteTree = true := by decide +kernel
set_option maxHeartbeats 1000000 in
theorem dWrite_pure : PureE true Tryd.prog 33 [.agg [.rows false [.str], .rows false [.int .i64, .str]], .one (.pl (.int .i64)), .one (.pl .str)] [.agg [.rows false [.str], .rows false [.int .i64, .str]], .one (.pl (.int .i64))] (lenP [(0, 1000000), (1, 1000000)]) dWriteF := by
  refine pure_tree (X := ⟨Tryd.prog, dWriteSm, dWriteLa, true⟩) (by decide +kernel) (Checked.mixed Tryd.checked) dWriteS (by decide +kernel) (by decide +kernel) dWriteT (by decide +kernel) ?_
  intro ds hl hp
  obtain ⟨d0, d1, d2, d3, rfl⟩ := len4 hl
  have b0 : (d0.l.length : Int) ≤ 1000000 := hp (0, 1000000) (by simp)
  have b1 : (d1.l.length : Int) ≤ 1000000 := hp (1, 1000000) (by simp)
  have hF : dWriteF [d0, d1, d2, d3] = dWriteE (d0.l.map DV.s) (d1.l.map decis) d2.i d3.s := rfl
  rw [hF]
  clear hF hp hl
  have hN : nrmL (clsOf [.agg [.rows false [.str], .rows false [.int .i64, .str]], .one (.pl (.int .i64)), .one (.pl .str)]) [d0, d1, d2, d3] = [.list ((d0.l.map DV.s).map DV.str), .list ((d1.l.map decis).map encis), .int d2.i, .str d3.s] := by
    simp only [clsOf, Sh.cls, List.append_nil, List.cons_append, List.nil_append, nrmL, Cl.nrm, CK.nrm, map_Lis, map_Ls]
  rw [hN]
  clear hN
  rw [← List.length_map (f := DV.s)] at b0
  generalize d0.l.map DV.s = x0 at b0 ⊢
  rw [← List.length_map (f := decis)] at b1
  generalize d1.l.map decis = x1 at b1 ⊢
  generalize d2.i = x2
  generalize d3.s = x3
  refine ⟨facts_nil _, ?_⟩
  unfold dWriteTree dWriteE
  simp only [Sat, clsOf, Sh.cls, List.append_nil, List.cons_append, List.nil_append, nrmL, Cl.nrm, CK.nrm, List.map_cons, List.map_nil, List.length_cons, List.length_nil, List.cons.injEq, DV.bool.injEq, DV.int.injEq, DV.list.injEq, DV.str.injEq, and_true, true_and]
  try simp only [q_le, q_eq, q_eqs, q_eqb, q_and, q_or, q_not, q_bool, iff_true, iff_false, Bool.not_true, Bool.not_false, Bool.false_eq_true, Bool.true_eq_false, eq_self, Bool.not_not]
  simp only [Bool.not_true, Bool.not_false, Bool.true_eq_false, SE.den, evU, evT, ev_le, ev_eq, ev_eqs, ev_eqb, ev_slt, ev_and, ev_or, ev_add, ev_sub, ev_mul, ev_tdiv, ev_tmod, ev_band, ev_bor, ev_bxor, ev_bandn, ev_shl, ev_shr, ev_cat, ev_byte, ev_idx, ev_cons, ev_snoc, ev_app, ev_take, ev_drop, ev_stake, ev_sdrop, ev_rep, leB_q, eqB_q, eqsB_q, not_q, i_if, b_if, l_if, s_if, i_int, b_bool, s_str, l_list, envL, List.getElem?_cons_succ, List.getElem?_cons_zero, List.getElem?_nil, Option.getD_some, Option.getD_none, Int.toNat_natCast, Int.toNat_zero, Int.reduceToNat, List.length_map, get_Li, get_Lb, get_Ls, set_Li, inj_Li, inj_Lb, inj_Ls, rows_i, rows_b, rows_s, Int.zero_add, iff_true, iff_false, and_true, true_and, Bool.false_eq_true, eq_self, not_true_eq_false, not_false_eq_true, List.length_replicate, DV.int.injEq, DV.bool.injEq, DV.str.injEq, DV.list.injEq, List.cons.injEq, f_is_0, rows_is, inj_Lis, f_is_1, rows_is, inj_Lis, dWritePhi, clSF, clSE, clWF, clWE, gi, gb, gs, gLi, gLu, gLb, gLs, dece_i, dece_b, dece_s, gLis, deces_is]
  have hset : ∀ (j : Nat), (x0.map DV.str).set j (DV.str x3) = (x0.set j x3).map DV.str := fun j => by rw [List.map_set]
  have hget : ∀ j : Nat, ((x0.map DV.str)[j]?).getD (DV.int 0) = if j < x0.length then DV.str (x0[j]?.getD []) else DV.int 0 := fun j => by
    rw [List.getElem?_map]
    split
    · rw [List.getElem?_eq_getElem (by assumption)]; rfl
    · rw [List.getElem?_eq_none (by omega)]; rfl
  have happ : ∀ w : Tis, List.map encis x1 ++ [encis w] = (x1 ++ [w]).map encis := fun w => by rw [List.map_append]; rfl
  by_cases h : 0 ≤ x2 ∧ x2 < x0.length
  · have e1 : x2.toNat < x0.length := by omega
    have hw : DV.list [DV.int x2, DV.str (x0[x2.toNat]?.getD [])] = encis (x2, x0[x2.toNat]?.getD []) := rfl
    have h2 : ¬ (x0.length : Int) ≤ x2 := by omega
    simp only [hset, hget, e1, if_true, hw, happ, rows_s, rows_is]
    by_cases h32 : (x3.length : Int) = 32
    · have hm : writeM x0 x1 x2 x3 = (x0.set x2.toNat x3, x1 ++ [(x2, x0[x2.toNat]?.getD [])], 0) := by unfold writeM; rw [if_pos h, if_pos h32]
      simp only [hm, h.1, h2, h32, List.length_map, List.length_set, e1]
      simp
      omega
    · have hm : writeM x0 x1 x2 x3 = (x0, x1, 1) := by unfold writeM; rw [if_pos h, if_neg h32]
      simp only [hm, h.1, h2, h32]
      simp
  · have hm : writeM x0 x1 x2 x3 = (x0, x1, 8) := by unfold writeM; rw [if_neg h]
    simp only [hm, rows_s, rows_is]
    by_cases h0 : 0 ≤ x2
    · have h2 : (x0.length : Int) ≤ x2 := by omega
      simp only [h0, h2]
      simp
    · simp only [h0]
      simp
end Go.Proofs.YtlaebfjfnbiooaaDoor
