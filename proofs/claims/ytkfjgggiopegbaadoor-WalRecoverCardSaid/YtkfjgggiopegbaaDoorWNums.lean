/- The function wire.Nums is a function of data. No condition. -/
import Derived.Test.YtkfjgggiopegbaaDoorWPut
import Derived.Test.YtkfjgggiopegbaaDoorWalM
import Derived.Test.YtkfjgggiopegbaaDoorBd
import Derived.Test.YtkfjgggiopegbaaDoorOpen
namespace Go.Proofs.YtkfjgggiopegbaaDoor
set_option linter.unusedVariables false
set_option linter.unusedSimpArgs false
set_option maxRecDepth 100000

def wNumsE (l : List Int) : List DV := [.list ((numsR l).map .int)]

def wNumsF (ds : List DV) : List DV := wNumsE (gLi ds 0)
/-- What the executor makes of it. -/
def wNumsTree : PT :=
(.loop 1 [(.bin .idx (.fn 93 (.bin .cons (.un .len (.var 0)) .nil)) (.int 0)), (.int 0)]
 (.br (.un .not (.bin .le (.un .len (.var 0)) (.var 2)))
  (.asrt (.bin .le (.int 0) (.var 2))
   (.asrt (.bin .le (.bin .add (.un .len (.var 1)) (.un .len (.bin .idx (.fn 93 (.bin .cons (.bin .idx (.var 0) (.bin .add (.int 0) (.var 2))) .nil)) (.int 0)))) (.int 4294967296))
    (.leaf [(.bin .app (.var 1) (.bin .idx (.fn 93 (.bin .cons (.bin .idx (.var 0) (.bin .add (.int 0) (.var 2))) .nil)) (.int 0))), (.un (.wrap .i64) (.bin .add (.var 2) (.int 1)))])))
  .fail)
 (.br (.un .not (.bin .le (.un .len (.var 0)) (.var 2)))
  (.asrt (.bin .le (.int 0) (.var 2))
   (.asrt (.bin .le (.bin .add (.un .len (.var 1)) (.un .len (.bin .idx (.fn 93 (.bin .cons (.bin .idx (.var 0) (.bin .add (.int 0) (.var 2))) .nil)) (.int 0)))) (.int 4294967296))
    .fail))
  (.leaf [(.var 1)])))

def wNumsSm : List (Nat × Smy) := [(84, ⟨93, [.one (.pl (.int .i64))], [.one (.rows true [.int .u8])], fun _ => [], none⟩)]
def wNumsLa : List (LK × LA) := [(⟨21, 3, 2, 1, 0⟩, ⟨[(3, (.sl 2 1 (.int 0) (.un .len (.var 1)) none)), (5, .any), (11, (.int .i64 (.var 2))), (12, .any), (13, .any), (14, .any), (15, .any), (16, .any), (17, .any), (18, .any), (19, .any)], [(2, (.rows [.int .u8] (.var 1)))], [1], 2, 1⟩)]
def wNumsPhi : Fs := ⟨fun n d => match n with
  | 93 => .list (wPutF d.l)
  | _ => d, 147⟩
theorem wNumsS : SmyOk true Tryd.prog wNumsPhi wNumsSm := (smy_cons (fun _ => True) wPutF wPut_pure (fun _ _ _ _ => trivial) (fun _ => rfl) (fun _ h => by cases h) smy_nil)
theorem wNumsT : treeOk ⟨Tryd.prog, wNumsSm, wNumsLa, true⟩ 4000 49 [.one (.rows false [.int .i64])] [.one (.rows true [.int .u8])] ([]) wNumsTree = true := by decide +kernel
set_option maxHeartbeats 1000000 in
theorem wNums_pure : PureE true Tryd.prog 49 [.one (.rows false [.int .i64])] [.one (.rows true [.int .u8])] (lenP [(0, 1000)]) wNumsF := by
  refine pure_tree (X := ⟨Tryd.prog, wNumsSm, wNumsLa, true⟩) (by decide +kernel) (Checked.mixed Tryd.checked) wNumsS (by decide +kernel) (by decide +kernel) wNumsT (by decide +kernel) ?_
  intro ds hl hp
  obtain ⟨d0, rfl⟩ := len1 hl
  have b0 : (d0.l.length : Int) ≤ 1000 := hp (0, 1000) (by simp)
  have hF : wNumsF [d0] = wNumsE (d0.l.map DV.i) := rfl
  rw [hF]
  clear hF hp hl
  have hN : nrmL (clsOf [.one (.rows false [.int .i64])]) [d0] = [.list ((d0.l.map DV.i).map DV.int)] := by
    simp only [clsOf, Sh.cls, List.append_nil, List.cons_append, List.nil_append, nrmL, Cl.nrm, CK.nrm, map_Li]
  rw [hN]
  clear hN
  rw [← List.length_map (f := DV.i)] at b0
  generalize d0.l.map DV.i = x0 at b0 ⊢
  refine ⟨facts_nil _, ?_⟩
  unfold wNumsTree wNumsE
  simp only [Sat, clsOf, Sh.cls, List.append_nil, List.cons_append, List.nil_append, nrmL, Cl.nrm, CK.nrm, List.map_cons, List.map_nil, List.length_cons, List.length_nil, List.cons.injEq, DV.bool.injEq, DV.int.injEq, DV.list.injEq, DV.str.injEq, and_true, true_and]
  try simp only [q_le, q_eq, q_eqs, q_eqb, q_and, q_or, q_not, q_bool, iff_true, iff_false, Bool.not_true, Bool.not_false, Bool.false_eq_true, Bool.true_eq_false, eq_self, Bool.not_not]
  simp only [Bool.not_true, Bool.not_false, Bool.true_eq_false, SE.den, evU, evT, ev_le, ev_eq, ev_eqs, ev_eqb, ev_slt, ev_and, ev_or, ev_add, ev_sub, ev_mul, ev_tdiv, ev_tmod, ev_band, ev_bor, ev_bxor, ev_bandn, ev_shl, ev_shr, ev_cat, ev_byte, ev_idx, ev_cons, ev_snoc, ev_app, ev_take, ev_drop, ev_stake, ev_sdrop, ev_rep, leB_q, eqB_q, eqsB_q, not_q, i_if, b_if, l_if, s_if, i_int, b_bool, s_str, l_list, envL, List.getElem?_cons_succ, List.getElem?_cons_zero, List.getElem?_nil, Option.getD_some, Option.getD_none, Int.toNat_natCast, Int.toNat_zero, Int.reduceToNat, List.length_map, get_Li, get_Lb, get_Ls, set_Li, inj_Li, inj_Lb, inj_Ls, rows_i, rows_b, rows_s, Int.zero_add, iff_true, iff_false, and_true, true_and, Bool.false_eq_true, eq_self, not_true_eq_false, not_false_eq_true, List.length_replicate, DV.int.injEq, DV.bool.injEq, DV.str.injEq, DV.list.injEq, List.cons.injEq, wNumsPhi, wPutF, wPutE, gi, gb, gs, gLi, gLu, gLb, gLs, dece_i, dece_b, dece_s]
  have hl : ∀ i, ((x0.take i).flatMap putR).length ≤ 10 * i := fun i => by
    induction i with
    | zero => simp
    | succ i ih =>
      rw [List.take_add_one, List.flatMap_append, List.length_append]
      cases x0[i]? with
      | none => simp only [Option.toList_none, List.flatMap_nil, List.length_nil]; omega
      | some n => have := (putR_len n).2; simp only [Option.toList_some, List.flatMap_cons, List.flatMap_nil, List.append_nil]; omega
  have hp := putR_len (x0.length : Int)
  refine rounds_at x0.length (fun i => [.list ((putR x0.length ++ (x0.take i).flatMap putR).map .int), .int i]) (by simp) (fun _ => rfl) (fun i hi => ?_) ?_
  · have e1 : ¬ (x0.length : Int) ≤ i := by omega
    have hwi : IntKind.i64.wrap ((i : Int) + 1) = ((i + 1 : Nat) : Int) := by rw [w64 (by omega) (by omega)]; omega
    have hs : x0.take (i + 1) = x0.take i ++ [x0[i]?.getD 0] := by rw [List.take_add_one, List.getElem?_eq_getElem hi]; rfl
    have hpi := putR_len (x0[i]?.getD 0)
    have hli := hl i
    rw [hs, List.flatMap_append]
    simp only [Bool.not_true, Bool.not_false, Bool.true_eq_false, SE.den, evU, evT, ev_le, ev_eq, ev_eqs, ev_eqb, ev_slt, ev_and, ev_or, ev_add, ev_sub, ev_mul, ev_tdiv, ev_tmod, ev_band, ev_bor, ev_bxor, ev_bandn, ev_shl, ev_shr, ev_cat, ev_byte, ev_idx, ev_cons, ev_snoc, ev_app, ev_take, ev_drop, ev_stake, ev_sdrop, ev_rep, leB_q, eqB_q, eqsB_q, not_q, i_if, b_if, l_if, s_if, i_int, b_bool, s_str, l_list, envL, List.getElem?_cons_succ, List.getElem?_cons_zero, List.getElem?_nil, Option.getD_some, Option.getD_none, Int.toNat_natCast, Int.toNat_zero, Int.reduceToNat, List.length_map, get_Li, get_Lb, get_Ls, set_Li, inj_Li, inj_Lb, inj_Ls, rows_i, rows_b, rows_s, Int.zero_add, iff_true, iff_false, and_true, true_and, Bool.false_eq_true, eq_self, not_true_eq_false, not_false_eq_true, List.length_replicate, DV.int.injEq, DV.bool.injEq, DV.str.injEq, DV.list.injEq, List.cons.injEq, wNumsPhi, wPutF, wPutE, gi, gb, gs, gLi, gLu, gLb, gLs, dece_i, dece_b, dece_s, e1, hwi, List.length_append, app_Li, List.flatMap_cons, List.flatMap_nil, List.append_nil, List.append_assoc]
    exact ⟨fun _ => ⟨by omega, by omega⟩, fun h => h.elim⟩
  · simp only [Bool.not_true, Bool.not_false, Bool.true_eq_false, SE.den, evU, evT, ev_le, ev_eq, ev_eqs, ev_eqb, ev_slt, ev_and, ev_or, ev_add, ev_sub, ev_mul, ev_tdiv, ev_tmod, ev_band, ev_bor, ev_bxor, ev_bandn, ev_shl, ev_shr, ev_cat, ev_byte, ev_idx, ev_cons, ev_snoc, ev_app, ev_take, ev_drop, ev_stake, ev_sdrop, ev_rep, leB_q, eqB_q, eqsB_q, not_q, i_if, b_if, l_if, s_if, i_int, b_bool, s_str, l_list, envL, List.getElem?_cons_succ, List.getElem?_cons_zero, List.getElem?_nil, Option.getD_some, Option.getD_none, Int.toNat_natCast, Int.toNat_zero, Int.reduceToNat, List.length_map, get_Li, get_Lb, get_Ls, set_Li, inj_Li, inj_Lb, inj_Ls, rows_i, rows_b, rows_s, Int.zero_add, iff_true, iff_false, and_true, true_and, Bool.false_eq_true, eq_self, not_true_eq_false, not_false_eq_true, List.length_replicate, DV.int.injEq, DV.bool.injEq, DV.str.injEq, DV.list.injEq, List.cons.injEq, List.take_length]
    simp [numsR]
end Go.Proofs.YtkfjgggiopegbaaDoor
