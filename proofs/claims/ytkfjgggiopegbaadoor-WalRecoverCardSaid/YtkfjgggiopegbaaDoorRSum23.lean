/- The function hallmootref23.Sum is a function of data. No condition. -/
import Derived.Test.YtkfjgggiopegbaaDoorWalM
import Derived.Test.YtkfjgggiopegbaaDoorBd
import Derived.Test.YtkfjgggiopegbaaDoorOpen
namespace Go.Proofs.YtkfjgggiopegbaaDoor
set_option linter.unusedVariables false
set_option linter.unusedSimpArgs false
set_option maxRecDepth 100000

def rSum23E (s : List UInt8) : List DV := [.int (sumM s)]

def rSum23F (ds : List DV) : List DV := rSum23E (gs ds 0)
/-- What the executor makes of it. -/
def rSum23Tree : PT :=
(.loop 1 [(.int 1), (.int 0), (.int 0)]
 (.br (.un .not (.bin .le (.un .slen (.var 0)) (.var 3)))
  (.asrt (.bin .le (.int 0) (.var 3))
   (.leaf [(.bin .tmod (.un (.wrap .i64) (.bin .add (.var 1) (.un (.wrap .i64) (.bin .byte (.var 0) (.var 3))))) (.int 65521)), (.bin .tmod (.un (.wrap .i64) (.bin .add (.var 2) (.bin .tmod (.un (.wrap .i64) (.bin .add (.var 1) (.un (.wrap .i64) (.bin .byte (.var 0) (.var 3))))) (.int 65521)))) (.int 65521)), (.un (.wrap .i64) (.bin .add (.var 3) (.int 1)))]))
  .fail)
 (.br (.un .not (.bin .le (.un .slen (.var 0)) (.var 3)))
  (.asrt (.bin .le (.int 0) (.var 3))
   .fail)
  (.leaf [(.un (.wrap .i64) (.bin .add (.un (.wrap .i64) (.bin .mul (.int 65536) (.var 2))) (.var 1)))])))

def rSum23Sm : List (Nat × Smy) := []
def rSum23La : List (LK × LA) := [(⟨27, 4, 1, 1, 0⟩, ⟨[(3, (.int .i64 (.var 1))), (4, (.int .i64 (.var 2))), (5, (.int .i64 (.var 3))), (6, .any), (7, .any), (8, .any), (9, .any), (10, .any), (11, .any), (12, .any), (13, .any), (14, .any), (15, .any), (16, .any), (17, .any), (18, .any), (19, .any), (20, .any), (21, .any), (22, .any)], [], [], 3, 0⟩)]
def rSum23Phi : Fs := ⟨fun n d => match n with
  | _ => d, 147⟩
theorem rSum23S : SmyOk true Tryd.prog rSum23Phi rSum23Sm := smy_nil
theorem rSum23T : treeOk ⟨Tryd.prog, rSum23Sm, rSum23La, true⟩ 4000 74 [.one (.pl .str)] [.one (.pl (.int .i64))] ([]) rSum23Tree = true := by decide +kernel
set_option maxHeartbeats 1000000 in
theorem rSum23_pure : PureE true Tryd.prog 74 [.one (.pl .str)] [.one (.pl (.int .i64))] (fun ds => (fun _ => True) ds ∧ slenP [(0, 0, 1000000)] ds) rSum23F := by
  refine pure_tree (X := ⟨Tryd.prog, rSum23Sm, rSum23La, true⟩) (by decide +kernel) (Checked.mixed Tryd.checked) rSum23S (by decide +kernel) (by decide +kernel) rSum23T (by decide +kernel) ?_
  intro ds hl hp
  obtain ⟨d0, rfl⟩ := len1 hl
  have l0 : 0 ≤ (d0.s.length : Int) ∧ (d0.s.length : Int) ≤ 1000000 := hp.2 (0, 0, 1000000) (by simp)
  have hF : rSum23F [d0] = rSum23E d0.s := rfl
  rw [hF]
  clear hF hp hl
  have hN : nrmL (clsOf [.one (.pl .str)]) [d0] = [.str d0.s] := by
    simp only [clsOf, Sh.cls, List.append_nil, List.cons_append, List.nil_append, nrmL, Cl.nrm, CK.nrm]
  rw [hN]
  clear hN
  generalize d0.s = x0 at l0 ⊢
  refine ⟨facts_nil _, ?_⟩
  unfold rSum23Tree rSum23E
  simp only [Sat, clsOf, Sh.cls, List.append_nil, List.cons_append, List.nil_append, nrmL, Cl.nrm, CK.nrm, List.map_cons, List.map_nil, List.length_cons, List.length_nil, List.cons.injEq, DV.bool.injEq, DV.int.injEq, DV.list.injEq, DV.str.injEq, and_true, true_and]
  try simp only [q_le, q_eq, q_eqs, q_eqb, q_and, q_or, q_not, q_bool, iff_true, iff_false, Bool.not_true, Bool.not_false, Bool.false_eq_true, Bool.true_eq_false, eq_self, Bool.not_not]
  simp only [Bool.not_true, Bool.not_false, Bool.true_eq_false, SE.den, evU, evT, ev_le, ev_eq, ev_eqs, ev_eqb, ev_slt, ev_and, ev_or, ev_add, ev_sub, ev_mul, ev_tdiv, ev_tmod, ev_band, ev_bor, ev_bxor, ev_bandn, ev_shl, ev_shr, ev_cat, ev_byte, ev_idx, ev_cons, ev_snoc, ev_app, ev_take, ev_drop, ev_stake, ev_sdrop, ev_rep, leB_q, eqB_q, eqsB_q, not_q, i_if, b_if, l_if, s_if, i_int, b_bool, s_str, l_list, envL, List.getElem?_cons_succ, List.getElem?_cons_zero, List.getElem?_nil, Option.getD_some, Option.getD_none, Int.toNat_natCast, Int.toNat_zero, Int.reduceToNat, List.length_map, get_Li, get_Lb, get_Ls, set_Li, inj_Li, inj_Lb, inj_Ls, rows_i, rows_b, rows_s, Int.zero_add, iff_true, iff_false, and_true, true_and, Bool.false_eq_true, eq_self, not_true_eq_false, not_false_eq_true, List.length_replicate, DV.int.injEq, DV.bool.injEq, DV.str.injEq, DV.list.injEq, List.cons.injEq, rSum23Phi, gi, gb, gs, gLi, gLu, gLb, gLs, dece_i, dece_b, dece_s]
  refine rounds_at x0.length (fun i => [.int (sumS (x0.take i)).1, .int (sumS (x0.take i)).2, .int i]) rfl (fun _ => rfl) (fun i hi => ?_) ?_
  · have e1 : ¬ (x0.length : Int) ≤ i := by omega
    have hwi : IntKind.i64.wrap ((i : Int) + 1) = ((i + 1 : Nat) : Int) := by rw [w64 (by omega) (by omega)]; omega
    have hs : x0.take (i + 1) = x0.take i ++ [x0[i]?.getD 0] := by rw [List.take_add_one, List.getElem?_eq_getElem hi]; rfl
    obtain ⟨a0, a1, b0, b1⟩ := sumS_rge (x0.take i)
    have hc : (0 : Int) ≤ ((x0[i]?.getD 0).toNat : Int) ∧ ((x0[i]?.getD 0).toNat : Int) < 256 := by have := (x0[i]?.getD 0).toNat_lt; omega
    rw [hs, sumS_snoc]
    simp only [Bool.not_true, Bool.not_false, Bool.true_eq_false, SE.den, evU, evT, ev_le, ev_eq, ev_eqs, ev_eqb, ev_slt, ev_and, ev_or, ev_add, ev_sub, ev_mul, ev_tdiv, ev_tmod, ev_band, ev_bor, ev_bxor, ev_bandn, ev_shl, ev_shr, ev_cat, ev_byte, ev_idx, ev_cons, ev_snoc, ev_app, ev_take, ev_drop, ev_stake, ev_sdrop, ev_rep, leB_q, eqB_q, eqsB_q, not_q, i_if, b_if, l_if, s_if, i_int, b_bool, s_str, l_list, envL, List.getElem?_cons_succ, List.getElem?_cons_zero, List.getElem?_nil, Option.getD_some, Option.getD_none, Int.toNat_natCast, Int.toNat_zero, Int.reduceToNat, List.length_map, get_Li, get_Lb, get_Ls, set_Li, inj_Li, inj_Lb, inj_Ls, rows_i, rows_b, rows_s, Int.zero_add, iff_true, iff_false, and_true, true_and, Bool.false_eq_true, eq_self, not_true_eq_false, not_false_eq_true, List.length_replicate, DV.int.injEq, DV.bool.injEq, DV.str.injEq, DV.list.injEq, List.cons.injEq, e1, hwi]
    generalize (sumS (x0.take i)).1 = a at *
    generalize (sumS (x0.take i)).2 = b at *
    generalize ((x0[i]?.getD 0).toNat : Int) = c at *
    have w1 : IntKind.i64.wrap c = c := w64 (by omega) (by omega)
    rw [w1]
    have w2 : IntKind.i64.wrap (a + c) = a + c := w64 (by omega) (by omega)
    rw [w2, Int.tmod_eq_emod_of_nonneg (by omega)]
    have w3 : IntKind.i64.wrap (b + (a + c) % 65521) = b + (a + c) % 65521 := w64 (by omega) (by omega)
    rw [w3, Int.tmod_eq_emod_of_nonneg (by omega)]
    exact ⟨fun _ => ⟨by omega, rfl, rfl⟩, fun h => h.elim⟩
  · obtain ⟨a0, a1, b0, b1⟩ := sumS_rge x0
    have hw : IntKind.i64.wrap (IntKind.i64.wrap (65536 * (sumS x0).2) + (sumS x0).1) = sumM x0 := by
      unfold sumM
      rw [w64 (n := 65536 * (sumS x0).2) (by omega) (by omega), w64 (by omega) (by omega)]
      omega
    simp only [Bool.not_true, Bool.not_false, Bool.true_eq_false, SE.den, evU, evT, ev_le, ev_eq, ev_eqs, ev_eqb, ev_slt, ev_and, ev_or, ev_add, ev_sub, ev_mul, ev_tdiv, ev_tmod, ev_band, ev_bor, ev_bxor, ev_bandn, ev_shl, ev_shr, ev_cat, ev_byte, ev_idx, ev_cons, ev_snoc, ev_app, ev_take, ev_drop, ev_stake, ev_sdrop, ev_rep, leB_q, eqB_q, eqsB_q, not_q, i_if, b_if, l_if, s_if, i_int, b_bool, s_str, l_list, envL, List.getElem?_cons_succ, List.getElem?_cons_zero, List.getElem?_nil, Option.getD_some, Option.getD_none, Int.toNat_natCast, Int.toNat_zero, Int.reduceToNat, List.length_map, get_Li, get_Lb, get_Ls, set_Li, inj_Li, inj_Lb, inj_Ls, rows_i, rows_b, rows_s, Int.zero_add, iff_true, iff_false, and_true, true_and, Bool.false_eq_true, eq_self, not_true_eq_false, not_false_eq_true, List.length_replicate, DV.int.injEq, DV.bool.injEq, DV.str.injEq, DV.list.injEq, List.cons.injEq, List.take_length, hw]
    simp
end Go.Proofs.YtkfjgggiopegbaaDoor
