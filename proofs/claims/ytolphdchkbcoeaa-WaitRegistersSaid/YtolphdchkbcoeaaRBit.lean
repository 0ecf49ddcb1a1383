/- The function hallmootref01.Bit is a function of data. No condition. -/
import Derived.Test.YtolphdchkbcoeaaNx
import Derived.Test.YtolphdchkbcoeaaBd
import Derived.Test.YtolphdchkbcoeaaOpen
namespace Go.Proofs.Ytolphdchkbcoeaa
set_option linter.unusedVariables false
set_option linter.unusedSimpArgs false
set_option maxRecDepth 100000

def rBitE (t : Int) : List DV := [.int (oneM t)]

def rBitF (ds : List DV) : List DV := rBitE (gi ds 0)
/-- What the executor makes of it. -/
def rBitTree : PT :=
(.br (.un .not (.bin .le (.int 0) (.var 0)))
 (.leaf [(.int 0)])
 (.br (.un .not (.bin .le (.var 0) (.int 61)))
  (.leaf [(.int 0)])
  (.loop 1 [(.int 1), (.int 0)]
   (.br (.un .not (.bin .le (.var 0) (.var 2)))
    (.leaf [(.un (.wrap .i64) (.bin .mul (.int 2) (.var 1))), (.un (.wrap .i64) (.bin .add (.var 2) (.int 1)))])
    .fail)
   (.br (.un .not (.bin .le (.var 0) (.var 2)))
    .fail
    (.leaf [(.var 1)])))))

def rBitSm : List (Nat × Smy) := []
def rBitLa : List (LK × LA) := [(⟨19, 5, 1, 1, 2⟩, ⟨[(3, (.int .i64 (.var 1))), (4, (.int .i64 (.var 2))), (11, .any), (12, .any), (13, .any), (14, .any), (15, .any), (16, .any), (17, .any)], [], [], 2, 0⟩)]
def rBitPhi : Fs := ⟨fun n d => match n with
  | _ => d, 115⟩
theorem rBitS : SmyOk true Try.prog rBitPhi rBitSm := smy_nil
theorem rBitT : treeOk ⟨Try.prog, rBitSm, rBitLa, true⟩ 4000 46 [.one (.pl (.int .i64))] [.one (.pl (.int .i64))] ([]) rBitTree = true := by decide +kernel
set_option maxHeartbeats 1000000 in
theorem rBit_pure : PureE true Try.prog 46 [.one (.pl (.int .i64))] [.one (.pl (.int .i64))] (fun _ => True) rBitF := by
  refine pure_tree (X := ⟨Try.prog, rBitSm, rBitLa, true⟩) (by decide +kernel) (Checked.mixed Try.checked) rBitS (by decide +kernel) (by decide +kernel) rBitT (by decide +kernel) ?_
  intro ds hl hp
  obtain ⟨d0, rfl⟩ := len1 hl
  have hF : rBitF [d0] = rBitE d0.i := rfl
  rw [hF]
  clear hF hp hl
  have hN : nrmL (clsOf [.one (.pl (.int .i64))]) [d0] = [.int d0.i] := by
    simp only [clsOf, Sh.cls, List.append_nil, List.cons_append, List.nil_append, nrmL, Cl.nrm, CK.nrm]
  rw [hN]
  clear hN
  generalize d0.i = x0
  refine ⟨facts_nil _, ?_⟩
  unfold rBitTree rBitE
  simp only [Sat, clsOf, Sh.cls, List.append_nil, List.cons_append, List.nil_append, nrmL, Cl.nrm, CK.nrm, List.map_cons, List.map_nil, List.length_cons, List.length_nil, List.cons.injEq, DV.bool.injEq, DV.int.injEq, DV.list.injEq, DV.str.injEq, and_true, true_and]
  simp only [q_le, q_eq, q_eqs, q_eqb, q_and, q_or, q_not, q_bool, iff_true, iff_false, Bool.not_true, Bool.not_false, Bool.false_eq_true, Bool.true_eq_false, eq_self, Bool.not_not]
  simp only [Bool.not_true, Bool.not_false, Bool.true_eq_false, SE.den, evU, evT, ev_le, ev_eq, ev_eqs, ev_eqb, ev_slt, ev_and, ev_or, ev_add, ev_sub, ev_mul, ev_tdiv, ev_tmod, ev_band, ev_bor, ev_bxor, ev_bandn, ev_shl, ev_shr, ev_cat, ev_byte, ev_idx, ev_cons, ev_snoc, ev_app, ev_take, ev_drop, ev_stake, ev_sdrop, ev_rep, leB_q, eqB_q, eqsB_q, not_q, i_if, b_if, l_if, s_if, i_int, b_bool, s_str, l_list, envL, List.getElem?_cons_succ, List.getElem?_cons_zero, List.getElem?_nil, Option.getD_some, Option.getD_none, Int.toNat_natCast, Int.toNat_zero, Int.reduceToNat, List.length_map, get_Li, get_Lb, get_Ls, set_Li, inj_Li, inj_Lb, inj_Ls, rows_i, rows_b, rows_s, Int.zero_add, iff_true, iff_false, and_true, true_and, Bool.false_eq_true, eq_self, not_true_eq_false, not_false_eq_true, List.length_replicate, DV.int.injEq, DV.bool.injEq, DV.str.injEq, DV.list.injEq, List.cons.injEq]
  refine ⟨fun h => by unfold oneM; rw [if_neg (by omega)], fun h0 => ⟨fun h => by unfold oneM; rw [if_neg (by omega)], fun h1 => ?_⟩⟩
  refine rounds_at x0.toNat (fun i => [.int (2 ^ i), .int i]) rfl (fun _ => rfl) (fun i hi => ?_) ?_
  · have hp := pow_lt (i + 1) (by omega)
    simp only [Bool.not_true, Bool.not_false, Bool.true_eq_false, SE.den, evU, evT, ev_le, ev_eq, ev_eqs, ev_eqb, ev_slt, ev_and, ev_or, ev_add, ev_sub, ev_mul, ev_tdiv, ev_tmod, ev_band, ev_bor, ev_bxor, ev_bandn, ev_shl, ev_shr, ev_cat, ev_byte, ev_idx, ev_cons, ev_snoc, ev_app, ev_take, ev_drop, ev_stake, ev_sdrop, ev_rep, leB_q, eqB_q, eqsB_q, not_q, i_if, b_if, l_if, s_if, i_int, b_bool, s_str, l_list, envL, List.getElem?_cons_succ, List.getElem?_cons_zero, List.getElem?_nil, Option.getD_some, Option.getD_none, Int.toNat_natCast, Int.toNat_zero, Int.reduceToNat, List.length_map, get_Li, get_Lb, get_Ls, set_Li, inj_Li, inj_Lb, inj_Ls, rows_i, rows_b, rows_s, Int.zero_add, iff_true, iff_false, and_true, true_and, Bool.false_eq_true, eq_self, not_true_eq_false, not_false_eq_true, List.length_replicate, DV.int.injEq, DV.bool.injEq, DV.str.injEq, DV.list.injEq, List.cons.injEq]
    rw [Int.pow_succ, Int.mul_comm] at hp
    have e : ¬ x0 ≤ (i : Int) := by omega
    simp only [e, w64 (n := 2 * 2 ^ i) (by omega) (by omega), w64 (n := (i : Int) + 1) (by omega) (by omega)]
    simp [Int.pow_succ, Int.mul_comm]
  · simp only [Bool.not_true, Bool.not_false, Bool.true_eq_false, SE.den, evU, evT, ev_le, ev_eq, ev_eqs, ev_eqb, ev_slt, ev_and, ev_or, ev_add, ev_sub, ev_mul, ev_tdiv, ev_tmod, ev_band, ev_bor, ev_bxor, ev_bandn, ev_shl, ev_shr, ev_cat, ev_byte, ev_idx, ev_cons, ev_snoc, ev_app, ev_take, ev_drop, ev_stake, ev_sdrop, ev_rep, leB_q, eqB_q, eqsB_q, not_q, i_if, b_if, l_if, s_if, i_int, b_bool, s_str, l_list, envL, List.getElem?_cons_succ, List.getElem?_cons_zero, List.getElem?_nil, Option.getD_some, Option.getD_none, Int.toNat_natCast, Int.toNat_zero, Int.reduceToNat, List.length_map, get_Li, get_Lb, get_Ls, set_Li, inj_Li, inj_Lb, inj_Ls, rows_i, rows_b, rows_s, Int.zero_add, iff_true, iff_false, and_true, true_and, Bool.false_eq_true, eq_self, not_true_eq_false, not_false_eq_true, List.length_replicate, DV.int.injEq, DV.bool.injEq, DV.str.injEq, DV.list.injEq, List.cons.injEq]
    have e : x0 ≤ (x0.toNat : Int) := by omega
    simp only [e, oneM]
    simp
    omega
end Go.Proofs.Ytolphdchkbcoeaa
