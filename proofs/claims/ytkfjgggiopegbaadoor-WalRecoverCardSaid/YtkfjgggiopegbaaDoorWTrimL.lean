/- The function strings.trimLeftByte is a function of data. No condition. -/
import Derived.Test.YtkfjgggiopegbaaDoorWalN
import Derived.Test.YtkfjgggiopegbaaDoorBd
import Derived.Test.YtkfjgggiopegbaaDoorOpen
namespace Go.Proofs.YtkfjgggiopegbaaDoor
set_option linter.unusedVariables false
set_option linter.unusedSimpArgs false
set_option maxRecDepth 100000

def trimL (s : List UInt8) (c : Int) : List UInt8 := s.dropWhile fun x => decide ((x.toNat : Int) = c)
def wTrimLE (s : List UInt8) (c : Int) : List DV := [.str (trimL s c)]

def wTrimLF (ds : List DV) : List DV := wTrimLE (gs ds 0) (gi ds 1)
/-- What the executor makes of it. -/
def wTrimLTree : PT :=
(.loop 2 [(.var 0)]
 (.br (.un .not (.bin .le (.un .slen (.var 2)) (.int 0)))
  (.br (.bin .eq (.bin .byte (.var 2) (.int 0)) (.var 1))
   (.leaf [(.bin .sdrop (.bin .stake (.var 2) (.un .slen (.var 2))) (.int 1))])
   .fail)
  .fail)
 (.br (.un .not (.bin .le (.un .slen (.var 2)) (.int 0)))
  (.br (.bin .eq (.bin .byte (.var 2) (.int 0)) (.var 1))
   .fail
   (.leaf [(.var 2)]))
  (.leaf [(.var 2)])))

def wTrimLSm : List (Nat × Smy) := []
def wTrimLLa : List (LK × LA) := [(⟨17, 1, 2, 2, 0⟩, ⟨[(0, (.str (.var 2))), (5, .any), (6, .any), (7, .any), (8, .any), (9, .any), (10, .any), (11, .any), (12, .any), (13, .any), (14, .any), (15, .any)], [], [], 1, 0⟩)]
def wTrimLPhi : Fs := ⟨fun n d => match n with
  | _ => d, 147⟩
theorem wTrimLS : SmyOk true Tryd.prog wTrimLPhi wTrimLSm := smy_nil
theorem wTrimLT : treeOk ⟨Tryd.prog, wTrimLSm, wTrimLLa, true⟩ 4000 76 [.one (.pl .str), .one (.pl (.int .u8))] [.one (.pl .str)] ([]) wTrimLTree = true := by decide +kernel
set_option maxHeartbeats 1000000 in
theorem wTrimL_pure : PureE true Tryd.prog 76 [.one (.pl .str), .one (.pl (.int .u8))] [.one (.pl .str)] (fun ds => (fun _ => True) ds ∧ slenP [(0, 0, 1000000)] ds) wTrimLF := by
  refine pure_tree (X := ⟨Tryd.prog, wTrimLSm, wTrimLLa, true⟩) (by decide +kernel) (Checked.mixed Tryd.checked) wTrimLS (by decide +kernel) (by decide +kernel) wTrimLT (by decide +kernel) ?_
  intro ds hl hp
  obtain ⟨d0, d1, rfl⟩ := len2 hl
  have l0 : 0 ≤ (d0.s.length : Int) ∧ (d0.s.length : Int) ≤ 1000000 := hp.2 (0, 0, 1000000) (by simp)
  have hF : wTrimLF [d0, d1] = wTrimLE d0.s d1.i := rfl
  rw [hF]
  clear hF hp hl
  have hN : nrmL (clsOf [.one (.pl .str), .one (.pl (.int .u8))]) [d0, d1] = [.str d0.s, .int d1.i] := by
    simp only [clsOf, Sh.cls, List.append_nil, List.cons_append, List.nil_append, nrmL, Cl.nrm, CK.nrm]
  rw [hN]
  clear hN
  generalize d0.s = x0 at l0 ⊢
  generalize d1.i = x1
  refine ⟨facts_nil _, ?_⟩
  unfold wTrimLTree wTrimLE
  simp only [Sat, clsOf, Sh.cls, List.append_nil, List.cons_append, List.nil_append, nrmL, Cl.nrm, CK.nrm, List.map_cons, List.map_nil, List.length_cons, List.length_nil, List.cons.injEq, DV.bool.injEq, DV.int.injEq, DV.list.injEq, DV.str.injEq, and_true, true_and]
  simp only [q_le, q_eq, q_eqs, q_eqb, q_and, q_or, q_not, q_bool, iff_true, iff_false, Bool.not_true, Bool.not_false, Bool.false_eq_true, Bool.true_eq_false, eq_self, Bool.not_not]
  simp only [Bool.not_true, Bool.not_false, Bool.true_eq_false, SE.den, evU, evT, ev_le, ev_eq, ev_eqs, ev_eqb, ev_slt, ev_and, ev_or, ev_add, ev_sub, ev_mul, ev_tdiv, ev_tmod, ev_band, ev_bor, ev_bxor, ev_bandn, ev_shl, ev_shr, ev_cat, ev_byte, ev_idx, ev_cons, ev_snoc, ev_app, ev_take, ev_drop, ev_stake, ev_sdrop, ev_rep, leB_q, eqB_q, eqsB_q, not_q, i_if, b_if, l_if, s_if, i_int, b_bool, s_str, l_list, envL, List.getElem?_cons_succ, List.getElem?_cons_zero, List.getElem?_nil, Option.getD_some, Option.getD_none, Int.toNat_natCast, Int.toNat_zero, Int.reduceToNat, List.length_map, get_Li, get_Lb, get_Ls, set_Li, inj_Li, inj_Lb, inj_Ls, rows_i, rows_b, rows_s, Int.zero_add, iff_true, iff_false, and_true, true_and, Bool.false_eq_true, eq_self, not_true_eq_false, not_false_eq_true, List.length_replicate, DV.int.injEq, DV.bool.injEq, DV.str.injEq, DV.list.injEq, List.cons.injEq, wTrimLPhi, gi, gb, gs, gLi, gLu, gLb, gLs, dece_i, dece_b, dece_s]
  refine rounds_inv (fun y => ∃ s : List UInt8, y = [.str s] ∧ trimL s x1 = trimL x0 x1) (fun y => ((y[0]?).getD (DV.int 0)).s.length) ⟨x0, rfl, rfl⟩ ?_
  rintro y ⟨s, rfl, hall⟩
  simp only [Bool.not_true, Bool.not_false, Bool.true_eq_false, SE.den, evU, evT, ev_le, ev_eq, ev_eqs, ev_eqb, ev_slt, ev_and, ev_or, ev_add, ev_sub, ev_mul, ev_tdiv, ev_tmod, ev_band, ev_bor, ev_bxor, ev_bandn, ev_shl, ev_shr, ev_cat, ev_byte, ev_idx, ev_cons, ev_snoc, ev_app, ev_take, ev_drop, ev_stake, ev_sdrop, ev_rep, leB_q, eqB_q, eqsB_q, not_q, i_if, b_if, l_if, s_if, i_int, b_bool, s_str, l_list, envL, List.getElem?_cons_succ, List.getElem?_cons_zero, List.getElem?_nil, Option.getD_some, Option.getD_none, Int.toNat_natCast, Int.toNat_zero, Int.reduceToNat, List.length_map, get_Li, get_Lb, get_Ls, set_Li, inj_Li, inj_Lb, inj_Ls, rows_i, rows_b, rows_s, Int.zero_add, iff_true, iff_false, and_true, true_and, Bool.false_eq_true, eq_self, not_true_eq_false, not_false_eq_true, List.length_replicate, DV.int.injEq, DV.bool.injEq, DV.str.injEq, DV.list.injEq, List.cons.injEq]
  cases s with
  | nil => left; rw [← hall]; simp [trimL]
  | cons c s =>
    have hl : ¬ (((c :: s).length : Int)) ≤ 0 := by simp only [List.length_cons]; omega
    by_cases hc : (c.toNat : Int) = x1
    · right
      refine ⟨[.str s], ?_, rfl, ⟨s, rfl, ?_⟩, ?_⟩
      · simp [hc, hl]
      · rw [← hall]; unfold trimL; rw [List.dropWhile_cons, if_pos (by simpa using hc)]
      · simp only [Bool.not_true, Bool.not_false, Bool.true_eq_false, SE.den, evU, evT, ev_le, ev_eq, ev_eqs, ev_eqb, ev_slt, ev_and, ev_or, ev_add, ev_sub, ev_mul, ev_tdiv, ev_tmod, ev_band, ev_bor, ev_bxor, ev_bandn, ev_shl, ev_shr, ev_cat, ev_byte, ev_idx, ev_cons, ev_snoc, ev_app, ev_take, ev_drop, ev_stake, ev_sdrop, ev_rep, leB_q, eqB_q, eqsB_q, not_q, i_if, b_if, l_if, s_if, i_int, b_bool, s_str, l_list, envL, List.getElem?_cons_succ, List.getElem?_cons_zero, List.getElem?_nil, Option.getD_some, Option.getD_none, Int.toNat_natCast, Int.toNat_zero, Int.reduceToNat, List.length_map, get_Li, get_Lb, get_Ls, set_Li, inj_Li, inj_Lb, inj_Ls, rows_i, rows_b, rows_s, Int.zero_add, iff_true, iff_false, and_true, true_and, Bool.false_eq_true, eq_self, not_true_eq_false, not_false_eq_true, List.length_replicate, DV.int.injEq, DV.bool.injEq, DV.str.injEq, DV.list.injEq, List.cons.injEq, List.length_cons]; omega
    · left
      rw [← hall]
      unfold trimL
      rw [List.dropWhile_cons, if_neg (by simpa using hc)]
      simp [hc, hl]
      try omega
end Go.Proofs.YtkfjgggiopegbaaDoor
