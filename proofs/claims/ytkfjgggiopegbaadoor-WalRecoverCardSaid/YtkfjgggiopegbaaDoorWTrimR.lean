/- The function strings.trimRightByte is a function of data. No condition. -/
import Derived.Test.YtkfjgggiopegbaaDoorWalN
import Derived.Test.YtkfjgggiopegbaaDoorBd
import Derived.Test.YtkfjgggiopegbaaDoorOpen
namespace Go.Proofs.YtkfjgggiopegbaaDoor
set_option linter.unusedVariables false
set_option linter.unusedSimpArgs false
set_option maxRecDepth 100000

def trimR (s : List UInt8) (c : Int) : List UInt8 := (s.reverse.dropWhile fun x => decide ((x.toNat : Int) = c)).reverse
def wTrimRE (s : List UInt8) (c : Int) : List DV := [.str (trimR s c)]
theorem trimR_nil (c : Int) : trimR [] c = [] := rfl
theorem trimR_snoc (s : List UInt8) (x : UInt8) (c : Int) : trimR (s ++ [x]) c = if (x.toNat : Int) = c then trimR s c else s ++ [x] := by
  unfold trimR
  rw [List.reverse_append, List.reverse_singleton, List.singleton_append, List.dropWhile_cons]
  by_cases h : (x.toNat : Int) = c
  · rw [if_pos h, if_pos (by simpa using h)]
  · rw [if_neg h, if_neg (by simpa using h)]; simp

def wTrimRF (ds : List DV) : List DV := wTrimRE (gs ds 0) (gi ds 1)
/-- What the executor makes of it. -/
def wTrimRTree : PT :=
(.loop 2 [(.var 0)]
 (.br (.un .not (.bin .le (.un .slen (.var 2)) (.int 0)))
  (.asrt (.bin .le (.int 0) (.un (.wrap .i64) (.bin .sub (.un .slen (.var 2)) (.int 1))))
   (.asrt (.un .not (.bin .le (.un .slen (.var 2)) (.un (.wrap .i64) (.bin .sub (.un .slen (.var 2)) (.int 1)))))
    (.br (.bin .eq (.bin .byte (.var 2) (.un (.wrap .i64) (.bin .sub (.un .slen (.var 2)) (.int 1)))) (.var 1))
     (.leaf [(.bin .sdrop (.bin .stake (.var 2) (.un (.wrap .i64) (.bin .sub (.un .slen (.var 2)) (.int 1)))) (.int 0))])
     .fail)))
  .fail)
 (.br (.un .not (.bin .le (.un .slen (.var 2)) (.int 0)))
  (.asrt (.bin .le (.int 0) (.un (.wrap .i64) (.bin .sub (.un .slen (.var 2)) (.int 1))))
   (.asrt (.un .not (.bin .le (.un .slen (.var 2)) (.un (.wrap .i64) (.bin .sub (.un .slen (.var 2)) (.int 1)))))
    (.br (.bin .eq (.bin .byte (.var 2) (.un (.wrap .i64) (.bin .sub (.un .slen (.var 2)) (.int 1)))) (.var 1))
     .fail
     (.leaf [(.var 2)]))))
  (.leaf [(.var 2)])))

def wTrimRSm : List (Nat × Smy) := []
def wTrimRLa : List (LK × LA) := [(⟨23, 1, 2, 2, 0⟩, ⟨[(0, (.str (.var 2))), (5, .any), (6, .any), (7, .any), (8, .any), (9, .any), (10, .any), (11, .any), (12, .any), (13, .any), (14, .any), (15, .any), (16, .any), (17, .any), (18, .any), (19, .any), (20, .any), (21, .any)], [], [], 1, 0⟩)]
def wTrimRPhi : Fs := ⟨fun n d => match n with
  | _ => d, 147⟩
theorem wTrimRS : SmyOk true Tryd.prog wTrimRPhi wTrimRSm := smy_nil
theorem wTrimRT : treeOk ⟨Tryd.prog, wTrimRSm, wTrimRLa, true⟩ 4000 77 [.one (.pl .str), .one (.pl (.int .u8))] [.one (.pl .str)] ([]) wTrimRTree = true := by decide +kernel
set_option maxHeartbeats 1000000 in
theorem wTrimR_pure : PureE true Tryd.prog 77 [.one (.pl .str), .one (.pl (.int .u8))] [.one (.pl .str)] (fun ds => (fun _ => True) ds ∧ slenP [(0, 0, 1000000)] ds) wTrimRF := by
  refine pure_tree (X := ⟨Tryd.prog, wTrimRSm, wTrimRLa, true⟩) (by decide +kernel) (Checked.mixed Tryd.checked) wTrimRS (by decide +kernel) (by decide +kernel) wTrimRT (by decide +kernel) ?_
  intro ds hl hp
  obtain ⟨d0, d1, rfl⟩ := len2 hl
  have l0 : 0 ≤ (d0.s.length : Int) ∧ (d0.s.length : Int) ≤ 1000000 := hp.2 (0, 0, 1000000) (by simp)
  have hF : wTrimRF [d0, d1] = wTrimRE d0.s d1.i := rfl
  rw [hF]
  clear hF hp hl
  have hN : nrmL (clsOf [.one (.pl .str), .one (.pl (.int .u8))]) [d0, d1] = [.str d0.s, .int d1.i] := by
    simp only [clsOf, Sh.cls, List.append_nil, List.cons_append, List.nil_append, nrmL, Cl.nrm, CK.nrm]
  rw [hN]
  clear hN
  generalize d0.s = x0 at l0 ⊢
  generalize d1.i = x1
  refine ⟨facts_nil _, ?_⟩
  unfold wTrimRTree wTrimRE
  simp only [Sat, clsOf, Sh.cls, List.append_nil, List.cons_append, List.nil_append, nrmL, Cl.nrm, CK.nrm, List.map_cons, List.map_nil, List.length_cons, List.length_nil, List.cons.injEq, DV.bool.injEq, DV.int.injEq, DV.list.injEq, DV.str.injEq, and_true, true_and]
  simp only [q_le, q_eq, q_eqs, q_eqb, q_and, q_or, q_not, q_bool, iff_true, iff_false, Bool.not_true, Bool.not_false, Bool.false_eq_true, Bool.true_eq_false, eq_self, Bool.not_not]
  simp only [Bool.not_true, Bool.not_false, Bool.true_eq_false, SE.den, evU, evT, ev_le, ev_eq, ev_eqs, ev_eqb, ev_slt, ev_and, ev_or, ev_add, ev_sub, ev_mul, ev_tdiv, ev_tmod, ev_band, ev_bor, ev_bxor, ev_bandn, ev_shl, ev_shr, ev_cat, ev_byte, ev_idx, ev_cons, ev_snoc, ev_app, ev_take, ev_drop, ev_stake, ev_sdrop, ev_rep, leB_q, eqB_q, eqsB_q, not_q, i_if, b_if, l_if, s_if, i_int, b_bool, s_str, l_list, envL, List.getElem?_cons_succ, List.getElem?_cons_zero, List.getElem?_nil, Option.getD_some, Option.getD_none, Int.toNat_natCast, Int.toNat_zero, Int.reduceToNat, List.length_map, get_Li, get_Lb, get_Ls, set_Li, inj_Li, inj_Lb, inj_Ls, rows_i, rows_b, rows_s, Int.zero_add, iff_true, iff_false, and_true, true_and, Bool.false_eq_true, eq_self, not_true_eq_false, not_false_eq_true, List.length_replicate, DV.int.injEq, DV.bool.injEq, DV.str.injEq, DV.list.injEq, List.cons.injEq, wTrimRPhi, gi, gb, gs, gLi, gLu, gLb, gLs, dece_i, dece_b, dece_s]
  refine rounds_inv (fun y => ∃ s : List UInt8, y = [.str s] ∧ s.length ≤ x0.length ∧ trimR s x1 = trimR x0 x1) (fun y => ((y[0]?).getD (DV.int 0)).s.length) ⟨x0, rfl, Nat.le_refl _, rfl⟩ ?_
  rintro y ⟨s, rfl, hs, hall⟩
  simp only [Bool.not_true, Bool.not_false, Bool.true_eq_false, SE.den, evU, evT, ev_le, ev_eq, ev_eqs, ev_eqb, ev_slt, ev_and, ev_or, ev_add, ev_sub, ev_mul, ev_tdiv, ev_tmod, ev_band, ev_bor, ev_bxor, ev_bandn, ev_shl, ev_shr, ev_cat, ev_byte, ev_idx, ev_cons, ev_snoc, ev_app, ev_take, ev_drop, ev_stake, ev_sdrop, ev_rep, leB_q, eqB_q, eqsB_q, not_q, i_if, b_if, l_if, s_if, i_int, b_bool, s_str, l_list, envL, List.getElem?_cons_succ, List.getElem?_cons_zero, List.getElem?_nil, Option.getD_some, Option.getD_none, Int.toNat_natCast, Int.toNat_zero, Int.reduceToNat, List.length_map, get_Li, get_Lb, get_Ls, set_Li, inj_Li, inj_Lb, inj_Ls, rows_i, rows_b, rows_s, Int.zero_add, iff_true, iff_false, and_true, true_and, Bool.false_eq_true, eq_self, not_true_eq_false, not_false_eq_true, List.length_replicate, DV.int.injEq, DV.bool.injEq, DV.str.injEq, DV.list.injEq, List.cons.injEq]
  rcases List.eq_nil_or_concat s with rfl | ⟨s, c, rfl⟩
  · left; rw [← hall]; simp [trimR]
  · rw [List.concat_eq_append] at hall hs ⊢
    have hw : IntKind.i64.wrap (((s ++ [c]).length : Int) - 1) = s.length := by
      have : (s ++ [c]).length = s.length + 1 := by simp
      rw [this] at hs ⊢
      rw [w64 (by omega) (by omega)]; omega
    have hl : ¬ (((s ++ [c]).length : Int)) ≤ 0 := by simp only [List.length_append, List.length_cons, List.length_nil]; omega
    have hl2 : ¬ (((s ++ [c]).length : Int)) ≤ s.length := by simp only [List.length_append, List.length_cons, List.length_nil]; omega
    have hg : (s ++ [c])[s.length]?.getD 0 = c := by simp
    rw [trimR_snoc] at hall
    simp only [hw, Int.toNat_natCast, hg, hl, hl2]
    by_cases hc : (c.toNat : Int) = x1
    · right
      rw [if_pos hc] at hall
      refine ⟨[.str s], ?_, rfl, ⟨s, rfl, by simp only [List.length_append] at hs; omega, hall⟩, ?_⟩
      · simp [hc]
      · simp only [Bool.not_true, Bool.not_false, Bool.true_eq_false, SE.den, evU, evT, ev_le, ev_eq, ev_eqs, ev_eqb, ev_slt, ev_and, ev_or, ev_add, ev_sub, ev_mul, ev_tdiv, ev_tmod, ev_band, ev_bor, ev_bxor, ev_bandn, ev_shl, ev_shr, ev_cat, ev_byte, ev_idx, ev_cons, ev_snoc, ev_app, ev_take, ev_drop, ev_stake, ev_sdrop, ev_rep, leB_q, eqB_q, eqsB_q, not_q, i_if, b_if, l_if, s_if, i_int, b_bool, s_str, l_list, envL, List.getElem?_cons_succ, List.getElem?_cons_zero, List.getElem?_nil, Option.getD_some, Option.getD_none, Int.toNat_natCast, Int.toNat_zero, Int.reduceToNat, List.length_map, get_Li, get_Lb, get_Ls, set_Li, inj_Li, inj_Lb, inj_Ls, rows_i, rows_b, rows_s, Int.zero_add, iff_true, iff_false, and_true, true_and, Bool.false_eq_true, eq_self, not_true_eq_false, not_false_eq_true, List.length_replicate, DV.int.injEq, DV.bool.injEq, DV.str.injEq, DV.list.injEq, List.cons.injEq, List.length_append, List.length_cons, List.length_nil]; omega
    · left
      rw [if_neg hc] at hall
      rw [← hall]
      simp [hc]
end Go.Proofs.YtkfjgggiopegbaaDoor
