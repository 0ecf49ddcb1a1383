/- The function wal.Recover is a function of data. No condition. -/
import Derived.Test.YtkfjgggiopegbaaDoorWParse
import Derived.Test.YtkfjgggiopegbaaDoorWalR
import Derived.Test.YtkfjgggiopegbaaDoorBd
import Derived.Test.YtkfjgggiopegbaaDoorOpen
namespace Go.Proofs.YtkfjgggiopegbaaDoor
set_option linter.unusedVariables false
set_option linter.unusedSimpArgs false
set_option maxRecDepth 100000

def wRecoverE (l : List (List UInt8)) : List DV := [.list ((recoverM l).1.map encEn), .int (recoverM l).2]

def wRecoverF (ds : List DV) : List DV := wRecoverE (gLs ds 0)
/-- What the executor makes of it. -/
def wRecoverTree : PT :=
(.loop 1 [.nil, (.int 0), (.int 0)]
 (.asrt (.bin .le (.un .len (.var 0)) (.int 1000))
  (.br (.un .not (.bin .eq (.bin .idx (.fn 105 (.bin .cons (.var 0) (.bin .cons (.var 2) .nil))) (.int 3)) (.int 0)))
   .fail
   (.br (.bin .le (.bin .idx (.fn 105 (.bin .cons (.var 0) (.bin .cons (.var 2) .nil))) (.int 0)) (.var 3))
    .fail
    (.asrt (.bin .le (.bin .add (.un .len (.var 1)) (.int 1)) (.int 4294967296))
     (.leaf [(.bin .snoc (.var 1) (.bin .cons (.bin .idx (.fn 105 (.bin .cons (.var 0) (.bin .cons (.var 2) .nil))) (.int 0)) (.bin .cons (.bin .idx (.fn 105 (.bin .cons (.var 0) (.bin .cons (.var 2) .nil))) (.int 1)) .nil))), (.un (.wrap .i64) (.bin .add (.var 2) (.bin .idx (.fn 105 (.bin .cons (.var 0) (.bin .cons (.var 2) .nil))) (.int 2)))), (.bin .idx (.fn 105 (.bin .cons (.var 0) (.bin .cons (.var 2) .nil))) (.int 0))])))))
 (.asrt (.bin .le (.un .len (.var 0)) (.int 1000))
  (.br (.un .not (.bin .eq (.bin .idx (.fn 105 (.bin .cons (.var 0) (.bin .cons (.var 2) .nil))) (.int 3)) (.int 0)))
   (.leaf [(.var 1), (.var 2)])
   (.br (.bin .le (.bin .idx (.fn 105 (.bin .cons (.var 0) (.bin .cons (.var 2) .nil))) (.int 0)) (.var 3))
    (.leaf [(.var 1), (.var 2)])
    (.asrt (.bin .le (.bin .add (.un .len (.var 1)) (.int 1)) (.int 4294967296))
     .fail)))))

def wRecoverSm : List (Nat × Smy) := [(10, ⟨105, [.one (.rows false [.str]), .one (.pl (.int .i64))], [.agg [.pl (.int .i64), .rows true [.int .i64, .int .i64]], .one (.pl (.int .i64)), .one (.pl (.int .i64))], lenC [(0, 1000)], none⟩)]
def wRecoverLa : List (LK × LA) := [(⟨36, 3, 1, 1, 0⟩, ⟨[(4, (.sl 1 2 (.int 0) (.un .len (.var 1)) none)), (5, (.int .i64 (.var 2))), (6, (.int .i64 (.var 3))), (7, .any), (8, .any), (9, .any), (10, .any), (11, .any), (12, .any), (13, .any), (14, .any), (15, .any), (16, .any), (17, .any), (18, .any), (19, .any), (20, .any), (21, .any), (22, .any), (23, .any), (24, .any), (25, .any), (26, .any), (27, .any), (28, .any), (29, .any), (30, .any), (31, .any), (32, .any), (33, .any), (34, .any), (35, .any)], [(1, (.nrows [.pl (.int .i64), .sub [.int .i64, .int .i64]] (.var 1)))], [], 3, 1⟩)]
def wRecoverPhi : Fs := ⟨fun n d => match n with
  | 105 => .list (wParseF d.l)
  | _ => d, 147⟩
theorem wRecoverS : SmyOk true Tryd.prog wRecoverPhi wRecoverSm := (smy_cons (lenP [(0, 1000)]) wParseF wParse_pure (len_hp [(0, 1000)]) (fun _ => rfl) (fun _ h => by cases h) smy_nil)
theorem wRecoverT : treeOk ⟨Tryd.prog, wRecoverSm, wRecoverLa, true⟩ 4000 12 [.one (.rows false [.str])] [.one (.nst [.pl (.int .i64), .sub [.int .i64, .int .i64]]), .one (.pl (.int .i64))] ([]) wRecoverTree = true := by decide +kernel
set_option maxHeartbeats 1000000 in
theorem wRecover_pure : PureE true Tryd.prog 12 [.one (.rows false [.str])] [.one (.nst [.pl (.int .i64), .sub [.int .i64, .int .i64]]), .one (.pl (.int .i64))] (lenP [(0, 1000)]) wRecoverF := by
  refine pure_tree (X := ⟨Tryd.prog, wRecoverSm, wRecoverLa, true⟩) (by decide +kernel) (Checked.mixed Tryd.checked) wRecoverS (by decide +kernel) (by decide +kernel) wRecoverT (by decide +kernel) ?_
  intro ds hl hp
  obtain ⟨d0, rfl⟩ := len1 hl
  have b0 : (d0.l.length : Int) ≤ 1000 := hp (0, 1000) (by simp)
  have hF : wRecoverF [d0] = wRecoverE (d0.l.map DV.s) := rfl
  rw [hF]
  clear hF hp hl
  have hN : nrmL (clsOf [.one (.rows false [.str])]) [d0] = [.list ((d0.l.map DV.s).map DV.str)] := by
    simp only [clsOf, Sh.cls, List.append_nil, List.cons_append, List.nil_append, nrmL, Cl.nrm, CK.nrm, map_Ls]
  rw [hN]
  clear hN
  rw [← List.length_map (f := DV.s)] at b0
  generalize d0.l.map DV.s = x0 at b0 ⊢
  refine ⟨facts_nil _, ?_⟩
  unfold wRecoverTree wRecoverE
  simp only [Sat, clsOf, Sh.cls, List.append_nil, List.cons_append, List.nil_append, nrmL, Cl.nrm, CK.nrm, List.map_cons, List.map_nil, List.length_cons, List.length_nil, List.cons.injEq, DV.bool.injEq, DV.int.injEq, DV.list.injEq, DV.str.injEq, and_true, true_and]
  try simp only [q_le, q_eq, q_eqs, q_eqb, q_and, q_or, q_not, q_bool, iff_true, iff_false, Bool.not_true, Bool.not_false, Bool.false_eq_true, Bool.true_eq_false, eq_self, Bool.not_not]
  simp only [Bool.not_true, Bool.not_false, Bool.true_eq_false, SE.den, evU, evT, ev_le, ev_eq, ev_eqs, ev_eqb, ev_slt, ev_and, ev_or, ev_add, ev_sub, ev_mul, ev_tdiv, ev_tmod, ev_band, ev_bor, ev_bxor, ev_bandn, ev_shl, ev_shr, ev_cat, ev_byte, ev_idx, ev_cons, ev_snoc, ev_app, ev_take, ev_drop, ev_stake, ev_sdrop, ev_rep, leB_q, eqB_q, eqsB_q, not_q, i_if, b_if, l_if, s_if, i_int, b_bool, s_str, l_list, envL, List.getElem?_cons_succ, List.getElem?_cons_zero, List.getElem?_nil, Option.getD_some, Option.getD_none, Int.toNat_natCast, Int.toNat_zero, Int.reduceToNat, List.length_map, get_Li, get_Lb, get_Ls, set_Li, inj_Li, inj_Lb, inj_Ls, rows_i, rows_b, rows_s, Int.zero_add, iff_true, iff_false, and_true, true_and, Bool.false_eq_true, eq_self, not_true_eq_false, not_false_eq_true, List.length_replicate, DV.int.injEq, DV.bool.injEq, DV.str.injEq, DV.list.injEq, List.cons.injEq, f_En_0, rows_En, inj_LEn, f_En_1, rows_En, inj_LEn, f_ii_0, rows_ii, inj_Lii, f_ii_1, rows_ii, inj_Lii, wRecoverPhi, wParseF, wParseE, gi, gb, gs, gLi, gLu, gLb, gLs, dece_i, dece_b, dece_s, gLii, deces_ii]
  refine rounds_inv (fun y => ∃ (acc : List TEn) (a last : Int) (n : Nat), y = [DV.list (acc.map encEn), DV.int a, DV.int last] ∧ 0 ≤ a ∧ a ≤ x0.length ∧ (acc.length : Int) ≤ a ∧ (x0.length : Int) - a < n ∧ acc ++ (recM x0 n a last).1 = (recoverM x0).1 ∧ (recM x0 n a last).2 = (recoverM x0).2) (fun y => ((x0.length : Int) - (((y[1]?).getD (DV.int 0)).i)).toNat) ⟨[], 0, 0, x0.length + 1, rfl, by omega, by omega, by simp, by omega, rfl, rfl⟩ ?_
  rintro y ⟨acc, a, last, n, rfl, h0, h1, h2, h3, h4, h5⟩
  cases n with
  | zero => omega
  | succ n =>
  cases hp : parseM x0 a with
  | none =>
    rw [recM_none hp] at h4 h5
    left
    simp only [Bool.not_true, Bool.not_false, Bool.true_eq_false, SE.den, evU, evT, ev_le, ev_eq, ev_eqs, ev_eqb, ev_slt, ev_and, ev_or, ev_add, ev_sub, ev_mul, ev_tdiv, ev_tmod, ev_band, ev_bor, ev_bxor, ev_bandn, ev_shl, ev_shr, ev_cat, ev_byte, ev_idx, ev_cons, ev_snoc, ev_app, ev_take, ev_drop, ev_stake, ev_sdrop, ev_rep, leB_q, eqB_q, eqsB_q, not_q, i_if, b_if, l_if, s_if, i_int, b_bool, s_str, l_list, envL, List.getElem?_cons_succ, List.getElem?_cons_zero, List.getElem?_nil, Option.getD_some, Option.getD_none, Int.toNat_natCast, Int.toNat_zero, Int.reduceToNat, List.length_map, get_Li, get_Lb, get_Ls, set_Li, inj_Li, inj_Lb, inj_Ls, rows_i, rows_b, rows_s, Int.zero_add, iff_true, iff_false, and_true, true_and, Bool.false_eq_true, eq_self, not_true_eq_false, not_false_eq_true, List.length_replicate, DV.int.injEq, DV.bool.injEq, DV.str.injEq, DV.list.injEq, List.cons.injEq, f_En_0, rows_En, inj_LEn, f_En_1, rows_En, inj_LEn, f_ii_0, rows_ii, inj_Lii, f_ii_1, rows_ii, inj_Lii, wRecoverPhi, wParseF, wParseE, gi, gb, gs, gLi, gLu, gLb, gLs, dece_i, dece_b, dece_s, gLii, deces_ii, hp, parse4]
    exact ⟨b0, fun _ => ⟨by simpa using h4, h5⟩, fun h => absurd h (by omega)⟩
  | some r =>
    by_cases hr : r.1.1 ≤ last
    · rw [recM_old hp hr] at h4 h5
      left
      simp only [Bool.not_true, Bool.not_false, Bool.true_eq_false, SE.den, evU, evT, ev_le, ev_eq, ev_eqs, ev_eqb, ev_slt, ev_and, ev_or, ev_add, ev_sub, ev_mul, ev_tdiv, ev_tmod, ev_band, ev_bor, ev_bxor, ev_bandn, ev_shl, ev_shr, ev_cat, ev_byte, ev_idx, ev_cons, ev_snoc, ev_app, ev_take, ev_drop, ev_stake, ev_sdrop, ev_rep, leB_q, eqB_q, eqsB_q, not_q, i_if, b_if, l_if, s_if, i_int, b_bool, s_str, l_list, envL, List.getElem?_cons_succ, List.getElem?_cons_zero, List.getElem?_nil, Option.getD_some, Option.getD_none, Int.toNat_natCast, Int.toNat_zero, Int.reduceToNat, List.length_map, get_Li, get_Lb, get_Ls, set_Li, inj_Li, inj_Lb, inj_Ls, rows_i, rows_b, rows_s, Int.zero_add, iff_true, iff_false, and_true, true_and, Bool.false_eq_true, eq_self, not_true_eq_false, not_false_eq_true, List.length_replicate, DV.int.injEq, DV.bool.injEq, DV.str.injEq, DV.list.injEq, List.cons.injEq, f_En_0, rows_En, inj_LEn, f_En_1, rows_En, inj_LEn, f_ii_0, rows_ii, inj_Lii, f_ii_1, rows_ii, inj_Lii, wRecoverPhi, wParseF, wParseE, gi, gb, gs, gLi, gLu, gLb, gLs, dece_i, dece_b, dece_s, gLii, deces_ii, hp, parse4]
      exact ⟨b0, fun h => h.elim, fun _ => ⟨fun _ => ⟨by simpa using h4, h5⟩, fun h => absurd hr h⟩⟩
    · rw [recM_some hp hr] at h4 h5
      obtain ⟨_, _, _, c4, c5, _, _⟩ := parse_canon (e := r.1) (n := r.2) hp
      have hw : IntKind.i64.wrap (a + (r.2 : Int)) = a + r.2 := w64 (by omega) (by omega)
      right
      simp only [Bool.not_true, Bool.not_false, Bool.true_eq_false, SE.den, evU, evT, ev_le, ev_eq, ev_eqs, ev_eqb, ev_slt, ev_and, ev_or, ev_add, ev_sub, ev_mul, ev_tdiv, ev_tmod, ev_band, ev_bor, ev_bxor, ev_bandn, ev_shl, ev_shr, ev_cat, ev_byte, ev_idx, ev_cons, ev_snoc, ev_app, ev_take, ev_drop, ev_stake, ev_sdrop, ev_rep, leB_q, eqB_q, eqsB_q, not_q, i_if, b_if, l_if, s_if, i_int, b_bool, s_str, l_list, envL, List.getElem?_cons_succ, List.getElem?_cons_zero, List.getElem?_nil, Option.getD_some, Option.getD_none, Int.toNat_natCast, Int.toNat_zero, Int.reduceToNat, List.length_map, get_Li, get_Lb, get_Ls, set_Li, inj_Li, inj_Lb, inj_Ls, rows_i, rows_b, rows_s, Int.zero_add, iff_true, iff_false, and_true, true_and, Bool.false_eq_true, eq_self, not_true_eq_false, not_false_eq_true, List.length_replicate, DV.int.injEq, DV.bool.injEq, DV.str.injEq, DV.list.injEq, List.cons.injEq, f_En_0, rows_En, inj_LEn, f_En_1, rows_En, inj_LEn, f_ii_0, rows_ii, inj_Lii, f_ii_1, rows_ii, inj_Lii, wRecoverPhi, wParseF, wParseE, gi, gb, gs, gLi, gLu, gLb, gLs, dece_i, dece_b, dece_s, gLii, deces_ii, hp, parse4, hw]
      refine ⟨_, ⟨b0, fun h => h, fun _ => ⟨fun h => absurd h hr, fun _ => ⟨by omega, rfl⟩⟩⟩, rfl, ⟨acc ++ [r.1], a + r.2, r.1.1, n, ?_, by omega, by omega, by simp only [List.length_append, List.length_cons, List.length_nil]; omega, by omega, ?_, h5⟩, ?_⟩
      · rw [List.map_append]; rfl
      · rw [List.append_assoc]; exact h4
      · show ((x0.length : Int) - (a + r.2)).toNat < _
        omega
end Go.Proofs.YtkfjgggiopegbaaDoor
