/- The function wal.valid is a function of data. No condition. -/
import Derived.Test.YtkfjgggiopegbaaDoorWalN
import Derived.Test.YtkfjgggiopegbaaDoorBd
import Derived.Test.YtkfjgggiopegbaaDoorOpen
namespace Go.Proofs.YtkfjgggiopegbaaDoor
set_option linter.unusedVariables false
set_option linter.unusedSimpArgs false
set_option maxRecDepth 100000

def wValidE (v : Int) (w : List Tii) : List DV := [.bool (validM v w)]
theorem asc_at (p : Int) (w : List Tii) (i : Nat) : ascM p (w.drop i) = if w.length ≤ i then true else (decide (p < (w[i]?.getD dii).1) && ascM (w[i]?.getD dii).1 (w.drop (i + 1))) := by
  by_cases h : w.length ≤ i
  · rw [if_pos h, List.drop_eq_nil_of_le h]; rfl
  · rw [if_neg h, List.drop_eq_getElem_cons (by omega)]
    have e1 : w[i]?.getD dii = w[i] := by rw [List.getElem?_eq_getElem (by omega)]; rfl
    rw [e1]; rfl

def wValidF (ds : List DV) : List DV := wValidE (gi ds 0) (gLii ds 1)
/-- What the executor makes of it. -/
def wValidTree : PT :=
(.loop 2 [(.int (-1)), (.int 0)]
 (.br (.un .not (.bin .le (.un .len (.var 1)) (.var 3)))
  (.asrt (.bin .le (.int 0) (.var 3))
   (.br (.bin .le (.bin .idx (.bin .idx (.var 1) (.bin .add (.int 0) (.var 3))) (.int 0)) (.var 2))
    .fail
    (.leaf [(.bin .idx (.bin .idx (.var 1) (.bin .add (.int 0) (.var 3))) (.int 0)), (.un (.wrap .i64) (.bin .add (.var 3) (.int 1)))])))
  .fail)
 (.br (.un .not (.bin .le (.un .len (.var 1)) (.var 3)))
  (.asrt (.bin .le (.int 0) (.var 3))
   (.br (.bin .le (.bin .idx (.bin .idx (.var 1) (.bin .add (.int 0) (.var 3))) (.int 0)) (.var 2))
    (.leaf [(.bool false)])
    .fail))
  (.br (.bin .le (.int 1) (.var 0))
   (.br (.bin .le (.var 0) (.int 1099511627776))
    (.leaf [(.bin .le (.un .len (.var 1)) (.int 32))])
    (.leaf [(.bool false)]))
   (.leaf [(.bool false)]))))

def wValidSm : List (Nat × Smy) := []
def wValidLa : List (LK × LA) := [(⟨34, 3, 3, 2, 0⟩, ⟨[(3, (.int .i64 (.var 2))), (5, .any), (9, (.int .i64 (.var 3))), (10, .any), (11, .any), (12, .any), (13, .any), (14, .any), (15, .any), (16, .any), (17, .any), (18, .any), (19, .any)], [], [], 2, 0⟩)]
def wValidPhi : Fs := ⟨fun n d => match n with
  | _ => d, 147⟩
theorem wValidS : SmyOk true Tryd.prog wValidPhi wValidSm := smy_nil
theorem wValidT : treeOk ⟨Tryd.prog, wValidSm, wValidLa, true⟩ 4000 48 [.agg [.pl (.int .i64), .rows false [.int .i64, .int .i64]]] [.one (.pl .bool)] ([]) wValidTree = true := by decide +kernel
set_option maxHeartbeats 1000000 in
theorem wValid_pure : PureE true Tryd.prog 48 [.agg [.pl (.int .i64), .rows false [.int .i64, .int .i64]]] [.one (.pl .bool)] (lenP [(1, 1000000)]) wValidF := by
  refine pure_tree (X := ⟨Tryd.prog, wValidSm, wValidLa, true⟩) (by decide +kernel) (Checked.mixed Tryd.checked) wValidS (by decide +kernel) (by decide +kernel) wValidT (by decide +kernel) ?_
  intro ds hl hp
  obtain ⟨d0, d1, rfl⟩ := len2 hl
  have b1 : (d1.l.length : Int) ≤ 1000000 := hp (1, 1000000) (by simp)
  have hF : wValidF [d0, d1] = wValidE d0.i (d1.l.map decii) := rfl
  rw [hF]
  clear hF hp hl
  have hN : nrmL (clsOf [.agg [.pl (.int .i64), .rows false [.int .i64, .int .i64]]]) [d0, d1] = [.int d0.i, .list ((d1.l.map decii).map encii)] := by
    simp only [clsOf, Sh.cls, List.append_nil, List.cons_append, List.nil_append, nrmL, Cl.nrm, CK.nrm, map_Lii]
  rw [hN]
  clear hN
  generalize d0.i = x0
  rw [← List.length_map (f := decii)] at b1
  generalize d1.l.map decii = x1 at b1 ⊢
  refine ⟨facts_nil _, ?_⟩
  unfold wValidTree wValidE
  simp only [Sat, clsOf, Sh.cls, List.append_nil, List.cons_append, List.nil_append, nrmL, Cl.nrm, CK.nrm, List.map_cons, List.map_nil, List.length_cons, List.length_nil, List.cons.injEq, DV.bool.injEq, DV.int.injEq, DV.list.injEq, DV.str.injEq, and_true, true_and]
  simp only [q_le, q_eq, q_eqs, q_eqb, q_and, q_or, q_not, q_bool, iff_true, iff_false, Bool.not_true, Bool.not_false, Bool.false_eq_true, Bool.true_eq_false, eq_self, Bool.not_not]
  simp only [Bool.not_true, Bool.not_false, Bool.true_eq_false, SE.den, evU, evT, ev_le, ev_eq, ev_eqs, ev_eqb, ev_slt, ev_and, ev_or, ev_add, ev_sub, ev_mul, ev_tdiv, ev_tmod, ev_band, ev_bor, ev_bxor, ev_bandn, ev_shl, ev_shr, ev_cat, ev_byte, ev_idx, ev_cons, ev_snoc, ev_app, ev_take, ev_drop, ev_stake, ev_sdrop, ev_rep, leB_q, eqB_q, eqsB_q, not_q, i_if, b_if, l_if, s_if, i_int, b_bool, s_str, l_list, envL, List.getElem?_cons_succ, List.getElem?_cons_zero, List.getElem?_nil, Option.getD_some, Option.getD_none, Int.toNat_natCast, Int.toNat_zero, Int.reduceToNat, List.length_map, get_Li, get_Lb, get_Ls, set_Li, inj_Li, inj_Lb, inj_Ls, rows_i, rows_b, rows_s, Int.zero_add, iff_true, iff_false, and_true, true_and, Bool.false_eq_true, eq_self, not_true_eq_false, not_false_eq_true, List.length_replicate, DV.int.injEq, DV.bool.injEq, DV.str.injEq, DV.list.injEq, List.cons.injEq, f_ii_0, rows_ii, inj_Lii, f_ii_1, rows_ii, inj_Lii, wValidPhi, gi, gb, gs, gLi, gLu, gLb, gLs, dece_i, dece_b, dece_s]
  refine rounds_inv (fun y => ∃ (i : Nat) (p : Int), y = [.int p, .int i] ∧ i ≤ x1.length ∧ ascM (-1) x1 = ascM p (x1.drop i)) (fun y => x1.length - ((y[1]?).getD (DV.int 0)).i.toNat) ⟨0, -1, rfl, Nat.zero_le _, by rw [List.drop_zero]⟩ ?_
  rintro y ⟨i, p, rfl, hi, hall⟩
  rw [asc_at] at hall
  have e1 : IntKind.i64.wrap ((i : Int) + 1) = ((i + 1 : Nat) : Int) := by rw [w64 (by omega) (by omega)]; omega
  simp only [Bool.not_true, Bool.not_false, Bool.true_eq_false, SE.den, evU, evT, ev_le, ev_eq, ev_eqs, ev_eqb, ev_slt, ev_and, ev_or, ev_add, ev_sub, ev_mul, ev_tdiv, ev_tmod, ev_band, ev_bor, ev_bxor, ev_bandn, ev_shl, ev_shr, ev_cat, ev_byte, ev_idx, ev_cons, ev_snoc, ev_app, ev_take, ev_drop, ev_stake, ev_sdrop, ev_rep, leB_q, eqB_q, eqsB_q, not_q, i_if, b_if, l_if, s_if, i_int, b_bool, s_str, l_list, envL, List.getElem?_cons_succ, List.getElem?_cons_zero, List.getElem?_nil, Option.getD_some, Option.getD_none, Int.toNat_natCast, Int.toNat_zero, Int.reduceToNat, List.length_map, get_Li, get_Lb, get_Ls, set_Li, inj_Li, inj_Lb, inj_Ls, rows_i, rows_b, rows_s, Int.zero_add, iff_true, iff_false, and_true, true_and, Bool.false_eq_true, eq_self, not_true_eq_false, not_false_eq_true, List.length_replicate, DV.int.injEq, DV.bool.injEq, DV.str.injEq, DV.list.injEq, List.cons.injEq, f_ii_0, rows_ii, inj_Lii, f_ii_1, rows_ii, inj_Lii, e1, raw_ii_0]
  by_cases h1 : x1.length ≤ i
  · left
    rw [if_pos h1] at hall
    have h1' : (x1.length : Int) ≤ i := by omega
    unfold validM
    rw [hall]
    rw [Bool.true_and]
    by_cases a1 : 1 ≤ x0
    · by_cases a2 : x0 ≤ 1099511627776
      · simp [h1', a1, a2]
        try omega
      · simp [h1', a1, a2]
    · simp [h1', a1]
  · rw [if_neg h1] at hall
    have h1' : ¬ (x1.length : Int) ≤ i := by omega
    by_cases h2 : (x1[i]?.getD dii).1 ≤ p
    · left
      have : ascM (-1) x1 = false := by rw [hall]; simp; omega
      unfold validM
      rw [this]
      simp [h1', h2]
    · right
      have h2' : p < (x1[i]?.getD dii).1 := by omega
      rw [decide_eq_true h2', Bool.true_and] at hall
      refine ⟨[.int (x1[i]?.getD dii).1, .int ((i + 1 : Nat) : Int)], ?_, rfl, ⟨i + 1, _, rfl, by omega, hall⟩, ?_⟩
      · simp [h1', h2]
      · simp only [Bool.not_true, Bool.not_false, Bool.true_eq_false, SE.den, evU, evT, ev_le, ev_eq, ev_eqs, ev_eqb, ev_slt, ev_and, ev_or, ev_add, ev_sub, ev_mul, ev_tdiv, ev_tmod, ev_band, ev_bor, ev_bxor, ev_bandn, ev_shl, ev_shr, ev_cat, ev_byte, ev_idx, ev_cons, ev_snoc, ev_app, ev_take, ev_drop, ev_stake, ev_sdrop, ev_rep, leB_q, eqB_q, eqsB_q, not_q, i_if, b_if, l_if, s_if, i_int, b_bool, s_str, l_list, envL, List.getElem?_cons_succ, List.getElem?_cons_zero, List.getElem?_nil, Option.getD_some, Option.getD_none, Int.toNat_natCast, Int.toNat_zero, Int.reduceToNat, List.length_map, get_Li, get_Lb, get_Ls, set_Li, inj_Li, inj_Lb, inj_Ls, rows_i, rows_b, rows_s, Int.zero_add, iff_true, iff_false, and_true, true_and, Bool.false_eq_true, eq_self, not_true_eq_false, not_false_eq_true, List.length_replicate, DV.int.injEq, DV.bool.injEq, DV.str.injEq, DV.list.injEq, List.cons.injEq, f_ii_0, rows_ii, inj_Lii, f_ii_1, rows_ii, inj_Lii]; omega
end Go.Proofs.YtkfjgggiopegbaaDoor
