/- The function wal.entry is a function of data. No condition. -/
import Derived.Test.YtkfjgggiopegbaaDoorWValid
import Derived.Test.YtkfjgggiopegbaaDoorWalN
import Derived.Test.YtkfjgggiopegbaaDoorBd
import Derived.Test.YtkfjgggiopegbaaDoorOpen
namespace Go.Proofs.YtkfjgggiopegbaaDoor
set_option linter.unusedVariables false
set_option linter.unusedSimpArgs false
set_option maxRecDepth 100000

def wEntryE (l : List Int) : List DV := [.int (entryM l).1.1, .list ((entryM l).1.2.map encii), .bool (entryM l).2]
theorem pairs_len (l : List Int) : 2 * (pairsM l).length ≤ l.length := by
  fun_induction pairsM l with
  | case1 a b l ih => simp only [List.length_cons] at ih ⊢; omega
  | case2 => simp

def wEntryF (ds : List DV) : List DV := wEntryE (gLi ds 0)
/-- What the executor makes of it. -/
def wEntryTree : PT :=
(.br (.bin .eq (.bin .tmod (.un .len (.var 0)) (.int 2)) (.int 0))
 (.leaf [(.int 0), .nil, (.bool false)])
 (.asrt (.un .not (.bin .le (.un .len (.var 0)) (.int 0)))
  (.loop 1 [(.bin .take (.bin .drop (.var 0) (.int 1)) (.bin .sub (.un .len (.var 0)) (.int 1))), .nil]
   (.br (.un .not (.bin .le (.un .len (.var 1)) (.int 0)))
    (.asrt (.un .not (.bin .le (.un .len (.var 1)) (.int 1)))
     (.asrt (.bin .le (.bin .add (.un .len (.var 2)) (.int 1)) (.int 4294967296))
      (.leaf [(.bin .take (.bin .drop (.var 1) (.int 2)) (.bin .sub (.un .len (.var 1)) (.int 2))), (.bin .snoc (.var 2) (.bin .cons (.bin .idx (.var 1) (.int 0)) (.bin .cons (.bin .idx (.var 1) (.int 1)) .nil)))])))
    .fail)
   (.br (.un .not (.bin .le (.un .len (.var 1)) (.int 0)))
    (.asrt (.un .not (.bin .le (.un .len (.var 1)) (.int 1)))
     (.asrt (.bin .le (.bin .add (.un .len (.var 2)) (.int 1)) (.int 4294967296))
      .fail))
    (.asrt (.bin .le (.un .len (.var 2)) (.int 1000000))
     (.leaf [(.bin .idx (.var 0) (.int 0)), (.var 2), (.bin .idx (.fn 98 (.bin .cons (.bin .idx (.var 0) (.int 0)) (.bin .cons (.var 2) .nil))) (.int 0))]))))))

def wEntrySm : List (Nat × Smy) := [(48, ⟨98, [.agg [.pl (.int .i64), .rows false [.int .i64, .int .i64]]], [.one (.pl .bool)], lenC [(1, 1000000)], none⟩)]
def wEntryLa : List (LK × LA) := [(⟨36, 5, 3, 1, 2⟩, ⟨[(0, (.sl 3 1 (.int 0) (.un .len (.var 1)) none)), (16, .any), (17, .any), (18, .any), (19, .any), (20, .any), (21, .any), (22, .any), (23, .any), (24, .any), (25, .any), (26, .any), (27, .any), (28, .any), (29, .any), (30, .any), (31, .any), (32, .any)], [(2, (.cells [(.int .i64 (.bin .idx (.var 0) (.int 0))), (.sl 4 2 (.int 0) (.un .len (.var 2)) none)])), (3, (.ro [.int .i64] (.var 1))), (4, (.rows [.int .i64, .int .i64] (.var 2)))], [], 2, 2⟩)]
def wEntryPhi : Fs := ⟨fun n d => match n with
  | 98 => .list (wValidF d.l)
  | _ => d, 147⟩
theorem wEntryS : SmyOk true Tryd.prog wEntryPhi wEntrySm := (smy_cons (lenP [(1, 1000000)]) wValidF wValid_pure (len_hp [(1, 1000000)]) (fun _ => rfl) (fun _ h => by cases h) smy_nil)
theorem wEntryT : treeOk ⟨Tryd.prog, wEntrySm, wEntryLa, true⟩ 4000 43 [.one (.rows false [.int .i64])] [.agg [.pl (.int .i64), .rows true [.int .i64, .int .i64]], .one (.pl .bool)] ([]) wEntryTree = true := by decide +kernel
set_option maxHeartbeats 1000000 in
theorem wEntry_pure : PureE true Tryd.prog 43 [.one (.rows false [.int .i64])] [.agg [.pl (.int .i64), .rows true [.int .i64, .int .i64]], .one (.pl .bool)] (lenP [(0, 1000000)]) wEntryF := by
  refine pure_tree (X := ⟨Tryd.prog, wEntrySm, wEntryLa, true⟩) (by decide +kernel) (Checked.mixed Tryd.checked) wEntryS (by decide +kernel) (by decide +kernel) wEntryT (by decide +kernel) ?_
  intro ds hl hp
  obtain ⟨d0, rfl⟩ := len1 hl
  have b0 : (d0.l.length : Int) ≤ 1000000 := hp (0, 1000000) (by simp)
  have hF : wEntryF [d0] = wEntryE (d0.l.map DV.i) := rfl
  rw [hF]
  clear hF hp hl
  have hN : nrmL (clsOf [.one (.rows false [.int .i64])]) [d0] = [.list ((d0.l.map DV.i).map DV.int)] := by
    simp only [clsOf, Sh.cls, List.append_nil, List.cons_append, List.nil_append, nrmL, Cl.nrm, CK.nrm, map_Li]
  rw [hN]
  clear hN
  rw [← List.length_map (f := DV.i)] at b0
  generalize d0.l.map DV.i = x0 at b0 ⊢
  refine ⟨facts_nil _, ?_⟩
  unfold wEntryTree wEntryE
  simp only [Sat, clsOf, Sh.cls, List.append_nil, List.cons_append, List.nil_append, nrmL, Cl.nrm, CK.nrm, List.map_cons, List.map_nil, List.length_cons, List.length_nil, List.cons.injEq, DV.bool.injEq, DV.int.injEq, DV.list.injEq, DV.str.injEq, and_true, true_and]
  simp only [q_le, q_eq, q_eqs, q_eqb, q_and, q_or, q_not, q_bool, iff_true, iff_false, Bool.not_true, Bool.not_false, Bool.false_eq_true, Bool.true_eq_false, eq_self, Bool.not_not]
  simp only [Bool.not_true, Bool.not_false, Bool.true_eq_false, SE.den, evU, evT, ev_le, ev_eq, ev_eqs, ev_eqb, ev_slt, ev_and, ev_or, ev_add, ev_sub, ev_mul, ev_tdiv, ev_tmod, ev_band, ev_bor, ev_bxor, ev_bandn, ev_shl, ev_shr, ev_cat, ev_byte, ev_idx, ev_cons, ev_snoc, ev_app, ev_take, ev_drop, ev_stake, ev_sdrop, ev_rep, leB_q, eqB_q, eqsB_q, not_q, i_if, b_if, l_if, s_if, i_int, b_bool, s_str, l_list, envL, List.getElem?_cons_succ, List.getElem?_cons_zero, List.getElem?_nil, Option.getD_some, Option.getD_none, Int.toNat_natCast, Int.toNat_zero, Int.reduceToNat, List.length_map, get_Li, get_Lb, get_Ls, set_Li, inj_Li, inj_Lb, inj_Ls, rows_i, rows_b, rows_s, Int.zero_add, iff_true, iff_false, and_true, true_and, Bool.false_eq_true, eq_self, not_true_eq_false, not_false_eq_true, List.length_replicate, DV.int.injEq, DV.bool.injEq, DV.str.injEq, DV.list.injEq, List.cons.injEq, f_ii_0, rows_ii, inj_Lii, f_ii_1, rows_ii, inj_Lii, wEntryPhi, wValidF, wValidE, gi, gb, gs, gLi, gLu, gLb, gLs, dece_i, dece_b, dece_s, gLii, deces_ii]
  have hm : ((x0.length : Int)).tmod 2 = ((x0.length % 2 : Nat) : Int) := by rw [Int.tmod_eq_emod_of_nonneg (by omega)]; omega
  simp only [hm]
  refine ⟨fun h => ?_, fun h => ?_⟩
  · have h' : x0.length % 2 = 0 := by omega
    unfold entryM
    rw [if_pos h']
    simp
  · have h' : ¬ x0.length % 2 = 0 := by omega
    unfold entryM
    rw [if_neg h']
    refine ⟨by omega, ?_⟩
    have hd : List.take ((x0.length : Int) - 1).toNat (List.drop 1 x0) = x0.drop 1 := List.take_of_length_le (by rw [List.length_drop]; omega)
    refine rounds_inv (fun y => ∃ (l : List Int) (acc : List Tii), y = [.list (l.map .int), .list (acc.map encii)] ∧ l.length % 2 = 0 ∧ 2 * acc.length + l.length + 1 = x0.length ∧ acc ++ pairsM l = pairsM (x0.drop 1)) (fun y => ((y[0]?).getD (DV.int 0)).l.length) ⟨x0.drop 1, [], ?_, by rw [List.length_drop]; omega, by rw [List.length_drop, List.length_nil]; omega, rfl⟩ ?_
    · simp only [Bool.not_true, Bool.not_false, Bool.true_eq_false, SE.den, evU, evT, ev_le, ev_eq, ev_eqs, ev_eqb, ev_slt, ev_and, ev_or, ev_add, ev_sub, ev_mul, ev_tdiv, ev_tmod, ev_band, ev_bor, ev_bxor, ev_bandn, ev_shl, ev_shr, ev_cat, ev_byte, ev_idx, ev_cons, ev_snoc, ev_app, ev_take, ev_drop, ev_stake, ev_sdrop, ev_rep, leB_q, eqB_q, eqsB_q, not_q, i_if, b_if, l_if, s_if, i_int, b_bool, s_str, l_list, envL, List.getElem?_cons_succ, List.getElem?_cons_zero, List.getElem?_nil, Option.getD_some, Option.getD_none, Int.toNat_natCast, Int.toNat_zero, Int.reduceToNat, List.length_map, get_Li, get_Lb, get_Ls, set_Li, inj_Li, inj_Lb, inj_Ls, rows_i, rows_b, rows_s, Int.zero_add, iff_true, iff_false, and_true, true_and, Bool.false_eq_true, eq_self, not_true_eq_false, not_false_eq_true, List.length_replicate, DV.int.injEq, DV.bool.injEq, DV.str.injEq, DV.list.injEq, List.cons.injEq, f_ii_0, rows_ii, inj_Lii, f_ii_1, rows_ii, inj_Lii, take_Li, drop_Li, hd, List.map_nil]
    · rintro y ⟨l, acc, rfl, hl, hal, hall⟩
      simp only [Bool.not_true, Bool.not_false, Bool.true_eq_false, SE.den, evU, evT, ev_le, ev_eq, ev_eqs, ev_eqb, ev_slt, ev_and, ev_or, ev_add, ev_sub, ev_mul, ev_tdiv, ev_tmod, ev_band, ev_bor, ev_bxor, ev_bandn, ev_shl, ev_shr, ev_cat, ev_byte, ev_idx, ev_cons, ev_snoc, ev_app, ev_take, ev_drop, ev_stake, ev_sdrop, ev_rep, leB_q, eqB_q, eqsB_q, not_q, i_if, b_if, l_if, s_if, i_int, b_bool, s_str, l_list, envL, List.getElem?_cons_succ, List.getElem?_cons_zero, List.getElem?_nil, Option.getD_some, Option.getD_none, Int.toNat_natCast, Int.toNat_zero, Int.reduceToNat, List.length_map, get_Li, get_Lb, get_Ls, set_Li, inj_Li, inj_Lb, inj_Ls, rows_i, rows_b, rows_s, Int.zero_add, iff_true, iff_false, and_true, true_and, Bool.false_eq_true, eq_self, not_true_eq_false, not_false_eq_true, List.length_replicate, DV.int.injEq, DV.bool.injEq, DV.str.injEq, DV.list.injEq, List.cons.injEq, f_ii_0, rows_ii, inj_Lii, f_ii_1, rows_ii, inj_Lii, take_Li, drop_Li, deces_ii, wEntryPhi, wValidF, wValidE, gi, gb, gs, gLi, gLu, gLb, gLs, dece_i, dece_b, dece_s, gLii, deces_ii, dece_i]
      match l, hl, hall with
      | [], _, hall =>
        left
        rw [pairsM, List.append_nil] at hall
        · rw [← hall]
          have hac : (acc.length : Int) ≤ 1000000 := by omega
          simp [hac]
        · intro a b l e; cases e
      | [a], hl, _ => simp at hl
      | a :: b :: l, hl, hall =>
        right
        refine ⟨[.list (l.map .int), .list ((acc ++ [(a, b)]).map encii)], ?_, rfl, ⟨l, acc ++ [(a, b)], rfl, by simp only [List.length_cons] at hl; omega, by simp only [List.length_append, List.length_cons, List.length_nil] at hal ⊢; omega, by rw [List.append_assoc]; exact hall⟩, ?_⟩
        · have hac : (acc.length : Int) + 1 ≤ 4294967296 := by omega
          have ht : List.take (((l.length : Int) + 1 + 1) - 2).toNat (l.map DV.int) = l.map DV.int := List.take_of_length_le (by rw [List.length_map]; omega)
          simp [hac, encii, ht]
          omega
        · simp only [Bool.not_true, Bool.not_false, Bool.true_eq_false, SE.den, evU, evT, ev_le, ev_eq, ev_eqs, ev_eqb, ev_slt, ev_and, ev_or, ev_add, ev_sub, ev_mul, ev_tdiv, ev_tmod, ev_band, ev_bor, ev_bxor, ev_bandn, ev_shl, ev_shr, ev_cat, ev_byte, ev_idx, ev_cons, ev_snoc, ev_app, ev_take, ev_drop, ev_stake, ev_sdrop, ev_rep, leB_q, eqB_q, eqsB_q, not_q, i_if, b_if, l_if, s_if, i_int, b_bool, s_str, l_list, envL, List.getElem?_cons_succ, List.getElem?_cons_zero, List.getElem?_nil, Option.getD_some, Option.getD_none, Int.toNat_natCast, Int.toNat_zero, Int.reduceToNat, List.length_map, get_Li, get_Lb, get_Ls, set_Li, inj_Li, inj_Lb, inj_Ls, rows_i, rows_b, rows_s, Int.zero_add, iff_true, iff_false, and_true, true_and, Bool.false_eq_true, eq_self, not_true_eq_false, not_false_eq_true, List.length_replicate, DV.int.injEq, DV.bool.injEq, DV.str.injEq, DV.list.injEq, List.cons.injEq, f_ii_0, rows_ii, inj_Lii, f_ii_1, rows_ii, inj_Lii, List.length_cons]; omega
end Go.Proofs.YtkfjgggiopegbaaDoor
