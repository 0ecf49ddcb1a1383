/- The function mem.All is a function of data. No condition. -/
import Derived.Test.YtlaebfjfnbiooaaDoorMemDo
import Derived.Test.YtlaebfjfnbiooaaDoorBd
import Derived.Test.YtlaebfjfnbiooaaDoorOpen
namespace Go.Proofs.YtlaebfjfnbiooaaDoor
set_option linter.unusedVariables false
set_option linter.unusedSimpArgs false
set_option maxRecDepth 100000

theorem doM_len (l : List Int) (k c o n : Int) (s : List UInt8) : (doM l k c o n s).1.length = l.length := by unfold doM; split <;> (try split) <;> simp
/-- Accesses one after the other; the memory at the start comes back with an error. -/
def allM (m0 : List Int) : List Tiiiis → List Int → List Tib → List Int × List Tib × Int
  | [], m, told => (m, told, 0)
  | a :: r, m, told =>
    if (doM m a.1 a.2.1 a.2.2.1 a.2.2.2.1 a.2.2.2.2).2.2 = 0 then allM m0 r (doM m a.1 a.2.1 a.2.2.1 a.2.2.2.1 a.2.2.2.2).1 (told ++ [(doM m a.1 a.2.1 a.2.2.1 a.2.2.2.1 a.2.2.2.2).2.1])
    else (m0, [], (doM m a.1 a.2.1 a.2.2.1 a.2.2.2.1 a.2.2.2.2).2.2)
theorem allM_len1 (m0 : List Int) : ∀ (l : List Tiiiis) (m : List Int) (told : List Tib), m.length = m0.length → (allM m0 l m told).1.length = m0.length
  | [], m, told, h => h
  | a :: r, m, told, h => by
    unfold allM
    split
    · exact allM_len1 m0 r _ _ (by rw [doM_len]; exact h)
    · rfl
theorem allM_len2 (m0 : List Int) : ∀ (l : List Tiiiis) (m : List Int) (told : List Tib), (allM m0 l m told).2.1.length ≤ told.length + l.length
  | [], m, told => Nat.le_refl _
  | a :: r, m, told => by
    unfold allM
    split
    · have := allM_len2 m0 r (doM m a.1 a.2.1 a.2.2.1 a.2.2.2.1 a.2.2.2.2).1 (told ++ [(doM m a.1 a.2.1 a.2.2.1 a.2.2.2.1 a.2.2.2.2).2.1])
      simp at this ⊢
      omega
    · simp
def memAllE (m : List Int) (l : List Tiiiis) : List DV := [.list ((allM m l m []).1.map DV.int), .list ((allM m l m []).2.1.map encib), .int (allM m l m []).2.2]

def memAllF (ds : List DV) : List DV := memAllE (gLi ds 0) (gLiiiis ds 1)
/-- What the executor makes of it. -/
def memAllTree : PT :=
(.loop 2 [.nil, (.int 0), (.var 0)]
 (.br (.un .not (.bin .le (.un .len (.var 1)) (.var 3)))
  (.asrt (.bin .le (.int 0) (.var 3))
   (.asrt (.bin .le (.un .len (.var 4)) (.int 1000000))
    (.br (.un .not (.bin .eq (.bin .idx (.fn 0 (.bin .cons (.var 4) (.bin .cons (.bin .idx (.bin .idx (.var 1) (.bin .add (.int 0) (.var 3))) (.int 0)) (.bin .cons (.bin .idx (.bin .idx (.var 1) (.bin .add (.int 0) (.var 3))) (.int 1)) (.bin .cons (.bin .idx (.bin .idx (.var 1) (.bin .add (.int 0) (.var 3))) (.int 2)) (.bin .cons (.bin .idx (.bin .idx (.var 1) (.bin .add (.int 0) (.var 3))) (.int 3)) (.bin .cons (.bin .idx (.bin .idx (.var 1) (.bin .add (.int 0) (.var 3))) (.int 4)) .nil))))))) (.int 3)) (.int 0)))
     .fail
     (.asrt (.bin .le (.bin .add (.un .len (.var 2)) (.int 1)) (.int 4294967296))
      (.leaf [(.bin .snoc (.var 2) (.bin .cons (.bin .idx (.fn 0 (.bin .cons (.var 4) (.bin .cons (.bin .idx (.bin .idx (.var 1) (.bin .add (.int 0) (.var 3))) (.int 0)) (.bin .cons (.bin .idx (.bin .idx (.var 1) (.bin .add (.int 0) (.var 3))) (.int 1)) (.bin .cons (.bin .idx (.bin .idx (.var 1) (.bin .add (.int 0) (.var 3))) (.int 2)) (.bin .cons (.bin .idx (.bin .idx (.var 1) (.bin .add (.int 0) (.var 3))) (.int 3)) (.bin .cons (.bin .idx (.bin .idx (.var 1) (.bin .add (.int 0) (.var 3))) (.int 4)) .nil))))))) (.int 1)) (.bin .cons (.bin .idx (.fn 0 (.bin .cons (.var 4) (.bin .cons (.bin .idx (.bin .idx (.var 1) (.bin .add (.int 0) (.var 3))) (.int 0)) (.bin .cons (.bin .idx (.bin .idx (.var 1) (.bin .add (.int 0) (.var 3))) (.int 1)) (.bin .cons (.bin .idx (.bin .idx (.var 1) (.bin .add (.int 0) (.var 3))) (.int 2)) (.bin .cons (.bin .idx (.bin .idx (.var 1) (.bin .add (.int 0) (.var 3))) (.int 3)) (.bin .cons (.bin .idx (.bin .idx (.var 1) (.bin .add (.int 0) (.var 3))) (.int 4)) .nil))))))) (.int 2)) .nil))), (.un (.wrap .i64) (.bin .add (.var 3) (.int 1))), (.bin .idx (.fn 0 (.bin .cons (.var 4) (.bin .cons (.bin .idx (.bin .idx (.var 1) (.bin .add (.int 0) (.var 3))) (.int 0)) (.bin .cons (.bin .idx (.bin .idx (.var 1) (.bin .add (.int 0) (.var 3))) (.int 1)) (.bin .cons (.bin .idx (.bin .idx (.var 1) (.bin .add (.int 0) (.var 3))) (.int 2)) (.bin .cons (.bin .idx (.bin .idx (.var 1) (.bin .add (.int 0) (.var 3))) (.int 3)) (.bin .cons (.bin .idx (.bin .idx (.var 1) (.bin .add (.int 0) (.var 3))) (.int 4)) .nil))))))) (.int 0))])))))
  .fail)
 (.br (.un .not (.bin .le (.un .len (.var 1)) (.var 3)))
  (.asrt (.bin .le (.int 0) (.var 3))
   (.asrt (.bin .le (.un .len (.var 4)) (.int 1000000))
    (.br (.un .not (.bin .eq (.bin .idx (.fn 0 (.bin .cons (.var 4) (.bin .cons (.bin .idx (.bin .idx (.var 1) (.bin .add (.int 0) (.var 3))) (.int 0)) (.bin .cons (.bin .idx (.bin .idx (.var 1) (.bin .add (.int 0) (.var 3))) (.int 1)) (.bin .cons (.bin .idx (.bin .idx (.var 1) (.bin .add (.int 0) (.var 3))) (.int 2)) (.bin .cons (.bin .idx (.bin .idx (.var 1) (.bin .add (.int 0) (.var 3))) (.int 3)) (.bin .cons (.bin .idx (.bin .idx (.var 1) (.bin .add (.int 0) (.var 3))) (.int 4)) .nil))))))) (.int 3)) (.int 0)))
     (.leaf [(.var 0), .nil, (.bin .idx (.fn 0 (.bin .cons (.var 4) (.bin .cons (.bin .idx (.bin .idx (.var 1) (.bin .add (.int 0) (.var 3))) (.int 0)) (.bin .cons (.bin .idx (.bin .idx (.var 1) (.bin .add (.int 0) (.var 3))) (.int 1)) (.bin .cons (.bin .idx (.bin .idx (.var 1) (.bin .add (.int 0) (.var 3))) (.int 2)) (.bin .cons (.bin .idx (.bin .idx (.var 1) (.bin .add (.int 0) (.var 3))) (.int 3)) (.bin .cons (.bin .idx (.bin .idx (.var 1) (.bin .add (.int 0) (.var 3))) (.int 4)) .nil))))))) (.int 3))])
     (.asrt (.bin .le (.bin .add (.un .len (.var 2)) (.int 1)) (.int 4294967296))
      .fail))))
  (.leaf [(.var 4), (.var 2), (.int 0)])))

def memAllSm : List (Nat × Smy) := [(36, ⟨0, [.agg [.rows false [.int .i64]], .agg [.pl (.int .i64), .pl (.int .i64), .pl (.int .i64), .pl (.int .i64), .pl .str]], [.agg [.rows false [.int .i64]], .agg [.pl (.int .i64), .pl .bool], .one (.pl (.int .i64))], lenC [(0, 1000000)], none⟩)]
def memAllLa : List (LK × LA) := [(⟨40, 4, 5, 2⟩, ⟨[(8, (.sl 5 2 (.int 0) (.un .len (.var 2)) none)), (10, .any), (11, .any), (12, .any), (13, .any), (17, (.int .i64 (.var 3))), (18, .any), (19, .any), (20, .any), (21, .any), (22, .any), (23, .any), (24, .any), (25, .any), (26, .any), (27, .any), (28, .any), (29, .any), (30, .any), (31, .any), (32, .any), (33, .any), (34, .any), (35, .any), (36, .any), (37, .any)], [(4, (.cells [(.sl 6 1 (.int 0) (.un .len (.var 4)) none)])), (5, (.rows [.int .i64, .bool] (.var 2))), (6, (.ro [.int .i64] (.var 4)))], [], 3, 2⟩)]
def memAllPhi : Fs := ⟨fun n d => match n with
  | 0 => .list (memDoF d.l)
  | _ => d, 130⟩
theorem memAllS : SmyOk true Tryd.prog memAllPhi memAllSm := (smy_cons (lenP [(0, 1000000)]) memDoF memDo_pure (len_hp [(0, 1000000)]) (fun _ => rfl) (fun _ h => by cases h) smy_nil)
theorem memAllT : treeOk ⟨Tryd.prog, memAllSm, memAllLa, true⟩ 4000 41 [.agg [.rows false [.int .i64]], .one (.rows false [.int .i64, .int .i64, .int .i64, .int .i64, .str])] [.agg [.rows false [.int .i64]], .one (.rows true [.int .i64, .bool]), .one (.pl (.int .i64))] ([]) memAllTree = true := by decide +kernel
set_option maxHeartbeats 1000000 in
theorem memAll_pure : PureE true Tryd.prog 41 [.agg [.rows false [.int .i64]], .one (.rows false [.int .i64, .int .i64, .int .i64, .int .i64, .str])] [.agg [.rows false [.int .i64]], .one (.rows true [.int .i64, .bool]), .one (.pl (.int .i64))] (lenP [(0, 1000000), (1, 1000000)]) memAllF := by
  refine pure_tree (X := ⟨Tryd.prog, memAllSm, memAllLa, true⟩) (by decide +kernel) (Checked.mixed Tryd.checked) memAllS (by decide +kernel) (by decide +kernel) memAllT (by decide +kernel) ?_
  intro ds hl hp
  obtain ⟨d0, d1, rfl⟩ := len2 hl
  have b0 : (d0.l.length : Int) ≤ 1000000 := hp (0, 1000000) (by simp)
  have b1 : (d1.l.length : Int) ≤ 1000000 := hp (1, 1000000) (by simp)
  have hF : memAllF [d0, d1] = memAllE (d0.l.map DV.i) (d1.l.map deciiiis) := rfl
  rw [hF]
  clear hF hp hl
  have hN : nrmL (clsOf [.agg [.rows false [.int .i64]], .one (.rows false [.int .i64, .int .i64, .int .i64, .int .i64, .str])]) [d0, d1] = [.list ((d0.l.map DV.i).map DV.int), .list ((d1.l.map deciiiis).map enciiiis)] := by
    simp only [clsOf, Sh.cls, List.append_nil, List.cons_append, List.nil_append, nrmL, Cl.nrm, CK.nrm, map_Li, map_Liiiis]
  rw [hN]
  clear hN
  rw [← List.length_map (f := DV.i)] at b0
  generalize d0.l.map DV.i = x0 at b0 ⊢
  rw [← List.length_map (f := deciiiis)] at b1
  generalize d1.l.map deciiiis = x1 at b1 ⊢
  refine ⟨facts_nil _, ?_⟩
  unfold memAllTree memAllE
  simp only [Sat, clsOf, Sh.cls, List.append_nil, List.cons_append, List.nil_append, nrmL, Cl.nrm, CK.nrm, List.map_cons, List.map_nil, List.length_cons, List.length_nil, List.cons.injEq, DV.bool.injEq, DV.int.injEq, DV.list.injEq, DV.str.injEq, and_true, true_and]
  simp only [q_le, q_eq, q_eqs, q_eqb, q_and, q_or, q_not, q_bool, iff_true, iff_false, Bool.not_true, Bool.not_false, Bool.false_eq_true, Bool.true_eq_false, eq_self, Bool.not_not]
  simp only [Bool.not_true, Bool.not_false, Bool.true_eq_false, SE.den, evU, evT, ev_le, ev_eq, ev_eqs, ev_eqb, ev_slt, ev_and, ev_or, ev_add, ev_sub, ev_mul, ev_tdiv, ev_tmod, ev_band, ev_bor, ev_bxor, ev_bandn, ev_shl, ev_shr, ev_cat, ev_byte, ev_idx, ev_cons, ev_snoc, ev_app, ev_take, ev_drop, ev_stake, ev_sdrop, ev_rep, leB_q, eqB_q, eqsB_q, not_q, i_if, b_if, l_if, s_if, i_int, b_bool, s_str, l_list, envL, List.getElem?_cons_succ, List.getElem?_cons_zero, List.getElem?_nil, Option.getD_some, Option.getD_none, Int.toNat_natCast, Int.toNat_zero, Int.reduceToNat, List.length_map, get_Li, get_Lb, get_Ls, set_Li, inj_Li, inj_Lb, inj_Ls, rows_i, rows_b, rows_s, Int.zero_add, iff_true, iff_false, and_true, true_and, Bool.false_eq_true, eq_self, not_true_eq_false, not_false_eq_true, List.length_replicate, DV.int.injEq, DV.bool.injEq, DV.str.injEq, DV.list.injEq, List.cons.injEq, f_ib_0, rows_ib, inj_Lib, f_ib_1, rows_ib, inj_Lib, f_iiiis_0, rows_iiiis, inj_Liiiis, f_iiiis_1, rows_iiiis, inj_Liiiis, f_iiiis_2, rows_iiiis, inj_Liiiis, f_iiiis_3, rows_iiiis, inj_Liiiis, f_iiiis_4, rows_iiiis, inj_Liiiis, memAllPhi, memDoF, memDoE, gi, gb, gs, gLi, gLu, gLb, gLs, dece_i, dece_b, dece_s]
  refine rounds_inv (fun y => ∃ (i : Nat) (m : List Int) (told : List Tib), y = [.list (told.map encib), .int i, .list (m.map DV.int)] ∧ i ≤ x1.length ∧ m.length = x0.length ∧ told.length = i ∧ allM x0 (x1.drop i) m told = allM x0 x1 x0 []) (fun y => x1.length - ((y[1]?).getD (DV.int 0)).i.toNat) ⟨0, x0, [], rfl, Nat.zero_le _, rfl, rfl, by rw [List.drop_zero]⟩ ?_
  rintro y ⟨i, m, told, rfl, hi, hm, ht, hall⟩
  rcases Nat.lt_or_ge i x1.length with hlt | hge
  · obtain ⟨a, ha⟩ := listGet hlt
    have hd : x1.drop i = a :: x1.drop (i + 1) := by
      rw [List.drop_eq_getElem_cons hlt]
      congr 1
      have := List.getElem?_eq_getElem hlt
      rw [ha] at this
      exact (Option.some.inj this).symm
    have hst : ∀ r, allM x0 (a :: r) m told = if (doM m a.1 a.2.1 a.2.2.1 a.2.2.2.1 a.2.2.2.2).2.2 = 0 then allM x0 r (doM m a.1 a.2.1 a.2.2.1 a.2.2.2.1 a.2.2.2.2).1 (told ++ [(doM m a.1 a.2.1 a.2.2.1 a.2.2.2.1 a.2.2.2.2).2.1]) else (x0, [], (doM m a.1 a.2.1 a.2.2.1 a.2.2.2.1 a.2.2.2.2).2.2) := fun _ => rfl
    rw [hd, hst] at hall
    by_cases he : (doM m a.1 a.2.1 a.2.2.1 a.2.2.2.1 a.2.2.2.2).2.2 = 0
    · refine .inr ⟨[.list ((told ++ [(doM m a.1 a.2.1 a.2.2.1 a.2.2.2.1 a.2.2.2.2).2.1]).map encib), .int ((i + 1 : Nat) : Int), .list ((doM m a.1 a.2.1 a.2.2.1 a.2.2.2.1 a.2.2.2.2).1.map DV.int)], ?_, rfl, ⟨i + 1, _, _, rfl, hlt, by rw [doM_len, hm], by simp [ht], by rw [if_pos he] at hall; exact hall⟩, ?_⟩
      · simp only [Bool.not_true, Bool.not_false, Bool.true_eq_false, SE.den, evU, evT, ev_le, ev_eq, ev_eqs, ev_eqb, ev_slt, ev_and, ev_or, ev_add, ev_sub, ev_mul, ev_tdiv, ev_tmod, ev_band, ev_bor, ev_bxor, ev_bandn, ev_shl, ev_shr, ev_cat, ev_byte, ev_idx, ev_cons, ev_snoc, ev_app, ev_take, ev_drop, ev_stake, ev_sdrop, ev_rep, leB_q, eqB_q, eqsB_q, not_q, i_if, b_if, l_if, s_if, i_int, b_bool, s_str, l_list, envL, List.getElem?_cons_succ, List.getElem?_cons_zero, List.getElem?_nil, Option.getD_some, Option.getD_none, Int.toNat_natCast, Int.toNat_zero, Int.reduceToNat, List.length_map, get_Li, get_Lb, get_Ls, set_Li, inj_Li, inj_Lb, inj_Ls, rows_i, rows_b, rows_s, Int.zero_add, iff_true, iff_false, and_true, true_and, Bool.false_eq_true, eq_self, not_true_eq_false, not_false_eq_true, List.length_replicate, DV.int.injEq, DV.bool.injEq, DV.str.injEq, DV.list.injEq, List.cons.injEq, f_ib_0, rows_ib, inj_Lib, f_ib_1, rows_ib, inj_Lib, f_iiiis_0, rows_iiiis, inj_Liiiis, f_iiiis_1, rows_iiiis, inj_Liiiis, f_iiiis_2, rows_iiiis, inj_Liiiis, f_iiiis_3, rows_iiiis, inj_Liiiis, f_iiiis_4, rows_iiiis, inj_Liiiis, memAllPhi, memDoF, memDoE, gi, gb, gs, gLi, gLu, gLb, gLs, dece_i, dece_b, dece_s, List.getElem?_map, ha, Option.map_some, enciiiis, he, List.map_append, encib, List.map_cons, List.map_nil, w64 (n := (i : Int) + 1) (by omega) (by omega)]
        have : ¬ (x1.length : Int) ≤ i := by omega
        simp only [this, not_false_eq_true, true_imp_iff, false_imp_iff, and_true, not_true_eq_false]
        simp
        omega
      · simp only [Bool.not_true, Bool.not_false, Bool.true_eq_false, SE.den, evU, evT, ev_le, ev_eq, ev_eqs, ev_eqb, ev_slt, ev_and, ev_or, ev_add, ev_sub, ev_mul, ev_tdiv, ev_tmod, ev_band, ev_bor, ev_bxor, ev_bandn, ev_shl, ev_shr, ev_cat, ev_byte, ev_idx, ev_cons, ev_snoc, ev_app, ev_take, ev_drop, ev_stake, ev_sdrop, ev_rep, leB_q, eqB_q, eqsB_q, not_q, i_if, b_if, l_if, s_if, i_int, b_bool, s_str, l_list, envL, List.getElem?_cons_succ, List.getElem?_cons_zero, List.getElem?_nil, Option.getD_some, Option.getD_none, Int.toNat_natCast, Int.toNat_zero, Int.reduceToNat, List.length_map, get_Li, get_Lb, get_Ls, set_Li, inj_Li, inj_Lb, inj_Ls, rows_i, rows_b, rows_s, Int.zero_add, iff_true, iff_false, and_true, true_and, Bool.false_eq_true, eq_self, not_true_eq_false, not_false_eq_true, List.length_replicate, DV.int.injEq, DV.bool.injEq, DV.str.injEq, DV.list.injEq, List.cons.injEq, f_ib_0, rows_ib, inj_Lib, f_ib_1, rows_ib, inj_Lib, f_iiiis_0, rows_iiiis, inj_Liiiis, f_iiiis_1, rows_iiiis, inj_Liiiis, f_iiiis_2, rows_iiiis, inj_Liiiis, f_iiiis_3, rows_iiiis, inj_Liiiis, f_iiiis_4, rows_iiiis, inj_Liiiis]
        omega
    · rw [if_neg he] at hall
      refine .inl ?_
      simp only [Bool.not_true, Bool.not_false, Bool.true_eq_false, SE.den, evU, evT, ev_le, ev_eq, ev_eqs, ev_eqb, ev_slt, ev_and, ev_or, ev_add, ev_sub, ev_mul, ev_tdiv, ev_tmod, ev_band, ev_bor, ev_bxor, ev_bandn, ev_shl, ev_shr, ev_cat, ev_byte, ev_idx, ev_cons, ev_snoc, ev_app, ev_take, ev_drop, ev_stake, ev_sdrop, ev_rep, leB_q, eqB_q, eqsB_q, not_q, i_if, b_if, l_if, s_if, i_int, b_bool, s_str, l_list, envL, List.getElem?_cons_succ, List.getElem?_cons_zero, List.getElem?_nil, Option.getD_some, Option.getD_none, Int.toNat_natCast, Int.toNat_zero, Int.reduceToNat, List.length_map, get_Li, get_Lb, get_Ls, set_Li, inj_Li, inj_Lb, inj_Ls, rows_i, rows_b, rows_s, Int.zero_add, iff_true, iff_false, and_true, true_and, Bool.false_eq_true, eq_self, not_true_eq_false, not_false_eq_true, List.length_replicate, DV.int.injEq, DV.bool.injEq, DV.str.injEq, DV.list.injEq, List.cons.injEq, f_ib_0, rows_ib, inj_Lib, f_ib_1, rows_ib, inj_Lib, f_iiiis_0, rows_iiiis, inj_Liiiis, f_iiiis_1, rows_iiiis, inj_Liiiis, f_iiiis_2, rows_iiiis, inj_Liiiis, f_iiiis_3, rows_iiiis, inj_Liiiis, f_iiiis_4, rows_iiiis, inj_Liiiis, memAllPhi, memDoF, memDoE, gi, gb, gs, gLi, gLu, gLb, gLs, dece_i, dece_b, dece_s, List.getElem?_map, ha, Option.map_some, enciiiis, he, ← hall]
      have : ¬ (x1.length : Int) ≤ i := by omega
      simp [this]
      omega
  · have : i = x1.length := by omega
    subst this
    have hst : allM x0 [] m told = (m, told, 0) := rfl
    rw [List.drop_length, hst] at hall
    refine .inl ?_
    simp only [Bool.not_true, Bool.not_false, Bool.true_eq_false, SE.den, evU, evT, ev_le, ev_eq, ev_eqs, ev_eqb, ev_slt, ev_and, ev_or, ev_add, ev_sub, ev_mul, ev_tdiv, ev_tmod, ev_band, ev_bor, ev_bxor, ev_bandn, ev_shl, ev_shr, ev_cat, ev_byte, ev_idx, ev_cons, ev_snoc, ev_app, ev_take, ev_drop, ev_stake, ev_sdrop, ev_rep, leB_q, eqB_q, eqsB_q, not_q, i_if, b_if, l_if, s_if, i_int, b_bool, s_str, l_list, envL, List.getElem?_cons_succ, List.getElem?_cons_zero, List.getElem?_nil, Option.getD_some, Option.getD_none, Int.toNat_natCast, Int.toNat_zero, Int.reduceToNat, List.length_map, get_Li, get_Lb, get_Ls, set_Li, inj_Li, inj_Lb, inj_Ls, rows_i, rows_b, rows_s, Int.zero_add, iff_true, iff_false, and_true, true_and, Bool.false_eq_true, eq_self, not_true_eq_false, not_false_eq_true, List.length_replicate, DV.int.injEq, DV.bool.injEq, DV.str.injEq, DV.list.injEq, List.cons.injEq, f_ib_0, rows_ib, inj_Lib, f_ib_1, rows_ib, inj_Lib, f_iiiis_0, rows_iiiis, inj_Liiiis, f_iiiis_1, rows_iiiis, inj_Liiiis, f_iiiis_2, rows_iiiis, inj_Liiiis, f_iiiis_3, rows_iiiis, inj_Liiiis, f_iiiis_4, rows_iiiis, inj_Liiiis, ← hall]
    simp [rows_ib]
end Go.Proofs.YtlaebfjfnbiooaaDoor
