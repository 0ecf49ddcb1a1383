/- The function hallmootref23.valid is a function of data. No condition. -/
import Derived.Test.YtkfjgggiopegbaaDoorWalN
import Derived.Test.YtkfjgggiopegbaaDoorBd
import Derived.Test.YtkfjgggiopegbaaDoorOpen
namespace Go.Proofs.YtkfjgggiopegbaaDoor
set_option linter.unusedVariables false
set_option linter.unusedSimpArgs false
set_option maxRecDepth 100000

def rValidE (v : Int) (w : List Tii) : List DV := [.bool (validM v w)]
theorem asc_at3 (p : Int) (w : List Tii) (i : Nat) : ascM p (w.drop i) = if w.length ≤ i then true else (decide (p < (w[i]?.getD dii).1) && ascM (w[i]?.getD dii).1 (w.drop (i + 1))) := by
  by_cases h : w.length ≤ i
  · rw [if_pos h, List.drop_eq_nil_of_le h]; rfl
  · rw [if_neg h, List.drop_eq_getElem_cons (by omega)]
    have e1 : w[i]?.getD dii = w[i] := by rw [List.getElem?_eq_getElem (by omega)]; rfl
    rw [e1]; rfl

def rValidF (ds : List DV) : List DV := rValidE (gi ds 0) (gLii ds 1)
/-- What the executor makes of it. -/
def rValidTree : PT :=
(.br (.un .not (.bin .le (.int 1) (.var 0)))
 (.leaf [(.bool false)])
 (.br (.un .not (.bin .le (.var 0) (.int 1099511627776)))
  (.leaf [(.bool false)])
  (.br (.un .not (.bin .le (.un .len (.var 1)) (.int 32)))
   (.leaf [(.bool false)])
   (.loop 2 [(.int 0)]
    (.br (.un .not (.bin .le (.un .len (.var 1)) (.var 2)))
     (.asrt (.bin .le (.int 0) (.var 2))
      (.br (.un .not (.bin .le (.int 0) (.bin .idx (.bin .idx (.var 1) (.bin .add (.int 0) (.var 2))) (.int 0))))
       .fail
       (.br (.un .not (.bin .le (.var 2) (.int 0)))
        (.asrt (.bin .le (.int 0) (.tri .ite (.un .not (.bin .le (.int 0) (.un (.wrap .i64) (.bin .sub (.var 2) (.int 1))))) (.int 0) (.un (.wrap .i64) (.bin .sub (.var 2) (.int 1)))))
         (.asrt (.un .not (.bin .le (.un .len (.var 1)) (.tri .ite (.un .not (.bin .le (.int 0) (.un (.wrap .i64) (.bin .sub (.var 2) (.int 1))))) (.int 0) (.un (.wrap .i64) (.bin .sub (.var 2) (.int 1))))))
          (.br (.bin .le (.bin .idx (.bin .idx (.var 1) (.bin .add (.int 0) (.var 2))) (.int 0)) (.bin .idx (.bin .idx (.var 1) (.bin .add (.int 0) (.tri .ite (.un .not (.bin .le (.int 0) (.un (.wrap .i64) (.bin .sub (.var 2) (.int 1))))) (.int 0) (.un (.wrap .i64) (.bin .sub (.var 2) (.int 1)))))) (.int 0)))
           .fail
           (.leaf [(.un (.wrap .i64) (.bin .add (.var 2) (.int 1)))]))))
        (.leaf [(.un (.wrap .i64) (.bin .add (.var 2) (.int 1)))]))))
     .fail)
    (.br (.un .not (.bin .le (.un .len (.var 1)) (.var 2)))
     (.asrt (.bin .le (.int 0) (.var 2))
      (.br (.un .not (.bin .le (.int 0) (.bin .idx (.bin .idx (.var 1) (.bin .add (.int 0) (.var 2))) (.int 0))))
       (.leaf [(.bool false)])
       (.br (.un .not (.bin .le (.var 2) (.int 0)))
        (.asrt (.bin .le (.int 0) (.tri .ite (.un .not (.bin .le (.int 0) (.un (.wrap .i64) (.bin .sub (.var 2) (.int 1))))) (.int 0) (.un (.wrap .i64) (.bin .sub (.var 2) (.int 1)))))
         (.asrt (.un .not (.bin .le (.un .len (.var 1)) (.tri .ite (.un .not (.bin .le (.int 0) (.un (.wrap .i64) (.bin .sub (.var 2) (.int 1))))) (.int 0) (.un (.wrap .i64) (.bin .sub (.var 2) (.int 1))))))
          (.br (.bin .le (.bin .idx (.bin .idx (.var 1) (.bin .add (.int 0) (.var 2))) (.int 0)) (.bin .idx (.bin .idx (.var 1) (.bin .add (.int 0) (.tri .ite (.un .not (.bin .le (.int 0) (.un (.wrap .i64) (.bin .sub (.var 2) (.int 1))))) (.int 0) (.un (.wrap .i64) (.bin .sub (.var 2) (.int 1)))))) (.int 0)))
           (.leaf [(.bool false)])
           .fail)))
        .fail)))
     (.leaf [(.bool true)]))))))

def rValidSm : List (Nat × Smy) := []
def rValidLa : List (LK × LA) := [(⟨53, 4, 3, 2, 3⟩, ⟨[(3, (.int .i64 (.var 2))), (18, .any), (19, .any), (20, .any), (21, .any), (22, .any), (23, .any), (24, .any), (25, .any), (26, .any), (27, .any), (28, .any), (29, .any), (30, .any), (31, .any), (32, .any), (33, .any), (34, .any), (35, .any), (36, .any), (37, .any), (38, .any), (39, .any), (40, .any), (41, .any), (42, .any), (43, .any), (44, .any), (45, .any), (46, .any), (47, .any), (48, .any), (49, .any), (50, .any), (51, .any), (52, .any)], [], [], 1, 0⟩)]
def rValidPhi : Fs := ⟨fun n d => match n with
  | _ => d, 147⟩
theorem rValidS : SmyOk true Tryd.prog rValidPhi rValidSm := smy_nil
theorem rValidT : treeOk ⟨Tryd.prog, rValidSm, rValidLa, true⟩ 4000 72 [.agg [.pl (.int .i64), .rows false [.int .i64, .int .i64]]] [.one (.pl .bool)] ([]) rValidTree = true := by decide +kernel
set_option maxHeartbeats 1000000 in
theorem rValid_pure : PureE true Tryd.prog 72 [.agg [.pl (.int .i64), .rows false [.int .i64, .int .i64]]] [.one (.pl .bool)] (lenP [(1, 9223372036854775807)]) rValidF := by
  refine pure_tree (X := ⟨Tryd.prog, rValidSm, rValidLa, true⟩) (by decide +kernel) (Checked.mixed Tryd.checked) rValidS (by decide +kernel) (by decide +kernel) rValidT (by decide +kernel) ?_
  intro ds hl hp
  obtain ⟨d0, d1, rfl⟩ := len2 hl
  have b1 : (d1.l.length : Int) ≤ 9223372036854775807 := hp (1, 9223372036854775807) (by simp)
  have hF : rValidF [d0, d1] = rValidE d0.i (d1.l.map decii) := rfl
  rw [hF]
  clear hF hp hl
  have hN : nrmL (clsOf [.agg [.pl (.int .i64), .rows false [.int .i64, .int .i64]]]) [d0, d1] = [.int d0.i, .list ((d1.l.map decii).map encii)] := by
    simp only [clsOf, Sh.cls, List.append_nil, List.cons_append, List.nil_append, nrmL, Cl.nrm, CK.nrm, map_Lii]
  rw [hN]
  clear hN
  generalize d0.i = x0
  rw [← List.length_map (f := decii)] at b1
  generalize d1.l.map decii = x1 at b1 ⊢
  refine ⟨facts_nil _, ?_⟩
  unfold rValidTree rValidE
  simp only [Sat, clsOf, Sh.cls, List.append_nil, List.cons_append, List.nil_append, nrmL, Cl.nrm, CK.nrm, List.map_cons, List.map_nil, List.length_cons, List.length_nil, List.cons.injEq, DV.bool.injEq, DV.int.injEq, DV.list.injEq, DV.str.injEq, and_true, true_and]
  simp only [q_le, q_eq, q_eqs, q_eqb, q_and, q_or, q_not, q_bool, iff_true, iff_false, Bool.not_true, Bool.not_false, Bool.false_eq_true, Bool.true_eq_false, eq_self, Bool.not_not]
  simp only [Bool.not_true, Bool.not_false, Bool.true_eq_false, SE.den, evU, evT, ev_le, ev_eq, ev_eqs, ev_eqb, ev_slt, ev_and, ev_or, ev_add, ev_sub, ev_mul, ev_tdiv, ev_tmod, ev_band, ev_bor, ev_bxor, ev_bandn, ev_shl, ev_shr, ev_cat, ev_byte, ev_idx, ev_cons, ev_snoc, ev_app, ev_take, ev_drop, ev_stake, ev_sdrop, ev_rep, leB_q, eqB_q, eqsB_q, not_q, i_if, b_if, l_if, s_if, i_int, b_bool, s_str, l_list, envL, List.getElem?_cons_succ, List.getElem?_cons_zero, List.getElem?_nil, Option.getD_some, Option.getD_none, Int.toNat_natCast, Int.toNat_zero, Int.reduceToNat, List.length_map, get_Li, get_Lb, get_Ls, set_Li, inj_Li, inj_Lb, inj_Ls, rows_i, rows_b, rows_s, Int.zero_add, iff_true, iff_false, and_true, true_and, Bool.false_eq_true, eq_self, not_true_eq_false, not_false_eq_true, List.length_replicate, DV.int.injEq, DV.bool.injEq, DV.str.injEq, DV.list.injEq, List.cons.injEq, f_ii_0, rows_ii, inj_Lii, f_ii_1, rows_ii, inj_Lii, rValidPhi, gi, gb, gs, gLi, gLu, gLb, gLs, dece_i, dece_b, dece_s]
  refine ⟨fun h => ?_, fun a1 => ⟨fun h => ?_, fun a2 => ⟨fun h => ?_, fun a3 => ?_⟩⟩⟩
  · unfold validM; simp [h]
  · unfold validM; simp [h]
  · unfold validM
    have : ¬ x1.length ≤ 32 := by omega
    simp [this]
  · have hV : validM x0 x1 = ascM (-1) x1 := by
      unfold validM
      have : x1.length ≤ 32 := by omega
      simp [a1, a2, this]
    rw [hV]
    refine rounds_inv (fun y => ∃ (i : Nat) (p : Int), y = [.int i] ∧ i ≤ x1.length ∧ -1 ≤ p ∧ (i = 0 → p = -1) ∧ (0 < i → p = (x1[i - 1]?.getD dii).1) ∧ ascM (-1) x1 = ascM p (x1.drop i)) (fun y => x1.length - ((y[0]?).getD (DV.int 0)).i.toNat) ⟨0, -1, rfl, Nat.zero_le _, by omega, fun _ => rfl, fun h => by omega, by rw [List.drop_zero]⟩ ?_
    rintro y ⟨i, p, rfl, hi, hp, hp0, hp1, hall⟩
    rw [asc_at3] at hall
    have e1 : IntKind.i64.wrap ((i : Int) + 1) = ((i + 1 : Nat) : Int) := by rw [w64 (by omega) (by omega)]; omega
    have hw : IntKind.i64.wrap ((i : Int) - 1) = (i : Int) - 1 := w64 (by omega) (by omega)
    simp only [Bool.not_true, Bool.not_false, Bool.true_eq_false, SE.den, evU, evT, ev_le, ev_eq, ev_eqs, ev_eqb, ev_slt, ev_and, ev_or, ev_add, ev_sub, ev_mul, ev_tdiv, ev_tmod, ev_band, ev_bor, ev_bxor, ev_bandn, ev_shl, ev_shr, ev_cat, ev_byte, ev_idx, ev_cons, ev_snoc, ev_app, ev_take, ev_drop, ev_stake, ev_sdrop, ev_rep, leB_q, eqB_q, eqsB_q, not_q, i_if, b_if, l_if, s_if, i_int, b_bool, s_str, l_list, envL, List.getElem?_cons_succ, List.getElem?_cons_zero, List.getElem?_nil, Option.getD_some, Option.getD_none, Int.toNat_natCast, Int.toNat_zero, Int.reduceToNat, List.length_map, get_Li, get_Lb, get_Ls, set_Li, inj_Li, inj_Lb, inj_Ls, rows_i, rows_b, rows_s, Int.zero_add, iff_true, iff_false, and_true, true_and, Bool.false_eq_true, eq_self, not_true_eq_false, not_false_eq_true, List.length_replicate, DV.int.injEq, DV.bool.injEq, DV.str.injEq, DV.list.injEq, List.cons.injEq, f_ii_0, rows_ii, inj_Lii, f_ii_1, rows_ii, inj_Lii, e1, raw_ii_0]
    by_cases h1 : x1.length ≤ i
    · left
      rw [if_pos h1] at hall
      have h1' : (x1.length : Int) ≤ i := by omega
      rw [hall]
      simp [h1']
    · rw [if_neg h1] at hall
      have h1' : ¬ (x1.length : Int) ≤ i := by omega
      by_cases h2 : p < (x1[i]?.getD dii).1
      · right
        rw [decide_eq_true h2, Bool.true_and] at hall
        refine ⟨[.int ((i + 1 : Nat) : Int)], ?_, rfl, ⟨i + 1, _, rfl, by omega, by omega, fun h => by omega, fun _ => by simp, hall⟩, ?_⟩
        · have h3 : 0 ≤ (x1[i]?.getD dii).1 := by omega
          refine ⟨fun _ => ⟨by omega, fun h => absurd h3 h, fun _ => ⟨fun hi0 => ⟨by omega, by omega, fun hle => ?_, fun _ => rfl⟩, fun _ => rfl⟩⟩, fun h => absurd h h1'⟩
          have := hp1 (by omega)
          generalize hq : Int.toNat _ = q at hle
          have hq' : q = i - 1 := by omega
          rw [hq'] at hle
          omega
        · simp only [Bool.not_true, Bool.not_false, Bool.true_eq_false, SE.den, evU, evT, ev_le, ev_eq, ev_eqs, ev_eqb, ev_slt, ev_and, ev_or, ev_add, ev_sub, ev_mul, ev_tdiv, ev_tmod, ev_band, ev_bor, ev_bxor, ev_bandn, ev_shl, ev_shr, ev_cat, ev_byte, ev_idx, ev_cons, ev_snoc, ev_app, ev_take, ev_drop, ev_stake, ev_sdrop, ev_rep, leB_q, eqB_q, eqsB_q, not_q, i_if, b_if, l_if, s_if, i_int, b_bool, s_str, l_list, envL, List.getElem?_cons_succ, List.getElem?_cons_zero, List.getElem?_nil, Option.getD_some, Option.getD_none, Int.toNat_natCast, Int.toNat_zero, Int.reduceToNat, List.length_map, get_Li, get_Lb, get_Ls, set_Li, inj_Li, inj_Lb, inj_Ls, rows_i, rows_b, rows_s, Int.zero_add, iff_true, iff_false, and_true, true_and, Bool.false_eq_true, eq_self, not_true_eq_false, not_false_eq_true, List.length_replicate, DV.int.injEq, DV.bool.injEq, DV.str.injEq, DV.list.injEq, List.cons.injEq, f_ii_0, rows_ii, inj_Lii, f_ii_1, rows_ii, inj_Lii]; omega
      · left
        have hf : ascM (-1) x1 = false := by rw [hall]; simp; omega
        rw [hf]
        refine ⟨fun _ => ⟨by omega, fun _ => rfl, fun h3 => ⟨fun hi0 => ⟨by omega, by omega, fun hle => rfl, fun hn => ?_⟩, fun hi0 => ?_⟩⟩, fun h => absurd h h1'⟩
        · have := hp1 (by omega)
          generalize hq : Int.toNat _ = q at hn
          have hq' : q = i - 1 := by omega
          rw [hq'] at hn
          omega
        · have := hp0 (by omega)
          omega
end Go.Proofs.YtkfjgggiopegbaaDoor
