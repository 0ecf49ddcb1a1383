/- The function wire.GetNums is a function of data. No condition. -/
import Derived.Test.YtkfjgggiopegbaaDoorWGet
import Derived.Test.YtkfjgggiopegbaaDoorWalM
import Derived.Test.YtkfjgggiopegbaaDoorBd
import Derived.Test.YtkfjgggiopegbaaDoorOpen
namespace Go.Proofs.YtkfjgggiopegbaaDoor
set_option linter.unusedVariables false
set_option linter.unusedSimpArgs false
set_option maxRecDepth 100000

def getN3 : Option (List Int × Nat) → List DV
  | none => [.list [], .int 0, .int 3]
  | some p => [.list (p.1.map .int), .int p.2, .int 0]
theorem nrm_N3 (o : Option (List Int × Nat)) : nrmL [Cl.rows true [CK.int IntKind.i64], Cl.pl (CK.int IntKind.i64), Cl.pl (CK.int IntKind.i64)] (getN3 o) = getN3 o := by
  cases o with
  | none => rfl
  | some p => simp only [getN3, nrmL, Cl.nrm, CK.nrm, l_list, i_int, rows_i]
theorem gnR_succ (m : Nat) (b : List Int) (a : Nat) (acc : List Int) : gnR (m + 1) b a acc = match getR b with | none => none | some p => gnR m (b.drop p.2) (a + p.2) (acc ++ [p.1]) := rfl
def wGetNumsE (b : List Int) : List DV := getN3 (getNumsR b)

def wGetNumsF (ds : List DV) : List DV := wGetNumsE (gLi ds 0)
/-- What the executor makes of it. -/
def wGetNumsTree : PT :=
(.asrt (.bin .le (.un .len (.bin .take (.bin .drop (.var 0) (.int 0)) (.bin .sub (.un .len (.var 0)) (.int 0)))) (.int 1000000))
 (.br (.un .not (.bin .eq (.bin .idx (.fn 95 (.bin .cons (.bin .take (.bin .drop (.var 0) (.int 0)) (.bin .sub (.un .len (.var 0)) (.int 0))) .nil)) (.int 2)) (.int 0)))
  (.leaf [.nil, (.int 0), (.int 3)])
  (.br (.un .not (.bin .le (.int 0) (.bin .idx (.fn 95 (.bin .cons (.bin .take (.bin .drop (.var 0) (.int 0)) (.bin .sub (.un .len (.var 0)) (.int 0))) .nil)) (.int 0))))
   (.leaf [.nil, (.int 0), (.int 3)])
   (.br (.un .not (.bin .le (.bin .idx (.fn 95 (.bin .cons (.bin .take (.bin .drop (.var 0) (.int 0)) (.bin .sub (.un .len (.var 0)) (.int 0))) .nil)) (.int 0)) (.un .len (.var 0))))
    (.leaf [.nil, (.int 0), (.int 3)])
    (.loop 1 [.nil, (.int 0), (.un (.wrap .i64) (.bin .add (.int 0) (.bin .idx (.fn 95 (.bin .cons (.bin .take (.bin .drop (.var 0) (.int 0)) (.bin .sub (.un .len (.var 0)) (.int 0))) .nil)) (.int 1))))]
     (.br (.un .not (.bin .le (.bin .idx (.fn 95 (.bin .cons (.bin .take (.bin .drop (.var 0) (.int 0)) (.bin .sub (.un .len (.var 0)) (.int 0))) .nil)) (.int 0)) (.var 2)))
      (.asrt (.bin .le (.int 0) (.var 3))
       (.asrt (.bin .le (.var 3) (.un .len (.var 0)))
        (.asrt (.bin .le (.un .len (.bin .take (.bin .drop (.var 0) (.bin .add (.int 0) (.var 3))) (.bin .sub (.un .len (.var 0)) (.var 3)))) (.int 1000000))
         (.br (.un .not (.bin .eq (.bin .idx (.fn 95 (.bin .cons (.bin .take (.bin .drop (.var 0) (.bin .add (.int 0) (.var 3))) (.bin .sub (.un .len (.var 0)) (.var 3))) .nil)) (.int 2)) (.int 0)))
          .fail
          (.asrt (.bin .le (.bin .add (.un .len (.var 1)) (.int 1)) (.int 4294967296))
           (.leaf [(.bin .snoc (.var 1) (.bin .idx (.fn 95 (.bin .cons (.bin .take (.bin .drop (.var 0) (.bin .add (.int 0) (.var 3))) (.bin .sub (.un .len (.var 0)) (.var 3))) .nil)) (.int 0))), (.un (.wrap .i64) (.bin .add (.var 2) (.int 1))), (.un (.wrap .i64) (.bin .add (.var 3) (.bin .idx (.fn 95 (.bin .cons (.bin .take (.bin .drop (.var 0) (.bin .add (.int 0) (.var 3))) (.bin .sub (.un .len (.var 0)) (.var 3))) .nil)) (.int 1))))]))))))
      .fail)
     (.br (.un .not (.bin .le (.bin .idx (.fn 95 (.bin .cons (.bin .take (.bin .drop (.var 0) (.int 0)) (.bin .sub (.un .len (.var 0)) (.int 0))) .nil)) (.int 0)) (.var 2)))
      (.asrt (.bin .le (.int 0) (.var 3))
       (.asrt (.bin .le (.var 3) (.un .len (.var 0)))
        (.asrt (.bin .le (.un .len (.bin .take (.bin .drop (.var 0) (.bin .add (.int 0) (.var 3))) (.bin .sub (.un .len (.var 0)) (.var 3)))) (.int 1000000))
         (.br (.un .not (.bin .eq (.bin .idx (.fn 95 (.bin .cons (.bin .take (.bin .drop (.var 0) (.bin .add (.int 0) (.var 3))) (.bin .sub (.un .len (.var 0)) (.var 3))) .nil)) (.int 2)) (.int 0)))
          (.leaf [.nil, (.int 0), (.int 3)])
          (.asrt (.bin .le (.bin .add (.un .len (.var 1)) (.int 1)) (.int 4294967296))
           .fail)))))
      (.leaf [(.var 1), (.var 3), (.int 0)])))))))

def wGetNumsSm : List (Nat × Smy) := [(100, ⟨95, [.one (.rows false [.int .u8])], [.one (.pl (.int .i64)), .one (.pl (.int .i64)), .one (.pl (.int .i64))], lenC [(0, 1000000)], none⟩)]
def wGetNumsLa : List (LK × LA) := [(⟨52, 7, 3, 1, 4⟩, ⟨[(9, (.sl 3 1 (.int 0) (.un .len (.var 1)) none)), (10, .any), (11, .any), (35, (.int .i64 (.var 2))), (36, .any), (37, .any), (38, .any), (39, .any), (40, .any), (41, .any), (42, .any), (43, .any), (44, .any), (45, .any), (46, .any), (47, .any), (48, .any)], [(2, (.cells [(.int .i64 (.var 3))])), (3, (.rows [.int .i64] (.var 1)))], [], 3, 1⟩)]
def wGetNumsPhi : Fs := ⟨fun n d => match n with
  | 95 => .list (wGetF d.l)
  | _ => d, 147⟩
theorem wGetNumsS : SmyOk true Tryd.prog wGetNumsPhi wGetNumsSm := (smy_cons (lenP [(0, 1000000)]) wGetF wGet_pure (len_hp [(0, 1000000)]) (fun _ => rfl) (fun _ h => by cases h) smy_nil)
theorem wGetNumsT : treeOk ⟨Tryd.prog, wGetNumsSm, wGetNumsLa, true⟩ 4000 42 [.one (.rows false [.int .u8])] [.one (.rows true [.int .i64]), .one (.pl (.int .i64)), .one (.pl (.int .i64))] ([]) wGetNumsTree = true := by decide +kernel
set_option maxHeartbeats 1000000 in
theorem wGetNums_pure : PureE true Tryd.prog 42 [.one (.rows false [.int .u8])] [.one (.rows true [.int .i64]), .one (.pl (.int .i64)), .one (.pl (.int .i64))] (lenP [(0, 1000000)]) wGetNumsF := by
  refine pure_tree (X := ⟨Tryd.prog, wGetNumsSm, wGetNumsLa, true⟩) (by decide +kernel) (Checked.mixed Tryd.checked) wGetNumsS (by decide +kernel) (by decide +kernel) wGetNumsT (by decide +kernel) ?_
  intro ds hl hp
  obtain ⟨d0, rfl⟩ := len1 hl
  have b0 : (d0.l.length : Int) ≤ 1000000 := hp (0, 1000000) (by simp)
  have hF : wGetNumsF [d0] = wGetNumsE (d0.l.map DV.i) := rfl
  rw [hF]
  clear hF hp hl
  have hN : nrmL (clsOf [.one (.rows false [.int .u8])]) [d0] = [.list ((d0.l.map DV.i).map DV.int)] := by
    simp only [clsOf, Sh.cls, List.append_nil, List.cons_append, List.nil_append, nrmL, Cl.nrm, CK.nrm, map_Li]
  rw [hN]
  clear hN
  rw [← List.length_map (f := DV.i)] at b0
  generalize d0.l.map DV.i = x0 at b0 ⊢
  refine ⟨facts_nil _, ?_⟩
  unfold wGetNumsTree wGetNumsE
  simp only [Sat, clsOf, Sh.cls, List.append_nil, List.cons_append, List.nil_append, nrmL, Cl.nrm, CK.nrm, List.map_cons, List.map_nil, List.length_cons, List.length_nil, List.cons.injEq, DV.bool.injEq, DV.int.injEq, DV.list.injEq, DV.str.injEq, and_true, true_and]
  try simp only [q_le, q_eq, q_eqs, q_eqb, q_and, q_or, q_not, q_bool, iff_true, iff_false, Bool.not_true, Bool.not_false, Bool.false_eq_true, Bool.true_eq_false, eq_self, Bool.not_not]
  simp only [Bool.not_true, Bool.not_false, Bool.true_eq_false, SE.den, evU, evT, ev_le, ev_eq, ev_eqs, ev_eqb, ev_slt, ev_and, ev_or, ev_add, ev_sub, ev_mul, ev_tdiv, ev_tmod, ev_band, ev_bor, ev_bxor, ev_bandn, ev_shl, ev_shr, ev_cat, ev_byte, ev_idx, ev_cons, ev_snoc, ev_app, ev_take, ev_drop, ev_stake, ev_sdrop, ev_rep, leB_q, eqB_q, eqsB_q, not_q, i_if, b_if, l_if, s_if, i_int, b_bool, s_str, l_list, envL, List.getElem?_cons_succ, List.getElem?_cons_zero, List.getElem?_nil, Option.getD_some, Option.getD_none, Int.toNat_natCast, Int.toNat_zero, Int.reduceToNat, List.length_map, get_Li, get_Lb, get_Ls, set_Li, inj_Li, inj_Lb, inj_Ls, rows_i, rows_b, rows_s, Int.zero_add, iff_true, iff_false, and_true, true_and, Bool.false_eq_true, eq_self, not_true_eq_false, not_false_eq_true, List.length_replicate, DV.int.injEq, DV.bool.injEq, DV.str.injEq, DV.list.injEq, List.cons.injEq, wGetNumsPhi, wGetF, wGetE, gi, gb, gs, gLi, gLu, gLb, gLs, dece_i, dece_b, dece_s, Int.sub_zero, List.drop_zero, take_Li, drop_Li, List.take_length, dece_i, nrm_N3]
  unfold getNumsR
  cases hg : getR x0 with
  | none =>
    simp [getD3, getN3, Bool.not_true, Bool.not_false, Bool.true_eq_false, SE.den, evU, evT, ev_le, ev_eq, ev_eqs, ev_eqb, ev_slt, ev_and, ev_or, ev_add, ev_sub, ev_mul, ev_tdiv, ev_tmod, ev_band, ev_bor, ev_bxor, ev_bandn, ev_shl, ev_shr, ev_cat, ev_byte, ev_idx, ev_cons, ev_snoc, ev_app, ev_take, ev_drop, ev_stake, ev_sdrop, ev_rep, leB_q, eqB_q, eqsB_q, not_q, i_if, b_if, l_if, s_if, i_int, b_bool, s_str, l_list, envL, List.getElem?_cons_succ, List.getElem?_cons_zero, List.getElem?_nil, Option.getD_some, Option.getD_none, Int.toNat_natCast, Int.toNat_zero, Int.reduceToNat, List.length_map, get_Li, get_Lb, get_Ls, set_Li, inj_Li, inj_Lb, inj_Ls, rows_i, rows_b, rows_s, Int.zero_add, iff_true, iff_false, and_true, true_and, Bool.false_eq_true, eq_self, not_true_eq_false, not_false_eq_true, List.length_replicate, DV.int.injEq, DV.bool.injEq, DV.str.injEq, DV.list.injEq, List.cons.injEq]
    omega
  | some p =>
    obtain ⟨n, k⟩ := p
    obtain ⟨k0, k1⟩ := getR_len hg
    simp only [getD3, Bool.not_true, Bool.not_false, Bool.true_eq_false, SE.den, evU, evT, ev_le, ev_eq, ev_eqs, ev_eqb, ev_slt, ev_and, ev_or, ev_add, ev_sub, ev_mul, ev_tdiv, ev_tmod, ev_band, ev_bor, ev_bxor, ev_bandn, ev_shl, ev_shr, ev_cat, ev_byte, ev_idx, ev_cons, ev_snoc, ev_app, ev_take, ev_drop, ev_stake, ev_sdrop, ev_rep, leB_q, eqB_q, eqsB_q, not_q, i_if, b_if, l_if, s_if, i_int, b_bool, s_str, l_list, envL, List.getElem?_cons_succ, List.getElem?_cons_zero, List.getElem?_nil, Option.getD_some, Option.getD_none, Int.toNat_natCast, Int.toNat_zero, Int.reduceToNat, List.length_map, get_Li, get_Lb, get_Ls, set_Li, inj_Li, inj_Lb, inj_Ls, rows_i, rows_b, rows_s, Int.zero_add, iff_true, iff_false, and_true, true_and, Bool.false_eq_true, eq_self, not_true_eq_false, not_false_eq_true, List.length_replicate, DV.int.injEq, DV.bool.injEq, DV.str.injEq, DV.list.injEq, List.cons.injEq]
    refine ⟨by omega, fun h => h.elim, fun _ => ⟨fun h => ?_, fun hn => ⟨fun h => ?_, fun hm => ?_⟩⟩⟩
    · rw [if_pos (by omega)]; rfl
    · rw [if_pos (by omega)]; rfl
    · rw [if_neg (by omega)]
      have hwk : IntKind.i64.wrap (0 + (k : Int)) = k := by rw [w64 (by omega) (by omega)]; omega
      generalize hR : gnR n.toNat (x0.drop k) k [] = R
      refine rounds_inv (fun y => ∃ (out : List Int) (i q : Nat), y = [.list (out.map .int), .int i, .int q] ∧ i ≤ n.toNat ∧ out.length = i ∧ q ≤ x0.length ∧ gnR (n.toNat - i) (x0.drop q) q out = R) (fun y => n.toNat - ((y[1]?).getD (DV.int 0)).i.toNat) ⟨[], 0, k, ?_, by omega, rfl, k1, hR⟩ ?_
      · simp only [Bool.not_true, Bool.not_false, Bool.true_eq_false, SE.den, evU, evT, ev_le, ev_eq, ev_eqs, ev_eqb, ev_slt, ev_and, ev_or, ev_add, ev_sub, ev_mul, ev_tdiv, ev_tmod, ev_band, ev_bor, ev_bxor, ev_bandn, ev_shl, ev_shr, ev_cat, ev_byte, ev_idx, ev_cons, ev_snoc, ev_app, ev_take, ev_drop, ev_stake, ev_sdrop, ev_rep, leB_q, eqB_q, eqsB_q, not_q, i_if, b_if, l_if, s_if, i_int, b_bool, s_str, l_list, envL, List.getElem?_cons_succ, List.getElem?_cons_zero, List.getElem?_nil, Option.getD_some, Option.getD_none, Int.toNat_natCast, Int.toNat_zero, Int.reduceToNat, List.length_map, get_Li, get_Lb, get_Ls, set_Li, inj_Li, inj_Lb, inj_Ls, rows_i, rows_b, rows_s, Int.zero_add, iff_true, iff_false, and_true, true_and, Bool.false_eq_true, eq_self, not_true_eq_false, not_false_eq_true, List.length_replicate, DV.int.injEq, DV.bool.injEq, DV.str.injEq, DV.list.injEq, List.cons.injEq, List.map_nil]
        exact ⟨rfl, w64 (by omega) (by omega)⟩
      · rintro y ⟨out, i, q, rfl, h0, h1, h2, h3⟩
        have ht : List.take ((x0.length : Int) - (q : Int)).toNat (List.drop q x0) = x0.drop q := List.take_of_length_le (by rw [List.length_drop]; omega)
        have hwi : IntKind.i64.wrap ((i : Int) + 1) = ((i + 1 : Nat) : Int) := by rw [w64 (by omega) (by omega)]; omega
        simp only [Bool.not_true, Bool.not_false, Bool.true_eq_false, SE.den, evU, evT, ev_le, ev_eq, ev_eqs, ev_eqb, ev_slt, ev_and, ev_or, ev_add, ev_sub, ev_mul, ev_tdiv, ev_tmod, ev_band, ev_bor, ev_bxor, ev_bandn, ev_shl, ev_shr, ev_cat, ev_byte, ev_idx, ev_cons, ev_snoc, ev_app, ev_take, ev_drop, ev_stake, ev_sdrop, ev_rep, leB_q, eqB_q, eqsB_q, not_q, i_if, b_if, l_if, s_if, i_int, b_bool, s_str, l_list, envL, List.getElem?_cons_succ, List.getElem?_cons_zero, List.getElem?_nil, Option.getD_some, Option.getD_none, Int.toNat_natCast, Int.toNat_zero, Int.reduceToNat, List.length_map, get_Li, get_Lb, get_Ls, set_Li, inj_Li, inj_Lb, inj_Ls, rows_i, rows_b, rows_s, Int.zero_add, iff_true, iff_false, and_true, true_and, Bool.false_eq_true, eq_self, not_true_eq_false, not_false_eq_true, List.length_replicate, DV.int.injEq, DV.bool.injEq, DV.str.injEq, DV.list.injEq, List.cons.injEq, wGetNumsPhi, wGetF, wGetE, gi, gb, gs, gLi, gLu, gLb, gLs, dece_i, dece_b, dece_s, ht, hwi]
        by_cases hi : i < n.toNat
        · have e1 : ¬ n ≤ (i : Int) := by omega
          obtain ⟨m, hm'⟩ : ∃ m, n.toNat - i = m + 1 := ⟨n.toNat - i - 1, by omega⟩
          have hm2 : n.toNat - (i + 1) = m := by omega
          rw [hm', gnR_succ] at h3
          cases hq : getR (x0.drop q) with
          | none =>
            left
            rw [hq] at h3
            simp only at h3
            rw [← h3]
            simp [e1, getD3, getN3, i_int]
            omega
          | some p =>
            obtain ⟨v, w⟩ := p
            rw [hq] at h3
            simp only at h3
            obtain ⟨w0, w1⟩ := getR_len hq
            rw [List.length_drop] at w1
            rw [List.drop_drop] at h3
            right
            refine ⟨[.list ((out ++ [v]).map .int), .int ((i + 1 : Nat) : Int), .int ((q + w : Nat) : Int)], ?_, rfl, ⟨out ++ [v], i + 1, q + w, rfl, by omega, by simp; omega, by omega, by rw [hm2]; exact h3⟩, ?_⟩
            · have hww : IntKind.i64.wrap ((q : Int) + (w : Int)) = ((q + w : Nat) : Int) := by rw [w64 (by omega) (by omega)]; omega
              simp [e1, getD3, hww, i_int]
              omega
            · simp only [Bool.not_true, Bool.not_false, Bool.true_eq_false, SE.den, evU, evT, ev_le, ev_eq, ev_eqs, ev_eqb, ev_slt, ev_and, ev_or, ev_add, ev_sub, ev_mul, ev_tdiv, ev_tmod, ev_band, ev_bor, ev_bxor, ev_bandn, ev_shl, ev_shr, ev_cat, ev_byte, ev_idx, ev_cons, ev_snoc, ev_app, ev_take, ev_drop, ev_stake, ev_sdrop, ev_rep, leB_q, eqB_q, eqsB_q, not_q, i_if, b_if, l_if, s_if, i_int, b_bool, s_str, l_list, envL, List.getElem?_cons_succ, List.getElem?_cons_zero, List.getElem?_nil, Option.getD_some, Option.getD_none, Int.toNat_natCast, Int.toNat_zero, Int.reduceToNat, List.length_map, get_Li, get_Lb, get_Ls, set_Li, inj_Li, inj_Lb, inj_Ls, rows_i, rows_b, rows_s, Int.zero_add, iff_true, iff_false, and_true, true_and, Bool.false_eq_true, eq_self, not_true_eq_false, not_false_eq_true, List.length_replicate, DV.int.injEq, DV.bool.injEq, DV.str.injEq, DV.list.injEq, List.cons.injEq]; omega
        · left
          have hi' : i = n.toNat := by omega
          have e1 : n ≤ (i : Int) := by omega
          rw [show n.toNat - i = 0 by omega] at h3
          have h3 : some (out, q) = R := h3
          rw [← h3]
          simp [e1, getN3]
end Go.Proofs.YtkfjgggiopegbaaDoor
