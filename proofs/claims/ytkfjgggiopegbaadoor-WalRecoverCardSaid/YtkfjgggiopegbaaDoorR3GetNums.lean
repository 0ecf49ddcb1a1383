/- The function hallmootref03.GetNums is a function of data. No condition. -/
import Derived.Test.YtkfjgggiopegbaaDoorR3Get
import Derived.Test.YtkfjgggiopegbaaDoorWalM
import Derived.Test.YtkfjgggiopegbaaDoorWGetNums
import Derived.Test.YtkfjgggiopegbaaDoorBd
import Derived.Test.YtkfjgggiopegbaaDoorOpen
namespace Go.Proofs.YtkfjgggiopegbaaDoor
set_option linter.unusedVariables false
set_option linter.unusedSimpArgs false
set_option maxRecDepth 100000

def gn3 : Nat → List Int → Nat → List Int → Option (List Int × Nat)
  | 0, _, a, acc => some (acc, a)
  | m + 1, b, a, acc => match get3 b with | none => none | some p => gn3 m (b.drop p.2) (a + p.2) (acc ++ [p.1])
def getNums3 (b : List Int) : Option (List Int × Nat) := match get3 b with | none => none | some p => if p.1 < 0 then none else gn3 p.1.toNat (b.drop p.2) p.2 []
def r3GetNumsE (b : List Int) : List DV := getN3 (getNums3 b)
theorem gn3_succ (m : Nat) (b : List Int) (a : Nat) (acc : List Int) : gn3 (m + 1) b a acc = match get3 b with | none => none | some p => gn3 m (b.drop p.2) (a + p.2) (acc ++ [p.1]) := rfl
theorem lead3_le (b : List Int) : lead3 b ≤ b.length := by
  unfold lead3
  have h := (List.takeWhile_sublist (fun x => decide (128 ≤ x)) (l := b.take 10)).length_le
  rw [List.length_take] at h
  omega
theorem get3_len {b : List Int} {n : Int} {k : Nat} (h : get3 b = some (n, k)) : 0 < k ∧ k ≤ b.length := by
  unfold get3 at h
  have := lead3_le b
  split at h
  · cases h
  · split at h
    · cases h
      omega
    · cases h
theorem nrm_N3f (o : Option (List Int × Nat)) : nrmL [Cl.rows false [CK.int IntKind.i64], Cl.pl (CK.int IntKind.i64), Cl.pl (CK.int IntKind.i64)] (getN3 o) = getN3 o := (show _ = nrmL [Cl.rows true [CK.int IntKind.i64], Cl.pl (CK.int IntKind.i64), Cl.pl (CK.int IntKind.i64)] (getN3 o) by cases o <;> rfl).trans (nrm_N3 o)

def r3GetNumsF (ds : List DV) : List DV := r3GetNumsE (gLi ds 0)
/-- What the executor makes of it. -/
def r3GetNumsTree : PT :=
(.asrt (.bin .le (.un .len (.var 0)) (.int 1000000))
 (.br (.un .not (.bin .eq (.bin .idx (.fn 155 (.bin .cons (.var 0) .nil)) (.int 2)) (.int 0)))
  (.leaf [.nil, (.int 0), (.int 3)])
  (.br (.un .not (.bin .le (.int 0) (.bin .idx (.fn 155 (.bin .cons (.var 0) .nil)) (.int 0))))
   (.leaf [.nil, (.int 0), (.int 3)])
   (.loop 1 [(.bin .idx (.fn 155 (.bin .cons (.var 0) .nil)) (.int 1)), .nil, (.int 0)]
    (.br (.un .not (.bin .le (.bin .idx (.fn 155 (.bin .cons (.var 0) .nil)) (.int 0)) (.var 3)))
     (.asrt (.bin .le (.int 0) (.var 1))
      (.asrt (.bin .le (.var 1) (.un .len (.var 0)))
       (.asrt (.bin .le (.un .len (.bin .take (.bin .drop (.var 0) (.bin .add (.int 0) (.var 1))) (.bin .sub (.un .len (.var 0)) (.var 1)))) (.int 1000000))
        (.br (.un .not (.bin .eq (.bin .idx (.fn 155 (.bin .cons (.bin .take (.bin .drop (.var 0) (.bin .add (.int 0) (.var 1))) (.bin .sub (.un .len (.var 0)) (.var 1))) .nil)) (.int 2)) (.int 0)))
         .fail
         (.asrt (.bin .le (.bin .add (.un .len (.var 2)) (.int 1)) (.int 4294967296))
          (.leaf [(.un (.wrap .i64) (.bin .add (.var 1) (.bin .idx (.fn 155 (.bin .cons (.bin .take (.bin .drop (.var 0) (.bin .add (.int 0) (.var 1))) (.bin .sub (.un .len (.var 0)) (.var 1))) .nil)) (.int 1)))), (.bin .snoc (.var 2) (.bin .idx (.fn 155 (.bin .cons (.bin .take (.bin .drop (.var 0) (.bin .add (.int 0) (.var 1))) (.bin .sub (.un .len (.var 0)) (.var 1))) .nil)) (.int 0))), (.un (.wrap .i64) (.bin .add (.var 3) (.int 1)))]))))))
     .fail)
    (.br (.un .not (.bin .le (.bin .idx (.fn 155 (.bin .cons (.var 0) .nil)) (.int 0)) (.var 3)))
     (.asrt (.bin .le (.int 0) (.var 1))
      (.asrt (.bin .le (.var 1) (.un .len (.var 0)))
       (.asrt (.bin .le (.un .len (.bin .take (.bin .drop (.var 0) (.bin .add (.int 0) (.var 1))) (.bin .sub (.un .len (.var 0)) (.var 1)))) (.int 1000000))
        (.br (.un .not (.bin .eq (.bin .idx (.fn 155 (.bin .cons (.bin .take (.bin .drop (.var 0) (.bin .add (.int 0) (.var 1))) (.bin .sub (.un .len (.var 0)) (.var 1))) .nil)) (.int 2)) (.int 0)))
         (.leaf [.nil, (.int 0), (.int 3)])
         (.asrt (.bin .le (.bin .add (.un .len (.var 2)) (.int 1)) (.int 4294967296))
          .fail)))))
     (.leaf [(.var 2), (.var 1), (.int 0)]))))))

def r3GetNumsSm : List (Nat × Smy) := [(106, ⟨155, [.one (.rows false [.int .u8])], [.one (.pl (.int .i64)), .one (.pl (.int .i64)), .one (.pl (.int .i64))], lenC [(0, 1000000)], none⟩)]
def r3GetNumsLa : List (LK × LA) := [(⟨49, 6, 1, 1, 3⟩, ⟨[(6, (.int .i64 (.var 1))), (8, (.sl 1 1 (.int 0) (.un .len (.var 2)) none)), (9, (.int .i64 (.var 3))), (10, .any), (11, .any), (12, .any), (25, .any), (26, .any), (27, .any), (28, .any), (29, .any), (30, .any), (31, .any), (32, .any), (33, .any), (34, .any), (35, .any), (36, .any), (37, .any), (38, .any), (39, .any), (40, .any), (41, .any), (42, .any), (43, .any), (44, .any), (45, .any), (46, .any)], [(1, (.rows [.int .i64] (.var 2)))], [], 3, 1⟩)]
def r3GetNumsPhi : Fs := ⟨fun n d => match n with
  | 155 => .list (r3GetF d.l)
  | _ => d, 147⟩
theorem r3GetNumsS : SmyOk true Tryd.prog r3GetNumsPhi r3GetNumsSm := (smy_cons (lenP [(0, 1000000)]) r3GetF r3Get_pure (len_hp [(0, 1000000)]) (fun _ => rfl) (fun _ h => by cases h) smy_nil)
theorem r3GetNumsT : treeOk ⟨Tryd.prog, r3GetNumsSm, r3GetNumsLa, true⟩ 4000 83 [.one (.rows false [.int .u8])] [.one (.rows false [.int .i64]), .one (.pl (.int .i64)), .one (.pl (.int .i64))] ([]) r3GetNumsTree = true := by decide +kernel
set_option maxHeartbeats 1000000 in
theorem r3GetNums_pure : PureE true Tryd.prog 83 [.one (.rows false [.int .u8])] [.one (.rows false [.int .i64]), .one (.pl (.int .i64)), .one (.pl (.int .i64))] (lenP [(0, 100000)]) r3GetNumsF := by
  refine pure_tree (X := ⟨Tryd.prog, r3GetNumsSm, r3GetNumsLa, true⟩) (by decide +kernel) (Checked.mixed Tryd.checked) r3GetNumsS (by decide +kernel) (by decide +kernel) r3GetNumsT (by decide +kernel) ?_
  intro ds hl hp
  obtain ⟨d0, rfl⟩ := len1 hl
  have b0 : (d0.l.length : Int) ≤ 100000 := hp (0, 100000) (by simp)
  have hF : r3GetNumsF [d0] = r3GetNumsE (d0.l.map DV.i) := rfl
  rw [hF]
  clear hF hp hl
  have hN : nrmL (clsOf [.one (.rows false [.int .u8])]) [d0] = [.list ((d0.l.map DV.i).map DV.int)] := by
    simp only [clsOf, Sh.cls, List.append_nil, List.cons_append, List.nil_append, nrmL, Cl.nrm, CK.nrm, map_Li]
  rw [hN]
  clear hN
  rw [← List.length_map (f := DV.i)] at b0
  generalize d0.l.map DV.i = x0 at b0 ⊢
  refine ⟨facts_nil _, ?_⟩
  unfold r3GetNumsTree r3GetNumsE
  simp only [Sat, clsOf, Sh.cls, List.append_nil, List.cons_append, List.nil_append, nrmL, Cl.nrm, CK.nrm, List.map_cons, List.map_nil, List.length_cons, List.length_nil, List.cons.injEq, DV.bool.injEq, DV.int.injEq, DV.list.injEq, DV.str.injEq, and_true, true_and]
  try simp only [q_le, q_eq, q_eqs, q_eqb, q_and, q_or, q_not, q_bool, iff_true, iff_false, Bool.not_true, Bool.not_false, Bool.false_eq_true, Bool.true_eq_false, eq_self, Bool.not_not]
  simp only [Bool.not_true, Bool.not_false, Bool.true_eq_false, SE.den, evU, evT, ev_le, ev_eq, ev_eqs, ev_eqb, ev_slt, ev_and, ev_or, ev_add, ev_sub, ev_mul, ev_tdiv, ev_tmod, ev_band, ev_bor, ev_bxor, ev_bandn, ev_shl, ev_shr, ev_cat, ev_byte, ev_idx, ev_cons, ev_snoc, ev_app, ev_take, ev_drop, ev_stake, ev_sdrop, ev_rep, leB_q, eqB_q, eqsB_q, not_q, i_if, b_if, l_if, s_if, i_int, b_bool, s_str, l_list, envL, List.getElem?_cons_succ, List.getElem?_cons_zero, List.getElem?_nil, Option.getD_some, Option.getD_none, Int.toNat_natCast, Int.toNat_zero, Int.reduceToNat, List.length_map, get_Li, get_Lb, get_Ls, set_Li, inj_Li, inj_Lb, inj_Ls, rows_i, rows_b, rows_s, Int.zero_add, iff_true, iff_false, and_true, true_and, Bool.false_eq_true, eq_self, not_true_eq_false, not_false_eq_true, List.length_replicate, DV.int.injEq, DV.bool.injEq, DV.str.injEq, DV.list.injEq, List.cons.injEq, r3GetNumsPhi, r3GetF, r3GetE, gi, gb, gs, gLi, gLu, gLb, gLs, dece_i, dece_b, dece_s, Int.zero_add, Int.sub_zero, take_Li, drop_Li, List.take_length, dece_i, nrm_N3f]
  unfold getNums3
  cases hg : get3 x0 with
  | none =>
    simp [getD3, getN3, Bool.not_true, Bool.not_false, Bool.true_eq_false, SE.den, evU, evT, ev_le, ev_eq, ev_eqs, ev_eqb, ev_slt, ev_and, ev_or, ev_add, ev_sub, ev_mul, ev_tdiv, ev_tmod, ev_band, ev_bor, ev_bxor, ev_bandn, ev_shl, ev_shr, ev_cat, ev_byte, ev_idx, ev_cons, ev_snoc, ev_app, ev_take, ev_drop, ev_stake, ev_sdrop, ev_rep, leB_q, eqB_q, eqsB_q, not_q, i_if, b_if, l_if, s_if, i_int, b_bool, s_str, l_list, envL, List.getElem?_cons_succ, List.getElem?_cons_zero, List.getElem?_nil, Option.getD_some, Option.getD_none, Int.toNat_natCast, Int.toNat_zero, Int.reduceToNat, List.length_map, get_Li, get_Lb, get_Ls, set_Li, inj_Li, inj_Lb, inj_Ls, rows_i, rows_b, rows_s, Int.zero_add, iff_true, iff_false, and_true, true_and, Bool.false_eq_true, eq_self, not_true_eq_false, not_false_eq_true, List.length_replicate, DV.int.injEq, DV.bool.injEq, DV.str.injEq, DV.list.injEq, List.cons.injEq]
    omega
  | some p =>
    obtain ⟨n, k⟩ := p
    obtain ⟨k0, k1⟩ := get3_len hg
    simp only [getD3, Bool.not_true, Bool.not_false, Bool.true_eq_false, SE.den, evU, evT, ev_le, ev_eq, ev_eqs, ev_eqb, ev_slt, ev_and, ev_or, ev_add, ev_sub, ev_mul, ev_tdiv, ev_tmod, ev_band, ev_bor, ev_bxor, ev_bandn, ev_shl, ev_shr, ev_cat, ev_byte, ev_idx, ev_cons, ev_snoc, ev_app, ev_take, ev_drop, ev_stake, ev_sdrop, ev_rep, leB_q, eqB_q, eqsB_q, not_q, i_if, b_if, l_if, s_if, i_int, b_bool, s_str, l_list, envL, List.getElem?_cons_succ, List.getElem?_cons_zero, List.getElem?_nil, Option.getD_some, Option.getD_none, Int.toNat_natCast, Int.toNat_zero, Int.reduceToNat, List.length_map, get_Li, get_Lb, get_Ls, set_Li, inj_Li, inj_Lb, inj_Ls, rows_i, rows_b, rows_s, Int.zero_add, iff_true, iff_false, and_true, true_and, Bool.false_eq_true, eq_self, not_true_eq_false, not_false_eq_true, List.length_replicate, DV.int.injEq, DV.bool.injEq, DV.str.injEq, DV.list.injEq, List.cons.injEq]
    refine ⟨by omega, fun h => h.elim, fun _ => ⟨fun h => ?_, fun hn => ?_⟩⟩
    · rw [if_pos (by omega)]; rfl
    · rw [if_neg (by omega)]
      generalize hR : gn3 n.toNat (x0.drop k) k [] = R
      refine rounds_inv (fun y => ∃ (out : List Int) (i q : Nat), y = [.int q, .list (out.map .int), .int i] ∧ i ≤ n.toNat ∧ out.length = i ∧ i ≤ q ∧ q ≤ x0.length ∧ gn3 (n.toNat - i) (x0.drop q) q out = R) (fun y => n.toNat - ((y[2]?).getD (DV.int 0)).i.toNat) ⟨[], 0, k, rfl, by omega, rfl, by omega, k1, hR⟩ ?_
      · rintro y ⟨out, i, q, rfl, h0, h1, h1', h2, h3⟩
        have ht : List.take ((x0.length : Int) - (q : Int)).toNat (List.drop q x0) = x0.drop q := List.take_of_length_le (by rw [List.length_drop]; omega)
        have hwi : IntKind.i64.wrap ((i : Int) + 1) = ((i + 1 : Nat) : Int) := by rw [w64 (by omega) (by omega)]; omega
        have hdl : ((x0.drop q).length : Int) ≤ 1000000 := by rw [List.length_drop]; omega
        simp only [Bool.not_true, Bool.not_false, Bool.true_eq_false, SE.den, evU, evT, ev_le, ev_eq, ev_eqs, ev_eqb, ev_slt, ev_and, ev_or, ev_add, ev_sub, ev_mul, ev_tdiv, ev_tmod, ev_band, ev_bor, ev_bxor, ev_bandn, ev_shl, ev_shr, ev_cat, ev_byte, ev_idx, ev_cons, ev_snoc, ev_app, ev_take, ev_drop, ev_stake, ev_sdrop, ev_rep, leB_q, eqB_q, eqsB_q, not_q, i_if, b_if, l_if, s_if, i_int, b_bool, s_str, l_list, envL, List.getElem?_cons_succ, List.getElem?_cons_zero, List.getElem?_nil, Option.getD_some, Option.getD_none, Int.toNat_natCast, Int.toNat_zero, Int.reduceToNat, List.length_map, get_Li, get_Lb, get_Ls, set_Li, inj_Li, inj_Lb, inj_Ls, rows_i, rows_b, rows_s, Int.zero_add, iff_true, iff_false, and_true, true_and, Bool.false_eq_true, eq_self, not_true_eq_false, not_false_eq_true, List.length_replicate, DV.int.injEq, DV.bool.injEq, DV.str.injEq, DV.list.injEq, List.cons.injEq, r3GetNumsPhi, r3GetF, r3GetE, gi, gb, gs, gLi, gLu, gLb, gLs, dece_i, dece_b, dece_s, ht, hwi]
        by_cases hi : i < n.toNat
        · have e1 : ¬ n ≤ (i : Int) := by omega
          obtain ⟨m, hm'⟩ : ∃ m, n.toNat - i = m + 1 := ⟨n.toNat - i - 1, by omega⟩
          have hm2 : n.toNat - (i + 1) = m := by omega
          rw [hm', gn3_succ] at h3
          cases hq : get3 (x0.drop q) with
          | none =>
            left
            rw [hq] at h3
            simp only at h3
            rw [← h3]
            simp [e1, getD3, getN3, i_int]
            omega
          | some p =>
            obtain ⟨v, w⟩ := p
            rw [hq] at h3
            simp only at h3
            obtain ⟨w0, w1⟩ := get3_len hq
            rw [List.length_drop] at w1
            rw [List.drop_drop] at h3
            right
            refine ⟨[.int ((q + w : Nat) : Int), .list ((out ++ [v]).map .int), .int ((i + 1 : Nat) : Int)], ?_, rfl, ⟨out ++ [v], i + 1, q + w, rfl, by omega, by simp; omega, by omega, by omega, by rw [hm2]; exact h3⟩, ?_⟩
            · have hww : IntKind.i64.wrap ((q : Int) + (w : Int)) = ((q + w : Nat) : Int) := by rw [w64 (by omega) (by omega)]; omega
              simp [e1, getD3, hww, i_int]
              omega
            · simp only [Bool.not_true, Bool.not_false, Bool.true_eq_false, SE.den, evU, evT, ev_le, ev_eq, ev_eqs, ev_eqb, ev_slt, ev_and, ev_or, ev_add, ev_sub, ev_mul, ev_tdiv, ev_tmod, ev_band, ev_bor, ev_bxor, ev_bandn, ev_shl, ev_shr, ev_cat, ev_byte, ev_idx, ev_cons, ev_snoc, ev_app, ev_take, ev_drop, ev_stake, ev_sdrop, ev_rep, leB_q, eqB_q, eqsB_q, not_q, i_if, b_if, l_if, s_if, i_int, b_bool, s_str, l_list, envL, List.getElem?_cons_succ, List.getElem?_cons_zero, List.getElem?_nil, Option.getD_some, Option.getD_none, Int.toNat_natCast, Int.toNat_zero, Int.reduceToNat, List.length_map, get_Li, get_Lb, get_Ls, set_Li, inj_Li, inj_Lb, inj_Ls, rows_i, rows_b, rows_s, Int.zero_add, iff_true, iff_false, and_true, true_and, Bool.false_eq_true, eq_self, not_true_eq_false, not_false_eq_true, List.length_replicate, DV.int.injEq, DV.bool.injEq, DV.str.injEq, DV.list.injEq, List.cons.injEq]; omega
        · left
          have hi' : i = n.toNat := by omega
          have e1 : n ≤ (i : Int) := by omega
          rw [show n.toNat - i = 0 by omega] at h3
          have h3 : some (out, q) = R := h3
          rw [← h3]
          simp [e1, getN3]
end Go.Proofs.YtkfjgggiopegbaaDoor
