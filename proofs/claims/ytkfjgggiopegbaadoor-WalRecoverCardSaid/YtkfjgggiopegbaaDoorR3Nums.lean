/- The function hallmootref03.Nums is a function of data. No condition. -/
import Derived.Test.YtkfjgggiopegbaaDoorR3Put
import Derived.Test.YtkfjgggiopegbaaDoorWalM
import Derived.Test.YtkfjgggiopegbaaDoorBd
import Derived.Test.YtkfjgggiopegbaaDoorOpen
namespace Go.Proofs.YtkfjgggiopegbaaDoor
set_option linter.unusedVariables false
set_option linter.unusedSimpArgs false
set_option maxRecDepth 100000

def nums3 (l : List Int) : List Int := put3 l.length ++ l.flatMap put3
def r3NumsE (l : List Int) : List DV := [.list ((nums3 l).map .int)]
theorem nums3_eq {l : List Int} (hl : l.length ≤ 1000000) (h : ∀ n ∈ l, -9223372036854775808 ≤ n ∧ n ≤ 9223372036854775807) : nums3 l = numsR l := by
  unfold nums3 numsR
  rw [put3_eq (by omega) (by omega)]
  congr 1
  clear hl
  induction l with
  | nil => rfl
  | cons n l ih =>
    rw [List.flatMap_cons, List.flatMap_cons, put3_eq (h n (by simp)).1 (h n (by simp)).2, ih fun m hm => h m (by simp [hm])]
theorem flat3_len (l : List Int) : (l.flatMap put3).length ≤ 10 * l.length := by
  induction l with
  | nil => simp
  | cons n l ih =>
    have := (put3_len n).2
    simp only [List.flatMap_cons, List.length_append, List.length_cons] at ih ⊢
    omega
theorem nums3_len (l : List Int) : 0 < (nums3 l).length ∧ (nums3 l).length ≤ 10 + 10 * l.length := by
  have h1 := put3_len (l.length : Int)
  have h2 := flat3_len l
  unfold nums3
  rw [List.length_append]
  omega

def r3NumsF (ds : List DV) : List DV := r3NumsE (gLi ds 0)
/-- What the executor makes of it. -/
def r3NumsTree : PT :=
(.loop 1 [(.bin .idx (.fn 117 (.bin .cons (.un .len (.var 0)) .nil)) (.int 0)), (.int 0)]
 (.br (.un .not (.bin .le (.un .len (.var 0)) (.var 2)))
  (.asrt (.bin .le (.int 0) (.var 2))
   (.asrt (.bin .le (.bin .add (.un .len (.var 1)) (.un .len (.bin .idx (.fn 117 (.bin .cons (.bin .idx (.var 0) (.bin .add (.int 0) (.var 2))) .nil)) (.int 0)))) (.int 4294967296))
    (.leaf [(.bin .app (.var 1) (.bin .idx (.fn 117 (.bin .cons (.bin .idx (.var 0) (.bin .add (.int 0) (.var 2))) .nil)) (.int 0))), (.un (.wrap .i64) (.bin .add (.var 2) (.int 1)))])))
  .fail)
 (.br (.un .not (.bin .le (.un .len (.var 0)) (.var 2)))
  (.asrt (.bin .le (.int 0) (.var 2))
   (.asrt (.bin .le (.bin .add (.un .len (.var 1)) (.un .len (.bin .idx (.fn 117 (.bin .cons (.bin .idx (.var 0) (.bin .add (.int 0) (.var 2))) .nil)) (.int 0)))) (.int 4294967296))
    .fail))
  (.leaf [(.var 1)])))

def r3NumsSm : List (Nat × Smy) := [(98, ⟨117, [.one (.pl (.int .i64))], [.one (.rows true [.int .u8])], fun _ => [], none⟩)]
def r3NumsLa : List (LK × LA) := [(⟨22, 3, 2, 1, 0⟩, ⟨[(3, (.sl 2 1 (.int 0) (.un .len (.var 1)) none)), (4, (.int .i64 (.var 2))), (8, .any), (9, .any), (10, .any), (11, .any), (12, .any), (13, .any), (14, .any), (15, .any), (16, .any), (17, .any), (18, .any), (19, .any), (20, .any)], [(2, (.rows [.int .u8] (.var 1)))], [1], 2, 1⟩)]
def r3NumsPhi : Fs := ⟨fun n d => match n with
  | 117 => .list (r3PutF d.l)
  | _ => d, 147⟩
theorem r3NumsS : SmyOk true Tryd.prog r3NumsPhi r3NumsSm := (smy_cons (fun _ => True) r3PutF r3Put_pure (fun _ _ _ _ => trivial) (fun _ => rfl) (fun _ h => by cases h) smy_nil)
theorem r3NumsT : treeOk ⟨Tryd.prog, r3NumsSm, r3NumsLa, true⟩ 4000 73 [.one (.rows false [.int .i64])] [.one (.rows true [.int .u8])] ([]) r3NumsTree = true := by decide +kernel
set_option maxHeartbeats 1000000 in
theorem r3Nums_pure : PureE true Tryd.prog 73 [.one (.rows false [.int .i64])] [.one (.rows true [.int .u8])] (lenP [(0, 1000)]) r3NumsF := by
  refine pure_tree (X := ⟨Tryd.prog, r3NumsSm, r3NumsLa, true⟩) (by decide +kernel) (Checked.mixed Tryd.checked) r3NumsS (by decide +kernel) (by decide +kernel) r3NumsT (by decide +kernel) ?_
  intro ds hl hp
  obtain ⟨d0, rfl⟩ := len1 hl
  have b0 : (d0.l.length : Int) ≤ 1000 := hp (0, 1000) (by simp)
  have hF : r3NumsF [d0] = r3NumsE (d0.l.map DV.i) := rfl
  rw [hF]
  clear hF hp hl
  have hN : nrmL (clsOf [.one (.rows false [.int .i64])]) [d0] = [.list ((d0.l.map DV.i).map DV.int)] := by
    simp only [clsOf, Sh.cls, List.append_nil, List.cons_append, List.nil_append, nrmL, Cl.nrm, CK.nrm, map_Li]
  rw [hN]
  clear hN
  rw [← List.length_map (f := DV.i)] at b0
  generalize d0.l.map DV.i = x0 at b0 ⊢
  refine ⟨facts_nil _, ?_⟩
  unfold r3NumsTree r3NumsE
  simp only [Sat, clsOf, Sh.cls, List.append_nil, List.cons_append, List.nil_append, nrmL, Cl.nrm, CK.nrm, List.map_cons, List.map_nil, List.length_cons, List.length_nil, List.cons.injEq, DV.bool.injEq, DV.int.injEq, DV.list.injEq, DV.str.injEq, and_true, true_and]
  try simp only [q_le, q_eq, q_eqs, q_eqb, q_and, q_or, q_not, q_bool, iff_true, iff_false, Bool.not_true, Bool.not_false, Bool.false_eq_true, Bool.true_eq_false, eq_self, Bool.not_not]
  simp only [Bool.not_true, Bool.not_false, Bool.true_eq_false, SE.den, evU, evT, ev_le, ev_eq, ev_eqs, ev_eqb, ev_slt, ev_and, ev_or, ev_add, ev_sub, ev_mul, ev_tdiv, ev_tmod, ev_band, ev_bor, ev_bxor, ev_bandn, ev_shl, ev_shr, ev_cat, ev_byte, ev_idx, ev_cons, ev_snoc, ev_app, ev_take, ev_drop, ev_stake, ev_sdrop, ev_rep, leB_q, eqB_q, eqsB_q, not_q, i_if, b_if, l_if, s_if, i_int, b_bool, s_str, l_list, envL, List.getElem?_cons_succ, List.getElem?_cons_zero, List.getElem?_nil, Option.getD_some, Option.getD_none, Int.toNat_natCast, Int.toNat_zero, Int.reduceToNat, List.length_map, get_Li, get_Lb, get_Ls, set_Li, inj_Li, inj_Lb, inj_Ls, rows_i, rows_b, rows_s, Int.zero_add, iff_true, iff_false, and_true, true_and, Bool.false_eq_true, eq_self, not_true_eq_false, not_false_eq_true, List.length_replicate, DV.int.injEq, DV.bool.injEq, DV.str.injEq, DV.list.injEq, List.cons.injEq, r3NumsPhi, r3PutF, r3PutE, gi, gb, gs, gLi, gLu, gLb, gLs, dece_i, dece_b, dece_s]
  have hl : ∀ i, ((x0.take i).flatMap put3).length ≤ 10 * i := fun i => by
    have := flat3_len (x0.take i)
    rw [List.length_take] at this
    omega
  have hp := put3_len (x0.length : Int)
  refine rounds_at x0.length (fun i => [.list ((put3 x0.length ++ (x0.take i).flatMap put3).map .int), .int i]) (by simp) (fun _ => rfl) (fun i hi => ?_) ?_
  · have e1 : ¬ (x0.length : Int) ≤ i := by omega
    have hwi : IntKind.i64.wrap ((i : Int) + 1) = ((i + 1 : Nat) : Int) := by rw [w64 (by omega) (by omega)]; omega
    have hs : x0.take (i + 1) = x0.take i ++ [x0[i]?.getD 0] := by rw [List.take_add_one, List.getElem?_eq_getElem hi]; rfl
    have hpi := put3_len (x0[i]?.getD 0)
    have hli := hl i
    rw [hs, List.flatMap_append]
    simp only [Bool.not_true, Bool.not_false, Bool.true_eq_false, SE.den, evU, evT, ev_le, ev_eq, ev_eqs, ev_eqb, ev_slt, ev_and, ev_or, ev_add, ev_sub, ev_mul, ev_tdiv, ev_tmod, ev_band, ev_bor, ev_bxor, ev_bandn, ev_shl, ev_shr, ev_cat, ev_byte, ev_idx, ev_cons, ev_snoc, ev_app, ev_take, ev_drop, ev_stake, ev_sdrop, ev_rep, leB_q, eqB_q, eqsB_q, not_q, i_if, b_if, l_if, s_if, i_int, b_bool, s_str, l_list, envL, List.getElem?_cons_succ, List.getElem?_cons_zero, List.getElem?_nil, Option.getD_some, Option.getD_none, Int.toNat_natCast, Int.toNat_zero, Int.reduceToNat, List.length_map, get_Li, get_Lb, get_Ls, set_Li, inj_Li, inj_Lb, inj_Ls, rows_i, rows_b, rows_s, Int.zero_add, iff_true, iff_false, and_true, true_and, Bool.false_eq_true, eq_self, not_true_eq_false, not_false_eq_true, List.length_replicate, DV.int.injEq, DV.bool.injEq, DV.str.injEq, DV.list.injEq, List.cons.injEq, r3NumsPhi, r3PutF, r3PutE, gi, gb, gs, gLi, gLu, gLb, gLs, dece_i, dece_b, dece_s, e1, hwi, List.length_append, app_Li, List.flatMap_cons, List.flatMap_nil, List.append_nil, List.append_assoc]
    exact ⟨fun _ => ⟨by omega, by omega⟩, fun h => h.elim⟩
  · simp only [Bool.not_true, Bool.not_false, Bool.true_eq_false, SE.den, evU, evT, ev_le, ev_eq, ev_eqs, ev_eqb, ev_slt, ev_and, ev_or, ev_add, ev_sub, ev_mul, ev_tdiv, ev_tmod, ev_band, ev_bor, ev_bxor, ev_bandn, ev_shl, ev_shr, ev_cat, ev_byte, ev_idx, ev_cons, ev_snoc, ev_app, ev_take, ev_drop, ev_stake, ev_sdrop, ev_rep, leB_q, eqB_q, eqsB_q, not_q, i_if, b_if, l_if, s_if, i_int, b_bool, s_str, l_list, envL, List.getElem?_cons_succ, List.getElem?_cons_zero, List.getElem?_nil, Option.getD_some, Option.getD_none, Int.toNat_natCast, Int.toNat_zero, Int.reduceToNat, List.length_map, get_Li, get_Lb, get_Ls, set_Li, inj_Li, inj_Lb, inj_Ls, rows_i, rows_b, rows_s, Int.zero_add, iff_true, iff_false, and_true, true_and, Bool.false_eq_true, eq_self, not_true_eq_false, not_false_eq_true, List.length_replicate, DV.int.injEq, DV.bool.injEq, DV.str.injEq, DV.list.injEq, List.cons.injEq, List.take_length]
    simp [nums3]
end Go.Proofs.YtkfjgggiopegbaaDoor
