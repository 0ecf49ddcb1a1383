/- The function hallmootref01.In is a function of data. No condition. -/
import Derived.Test.YtolphdchkbcoeaaRBit
import Derived.Test.YtolphdchkbcoeaaRMod
import Derived.Test.YtolphdchkbcoeaaRDown
import Derived.Test.YtolphdchkbcoeaaWIn
import Derived.Test.YtolphdchkbcoeaaBd
import Derived.Test.YtolphdchkbcoeaaOpen
namespace Go.Proofs.Ytolphdchkbcoeaa
set_option linter.unusedVariables false
set_option linter.unusedSimpArgs false
set_option maxRecDepth 100000

def rInE (m t : Int) : List DV := [.bool (hasM m t)]

def rInF (ds : List DV) : List DV := rInE (gi ds 0) (gi ds 1)
/-- What the executor makes of it. -/
def rInTree : PT :=
(.br (.bin .eq (.bin .idx (.fn 44 (.bin .cons (.var 1) .nil)) (.int 0)) (.int 0))
 (.leaf [(.bool false)])
 (.asrt (.bin .le (.int 1) (.bin .idx (.fn 44 (.bin .cons (.var 1) .nil)) (.int 0)))
  (.asrt (.bin .le (.bin .idx (.fn 44 (.bin .cons (.var 1) .nil)) (.int 0)) (.int 4611686018427387904))
   (.leaf [(.bin .eq (.bin .idx (.fn 46 (.bin .cons (.bin .idx (.fn 49 (.bin .cons (.var 0) (.bin .cons (.bin .idx (.fn 44 (.bin .cons (.var 1) .nil)) (.int 0)) .nil))) (.int 0)) (.bin .cons (.int 2) .nil))) (.int 0)) (.int 1))]))))

def rInSm : List (Nat × Smy) := [(46, ⟨44, [.one (.pl (.int .i64))], [.one (.pl (.int .i64))], fun _ => [], none⟩), (47, ⟨46, [.one (.pl (.int .i64)), .one (.pl (.int .i64))], [.one (.pl (.int .i64))], fun es => lenC [] es ++ rgeC [(1, 1, 4611686018427387904)] es, none⟩), (48, ⟨49, [.one (.pl (.int .i64)), .one (.pl (.int .i64))], [.one (.pl (.int .i64))], fun es => lenC [] es ++ rgeC [(1, 1, 4611686018427387904)] es, none⟩)]
def rInLa : List (LK × LA) := []
def rInPhi : Fs := ⟨fun n d => match n with
  | 44 => .list (rBitF d.l)
  | 46 => .list (rModF d.l)
  | 49 => .list (rDownF d.l)
  | _ => d, 115⟩
theorem rInS : SmyOk true Try.prog rInPhi rInSm := (smy_cons (fun _ => True) rBitF rBit_pure (fun _ _ _ _ => trivial) (fun _ => rfl) (fun _ h => by cases h) (smy_cons (fun ds => lenP [] ds ∧ rgeP [(1, 1, 4611686018427387904)] ds) rModF rMod_pure (both_hp [] [(1, 1, 4611686018427387904)]) (fun _ => rfl) (fun _ h => by cases h) (smy_cons (fun ds => lenP [] ds ∧ rgeP [(1, 1, 4611686018427387904)] ds) rDownF rDown_pure (both_hp [] [(1, 1, 4611686018427387904)]) (fun _ => rfl) (fun _ h => by cases h) smy_nil)))
theorem rInT : treeOk ⟨Try.prog, rInSm, rInLa, true⟩ 4000 21 [.one (.pl (.int .i64)), .one (.pl (.int .i64))] [.one (.pl .bool)] ([]) rInTree = true := by decide +kernel
set_option maxHeartbeats 1000000 in
theorem rIn_pure : PureE true Try.prog 21 [.one (.pl (.int .i64)), .one (.pl (.int .i64))] [.one (.pl .bool)] (fun _ => True) rInF := by
  refine pure_tree (X := ⟨Try.prog, rInSm, rInLa, true⟩) (by decide +kernel) (Checked.mixed Try.checked) rInS (by decide +kernel) (by decide +kernel) rInT (by decide +kernel) ?_
  intro ds hl hp
  obtain ⟨d0, d1, rfl⟩ := len2 hl
  have hF : rInF [d0, d1] = rInE d0.i d1.i := rfl
  rw [hF]
  clear hF hp hl
  have hN : nrmL (clsOf [.one (.pl (.int .i64)), .one (.pl (.int .i64))]) [d0, d1] = [.int d0.i, .int d1.i] := by
    simp only [clsOf, Sh.cls, List.append_nil, List.cons_append, List.nil_append, nrmL, Cl.nrm, CK.nrm]
  rw [hN]
  clear hN
  generalize d0.i = x0
  generalize d1.i = x1
  refine ⟨facts_nil _, ?_⟩
  unfold rInTree rInE
  simp only [Sat, clsOf, Sh.cls, List.append_nil, List.cons_append, List.nil_append, nrmL, Cl.nrm, CK.nrm, List.map_cons, List.map_nil, List.length_cons, List.length_nil, List.cons.injEq, DV.bool.injEq, DV.int.injEq, DV.list.injEq, DV.str.injEq, and_true, true_and]
  simp only [q_le, q_eq, q_eqs, q_eqb, q_and, q_or, q_not, q_bool, iff_true, iff_false, Bool.not_true, Bool.not_false, Bool.false_eq_true, Bool.true_eq_false, eq_self, Bool.not_not]
  simp only [Bool.not_true, Bool.not_false, Bool.true_eq_false, SE.den, evU, evT, ev_le, ev_eq, ev_eqs, ev_eqb, ev_slt, ev_and, ev_or, ev_add, ev_sub, ev_mul, ev_tdiv, ev_tmod, ev_band, ev_bor, ev_bxor, ev_bandn, ev_shl, ev_shr, ev_cat, ev_byte, ev_idx, ev_cons, ev_snoc, ev_app, ev_take, ev_drop, ev_stake, ev_sdrop, ev_rep, leB_q, eqB_q, eqsB_q, not_q, i_if, b_if, l_if, s_if, i_int, b_bool, s_str, l_list, envL, List.getElem?_cons_succ, List.getElem?_cons_zero, List.getElem?_nil, Option.getD_some, Option.getD_none, Int.toNat_natCast, Int.toNat_zero, Int.reduceToNat, List.length_map, get_Li, get_Lb, get_Ls, set_Li, inj_Li, inj_Lb, inj_Ls, rows_i, rows_b, rows_s, Int.zero_add, iff_true, iff_false, and_true, true_and, Bool.false_eq_true, eq_self, not_true_eq_false, not_false_eq_true, List.length_replicate, DV.int.injEq, DV.bool.injEq, DV.str.injEq, DV.list.injEq, List.cons.injEq, rInPhi, rBitF, rBitE, rModF, rModE, rDownF, rDownE, gi, gb, gs, gLi, gLu, gLb, gLs, dece_i, dece_b, dece_s]
  by_cases h : 0 ≤ x1 ∧ x1 ≤ 61
  · have hp := pow_lt x1.toNat (by omega)
    have hd := down_bit x0 x1.toNat (by omega)
    simp only [has_in h, one_in h, hd]
    repeat' (first | apply And.intro | intro)
    all_goals first
      | omega
      | (simp [bitM, eqB]; done)
      | trace_state
  · simp only [has_out h, one_out h]
    repeat' (first | apply And.intro | intro)
    all_goals first
      | omega
      | trivial
end Go.Proofs.Ytolphdchkbcoeaa
