/- The function hallmootref01.Without is a function of data. No condition. -/
import Derived.Test.YtolphdchkbcoeaaRIn
import Derived.Test.YtolphdchkbcoeaaRBit
import Derived.Test.YtolphdchkbcoeaaViM
import Derived.Test.YtolphdchkbcoeaaBd
import Derived.Test.YtolphdchkbcoeaaOpen
namespace Go.Proofs.Ytolphdchkbcoeaa
set_option linter.unusedVariables false
set_option linter.unusedSimpArgs false
set_option maxRecDepth 100000

def rOutE (m t : Int) : List DV := [.int (roffM m t)]

def rOutF (ds : List DV) : List DV := rOutE (gi ds 0) (gi ds 1)
/-- What the executor makes of it. -/
def rOutTree : PT :=
(.br (.bin .idx (.fn 57 (.bin .cons (.var 0) (.bin .cons (.var 1) .nil))) (.int 0))
 (.leaf [(.un (.wrap .i64) (.bin .sub (.var 0) (.bin .idx (.fn 44 (.bin .cons (.var 1) .nil)) (.int 0))))])
 (.leaf [(.var 0)]))

def rOutSm : List (Nat × Smy) := [(21, ⟨57, [.one (.pl (.int .i64)), .one (.pl (.int .i64))], [.one (.pl .bool)], fun _ => [], none⟩), (46, ⟨44, [.one (.pl (.int .i64))], [.one (.pl (.int .i64))], fun _ => [], none⟩)]
def rOutLa : List (LK × LA) := []
def rOutPhi : Fs := ⟨fun n d => match n with
  | 57 => .list (rInF d.l)
  | 44 => .list (rBitF d.l)
  | _ => d, 115⟩
theorem rOutS : SmyOk true Try.prog rOutPhi rOutSm := (smy_cons (fun _ => True) rInF rIn_pure (fun _ _ _ _ => trivial) (fun _ => rfl) (fun _ h => by cases h) (smy_cons (fun _ => True) rBitF rBit_pure (fun _ _ _ _ => trivial) (fun _ => rfl) (fun _ h => by cases h) smy_nil))
theorem rOutT : treeOk ⟨Try.prog, rOutSm, rOutLa, true⟩ 4000 73 [.one (.pl (.int .i64)), .one (.pl (.int .i64))] [.one (.pl (.int .i64))] ([]) rOutTree = true := by decide +kernel
set_option maxHeartbeats 1000000 in
theorem rOut_pure : PureE true Try.prog 73 [.one (.pl (.int .i64)), .one (.pl (.int .i64))] [.one (.pl (.int .i64))] (fun _ => True) rOutF := by
  refine pure_tree (X := ⟨Try.prog, rOutSm, rOutLa, true⟩) (by decide +kernel) (Checked.mixed Try.checked) rOutS (by decide +kernel) (by decide +kernel) rOutT (by decide +kernel) ?_
  intro ds hl hp
  obtain ⟨d0, d1, rfl⟩ := len2 hl
  have hF : rOutF [d0, d1] = rOutE d0.i d1.i := rfl
  rw [hF]
  clear hF hp hl
  have hN : nrmL (clsOf [.one (.pl (.int .i64)), .one (.pl (.int .i64))]) [d0, d1] = [.int d0.i, .int d1.i] := by
    simp only [clsOf, Sh.cls, List.append_nil, List.cons_append, List.nil_append, nrmL, Cl.nrm, CK.nrm]
  rw [hN]
  clear hN
  generalize d0.i = x0
  generalize d1.i = x1
  refine ⟨facts_nil _, ?_⟩
  unfold rOutTree rOutE roffM
  simp only [Sat, clsOf, Sh.cls, List.append_nil, List.cons_append, List.nil_append, nrmL, Cl.nrm, CK.nrm, List.map_cons, List.map_nil, List.length_cons, List.length_nil, List.cons.injEq, DV.bool.injEq, DV.int.injEq, DV.list.injEq, DV.str.injEq, and_true, true_and]
  try simp only [q_le, q_eq, q_eqs, q_eqb, q_and, q_or, q_not, q_bool, iff_true, iff_false, Bool.not_true, Bool.not_false, Bool.false_eq_true, Bool.true_eq_false, eq_self, Bool.not_not]
  simp only [Bool.not_true, Bool.not_false, Bool.true_eq_false, SE.den, evU, evT, ev_le, ev_eq, ev_eqs, ev_eqb, ev_slt, ev_and, ev_or, ev_add, ev_sub, ev_mul, ev_tdiv, ev_tmod, ev_band, ev_bor, ev_bxor, ev_bandn, ev_shl, ev_shr, ev_cat, ev_byte, ev_idx, ev_cons, ev_snoc, ev_app, ev_take, ev_drop, ev_stake, ev_sdrop, ev_rep, leB_q, eqB_q, eqsB_q, not_q, i_if, b_if, l_if, s_if, i_int, b_bool, s_str, l_list, envL, List.getElem?_cons_succ, List.getElem?_cons_zero, List.getElem?_nil, Option.getD_some, Option.getD_none, Int.toNat_natCast, Int.toNat_zero, Int.reduceToNat, List.length_map, get_Li, get_Lb, get_Ls, set_Li, inj_Li, inj_Lb, inj_Ls, rows_i, rows_b, rows_s, Int.zero_add, iff_true, iff_false, and_true, true_and, Bool.false_eq_true, eq_self, not_true_eq_false, not_false_eq_true, List.length_replicate, DV.int.injEq, DV.bool.injEq, DV.str.injEq, DV.list.injEq, List.cons.injEq, rOutPhi, rInF, rInE, rBitF, rBitE, gi, gb, gs, gLi, gLu, gLb, gLs, dece_i, dece_b, dece_s]
  cases hasM x0 x1
  all_goals (repeat' (first | apply And.intro | intro))
  all_goals first | rfl | contradiction | trace_state
end Go.Proofs.Ytolphdchkbcoeaa
