/- The function hallmootlaw22.sanity is a function of data. No condition. -/
import Derived.Test.YtljocjljkilkjaaRDRight
import Derived.Test.YtljocjljkilkjaaDNew
import Derived.Test.YtljocjljkilkjaaDFull
import Derived.Test.YtljocjljkilkjaaDWrite
import Derived.Test.YtljocjljkilkjaaDCrash
import Derived.Test.YtljocjljkilkjaaDRead
import Derived.Test.YtljocjljkilkjaaDSync
import Derived.Test.YtljocjljkilkjaaDSame
import Derived.Test.YtljocjljkilkjaaDRight
import Derived.Test.YtljocjljkilkjaaBd
import Derived.Test.YtljocjljkilkjaaOpen
namespace Go.Proofs.Ytljocjljkilkjaa
set_option linter.unusedVariables false
set_option linter.unusedSimpArgs false
set_option maxRecDepth 100000

def dSaneE : List DV := [.bool true]

def dSaneF (ds : List DV) : List DV := dSaneE
/-- What the executor makes of it. -/
def dSaneTree : PT :=
(.asrt (.bin .idx (.fn 78 (.bin .cons (.bin .cons (.str [0, 0, 0, 0, 0, 0, 0, 0, 0, 0, 0, 0, 0, 0, 0, 0, 0, 0, 0, 0, 0, 0, 0, 0, 0, 0, 0, 0, 0, 0, 0, 0]) (.bin .cons (.str [97, 97, 97, 97, 97, 97, 97, 97, 97, 97, 97, 97, 97, 97, 97, 97, 97, 97, 97, 97, 97, 97, 97, 97, 97, 97, 97, 97, 97, 97, 97, 97]) .nil)) (.bin .cons (.bin .cons (.bin .cons (.int 1) (.bin .cons (.str [0, 0, 0, 0, 0, 0, 0, 0, 0, 0, 0, 0, 0, 0, 0, 0, 0, 0, 0, 0, 0, 0, 0, 0, 0, 0, 0, 0, 0, 0, 0, 0]) .nil)) .nil) .nil))) (.int 0))
 (.asrt (.bin .idx (.fn 78 (.bin .cons (.bin .cons (.str [0, 0, 0, 0, 0, 0, 0, 0, 0, 0, 0, 0, 0, 0, 0, 0, 0, 0, 0, 0, 0, 0, 0, 0, 0, 0, 0, 0, 0, 0, 0, 0]) (.bin .cons (.str [97, 97, 97, 97, 97, 97, 97, 97, 97, 97, 97, 97, 97, 97, 97, 97, 97, 97, 97, 97, 97, 97, 97, 97, 97, 97, 97, 97, 97, 97, 97, 97]) .nil)) (.bin .cons .nil .nil))) (.int 0))
  (.leaf [(.bool true)])))

def dSaneSm : List (Nat × Smy) := [(11, ⟨78, [.agg [.rows false [.str], .rows false [.int .i64, .str]]], [.one (.pl .bool)], lenC [(0, 1000000), (1, 1000000)], none⟩), (9, ⟨72, [.one (.pl (.int .i64))], [.agg [.rows false [.str], .rows false [.int .i64, .str]], .one (.pl (.int .i64))], fun _ => [], some dNewF⟩), (24, ⟨67, [.one (.pl (.int .u8))], [.one (.pl .str)], fun _ => [], some dFullF⟩), (17, ⟨79, [.agg [.rows false [.str], .rows false [.int .i64, .str]], .one (.pl (.int .i64)), .one (.pl .str)], [.agg [.rows false [.str], .rows false [.int .i64, .str]], .one (.pl (.int .i64))], lenC [(0, 1000000), (1, 1000000)], some dWriteF⟩), (21, ⟨86, [.agg [.rows false [.str], .rows false [.int .i64, .str]], .one (.rows false [.int .i64])], [.agg [.rows false [.str], .rows false [.int .i64, .str]]], fun es => (lenC [(0, 1000000), (1, 1000000), (2, 1000000)]) es ++ [rightC 78 0 1 es], some dCrashF⟩), (15, ⟨68, [.agg [.rows false [.str], .rows false [.int .i64, .str]], .one (.pl (.int .i64))], [.one (.pl .str), .one (.pl (.int .i64))], fun _ => [], some dReadF⟩), (19, ⟨81, [.agg [.rows false [.str], .rows false [.int .i64, .str]]], [.agg [.rows false [.str], .rows false [.int .i64, .str]]], lenC [(0, 1000000)], some dSyncF⟩), (13, ⟨66, [.agg [.rows false [.str], .rows false [.int .i64, .str]], .agg [.rows false [.str], .rows false [.int .i64, .str]]], [.one (.pl .bool)], lenC [(0, 1000000), (1, 1000000), (2, 1000000), (3, 1000000)], some dSameF⟩), (12, ⟨70, [.agg [.rows false [.str], .rows false [.int .i64, .str]]], [.one (.pl .bool)], lenC [(0, 1000000), (1, 1000000)], some dRightF⟩)]
def dSaneLa : List (LK × LA) := []
def dSanePhi : Nat → DV → DV := fun n d => match n with
  | 78 => .list (rDRightF d.l)
  | 72 => .list (dNewF d.l)
  | 67 => .list (dFullF d.l)
  | 79 => .list (dWriteF d.l)
  | 86 => .list (dCrashF d.l)
  | 68 => .list (dReadF d.l)
  | 81 => .list (dSyncF d.l)
  | 66 => .list (dSameF d.l)
  | 70 => .list (dRightF d.l)
  | _ => d
theorem dSaneS : SmyOk Try.prog dSanePhi dSaneSm := (smy_cons (lenP [(0, 1000000), (1, 1000000)]) rDRightF rDRight_pure (len_hp [(0, 1000000), (1, 1000000)]) (fun _ => rfl) (fun _ h => by cases h) (smy_cons (fun _ => True) dNewF dNew_pure (fun _ _ _ _ => trivial) (fun _ => rfl) (fun _ h => by cases h; rfl) (smy_cons (fun _ => True) dFullF dFull_pure (fun _ _ _ _ => trivial) (fun _ => rfl) (fun _ h => by cases h; rfl) (smy_cons (lenP [(0, 1000000), (1, 1000000)]) dWriteF dWrite_pure (len_hp [(0, 1000000), (1, 1000000)]) (fun _ => rfl) (fun _ h => by cases h; rfl) (smy_cons (fun ds => (lenP [(0, 1000000), (1, 1000000), (2, 1000000)]) ds ∧ rightDM (gLs ds 0) (gLis ds 1) = true) dCrashF dCrash_pure (right_hp 78 0 1 (len_hp [(0, 1000000), (1, 1000000), (2, 1000000)]) (fun _ => rfl)) (fun _ => rfl) (fun _ h => by cases h; rfl) (smy_cons (fun _ => True) dReadF dRead_pure (fun _ _ _ _ => trivial) (fun _ => rfl) (fun _ h => by cases h; rfl) (smy_cons (lenP [(0, 1000000)]) dSyncF dSync_pure (len_hp [(0, 1000000)]) (fun _ => rfl) (fun _ h => by cases h; rfl) (smy_cons (lenP [(0, 1000000), (1, 1000000), (2, 1000000), (3, 1000000)]) dSameF dSame_pure (len_hp [(0, 1000000), (1, 1000000), (2, 1000000), (3, 1000000)]) (fun _ => rfl) (fun _ h => by cases h; rfl) (smy_cons (lenP [(0, 1000000), (1, 1000000)]) dRightF dRight_pure (len_hp [(0, 1000000), (1, 1000000)]) (fun _ => rfl) (fun _ h => by cases h; rfl) smy_nil)))))))))
theorem dSaneT : treeOk ⟨Try.prog, dSaneSm, dSaneLa⟩ 4000 7 [] [.one (.pl .bool)] ([]) dSaneTree = true := by decide +kernel
set_option maxHeartbeats 1000000 in
theorem dSane_pure : Pure Try.prog 7 [] [.one (.pl .bool)] (fun _ => True) dSaneF := by
  refine pure_tree (X := ⟨Try.prog, dSaneSm, dSaneLa⟩) (Checked.mixed Try.checked) dSaneS (by decide +kernel) (by decide +kernel) dSaneT (by decide +kernel) ?_
  intro ds hl hp
  obtain rfl := len0 hl
  have hF : dSaneF [] = dSaneE  := rfl
  rw [hF]
  clear hF hp hl
  have hN : nrmL (clsOf []) [] = [] := by
    simp only [clsOf, Sh.cls, List.append_nil, List.cons_append, List.nil_append, nrmL, Cl.nrm, CK.nrm]
  rw [hN]
  clear hN
  refine ⟨facts_nil _, ?_⟩
  unfold dSaneTree
  simp only [Sat, clsOf, Sh.cls, List.append_nil, List.cons_append, List.nil_append, nrmL, Cl.nrm, CK.nrm, List.map_cons, List.map_nil, List.length_cons, List.length_nil, List.cons.injEq, DV.bool.injEq, DV.int.injEq, DV.list.injEq, DV.str.injEq, and_true, true_and, dSaneE, dSaneF]
  all_goals try simp only [q_le, q_eq, q_eqs, q_eqb, q_and, q_or, q_not, q_bool, iff_true, iff_false, Bool.not_true, Bool.not_false, Bool.false_eq_true, Bool.true_eq_false, eq_self, Bool.not_not]
  all_goals try simp only [Bool.not_true, Bool.not_false, Bool.true_eq_false, SE.den, evU, evT, ev_le, ev_eq, ev_eqs, ev_eqb, ev_slt, ev_and, ev_or, ev_add, ev_sub, ev_mul, ev_tdiv, ev_tmod, ev_band, ev_bor, ev_bxor, ev_bandn, ev_shl, ev_shr, ev_cat, ev_byte, ev_idx, ev_cons, ev_snoc, ev_app, ev_take, ev_drop, ev_stake, ev_sdrop, ev_rep, leB_q, eqB_q, eqsB_q, not_q, i_if, b_if, l_if, s_if, i_int, b_bool, s_str, l_list, envL, List.getElem?_cons_succ, List.getElem?_cons_zero, List.getElem?_nil, Option.getD_some, Option.getD_none, Int.toNat_natCast, Int.toNat_zero, Int.reduceToNat, List.length_map, get_Li, get_Lb, get_Ls, set_Li, inj_Li, inj_Lb, inj_Ls, rows_i, rows_b, rows_s, Int.zero_add, iff_true, iff_false, and_true, true_and, Bool.false_eq_true, eq_self, not_true_eq_false, not_false_eq_true, List.length_replicate, DV.int.injEq, DV.bool.injEq, DV.str.injEq, DV.list.injEq, List.cons.injEq, f_is_0, rows_is, inj_Lis, f_is_1, rows_is, inj_Lis, dSanePhi, rDRightF, rDRightE, dNewF, dNewE, dFullF, dFullE, dWriteF, dWriteE, dCrashF, dCrashE, dReadF, dReadE, dSyncF, dSyncE, dSameF, dSameE, dRightF, dRightE, gi, gb, gs, gLi, gLu, gLb, gLs, dece_i, dece_b, dece_s, gLis, deces_is]
  exact ⟨by decide +kernel, by decide +kernel⟩
end Go.Proofs.Ytljocjljkilkjaa
