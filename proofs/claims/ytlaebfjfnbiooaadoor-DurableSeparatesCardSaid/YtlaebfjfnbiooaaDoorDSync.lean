/- The function disk.Sync is a function of data. No condition. -/
import Derived.Test.YtlaebfjfnbiooaaDoorClS
import Derived.Test.YtlaebfjfnbiooaaDoorBd
import Derived.Test.YtlaebfjfnbiooaaDoorOpen
namespace Go.Proofs.YtlaebfjfnbiooaaDoor
set_option linter.unusedVariables false
set_option linter.unusedSimpArgs false
set_option maxRecDepth 100000

def dSyncE (sec : List (List UInt8)) (was : List Tis) : List DV := [.list (sec.map DV.str), .list []]

def dSyncF (ds : List DV) : List DV := dSyncE (gLs ds 0) (gLis ds 1)
/-- What the executor makes of it. -/
def dSyncTree : PT :=
(.asrt (.bin .le (.un .len (.var 0)) (.int 1000000))
 (.leaf [(.bin .idx (.fn 65 (.bin .cons (.var 0) .nil)) (.int 0)), .nil]))

def dSyncSm : List (Nat × Smy) := [(61, ⟨65, [.one (.rows false [.str])], [.one (.rows true [.str])], lenC [(0, 1000000)], none⟩)]
def dSyncLa : List (LK × LA) := []
def dSyncPhi : Fs := ⟨fun n d => match n with
  | 65 => .list (clSF d.l)
  | _ => d, 130⟩
theorem dSyncS : SmyOk true Tryd.prog dSyncPhi dSyncSm := (smy_cons (lenP [(0, 1000000)]) clSF clS_pure (len_hp [(0, 1000000)]) (fun _ => rfl) (fun _ h => by cases h) smy_nil)
theorem dSyncT : treeOk ⟨Tryd.prog, dSyncSm, dSyncLa, true⟩ 4000 35 [.agg [.rows false [.str], .rows false [.int .i64, .str]]] [.agg [.rows false [.str], .rows false [.int .i64, .str]]] ([]) dSyncTree = true := by decide +kernel
set_option maxHeartbeats 1000000 in
theorem dSync_pure : PureE true Tryd.prog 35 [.agg [.rows false [.str], .rows false [.int .i64, .str]]] [.agg [.rows false [.str], .rows false [.int .i64, .str]]] (lenP [(0, 1000000)]) dSyncF := by
  refine pure_tree (X := ⟨Tryd.prog, dSyncSm, dSyncLa, true⟩) (by decide +kernel) (Checked.mixed Tryd.checked) dSyncS (by decide +kernel) (by decide +kernel) dSyncT (by decide +kernel) ?_
  intro ds hl hp
  obtain ⟨d0, d1, rfl⟩ := len2 hl
  have b0 : (d0.l.length : Int) ≤ 1000000 := hp (0, 1000000) (by simp)
  have hF : dSyncF [d0, d1] = dSyncE (d0.l.map DV.s) (d1.l.map decis) := rfl
  rw [hF]
  clear hF hp hl
  have hN : nrmL (clsOf [.agg [.rows false [.str], .rows false [.int .i64, .str]]]) [d0, d1] = [.list ((d0.l.map DV.s).map DV.str), .list ((d1.l.map decis).map encis)] := by
    simp only [clsOf, Sh.cls, List.append_nil, List.cons_append, List.nil_append, nrmL, Cl.nrm, CK.nrm, map_Lis, map_Ls]
  rw [hN]
  clear hN
  rw [← List.length_map (f := DV.s)] at b0
  generalize d0.l.map DV.s = x0 at b0 ⊢
  generalize d1.l.map decis = x1
  refine ⟨facts_nil _, ?_⟩
  unfold dSyncTree dSyncE
  simp only [Sat, clsOf, Sh.cls, List.append_nil, List.cons_append, List.nil_append, nrmL, Cl.nrm, CK.nrm, List.map_cons, List.map_nil, List.length_cons, List.length_nil, List.cons.injEq, DV.bool.injEq, DV.int.injEq, DV.list.injEq, DV.str.injEq, and_true, true_and]
  try simp only [q_le, q_eq, q_eqs, q_eqb, q_and, q_or, q_not, q_bool, iff_true, iff_false, Bool.not_true, Bool.not_false, Bool.false_eq_true, Bool.true_eq_false, eq_self, Bool.not_not]
  simp only [Bool.not_true, Bool.not_false, Bool.true_eq_false, SE.den, evU, evT, ev_le, ev_eq, ev_eqs, ev_eqb, ev_slt, ev_and, ev_or, ev_add, ev_sub, ev_mul, ev_tdiv, ev_tmod, ev_band, ev_bor, ev_bxor, ev_bandn, ev_shl, ev_shr, ev_cat, ev_byte, ev_idx, ev_cons, ev_snoc, ev_app, ev_take, ev_drop, ev_stake, ev_sdrop, ev_rep, leB_q, eqB_q, eqsB_q, not_q, i_if, b_if, l_if, s_if, i_int, b_bool, s_str, l_list, envL, List.getElem?_cons_succ, List.getElem?_cons_zero, List.getElem?_nil, Option.getD_some, Option.getD_none, Int.toNat_natCast, Int.toNat_zero, Int.reduceToNat, List.length_map, get_Li, get_Lb, get_Ls, set_Li, inj_Li, inj_Lb, inj_Ls, rows_i, rows_b, rows_s, Int.zero_add, iff_true, iff_false, and_true, true_and, Bool.false_eq_true, eq_self, not_true_eq_false, not_false_eq_true, List.length_replicate, DV.int.injEq, DV.bool.injEq, DV.str.injEq, DV.list.injEq, List.cons.injEq, f_is_0, rows_is, inj_Lis, f_is_1, rows_is, inj_Lis, dSyncPhi, clSF, clSE, gi, gb, gs, gLi, gLu, gLb, gLs, dece_i, dece_b, dece_s]
  repeat' (first | apply And.intro | intro)
  all_goals first
    | omega
    | trivial
    | rfl
    | (simp; done)
    | trace_state
end Go.Proofs.YtlaebfjfnbiooaaDoor
