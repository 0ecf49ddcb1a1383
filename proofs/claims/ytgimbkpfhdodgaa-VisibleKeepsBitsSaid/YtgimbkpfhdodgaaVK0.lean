/- VisibleKeepsBits for no threads: a piece. No condition. -/
import Derived.Test.YtgimbkpfhdodgaaLSane18
import Derived.Test.YtgimbkpfhdodgaaNst
import Derived.Test.YtgimbkpfhdodgaaBd
import Derived.Test.YtgimbkpfhdodgaaOpen
namespace Go.Proofs.Ytgimbkpfhdodgaa
set_option linter.unusedVariables false
set_option linter.unusedSimpArgs false
set_option maxRecDepth 100000


def vK0F (ds : List DV) : List DV := [.bool true]
/-- What the executor makes of it. -/
def vK0Tree : PT :=
(.leaf [(.bin .idx (.fn 20 .nil) (.int 0))])

def vK0Sm : List (Nat × Smy) := [(4, ⟨20, [], [.one (.pl .bool)], fun _ => [], none⟩)]
def vK0La : List (LK × LA) := []
def vK0Phi : Fs := ⟨fun n d => match n with
  | 20 => .list (lSane18F d.l)
  | _ => d, 60⟩
theorem vK0S : SmyOk true Try.prog vK0Phi vK0Sm := (smy_cons (fun _ => True) lSane18F lSane18_pure (fun _ _ _ _ => trivial) (fun _ => rfl) (fun _ h => by cases h) smy_nil)
theorem vK0T : treeOkN [] ⟨Try.prog, vK0Sm, vK0La, true⟩ 4000 3 [.one (.nest [.int .u8] 0), .one (.rows [.int .u8])] (rng (-9223372036854775808) 9223372036854775807 (.var 0) ++ (rng 0 9223372036854775807 (.un .len (.var 1)) ++ ([]))) vK0Tree = true := by decide +kernel
set_option maxHeartbeats 1000000 in
theorem vK0_main : ∀ ds, ds.length = (clsOf [.one (.pl (.int .i64)), .one (.rows false [.int .u8])]).length → Wts (clsOf [.one (.pl (.int .i64)), .one (.rows false [.int .u8])]) ds → Facts (envL vK0Phi (nrmL (clsOf [.one (.pl (.int .i64)), .one (.rows false [.int .u8])]) ds)) (rng (-9223372036854775808) 9223372036854775807 (.var 0) ++ (rng 0 9223372036854775807 (.un .len (.var 1)) ++ ([]))) ∧ Sat vK0Phi vK0Tree (fun es => nrmL (clsOf [.one (.pl .bool)]) es = nrmL (clsOf [.one (.pl .bool)]) (vK0F ds)) (nrmL (clsOf [.one (.pl (.int .i64)), .one (.rows false [.int .u8])]) ds) := by
  intro ds hl hp
  obtain ⟨d0, d1, rfl⟩ := len2 hl
  obtain ⟨_, _, he, w0, hp⟩ := hp
  cases he
  have r0 : -9223372036854775808 ≤ d0.i ∧ d0.i ≤ 9223372036854775807 := wt_i w0 rfl rfl
  clear w0
  obtain ⟨_, _, he, w1, hp⟩ := hp
  cases he
  have b1 : ((d1.l.map DV.i).length : Int) ≤ 9223372036854775807 := by rw [List.length_map]; exact wt_len w1
  have v1 : ∀ v ∈ d1.l.map DV.i, 0 ≤ v ∧ v ≤ 255 := wt_ints w1 rfl rfl
  clear w1
  have hN : nrmL (clsOf [.one (.pl (.int .i64)), .one (.rows false [.int .u8])]) [d0, d1] = [.int d0.i, .list ((d1.l.map DV.i).map DV.int)] := by
    simp only [clsOf, Sh.cls, List.append_nil, List.cons_append, List.nil_append, nrmL, Cl.nrm, CK.nrm, map_Li]
  have hF : vK0F [d0, d1] = [.bool true] := rfl
  rw [hN, hF]
  clear hN hp hl hF
  generalize d0.i = x0 at r0 ⊢
  generalize d1.l.map DV.i = x1 at b1 v1 ⊢
  refine ⟨(rng_ok (e := .var 0) r0.1 r0.2 (rng_ok (e := .un .len (.var 1)) (Int.natCast_nonneg _) (by show ((x1.map _).length : Int) ≤ _; rw [List.length_map]; exact b1) (facts_nil _))), ?_⟩
  unfold vK0Tree
  simp only [Sat, clsOf, Sh.cls, List.append_nil, List.cons_append, List.nil_append, nrmL, Cl.nrm, CK.nrm, List.map_cons, List.map_nil, List.length_cons, List.length_nil, List.cons.injEq, DV.bool.injEq, DV.int.injEq, DV.list.injEq, DV.str.injEq, and_true, true_and]
  try simp only [q_le, q_eq, q_eqs, q_eqb, q_and, q_or, q_not, q_bool, iff_true, iff_false, Bool.not_true, Bool.not_false, Bool.false_eq_true, Bool.true_eq_false, eq_self, Bool.not_not]
  try simp only [Bool.not_true, Bool.not_false, Bool.true_eq_false, SE.den, evU, evT, ev_le, ev_eq, ev_eqs, ev_eqb, ev_slt, ev_and, ev_or, ev_add, ev_sub, ev_mul, ev_tdiv, ev_tmod, ev_band, ev_bor, ev_bxor, ev_bandn, ev_shl, ev_shr, ev_cat, ev_byte, ev_idx, ev_cons, ev_snoc, ev_app, ev_take, ev_drop, ev_stake, ev_sdrop, ev_rep, leB_q, eqB_q, eqsB_q, not_q, i_if, b_if, l_if, s_if, i_int, b_bool, s_str, l_list, envL, List.getElem?_cons_succ, List.getElem?_cons_zero, List.getElem?_nil, Option.getD_some, Option.getD_none, Int.toNat_natCast, Int.toNat_zero, Int.reduceToNat, List.length_map, get_Li, get_Lb, get_Ls, set_Li, inj_Li, inj_Lb, inj_Ls, rows_i, rows_b, rows_s, Int.zero_add, iff_true, iff_false, and_true, true_and, Bool.false_eq_true, eq_self, not_true_eq_false, not_false_eq_true, List.length_replicate, DV.int.injEq, DV.bool.injEq, DV.str.injEq, DV.list.injEq, List.cons.injEq, vK0Phi, lSane18F, lSane18E, gi, gb, gs, gLi, gLu, gLb, gLs, dece_i, dece_b, dece_s]
  try simp
theorem vK0_piece {w : World} {va vs us : List Value} {ds : List DV} {gs : List GI} (hgrp : Grp ([.one (.nest [.int .u8] 0), .one (.rows [.int .u8])].map NSh.sh) va vs) (hlk : Link w (nisOf [.one (.nest [.int .u8] 0), .one (.rows [.int .u8])]) vs us gs) (hrd : Reads w (flatN (nisOf [.one (.nest [.int .u8] 0), .one (.rows [.int .u8])])) us ds gs) (hw : Wts (flatN (nisOf [.one (.nest [.int .u8] 0), .one (.rows [.int .u8])])) ds) :
    Calls Try.prog 3 va.toArray w fun e w' => e = .returned (.bool true) ∧ Go.RowKit.Below w.heap.size w w' :=
  law_nest (X := ⟨Try.prog, vK0Sm, vK0La, true⟩) mo_nil (by decide +kernel) (Checked.mixed Try.checked) vK0S (by decide +kernel) vK0T (by decide +kernel) (vK0_main ds (reads_len hrd).2.1 hw) hgrp hlk hrd
end Go.Proofs.Ytgimbkpfhdodgaa
