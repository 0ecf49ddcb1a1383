/- WaitRegisters for more than two writers: a piece. No condition. -/
import Derived.Test.YtolphdchkbcoeaaLSane21
import Derived.Test.YtolphdchkbcoeaaNst
import Derived.Test.YtolphdchkbcoeaaBd
import Derived.Test.YtolphdchkbcoeaaOpen
namespace Go.Proofs.Ytolphdchkbcoeaa
set_option linter.unusedVariables false
set_option linter.unusedSimpArgs false
set_option maxRecDepth 100000


def wRMF (ds : List DV) : List DV := [.bool true]
/-- What the executor makes of it. -/
def wRMTree : PT :=
(.leaf [(.bin .idx (.fn 126 .nil) (.int 0))])

def wRMSm : List (Nat × Smy) := [(8, ⟨126, [], [.one (.pl .bool)], fun _ => [], none⟩)]
def wRMLa : List (LK × LA) := []
def wRMPhi : Fs := ⟨fun n d => match n with
  | 126 => .list (lSane21F d.l)
  | _ => d, 115⟩
theorem wRMS : SmyOk true Try.prog wRMPhi wRMSm := (smy_cons (fun _ => True) lSane21F lSane21_pure (fun _ _ _ _ => trivial) (fun _ => rfl) (fun _ h => by cases h) smy_nil)
theorem wRMT : treeOkN [] ⟨Try.prog, wRMSm, wRMLa, true⟩ 4000 5 [.agg [.rows [.int .u8], .many [.int .u8], .rows [.int .u8]]] (rng 0 9223372036854775807 (.un .len (.var 0)) ++ (rng 3 9223372036854775807 (.var 1) ++ (rng 0 9223372036854775807 (.un .len (.var 2)) ++ ([])))) wRMTree = true := by decide +kernel
set_option maxHeartbeats 1000000 in
theorem wRM_main : ∀ ds, ds.length = (clsOf [.agg [.rows false [.int .u8], .pl (.int .i64), .rows false [.int .u8]]]).length → Wts (clsOf [.agg [.rows false [.int .u8], .pl (.int .i64), .rows false [.int .u8]]]) ds → ((3 : Int) ≤ (ds[1]?.getD (DV.int 0)).i) → Facts (envL wRMPhi (nrmL (clsOf [.agg [.rows false [.int .u8], .pl (.int .i64), .rows false [.int .u8]]]) ds)) (rng 0 9223372036854775807 (.un .len (.var 0)) ++ (rng 3 9223372036854775807 (.var 1) ++ (rng 0 9223372036854775807 (.un .len (.var 2)) ++ ([])))) ∧ Sat wRMPhi wRMTree (fun es => nrmL (clsOf [.one (.pl .bool)]) es = nrmL (clsOf [.one (.pl .bool)]) (wRMF ds)) (nrmL (clsOf [.agg [.rows false [.int .u8], .pl (.int .i64), .rows false [.int .u8]]]) ds) := by
  intro ds hl hp hx
  obtain ⟨d0, d1, d2, rfl⟩ := len3 hl
  obtain ⟨_, _, he, w0, hp⟩ := hp
  cases he
  have b0 : ((d0.l.map DV.i).length : Int) ≤ 9223372036854775807 := by rw [List.length_map]; exact wt_len w0
  have v0 : ∀ v ∈ d0.l.map DV.i, 0 ≤ v ∧ v ≤ 255 := wt_ints w0 rfl rfl
  clear w0
  obtain ⟨_, _, he, w1, hp⟩ := hp
  cases he
  have r1 : 3 ≤ d1.i ∧ d1.i ≤ 9223372036854775807 := ⟨hx, (wt_i w1 rfl rfl : -9223372036854775808 ≤ d1.i ∧ d1.i ≤ 9223372036854775807).2⟩
  clear hx
  clear w1
  obtain ⟨_, _, he, w2, hp⟩ := hp
  cases he
  have b2 : ((d2.l.map DV.i).length : Int) ≤ 9223372036854775807 := by rw [List.length_map]; exact wt_len w2
  have v2 : ∀ v ∈ d2.l.map DV.i, 0 ≤ v ∧ v ≤ 255 := wt_ints w2 rfl rfl
  clear w2
  have hN : nrmL (clsOf [.agg [.rows false [.int .u8], .pl (.int .i64), .rows false [.int .u8]]]) [d0, d1, d2] = [.list ((d0.l.map DV.i).map DV.int), .int d1.i, .list ((d2.l.map DV.i).map DV.int)] := by
    simp only [clsOf, Sh.cls, List.append_nil, List.cons_append, List.nil_append, nrmL, Cl.nrm, CK.nrm, map_Li]
  have hF : wRMF [d0, d1, d2] = [.bool true] := rfl
  rw [hN, hF]
  clear hN hp hl hF
  generalize d0.l.map DV.i = x0 at b0 v0 ⊢
  generalize d1.i = x1 at r1 ⊢
  generalize d2.l.map DV.i = x2 at b2 v2 ⊢
  refine ⟨(rng_ok (e := .un .len (.var 0)) (Int.natCast_nonneg _) (by show ((x0.map _).length : Int) ≤ _; rw [List.length_map]; exact b0) (rng_ok (e := .var 1) r1.1 r1.2 (rng_ok (e := .un .len (.var 2)) (Int.natCast_nonneg _) (by show ((x2.map _).length : Int) ≤ _; rw [List.length_map]; exact b2) (facts_nil _)))), ?_⟩
  unfold wRMTree
  simp only [Sat, clsOf, Sh.cls, List.append_nil, List.cons_append, List.nil_append, nrmL, Cl.nrm, CK.nrm, List.map_cons, List.map_nil, List.length_cons, List.length_nil, List.cons.injEq, DV.bool.injEq, DV.int.injEq, DV.list.injEq, DV.str.injEq, and_true, true_and]
  try simp only [q_le, q_eq, q_eqs, q_eqb, q_and, q_or, q_not, q_bool, iff_true, iff_false, Bool.not_true, Bool.not_false, Bool.false_eq_true, Bool.true_eq_false, eq_self, Bool.not_not]
  try simp only [Bool.not_true, Bool.not_false, Bool.true_eq_false, SE.den, evU, evT, ev_le, ev_eq, ev_eqs, ev_eqb, ev_slt, ev_and, ev_or, ev_add, ev_sub, ev_mul, ev_tdiv, ev_tmod, ev_band, ev_bor, ev_bxor, ev_bandn, ev_shl, ev_shr, ev_cat, ev_byte, ev_idx, ev_cons, ev_snoc, ev_app, ev_take, ev_drop, ev_stake, ev_sdrop, ev_rep, leB_q, eqB_q, eqsB_q, not_q, i_if, b_if, l_if, s_if, i_int, b_bool, s_str, l_list, envL, List.getElem?_cons_succ, List.getElem?_cons_zero, List.getElem?_nil, Option.getD_some, Option.getD_none, Int.toNat_natCast, Int.toNat_zero, Int.reduceToNat, List.length_map, get_Li, get_Lb, get_Ls, set_Li, inj_Li, inj_Lb, inj_Ls, rows_i, rows_b, rows_s, Int.zero_add, iff_true, iff_false, and_true, true_and, Bool.false_eq_true, eq_self, not_true_eq_false, not_false_eq_true, List.length_replicate, DV.int.injEq, DV.bool.injEq, DV.str.injEq, DV.list.injEq, List.cons.injEq, wRMPhi, lSane21F, lSane21E, gi, gb, gs, gLi, gLu, gLb, gLs, dece_i, dece_b, dece_s]
  try simp [lSane21E]
theorem wRM_piece {w : World} {va vs us : List Value} {ds : List DV} {gs : List GI} (hgrp : Grp ([.agg [.rows [.int .u8], .many [.int .u8], .rows [.int .u8]]].map NSh.sh) va vs) (hlk : Link w (nisOf [.agg [.rows [.int .u8], .many [.int .u8], .rows [.int .u8]]]) vs us gs) (hrd : Reads w (flatN (nisOf [.agg [.rows [.int .u8], .many [.int .u8], .rows [.int .u8]]])) us ds gs) (hw : Wts (flatN (nisOf [.agg [.rows [.int .u8], .many [.int .u8], .rows [.int .u8]]])) ds) (hx : ((3 : Int) ≤ (ds[1]?.getD (DV.int 0)).i)) :
    Calls Try.prog 5 va.toArray w fun e w' => e = .returned (.bool true) ∧ Go.RowKit.Below w.heap.size w w' :=
  law_nest (X := ⟨Try.prog, wRMSm, wRMLa, true⟩) mo_nil (by decide +kernel) (Checked.mixed Try.checked) wRMS (by decide +kernel) wRMT (by decide +kernel) (wRM_main ds (reads_len hrd).2.1 hw hx) hgrp hlk hrd
end Go.Proofs.Ytolphdchkbcoeaa
