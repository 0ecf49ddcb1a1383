/- The function slices.Clone[[]string,string] is a function of data. No condition. -/
import Derived.Test.YtlaebfjfnbiooaaDoorBd
import Derived.Test.YtlaebfjfnbiooaaDoorOpen
namespace Go.Proofs.YtlaebfjfnbiooaaDoor
set_option linter.unusedVariables false
set_option linter.unusedSimpArgs false
set_option maxRecDepth 100000

def clSE (l : List (List UInt8)) : List DV := [.list (l.map DV.str)]

def clSF (ds : List DV) : List DV := clSE (gLs ds 0)
/-- What the executor makes of it. -/
def clSTree : PT :=
(.br (.bin .le (.un .len (.var 0)) (.int 0))
 (.both
  (.leaf [.nil])
  (.leaf [(.var 0)]))
 (.asrt (.bin .le (.un .len (.var 0)) (.int 4294967296))
  (.leaf [(.var 0)])))

def clSSm : List (Nat × Smy) := []
def clSLa : List (LK × LA) := []
def clSPhi : Fs := ⟨fun n d => match n with
  | _ => d, 130⟩
theorem clSS : SmyOk true Tryd.prog clSPhi clSSm := smy_nil
theorem clST : treeOk ⟨Tryd.prog, clSSm, clSLa, true⟩ 4000 61 [.one (.rows false [.str])] [.one (.rows true [.str])] ([]) clSTree = true := by decide +kernel
set_option maxHeartbeats 1000000 in
theorem clS_pure : PureE true Tryd.prog 61 [.one (.rows false [.str])] [.one (.rows true [.str])] (lenP [(0, 1000000)]) clSF := by
  refine pure_tree (X := ⟨Tryd.prog, clSSm, clSLa, true⟩) (by decide +kernel) (Checked.mixed Tryd.checked) clSS (by decide +kernel) (by decide +kernel) clST (by decide +kernel) ?_
  intro ds hl hp
  obtain ⟨d0, rfl⟩ := len1 hl
  have b0 : (d0.l.length : Int) ≤ 1000000 := hp (0, 1000000) (by simp)
  have hF : clSF [d0] = clSE (d0.l.map DV.s) := rfl
  rw [hF]
  clear hF hp hl
  have hN : nrmL (clsOf [.one (.rows false [.str])]) [d0] = [.list ((d0.l.map DV.s).map DV.str)] := by
    simp only [clsOf, Sh.cls, List.append_nil, List.cons_append, List.nil_append, nrmL, Cl.nrm, CK.nrm, map_Ls]
  rw [hN]
  clear hN
  rw [← List.length_map (f := DV.s)] at b0
  generalize d0.l.map DV.s = x0 at b0 ⊢
  refine ⟨facts_nil _, ?_⟩
  unfold clSTree clSE
  simp only [Sat, clsOf, Sh.cls, List.append_nil, List.cons_append, List.nil_append, nrmL, Cl.nrm, CK.nrm, List.map_cons, List.map_nil, List.length_cons, List.length_nil, List.cons.injEq, DV.bool.injEq, DV.int.injEq, DV.list.injEq, DV.str.injEq, and_true, true_and]
  try simp only [q_le, q_eq, q_eqs, q_eqb, q_and, q_or, q_not, q_bool, iff_true, iff_false, Bool.not_true, Bool.not_false, Bool.false_eq_true, Bool.true_eq_false, eq_self, Bool.not_not]
  simp only [Bool.not_true, Bool.not_false, Bool.true_eq_false, SE.den, evU, evT, ev_le, ev_eq, ev_eqs, ev_eqb, ev_slt, ev_and, ev_or, ev_add, ev_sub, ev_mul, ev_tdiv, ev_tmod, ev_band, ev_bor, ev_bxor, ev_bandn, ev_shl, ev_shr, ev_cat, ev_byte, ev_idx, ev_cons, ev_snoc, ev_app, ev_take, ev_drop, ev_stake, ev_sdrop, ev_rep, leB_q, eqB_q, eqsB_q, not_q, i_if, b_if, l_if, s_if, i_int, b_bool, s_str, l_list, envL, List.getElem?_cons_succ, List.getElem?_cons_zero, List.getElem?_nil, Option.getD_some, Option.getD_none, Int.toNat_natCast, Int.toNat_zero, Int.reduceToNat, List.length_map, get_Li, get_Lb, get_Ls, set_Li, inj_Li, inj_Lb, inj_Ls, rows_i, rows_b, rows_s, Int.zero_add, iff_true, iff_false, and_true, true_and, Bool.false_eq_true, eq_self, not_true_eq_false, not_false_eq_true, List.length_replicate, DV.int.injEq, DV.bool.injEq, DV.str.injEq, DV.list.injEq, List.cons.injEq]
  refine ⟨fun h => ?_, fun _ => by omega⟩
  have : x0 = [] := List.eq_nil_of_length_eq_zero (by omega)
  subst this; rfl
end Go.Proofs.YtlaebfjfnbiooaaDoor
