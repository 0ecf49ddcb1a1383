/- The function wire.Put is a function of data. No condition. -/
import Derived.Test.YtkfjgggiopegbaaDoorWalM
import Derived.Test.YtkfjgggiopegbaaDoorBd
import Derived.Test.YtkfjgggiopegbaaDoorOpen
namespace Go.Proofs.YtkfjgggiopegbaaDoor
set_option linter.unusedVariables false
set_option linter.unusedSimpArgs false
set_option maxRecDepth 100000

def wPutE (n : Int) : List DV := [.list ((putR n).map .int)]

def wPutF (ds : List DV) : List DV := wPutE (gi ds 0)
/-- What the executor makes of it. -/
def wPutTree : PT :=
(.loop 1 [(.bin (.bxor .u64) (.bin (.shl .u64) (.un (.wrap .u64) (.var 0)) (.int 1)) (.un (.wrap .u64) (.bin (.shr .i64) (.var 0) (.int 63)))), .nil]
 (.br (.un .not (.bin .le (.int 128) (.var 1)))
  (.asrt (.bin .le (.bin .add (.un .len (.var 2)) (.int 1)) (.int 4294967296))
   .fail)
  (.asrt (.bin .le (.bin .add (.un .len (.var 2)) (.int 1)) (.int 4294967296))
   (.leaf [(.bin (.shr .u64) (.var 1) (.int 7)), (.bin .snoc (.var 2) (.bin (.bor .u8) (.un (.wrap .u8) (.var 1)) (.int 128)))])))
 (.br (.un .not (.bin .le (.int 128) (.var 1)))
  (.asrt (.bin .le (.bin .add (.un .len (.var 2)) (.int 1)) (.int 4294967296))
   (.leaf [(.bin .snoc (.var 2) (.un (.wrap .u8) (.var 1)))]))
  (.asrt (.bin .le (.bin .add (.un .len (.var 2)) (.int 1)) (.int 4294967296))
   .fail)))

def wPutSm : List (Nat × Smy) := []
def wPutLa : List (LK × LA) := [(⟨28, 3, 1, 1, 0⟩, ⟨[(3, (.int .u64 (.var 1))), (4, (.sl 1 1 (.int 0) (.un .len (.var 2)) none)), (12, .any), (13, .any), (14, .any), (15, .any), (16, .any), (17, .any), (18, .any), (19, .any), (20, .any), (21, .any), (22, .any), (23, .any), (24, .any), (25, .any), (26, .any)], [(1, (.rows [.int .u8] (.var 2)))], [], 2, 1⟩)]
def wPutPhi : Fs := ⟨fun n d => match n with
  | _ => d, 147⟩
theorem wPutS : SmyOk true Tryd.prog wPutPhi wPutSm := smy_nil
theorem wPutT : treeOk ⟨Tryd.prog, wPutSm, wPutLa, true⟩ 4000 84 [.one (.pl (.int .i64))] [.one (.rows true [.int .u8])] ([]) wPutTree = true := by decide +kernel
set_option maxHeartbeats 1000000 in
theorem wPut_pure : PureE true Tryd.prog 84 [.one (.pl (.int .i64))] [.one (.rows true [.int .u8])] (fun _ => True) wPutF := by
  refine pure_tree (X := ⟨Tryd.prog, wPutSm, wPutLa, true⟩) (by decide +kernel) (Checked.mixed Tryd.checked) wPutS (by decide +kernel) (by decide +kernel) wPutT (by decide +kernel) ?_
  intro ds hl hp
  obtain ⟨d0, rfl⟩ := len1 hl
  have hF : wPutF [d0] = wPutE d0.i := rfl
  rw [hF]
  clear hF hp hl
  have hN : nrmL (clsOf [.one (.pl (.int .i64))]) [d0] = [.int d0.i] := by
    simp only [clsOf, Sh.cls, List.append_nil, List.cons_append, List.nil_append, nrmL, Cl.nrm, CK.nrm]
  rw [hN]
  clear hN
  generalize d0.i = x0
  refine ⟨facts_nil _, ?_⟩
  unfold wPutTree wPutE
  simp only [Sat, clsOf, Sh.cls, List.append_nil, List.cons_append, List.nil_append, nrmL, Cl.nrm, CK.nrm, List.map_cons, List.map_nil, List.length_cons, List.length_nil, List.cons.injEq, DV.bool.injEq, DV.int.injEq, DV.list.injEq, DV.str.injEq, and_true, true_and]
  try simp only [q_le, q_eq, q_eqs, q_eqb, q_and, q_or, q_not, q_bool, iff_true, iff_false, Bool.not_true, Bool.not_false, Bool.false_eq_true, Bool.true_eq_false, eq_self, Bool.not_not]
  simp only [Bool.not_true, Bool.not_false, Bool.true_eq_false, SE.den, evU, evT, ev_le, ev_eq, ev_eqs, ev_eqb, ev_slt, ev_and, ev_or, ev_add, ev_sub, ev_mul, ev_tdiv, ev_tmod, ev_band, ev_bor, ev_bxor, ev_bandn, ev_shl, ev_shr, ev_cat, ev_byte, ev_idx, ev_cons, ev_snoc, ev_app, ev_take, ev_drop, ev_stake, ev_sdrop, ev_rep, leB_q, eqB_q, eqsB_q, not_q, i_if, b_if, l_if, s_if, i_int, b_bool, s_str, l_list, envL, List.getElem?_cons_succ, List.getElem?_cons_zero, List.getElem?_nil, Option.getD_some, Option.getD_none, Int.toNat_natCast, Int.toNat_zero, Int.reduceToNat, List.length_map, get_Li, get_Lb, get_Ls, set_Li, inj_Li, inj_Lb, inj_Ls, rows_i, rows_b, rows_s, Int.zero_add, iff_true, iff_false, and_true, true_and, Bool.false_eq_true, eq_self, not_true_eq_false, not_false_eq_true, List.length_replicate, DV.int.injEq, DV.bool.injEq, DV.str.injEq, DV.list.injEq, List.cons.injEq, wPutPhi, gi, gb, gs, gLi, gLu, gLb, gLs, dece_i, dece_b, dece_s]
  have hz : [DV.int (zigR x0), DV.list []] = [DV.int (zigR x0), DV.list []] := rfl
  obtain ⟨z0, z1⟩ := zigR_rge x0
  have hput : [] ++ grpM 9 (zigR x0) = putR x0 := rfl
  conv at hz => lhs; unfold zigR
  rw [hz]
  generalize zigR x0 = z at z0 z1 hput ⊢
  generalize putR x0 = P at hput ⊢
  refine rounds_inv (fun y => ∃ (f : Nat) (u : Int) (out : List Int), y = [.int u, .list (out.map .int)] ∧ 0 ≤ u ∧ u < 128 ^ (f + 1) ∧ f + out.length = 9 ∧ out ++ grpM f u = P) (fun y => 9 - ((y[1]?).getD (DV.int 0)).l.length) ⟨9, z, [], rfl, z0, ?_, rfl, hput⟩ ?_
  · have : (128 : Int) ^ (9 + 1) = 1180591620717411303424 := by decide
    omega
  · rintro y ⟨f, u, out, rfl, h0, h1, h2, h3⟩
    simp only [Bool.not_true, Bool.not_false, Bool.true_eq_false, SE.den, evU, evT, ev_le, ev_eq, ev_eqs, ev_eqb, ev_slt, ev_and, ev_or, ev_add, ev_sub, ev_mul, ev_tdiv, ev_tmod, ev_band, ev_bor, ev_bxor, ev_bandn, ev_shl, ev_shr, ev_cat, ev_byte, ev_idx, ev_cons, ev_snoc, ev_app, ev_take, ev_drop, ev_stake, ev_sdrop, ev_rep, leB_q, eqB_q, eqsB_q, not_q, i_if, b_if, l_if, s_if, i_int, b_bool, s_str, l_list, envL, List.getElem?_cons_succ, List.getElem?_cons_zero, List.getElem?_nil, Option.getD_some, Option.getD_none, Int.toNat_natCast, Int.toNat_zero, Int.reduceToNat, List.length_map, get_Li, get_Lb, get_Ls, set_Li, inj_Li, inj_Lb, inj_Ls, rows_i, rows_b, rows_s, Int.zero_add, iff_true, iff_false, and_true, true_and, Bool.false_eq_true, eq_self, not_true_eq_false, not_false_eq_true, List.length_replicate, DV.int.injEq, DV.bool.injEq, DV.str.injEq, DV.list.injEq, List.cons.injEq, wPutPhi, gi, gb, gs, gLi, gLu, gLb, gLs, dece_i, dece_b, dece_s, shr7, u8_or u h0, snoc_Li, List.length_map]
    by_cases hu : 128 ≤ u
    · right
      cases f with
      | zero =>
        have : (128 : Int) ^ (0 + 1) = 128 := rfl
        omega
      | succ f =>
        unfold grpM at h3
        rw [if_neg (by omega)] at h3
        have e : (128 : Int) ^ (f + 1 + 1) = 128 ^ (f + 1) * 128 := by rw [Int.pow_succ]
        rw [e] at h1
        refine ⟨[.int (u / 128), .list ((out ++ [u % 128 + 128]).map .int)], ⟨fun h => absurd hu h, fun _ => ⟨by omega, rfl⟩⟩, rfl, ⟨f, u / 128, out ++ [u % 128 + 128], rfl, by omega, Int.ediv_lt_of_lt_mul (by omega) h1, by simp; omega, by rw [List.append_assoc]; exact h3⟩, ?_⟩
        simp only [Bool.not_true, Bool.not_false, Bool.true_eq_false, SE.den, evU, evT, ev_le, ev_eq, ev_eqs, ev_eqb, ev_slt, ev_and, ev_or, ev_add, ev_sub, ev_mul, ev_tdiv, ev_tmod, ev_band, ev_bor, ev_bxor, ev_bandn, ev_shl, ev_shr, ev_cat, ev_byte, ev_idx, ev_cons, ev_snoc, ev_app, ev_take, ev_drop, ev_stake, ev_sdrop, ev_rep, leB_q, eqB_q, eqsB_q, not_q, i_if, b_if, l_if, s_if, i_int, b_bool, s_str, l_list, envL, List.getElem?_cons_succ, List.getElem?_cons_zero, List.getElem?_nil, Option.getD_some, Option.getD_none, Int.toNat_natCast, Int.toNat_zero, Int.reduceToNat, List.length_map, get_Li, get_Lb, get_Ls, set_Li, inj_Li, inj_Lb, inj_Ls, rows_i, rows_b, rows_s, Int.zero_add, iff_true, iff_false, and_true, true_and, Bool.false_eq_true, eq_self, not_true_eq_false, not_false_eq_true, List.length_replicate, DV.int.injEq, DV.bool.injEq, DV.str.injEq, DV.list.injEq, List.cons.injEq, List.length_append, List.length_cons, List.length_nil]
        omega
    · left
      refine ⟨fun _ => ⟨by omega, ?_⟩, fun h => absurd h hu⟩
      have hg : grpM f u = [u] := by
        cases f with
        | zero => rfl
        | succ f => unfold grpM; rw [if_pos (by omega)]
      rw [hg] at h3
      rw [← h3, u8_wrap u h0 (by omega)]
end Go.Proofs.YtkfjgggiopegbaaDoor
