/- The function hallmootref01.down is a function of data. No condition. -/
import Derived.Test.YtolphdchkbcoeaaRMod
import Derived.Test.YtolphdchkbcoeaaBd
import Derived.Test.YtolphdchkbcoeaaOpen
namespace Go.Proofs.Ytolphdchkbcoeaa
set_option linter.unusedVariables false
set_option linter.unusedSimpArgs false
set_option maxRecDepth 100000

def downM (m n : Int) : Int := IntKind.i64.wrap ((IntKind.i64.wrap (m - m % n)).tdiv n)
theorem wrap_some (n : Int) : ∃ j, IntKind.i64.wrap n = n + 18446744073709551616 * j ∧ -9223372036854775808 ≤ IntKind.i64.wrap n ∧ IntKind.i64.wrap n ≤ 9223372036854775807 := by
  refine ⟨-((n + 9223372036854775808) / 18446744073709551616), ?_, ?_⟩ <;> rw [w64_eq] <;> omega
theorem down_bit (m : Int) (t : Nat) (ht : t ≤ 61) : downM m (2 ^ t) % 2 = m / 2 ^ t % 2 := by
  have hp := pow_lt t ht
  obtain ⟨j, hj, h0, h1⟩ := wrap_some (m - m % 2 ^ t)
  have hq : m - m % 2 ^ t = 2 ^ t * (m / 2 ^ t) := by have := Int.emod_add_mul_ediv m (2 ^ t); omega
  have e64 : (18446744073709551616 : Int) = 2 ^ t * (2 * 2 ^ (63 - t)) := by
    have : (2 : Nat) ^ 64 = 2 ^ t * (2 * 2 ^ (63 - t)) := by
      rw [← Nat.pow_succ', ← Nat.pow_add]; congr 1; omega
    have h : ((2 ^ 64 : Nat) : Int) = ((2 ^ t * (2 * 2 ^ (63 - t)) : Nat) : Int) := by rw [this]
    simpa using h
  unfold downM
  have e : IntKind.i64.wrap (m - m % 2 ^ t) = 2 ^ t * (m / 2 ^ t + 2 * (2 ^ (63 - t) * j)) := by
    rw [hj, hq, e64, Int.mul_add]; simp only [Int.mul_assoc]
  rw [e] at h0 h1 ⊢
  rw [Int.mul_tdiv_cancel_left _ (by omega)]
  generalize m / 2 ^ t = q at h0 h1 ⊢
  generalize 2 ^ (63 - t) * j = z at h0 h1 ⊢
  have hy : IntKind.i64.wrap (q + 2 * z) = q + 2 * z := by
    generalize hyy : q + 2 * z = y at h0 h1 ⊢
    rcases Int.le_total 0 y with h | h
    · have := Int.mul_le_mul_of_nonneg_right (show 1 ≤ (2 : Int) ^ t by omega) h
      exact w64 (by omega) (by omega)
    · have := Int.mul_le_mul_of_nonpos_right (show 1 ≤ (2 : Int) ^ t by omega) h
      exact w64 (by omega) (by omega)
  rw [hy]
  omega
def rDownE (m n : Int) : List DV := [.int (downM m n)]

def rDownF (ds : List DV) : List DV := rDownE (gi ds 0) (gi ds 1)
/-- What the executor makes of it. -/
def rDownTree : PT :=
(.asrt (.bin .le (.int 1) (.var 1))
 (.asrt (.bin .le (.var 1) (.int 4611686018427387904))
  (.leaf [(.un (.wrap .i64) (.bin .tdiv (.un (.wrap .i64) (.bin .sub (.var 0) (.bin .idx (.fn 46 (.bin .cons (.var 0) (.bin .cons (.var 1) .nil))) (.int 0)))) (.var 1)))])))

def rDownSm : List (Nat × Smy) := [(47, ⟨46, [.one (.pl (.int .i64)), .one (.pl (.int .i64))], [.one (.pl (.int .i64))], fun es => lenC [] es ++ rgeC [(1, 1, 4611686018427387904)] es, none⟩)]
def rDownLa : List (LK × LA) := []
def rDownPhi : Fs := ⟨fun n d => match n with
  | 46 => .list (rModF d.l)
  | _ => d, 115⟩
theorem rDownS : SmyOk true Try.prog rDownPhi rDownSm := (smy_cons (fun ds => lenP [] ds ∧ rgeP [(1, 1, 4611686018427387904)] ds) rModF rMod_pure (both_hp [] [(1, 1, 4611686018427387904)]) (fun _ => rfl) (fun _ h => by cases h) smy_nil)
theorem rDownT : treeOk ⟨Try.prog, rDownSm, rDownLa, true⟩ 4000 48 [.one (.pl (.int .i64)), .one (.pl (.int .i64))] [.one (.pl (.int .i64))] ([]) rDownTree = true := by decide +kernel
set_option maxHeartbeats 1000000 in
theorem rDown_pure : PureE true Try.prog 48 [.one (.pl (.int .i64)), .one (.pl (.int .i64))] [.one (.pl (.int .i64))] (fun ds => lenP [] ds ∧ rgeP [(1, 1, 4611686018427387904)] ds) rDownF := by
  refine pure_tree (X := ⟨Try.prog, rDownSm, rDownLa, true⟩) (by decide +kernel) (Checked.mixed Try.checked) rDownS (by decide +kernel) (by decide +kernel) rDownT (by decide +kernel) ?_
  intro ds hl hp
  obtain ⟨d0, d1, rfl⟩ := len2 hl
  have r1 : 1 ≤ d1.i ∧ d1.i ≤ 4611686018427387904 := hp.2 (1, 1, 4611686018427387904) (by simp)
  have hF : rDownF [d0, d1] = rDownE d0.i d1.i := rfl
  rw [hF]
  clear hF hp hl
  have hN : nrmL (clsOf [.one (.pl (.int .i64)), .one (.pl (.int .i64))]) [d0, d1] = [.int d0.i, .int d1.i] := by
    simp only [clsOf, Sh.cls, List.append_nil, List.cons_append, List.nil_append, nrmL, Cl.nrm, CK.nrm]
  rw [hN]
  clear hN
  generalize d0.i = x0
  generalize d1.i = x1 at r1 ⊢
  refine ⟨facts_nil _, ?_⟩
  unfold rDownTree rDownE downM
  simp only [Sat, clsOf, Sh.cls, List.append_nil, List.cons_append, List.nil_append, nrmL, Cl.nrm, CK.nrm, List.map_cons, List.map_nil, List.length_cons, List.length_nil, List.cons.injEq, DV.bool.injEq, DV.int.injEq, DV.list.injEq, DV.str.injEq, and_true, true_and]
  simp only [q_le, q_eq, q_eqs, q_eqb, q_and, q_or, q_not, q_bool, iff_true, iff_false, Bool.not_true, Bool.not_false, Bool.false_eq_true, Bool.true_eq_false, eq_self, Bool.not_not]
  simp only [Bool.not_true, Bool.not_false, Bool.true_eq_false, SE.den, evU, evT, ev_le, ev_eq, ev_eqs, ev_eqb, ev_slt, ev_and, ev_or, ev_add, ev_sub, ev_mul, ev_tdiv, ev_tmod, ev_band, ev_bor, ev_bxor, ev_bandn, ev_shl, ev_shr, ev_cat, ev_byte, ev_idx, ev_cons, ev_snoc, ev_app, ev_take, ev_drop, ev_stake, ev_sdrop, ev_rep, leB_q, eqB_q, eqsB_q, not_q, i_if, b_if, l_if, s_if, i_int, b_bool, s_str, l_list, envL, List.getElem?_cons_succ, List.getElem?_cons_zero, List.getElem?_nil, Option.getD_some, Option.getD_none, Int.toNat_natCast, Int.toNat_zero, Int.reduceToNat, List.length_map, get_Li, get_Lb, get_Ls, set_Li, inj_Li, inj_Lb, inj_Ls, rows_i, rows_b, rows_s, Int.zero_add, iff_true, iff_false, and_true, true_and, Bool.false_eq_true, eq_self, not_true_eq_false, not_false_eq_true, List.length_replicate, DV.int.injEq, DV.bool.injEq, DV.str.injEq, DV.list.injEq, List.cons.injEq, rDownPhi, rModF, rModE, gi, gb, gs, gLi, gLu, gLb, gLs, dece_i, dece_b, dece_s]
  repeat' (first | apply And.intro | intro)
  all_goals first
    | omega
    | trivial
    | trace_state
end Go.Proofs.Ytolphdchkbcoeaa
