/- The function hallmootref03.Put is a function of data. No condition. -/
import Derived.Test.YtkfjgggiopegbaaDoorWalM
import Derived.Test.YtkfjgggiopegbaaDoorBd
import Derived.Test.YtkfjgggiopegbaaDoorOpen
namespace Go.Proofs.YtkfjgggiopegbaaDoor
set_option linter.unusedVariables false
set_option linter.unusedSimpArgs false
set_option maxRecDepth 100000

/-- The zigzag number, as the reference has it. -/
def turnR (n : Int) : Int := if 0 ≤ n then IntKind.u64.wrap (2 * IntKind.u64.wrap n) else IntKind.u64.wrap (IntKind.u64.wrap (2 * IntKind.u64.wrap (IntKind.i64.wrap (0 - IntKind.i64.wrap (n + 1)))) + 1)
theorem turnR_eq {n : Int} (h0 : -9223372036854775808 ≤ n) (h1 : n ≤ 9223372036854775807) : turnR n = zigM n := by
  unfold turnR zigM
  split
  · rw [u64_wrap n (by omega) (by omega), u64_wrap _ (by omega) (by omega)]
  · rw [w64 (n := n + 1) (by omega) (by omega), w64 (by omega) (by omega), u64_wrap (0 - (n + 1)) (by omega) (by omega), u64_wrap (2 * (0 - (n + 1))) (by omega) (by omega), u64_wrap _ (by omega) (by omega)]
    omega
theorem turnR_rge (n : Int) : 0 ≤ turnR n ∧ turnR n < 18446744073709551616 := by
  unfold turnR
  split <;> (rw [u64_mod]; omega)
def put3 (n : Int) : List Int := grpM 9 (turnR n)
theorem put3_eq {n : Int} (h0 : -9223372036854775808 ≤ n) (h1 : n ≤ 9223372036854775807) : put3 n = putR n := by unfold put3; rw [turnR_eq h0 h1, putR_eq h0 h1]; rfl
theorem put3_len (n : Int) : 0 < (put3 n).length ∧ (put3 n).length ≤ 10 := grp_len 9 _
def r3PutE (n : Int) : List DV := [.list ((put3 n).map .int)]
theorem r3_loop {B : List DV → List DV → Prop} {R : List DV → Prop} {z : Int} (z0 : 0 ≤ z) (z1 : z < 18446744073709551616) (P : List Int) (hput : [] ++ grpM 9 z = P)
    (hB : ∀ u out, 0 ≤ u → u < 18446744073709551616 → 128 ≤ u → (out : List Int).length ≤ 9 → B [.int u, .list (out.map .int)] [.int (u / 128), .list ((out ++ [u % 128 + 128]).map .int)])
    (hR : ∀ u out, 0 ≤ u → u < 128 → (out : List Int).length ≤ 9 → out ++ [u] = P → R [.int u, .list (out.map .int)]) : Rounds B R [.int z, .list []] := by
  refine rounds_inv (fun y => ∃ (f : Nat) (u : Int) (out : List Int), y = [.int u, .list (out.map .int)] ∧ 0 ≤ u ∧ u < 18446744073709551616 ∧ u < 128 ^ (f + 1) ∧ f + out.length = 9 ∧ out ++ grpM f u = P) (fun y => 9 - ((y[1]?).getD (DV.int 0)).l.length) ⟨9, z, [], rfl, z0, z1, ?_, rfl, hput⟩ ?_
  · have : (128 : Int) ^ (9 + 1) = 1180591620717411303424 := by decide
    omega
  · rintro y ⟨f, u, out, rfl, h0, hz, h1, h2, h3⟩
    by_cases hu : 128 ≤ u
    · right
      cases f with
      | zero =>
        have : (128 : Int) ^ (0 + 1) = 128 := rfl
        omega
      | succ f =>
        unfold grpM at h3
        rw [if_neg (by omega)] at h3
        have e : (128 : Int) ^ (f + 1 + 1) = 128 ^ (f + 1) * 128 := by rw [Int.pow_succ]
        rw [e] at h1
        refine ⟨[.int (u / 128), .list ((out ++ [u % 128 + 128]).map .int)], hB u out h0 hz hu (by omega), rfl, ⟨f, u / 128, out ++ [u % 128 + 128], rfl, by omega, by omega, Int.ediv_lt_of_lt_mul (by omega) h1, by simp; omega, by rw [List.append_assoc]; exact h3⟩, ?_⟩
        simp only [List.getElem?_cons_succ, List.getElem?_cons_zero, Option.getD_some, l_list, List.length_map, List.length_append, List.length_cons, List.length_nil]
        omega
    · left
      have hg : grpM f u = [u] := by
        cases f with
        | zero => rfl
        | succ f => unfold grpM; rw [if_pos (by omega)]
      rw [hg] at h3
      exact hR u out h0 (by omega) (by omega) h3

def r3PutF (ds : List DV) : List DV := r3PutE (gi ds 0)
/-- What the executor makes of it. -/
def r3PutTree : PT :=
(.br (.bin .le (.int 0) (.var 0))
 (.loop 1 [(.un (.wrap .u64) (.bin .mul (.int 2) (.un (.wrap .u64) (.var 0)))), .nil]
  (.br (.bin .le (.int 128) (.var 1))
   (.asrt (.bin .le (.bin .add (.un .len (.var 2)) (.int 1)) (.int 4294967296))
    (.leaf [(.un (.wrap .u64) (.bin .tdiv (.var 1) (.int 128))), (.bin .snoc (.var 2) (.un (.wrap .u8) (.un (.wrap .u64) (.bin .add (.bin .tmod (.var 1) (.int 128)) (.int 128)))))]))
   .fail)
  (.br (.bin .le (.int 128) (.var 1))
   (.asrt (.bin .le (.bin .add (.un .len (.var 2)) (.int 1)) (.int 4294967296))
    .fail)
   (.asrt (.bin .le (.bin .add (.un .len (.var 2)) (.int 1)) (.int 4294967296))
    (.leaf [(.bin .snoc (.var 2) (.un (.wrap .u8) (.var 1)))]))))
 (.loop 1 [(.un (.wrap .u64) (.bin .add (.un (.wrap .u64) (.bin .mul (.int 2) (.un (.wrap .u64) (.un (.wrap .i64) (.bin .sub (.int 0) (.un (.wrap .i64) (.bin .add (.var 0) (.int 1)))))))) (.int 1))), .nil]
  (.br (.bin .le (.int 128) (.var 1))
   (.asrt (.bin .le (.bin .add (.un .len (.var 2)) (.int 1)) (.int 4294967296))
    (.leaf [(.un (.wrap .u64) (.bin .tdiv (.var 1) (.int 128))), (.bin .snoc (.var 2) (.un (.wrap .u8) (.un (.wrap .u64) (.bin .add (.bin .tmod (.var 1) (.int 128)) (.int 128)))))]))
   .fail)
  (.br (.bin .le (.int 128) (.var 1))
   (.asrt (.bin .le (.bin .add (.un .len (.var 2)) (.int 1)) (.int 4294967296))
    .fail)
   (.asrt (.bin .le (.bin .add (.un .len (.var 2)) (.int 1)) (.int 4294967296))
    (.leaf [(.bin .snoc (.var 2) (.un (.wrap .u8) (.var 1)))])))))

def r3PutSm : List (Nat × Smy) := []
def r3PutLa : List (LK × LA) := [(⟨23, 3, 1, 1, 1⟩, ⟨[(3, (.int .u64 (.var 1))), (4, (.sl 1 1 (.int 0) (.un .len (.var 2)) none)), (7, .any), (8, .any), (9, .any), (10, .any), (11, .any), (12, .any), (13, .any), (14, .any), (15, .any), (16, .any), (17, .any)], [(1, (.rows [.int .u8] (.var 2)))], [], 2, 1⟩)]
def r3PutPhi : Fs := ⟨fun n d => match n with
  | _ => d, 147⟩
theorem r3PutS : SmyOk true Tryd.prog r3PutPhi r3PutSm := smy_nil
theorem r3PutT : treeOk ⟨Tryd.prog, r3PutSm, r3PutLa, true⟩ 4000 98 [.one (.pl (.int .i64))] [.one (.rows true [.int .u8])] ([]) r3PutTree = true := by decide +kernel
set_option maxHeartbeats 1000000 in
theorem r3Put_pure : PureE true Tryd.prog 98 [.one (.pl (.int .i64))] [.one (.rows true [.int .u8])] (fun _ => True) r3PutF := by
  refine pure_tree (X := ⟨Tryd.prog, r3PutSm, r3PutLa, true⟩) (by decide +kernel) (Checked.mixed Tryd.checked) r3PutS (by decide +kernel) (by decide +kernel) r3PutT (by decide +kernel) ?_
  intro ds hl hp
  obtain ⟨d0, rfl⟩ := len1 hl
  have hF : r3PutF [d0] = r3PutE d0.i := rfl
  rw [hF]
  clear hF hp hl
  have hN : nrmL (clsOf [.one (.pl (.int .i64))]) [d0] = [.int d0.i] := by
    simp only [clsOf, Sh.cls, List.append_nil, List.cons_append, List.nil_append, nrmL, Cl.nrm, CK.nrm]
  rw [hN]
  clear hN
  generalize d0.i = x0
  refine ⟨facts_nil _, ?_⟩
  unfold r3PutTree r3PutE
  simp only [Sat, clsOf, Sh.cls, List.append_nil, List.cons_append, List.nil_append, nrmL, Cl.nrm, CK.nrm, List.map_cons, List.map_nil, List.length_cons, List.length_nil, List.cons.injEq, DV.bool.injEq, DV.int.injEq, DV.list.injEq, DV.str.injEq, and_true, true_and]
  try simp only [q_le, q_eq, q_eqs, q_eqb, q_and, q_or, q_not, q_bool, iff_true, iff_false, Bool.not_true, Bool.not_false, Bool.false_eq_true, Bool.true_eq_false, eq_self, Bool.not_not]
  simp only [Bool.not_true, Bool.not_false, Bool.true_eq_false, SE.den, evU, evT, ev_le, ev_eq, ev_eqs, ev_eqb, ev_slt, ev_and, ev_or, ev_add, ev_sub, ev_mul, ev_tdiv, ev_tmod, ev_band, ev_bor, ev_bxor, ev_bandn, ev_shl, ev_shr, ev_cat, ev_byte, ev_idx, ev_cons, ev_snoc, ev_app, ev_take, ev_drop, ev_stake, ev_sdrop, ev_rep, leB_q, eqB_q, eqsB_q, not_q, i_if, b_if, l_if, s_if, i_int, b_bool, s_str, l_list, envL, List.getElem?_cons_succ, List.getElem?_cons_zero, List.getElem?_nil, Option.getD_some, Option.getD_none, Int.toNat_natCast, Int.toNat_zero, Int.reduceToNat, List.length_map, get_Li, get_Lb, get_Ls, set_Li, inj_Li, inj_Lb, inj_Ls, rows_i, rows_b, rows_s, Int.zero_add, iff_true, iff_false, and_true, true_and, Bool.false_eq_true, eq_self, not_true_eq_false, not_false_eq_true, List.length_replicate, DV.int.injEq, DV.bool.injEq, DV.str.injEq, DV.list.injEq, List.cons.injEq, r3PutPhi, gi, gb, gs, gLi, gLu, gLb, gLs, dece_i, dece_b, dece_s]
  obtain ⟨z0, z1⟩ := turnR_rge x0
  have hput : [] ++ grpM 9 (turnR x0) = put3 x0 := rfl
  refine ⟨fun hx => ?_, fun hx => ?_⟩
  · have ht : turnR x0 = IntKind.u64.wrap (2 * IntKind.u64.wrap x0) := if_pos hx
    rw [ht] at z0 z1 hput
    generalize IntKind.u64.wrap (2 * IntKind.u64.wrap x0) = z at *
    refine r3_loop z0 z1 (put3 x0) hput (fun u out h0 hz hu hl => ?_) (fun u out h0 hu hl hp => ?_)
    · have w1 : IntKind.u64.wrap (u.tdiv 128) = u / 128 := by rw [Int.tdiv_eq_ediv_of_nonneg h0, u64_wrap _ (by omega) (by omega)]
      have w2 : IntKind.u8.wrap (IntKind.u64.wrap (u.tmod 128 + 128)) = u % 128 + 128 := by rw [Int.tmod_eq_emod_of_nonneg h0, u64_wrap _ (by omega) (by omega), u8_wrap _ (by omega) (by omega)]
      simp only [Bool.not_true, Bool.not_false, Bool.true_eq_false, SE.den, evU, evT, ev_le, ev_eq, ev_eqs, ev_eqb, ev_slt, ev_and, ev_or, ev_add, ev_sub, ev_mul, ev_tdiv, ev_tmod, ev_band, ev_bor, ev_bxor, ev_bandn, ev_shl, ev_shr, ev_cat, ev_byte, ev_idx, ev_cons, ev_snoc, ev_app, ev_take, ev_drop, ev_stake, ev_sdrop, ev_rep, leB_q, eqB_q, eqsB_q, not_q, i_if, b_if, l_if, s_if, i_int, b_bool, s_str, l_list, envL, List.getElem?_cons_succ, List.getElem?_cons_zero, List.getElem?_nil, Option.getD_some, Option.getD_none, Int.toNat_natCast, Int.toNat_zero, Int.reduceToNat, List.length_map, get_Li, get_Lb, get_Ls, set_Li, inj_Li, inj_Lb, inj_Ls, rows_i, rows_b, rows_s, Int.zero_add, iff_true, iff_false, and_true, true_and, Bool.false_eq_true, eq_self, not_true_eq_false, not_false_eq_true, List.length_replicate, DV.int.injEq, DV.bool.injEq, DV.str.injEq, DV.list.injEq, List.cons.injEq, w1, w2, snoc_Li]
      exact ⟨fun _ => by omega, fun h => absurd hu h⟩
    · simp only [Bool.not_true, Bool.not_false, Bool.true_eq_false, SE.den, evU, evT, ev_le, ev_eq, ev_eqs, ev_eqb, ev_slt, ev_and, ev_or, ev_add, ev_sub, ev_mul, ev_tdiv, ev_tmod, ev_band, ev_bor, ev_bxor, ev_bandn, ev_shl, ev_shr, ev_cat, ev_byte, ev_idx, ev_cons, ev_snoc, ev_app, ev_take, ev_drop, ev_stake, ev_sdrop, ev_rep, leB_q, eqB_q, eqsB_q, not_q, i_if, b_if, l_if, s_if, i_int, b_bool, s_str, l_list, envL, List.getElem?_cons_succ, List.getElem?_cons_zero, List.getElem?_nil, Option.getD_some, Option.getD_none, Int.toNat_natCast, Int.toNat_zero, Int.reduceToNat, List.length_map, get_Li, get_Lb, get_Ls, set_Li, inj_Li, inj_Lb, inj_Ls, rows_i, rows_b, rows_s, Int.zero_add, iff_true, iff_false, and_true, true_and, Bool.false_eq_true, eq_self, not_true_eq_false, not_false_eq_true, List.length_replicate, DV.int.injEq, DV.bool.injEq, DV.str.injEq, DV.list.injEq, List.cons.injEq, u8_wrap u h0 (by omega), snoc_Li, hp]
      exact ⟨fun h => absurd h (by omega), fun _ => by omega⟩
  · have ht : turnR x0 = IntKind.u64.wrap (IntKind.u64.wrap (2 * IntKind.u64.wrap (IntKind.i64.wrap (0 - IntKind.i64.wrap (x0 + 1)))) + 1) := if_neg hx
    rw [ht] at z0 z1 hput
    generalize IntKind.u64.wrap (IntKind.u64.wrap (2 * IntKind.u64.wrap (IntKind.i64.wrap (0 - IntKind.i64.wrap (x0 + 1)))) + 1) = z at *
    refine r3_loop z0 z1 (put3 x0) hput (fun u out h0 hz hu hl => ?_) (fun u out h0 hu hl hp => ?_)
    · have w1 : IntKind.u64.wrap (u.tdiv 128) = u / 128 := by rw [Int.tdiv_eq_ediv_of_nonneg h0, u64_wrap _ (by omega) (by omega)]
      have w2 : IntKind.u8.wrap (IntKind.u64.wrap (u.tmod 128 + 128)) = u % 128 + 128 := by rw [Int.tmod_eq_emod_of_nonneg h0, u64_wrap _ (by omega) (by omega), u8_wrap _ (by omega) (by omega)]
      simp only [Bool.not_true, Bool.not_false, Bool.true_eq_false, SE.den, evU, evT, ev_le, ev_eq, ev_eqs, ev_eqb, ev_slt, ev_and, ev_or, ev_add, ev_sub, ev_mul, ev_tdiv, ev_tmod, ev_band, ev_bor, ev_bxor, ev_bandn, ev_shl, ev_shr, ev_cat, ev_byte, ev_idx, ev_cons, ev_snoc, ev_app, ev_take, ev_drop, ev_stake, ev_sdrop, ev_rep, leB_q, eqB_q, eqsB_q, not_q, i_if, b_if, l_if, s_if, i_int, b_bool, s_str, l_list, envL, List.getElem?_cons_succ, List.getElem?_cons_zero, List.getElem?_nil, Option.getD_some, Option.getD_none, Int.toNat_natCast, Int.toNat_zero, Int.reduceToNat, List.length_map, get_Li, get_Lb, get_Ls, set_Li, inj_Li, inj_Lb, inj_Ls, rows_i, rows_b, rows_s, Int.zero_add, iff_true, iff_false, and_true, true_and, Bool.false_eq_true, eq_self, not_true_eq_false, not_false_eq_true, List.length_replicate, DV.int.injEq, DV.bool.injEq, DV.str.injEq, DV.list.injEq, List.cons.injEq, w1, w2, snoc_Li]
      exact ⟨fun _ => by omega, fun h => absurd hu h⟩
    · simp only [Bool.not_true, Bool.not_false, Bool.true_eq_false, SE.den, evU, evT, ev_le, ev_eq, ev_eqs, ev_eqb, ev_slt, ev_and, ev_or, ev_add, ev_sub, ev_mul, ev_tdiv, ev_tmod, ev_band, ev_bor, ev_bxor, ev_bandn, ev_shl, ev_shr, ev_cat, ev_byte, ev_idx, ev_cons, ev_snoc, ev_app, ev_take, ev_drop, ev_stake, ev_sdrop, ev_rep, leB_q, eqB_q, eqsB_q, not_q, i_if, b_if, l_if, s_if, i_int, b_bool, s_str, l_list, envL, List.getElem?_cons_succ, List.getElem?_cons_zero, List.getElem?_nil, Option.getD_some, Option.getD_none, Int.toNat_natCast, Int.toNat_zero, Int.reduceToNat, List.length_map, get_Li, get_Lb, get_Ls, set_Li, inj_Li, inj_Lb, inj_Ls, rows_i, rows_b, rows_s, Int.zero_add, iff_true, iff_false, and_true, true_and, Bool.false_eq_true, eq_self, not_true_eq_false, not_false_eq_true, List.length_replicate, DV.int.injEq, DV.bool.injEq, DV.str.injEq, DV.list.injEq, List.cons.injEq, u8_wrap u h0 (by omega), snoc_Li, hp]
      exact ⟨fun h => absurd h (by omega), fun _ => by omega⟩
end Go.Proofs.YtkfjgggiopegbaaDoor
