/- The function bits.Mul is a function of data. No condition. -/
import Derived.Test.YtljocjljkilkjaaNx
import Derived.Test.YtljocjljkilkjaaBd
import Derived.Test.YtljocjljkilkjaaOpen
namespace Go.Proofs.Ytljocjljkilkjaa
set_option linter.unusedVariables false
set_option linter.unusedSimpArgs false
set_option maxRecDepth 100000

theorem u64_eq (n : Int) : IntKind.u64.wrap n = n % 18446744073709551616 := by
  simp [IntKind.wrap, IntKind.bits, IntKind.signed]
def bMulE (x y : Int) : List DV := [.int 0, .int (x * y)]

def bMulF (ds : List DV) : List DV := bMulE (gi ds 0) (gi ds 1)
/-- What the executor makes of it. -/
def bMulTree : PT :=
(.leaf [(.un (.wrap .u64) (.bin .add (.un (.wrap .u64) (.bin .add (.un (.wrap .u64) (.bin .mul (.bin (.shr .u64) (.var 0) (.int 32)) (.bin (.shr .u64) (.var 1) (.int 32)))) (.bin (.shr .u64) (.un (.wrap .u64) (.bin .add (.un (.wrap .u64) (.bin .mul (.bin (.shr .u64) (.var 0) (.int 32)) (.bin (.band .u64) (.var 1) (.int 4294967295)))) (.bin (.shr .u64) (.un (.wrap .u64) (.bin .mul (.bin (.band .u64) (.var 0) (.int 4294967295)) (.bin (.band .u64) (.var 1) (.int 4294967295)))) (.int 32)))) (.int 32)))) (.bin (.shr .u64) (.un (.wrap .u64) (.bin .add (.bin (.band .u64) (.un (.wrap .u64) (.bin .add (.un (.wrap .u64) (.bin .mul (.bin (.shr .u64) (.var 0) (.int 32)) (.bin (.band .u64) (.var 1) (.int 4294967295)))) (.bin (.shr .u64) (.un (.wrap .u64) (.bin .mul (.bin (.band .u64) (.var 0) (.int 4294967295)) (.bin (.band .u64) (.var 1) (.int 4294967295)))) (.int 32)))) (.int 4294967295)) (.un (.wrap .u64) (.bin .mul (.bin (.band .u64) (.var 0) (.int 4294967295)) (.bin (.shr .u64) (.var 1) (.int 32)))))) (.int 32)))), (.un (.wrap .u64) (.bin .mul (.var 0) (.var 1)))])

def bMulSm : List (Nat × Smy) := []
def bMulLa : List (LK × LA) := []
def bMulPhi : Nat → DV → DV := fun n d => match n with
  | _ => d
theorem bMulS : SmyOk Try.prog bMulPhi bMulSm := smy_nil
theorem bMulT : treeOk ⟨Try.prog, bMulSm, bMulLa⟩ 4000 41 [.one (.pl (.int .u64)), .one (.pl (.int .u64))] [.one (.pl (.int .u64)), .one (.pl (.int .u64))] ([]) bMulTree = true := by decide +kernel
set_option maxHeartbeats 1000000 in
theorem bMul_pure : Pure Try.prog 41 [.one (.pl (.int .u64)), .one (.pl (.int .u64))] [.one (.pl (.int .u64)), .one (.pl (.int .u64))] (fun ds => lenP [] ds ∧ rgeP [(0, 0, 2147483647), (1, 0, 2147483647)] ds) bMulF := by
  refine pure_tree (X := ⟨Try.prog, bMulSm, bMulLa⟩) (Checked.mixed Try.checked) bMulS (by decide +kernel) (by decide +kernel) bMulT (by decide +kernel) ?_
  intro ds hl hp
  obtain ⟨d0, d1, rfl⟩ := len2 hl
  have r0 : 0 ≤ d0.i ∧ d0.i ≤ 2147483647 := hp.2 (0, 0, 2147483647) (by simp)
  have r1 : 0 ≤ d1.i ∧ d1.i ≤ 2147483647 := hp.2 (1, 0, 2147483647) (by simp)
  have hF : bMulF [d0, d1] = bMulE d0.i d1.i := rfl
  rw [hF]
  clear hF hp hl
  have hN : nrmL (clsOf [.one (.pl (.int .u64)), .one (.pl (.int .u64))]) [d0, d1] = [.int d0.i, .int d1.i] := by
    simp only [clsOf, Sh.cls, List.append_nil, List.cons_append, List.nil_append, nrmL, Cl.nrm, CK.nrm]
  rw [hN]
  clear hN
  generalize d0.i = x0 at r0 ⊢
  generalize d1.i = x1 at r1 ⊢
  refine ⟨facts_nil _, ?_⟩
  unfold bMulTree bMulE
  simp only [Sat, clsOf, Sh.cls, List.append_nil, List.cons_append, List.nil_append, nrmL, Cl.nrm, CK.nrm, List.map_cons, List.map_nil, List.length_cons, List.length_nil, List.cons.injEq, DV.bool.injEq, DV.int.injEq, DV.list.injEq, DV.str.injEq, and_true, true_and]
  try simp only [q_le, q_eq, q_eqs, q_eqb, q_and, q_or, q_not, q_bool, iff_true, iff_false, Bool.not_true, Bool.not_false, Bool.false_eq_true, Bool.true_eq_false, eq_self, Bool.not_not]
  simp only [Bool.not_true, Bool.not_false, Bool.true_eq_false, SE.den, evU, evT, ev_le, ev_eq, ev_eqs, ev_eqb, ev_slt, ev_and, ev_or, ev_add, ev_sub, ev_mul, ev_tdiv, ev_tmod, ev_band, ev_bor, ev_bxor, ev_bandn, ev_shl, ev_shr, ev_cat, ev_byte, ev_idx, ev_cons, ev_snoc, ev_app, ev_take, ev_drop, ev_stake, ev_sdrop, ev_rep, leB_q, eqB_q, eqsB_q, not_q, i_if, b_if, l_if, s_if, i_int, b_bool, s_str, l_list, envL, List.getElem?_cons_succ, List.getElem?_cons_zero, List.getElem?_nil, Option.getD_some, Option.getD_none, Int.toNat_natCast, Int.toNat_zero, Int.reduceToNat, List.length_map, get_Li, get_Lb, get_Ls, set_Li, inj_Li, inj_Lb, inj_Ls, rows_i, rows_b, rows_s, Int.zero_add, iff_true, iff_false, and_true, true_and, Bool.false_eq_true, eq_self, not_true_eq_false, not_false_eq_true, List.length_replicate, DV.int.injEq, DV.bool.injEq, DV.str.injEq, DV.list.injEq, List.cons.injEq]
  have hb : ∀ x : Int, 0 ≤ x → x ≤ 2147483647 → IntKind.u64.wrap ((BitVec.ofInt IntKind.u64.bits x &&& BitVec.ofInt IntKind.u64.bits 4294967295).toNat : Int) = x := fun x h0 h1 => by
    show IntKind.u64.wrap ((BitVec.ofInt 64 x &&& BitVec.ofInt 64 4294967295).toNat : Int) = x
    rw [BitVec.toNat_and, BitVec.toNat_ofInt, BitVec.toNat_ofInt]
    have e1 : (x % ((2 ^ 64 : Nat) : Int)).toNat = x.toNat := by omega
    have e2 : ((4294967295 : Int) % ((2 ^ 64 : Nat) : Int)).toNat = 2 ^ 32 - 1 := by decide
    rw [e1, e2, Nat.and_two_pow_sub_one_eq_mod]
    rw [u64_eq]
    omega
  have hs : ∀ x : Int, 0 ≤ x → x ≤ 2147483647 → x.fdiv (2 ^ min 32 IntKind.u64.bits) = 0 := fun x h0 h1 => by
    show x.fdiv (2 ^ min 32 64) = 0
    rw [show (2 : Int) ^ min 32 64 = 4294967296 from rfl, Int.fdiv_eq_ediv_of_nonneg _ (by omega)]
    omega
  have hw : ∀ n : Int, 0 ≤ n → n ≤ 18446744073709551615 → IntKind.u64.wrap n = n := fun n h0 h1 => by rw [u64_eq]; omega
  have hm0 : 0 ≤ x0 * x1 := Int.mul_nonneg r0.1 r1.1
  have hm1 : x0 * x1 ≤ 2147483647 * 2147483647 := Int.mul_le_mul r0.2 r1.2 r1.1 (by omega)
  have ht : (x0 * x1).fdiv (2 ^ min 32 IntKind.u64.bits) = x0 * x1 / 4294967296 := by
    show (x0 * x1).fdiv (2 ^ min 32 64) = _
    rw [show (2 : Int) ^ min 32 64 = 4294967296 from rfl, Int.fdiv_eq_ediv_of_nonneg _ (by omega)]
  simp only [hb x0 r0.1 r0.2, hb x1 r1.1 r1.2, hs x0 r0.1 r0.2, hs x1 r1.1 r1.2, hw x0 (by omega) (by omega), hw x1 (by omega) (by omega), hw (x0 * x1) (by omega) (by omega), Int.zero_mul, Int.mul_zero, hw 0 (by omega) (by omega), Int.zero_add, Int.add_zero, ht]
  have htb : 0 ≤ x0 * x1 / 4294967296 ∧ x0 * x1 / 4294967296 ≤ 2147483647 := by omega
  generalize x0 * x1 / 4294967296 = t at *
  simp only [hw t (by omega) (by omega), hb t htb.1 htb.2, hs t htb.1 htb.2, hw 0 (by omega) (by omega), Int.zero_add]
  simp
end Go.Proofs.Ytljocjljkilkjaa
