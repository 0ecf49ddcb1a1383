/- Part 5 of a proof: the executor, its soundness, contracts of functions. No condition. -/
import Derived.Test.YtkfjgggiopegbaaDoorQd
section
namespace Go.Proofs.YtkfjgggiopegbaaDoor
set_option linter.unusedVariables false
set_option linter.unusedSimpArgs false
theorem u8_andn (x : Int) (h0 : 0 ≤ x) (h1 : x ≤ 255) : IntKind.u8.wrap ((BitVec.ofInt IntKind.u8.bits x &&& ~~~BitVec.ofInt IntKind.u8.bits 128).toNat : Int) = x % 128 := by
  have key : ∀ b : Fin 256, IntKind.u8.wrap ((BitVec.ofInt 8 ((b.val : Int)) &&& ~~~BitVec.ofInt 8 128).toNat : Int) = (b.val : Int) % 128 := by decide +kernel
  have hb : x.toNat < 256 := by omega
  have := key ⟨x.toNat, hb⟩
  have e : ((x.toNat : Nat) : Int) = x := by omega
  simp only [e] at this
  exact this
theorem u8_wrap (u : Int) (h0 : 0 ≤ u) (h1 : u ≤ 255) : IntKind.u8.wrap u = u := by
  simp [IntKind.wrap, IntKind.bits, IntKind.signed]; omega
theorem u64_wrap (u : Int) (h0 : 0 ≤ u) (h1 : u < 18446744073709551616) : IntKind.u64.wrap u = u := by
  simp [IntKind.wrap, IntKind.bits, IntKind.signed]; omega
theorem u64_mod (u : Int) : IntKind.u64.wrap u = u % 18446744073709551616 := by
  simp [IntKind.wrap, IntKind.bits, IntKind.signed]
theorem shr63 (n : Int) : n.fdiv (2 ^ min 63 IntKind.i64.bits) = n / 9223372036854775808 := by
  show n.fdiv 9223372036854775808 = _
  exact Int.fdiv_eq_ediv_of_nonneg n (by omega)
def zigM (n : Int) : Int := if 0 ≤ n then 2 * n else -2 * n - 1
def unzigM (u : Int) : Int := if u % 2 = 0 then u / 2 else -(u / 2) - 1
theorem unzig_zig (n : Int) : unzigM (zigM n) = n := by unfold unzigM zigM; split <;> split <;> omega
theorem zig_unzig {u : Int} (h : 0 ≤ u) : zigM (unzigM u) = u := by unfold unzigM zigM; split <;> split <;> omega
theorem zig_rge {n : Int} (h0 : -9223372036854775808 ≤ n) (h1 : n ≤ 9223372036854775807) : 0 ≤ zigM n ∧ zigM n < 18446744073709551616 := by unfold zigM; split <;> omega
theorem unzig_rge {u : Int} (h0 : 0 ≤ u) (h1 : u < 18446744073709551616) : -9223372036854775808 ≤ unzigM u ∧ unzigM u ≤ 9223372036854775807 := by unfold unzigM; split <;> omega
theorem zig_ops (n : Int) (h0 : -9223372036854775808 ≤ n) (h1 : n ≤ 9223372036854775807) :
    IntKind.u64.wrap ((BitVec.ofInt IntKind.u64.bits (IntKind.u64.wrap (IntKind.u64.wrap n * 2 ^ min 1 IntKind.u64.bits)) ^^^ BitVec.ofInt IntKind.u64.bits (IntKind.u64.wrap (n.fdiv (2 ^ min 63 IntKind.i64.bits)))).toNat : Int) = zigM n := by
  rw [shr63]
  have hs : IntKind.u64.wrap (IntKind.u64.wrap n * 2 ^ min 1 IntKind.u64.bits) = (n % 18446744073709551616 * 2) % 18446744073709551616 := by
    show IntKind.u64.wrap (IntKind.u64.wrap n * 2) = _
    rw [u64_mod, u64_mod]
  rw [hs]
  by_cases hn : 0 ≤ n
  · have e : n / 9223372036854775808 = 0 := by omega
    rw [e]
    have e2 : BitVec.ofInt IntKind.u64.bits (IntKind.u64.wrap 0) = 0#64 := by rw [u64_mod]; rfl
    rw [e2]
    show IntKind.u64.wrap ((BitVec.ofInt 64 _ ^^^ 0#64).toNat : Int) = _
    rw [BitVec.xor_zero, BitVec.toNat_ofInt, u64_mod]
    unfold zigM
    rw [if_pos hn]
    omega
  · have e : n / 9223372036854775808 = -1 := by omega
    rw [e]
    have e2 : BitVec.ofInt IntKind.u64.bits (IntKind.u64.wrap (-1)) = BitVec.allOnes 64 := by rw [u64_mod]; rfl
    rw [e2]
    show IntKind.u64.wrap ((BitVec.ofInt 64 _ ^^^ BitVec.allOnes 64).toNat : Int) = _
    rw [BitVec.xor_allOnes, BitVec.toNat_not, BitVec.toNat_ofInt, u64_mod]
    unfold zigM
    rw [if_neg hn]
    omega
theorem unzig_ops (u : Int) (h0 : 0 ≤ u) (h1 : u < 18446744073709551616) :
    IntKind.i64.wrap ((BitVec.ofInt IntKind.i64.bits (IntKind.i64.wrap (u.fdiv (2 ^ min 1 IntKind.u64.bits))) ^^^ BitVec.ofInt IntKind.i64.bits (IntKind.i64.wrap (0 - IntKind.i64.wrap (IntKind.u64.wrap ((BitVec.ofInt IntKind.u64.bits u &&& BitVec.ofInt IntKind.u64.bits 1).toNat : Int))))).toNat : Int) = unzigM u := by
  have e1 : u.fdiv (2 ^ min 1 IntKind.u64.bits) = u / 2 := Int.fdiv_eq_ediv_of_nonneg u (by decide)
  have e2 : IntKind.u64.wrap ((BitVec.ofInt IntKind.u64.bits u &&& BitVec.ofInt IntKind.u64.bits 1).toNat : Int) = u % 2 := by
    show IntKind.u64.wrap ((BitVec.ofInt 64 u &&& 1#64).toNat : Int) = _
    rw [BitVec.toNat_and, BitVec.toNat_ofInt]
    show IntKind.u64.wrap (((u % 18446744073709551616).toNat &&& 1 : Nat) : Int) = _
    rw [Nat.and_one_is_mod, u64_mod]
    omega
  rw [e1, e2, w64 (n := u / 2) (by omega) (by omega), w64 (n := u % 2) (by omega) (by omega)]
  rw [w64 (n := 0 - u % 2) (by omega) (by omega)]
  unfold unzigM
  by_cases hp : u % 2 = 0
  · rw [if_pos hp, hp]
    show IntKind.i64.wrap ((BitVec.ofInt 64 (u / 2) ^^^ 0#64).toNat : Int) = _
    rw [BitVec.xor_zero, wrap_ofInt]
    exact w64 (by omega) (by omega)
  · rw [if_neg hp, show (0 : Int) - u % 2 = -1 by omega]
    have e3 : BitVec.ofInt IntKind.i64.bits (-1) = BitVec.allOnes 64 := by rfl
    rw [e3]
    show IntKind.i64.wrap ((BitVec.ofInt 64 (u / 2) ^^^ BitVec.allOnes 64).toNat : Int) = _
    rw [BitVec.xor_allOnes, BitVec.toNat_not, BitVec.toNat_ofInt, w64_eq]
    omega
def zigR (n : Int) : Int := IntKind.u64.wrap ((BitVec.ofInt IntKind.u64.bits (IntKind.u64.wrap (IntKind.u64.wrap n * 2 ^ min 1 IntKind.u64.bits)) ^^^ BitVec.ofInt IntKind.u64.bits (IntKind.u64.wrap (n.fdiv (2 ^ min 63 IntKind.i64.bits)))).toNat : Int)
theorem zigR_eq {n : Int} (h0 : -9223372036854775808 ≤ n) (h1 : n ≤ 9223372036854775807) : zigR n = zigM n := zig_ops n h0 h1
theorem u64_or (a x : Int) (k : Nat) (hk : k ≤ 9) (ha0 : 0 ≤ a) (ha : a < 128 ^ k) (hx0 : 0 ≤ x) (hx : x * 128 ^ k < 18446744073709551616) :
    IntKind.u64.wrap ((BitVec.ofInt IntKind.u64.bits a ||| BitVec.ofInt IntKind.u64.bits (IntKind.u64.wrap (IntKind.u64.wrap x * 2 ^ min (Int.toNat (IntKind.i64.wrap (7 * (k : Int)))) IntKind.u64.bits))).toNat : Int) = a + x * 128 ^ k := by
  have hp : (128 : Int) ^ k = 2 ^ (7 * k) := by rw [Int.pow_mul]; rfl
  have hp0 : (0 : Int) < 2 ^ (7 * k) := Int.pow_pos (by decide)
  have e7 : Int.toNat (IntKind.i64.wrap (7 * (k : Int))) = 7 * k := by rw [w64 (by omega) (by omega)]; omega
  have hm : min (7 * k) IntKind.u64.bits = 7 * k := by
    have : IntKind.u64.bits = 64 := rfl
    omega
  rw [hp] at ha hx ⊢
  rw [e7, hm]
  have hxs : x < 18446744073709551616 := by
    have : x * 1 ≤ x * 2 ^ (7 * k) := Int.mul_le_mul_of_nonneg_left (by omega) hx0
    omega
  rw [u64_wrap x hx0 hxs, u64_wrap (x * 2 ^ (7 * k)) (Int.mul_nonneg hx0 (by omega)) hx]
  obtain ⟨an, rfl⟩ := Int.eq_ofNat_of_zero_le ha0
  obtain ⟨xn, rfl⟩ := Int.eq_ofNat_of_zero_le hx0
  have e1 : ((xn : Int) * 2 ^ (7 * k)) = ((2 ^ (7 * k) * xn : Nat) : Int) := by rw [Int.natCast_mul, Int.natCast_pow, Int.mul_comm]; rfl
  have hpn : ((2 : Int) ^ (7 * k)) = ((2 ^ (7 * k) : Nat) : Int) := by rw [Int.natCast_pow]; rfl
  rw [e1] at hx ⊢
  rw [hpn] at ha
  have han : an < 2 ^ (7 * k) := Int.ofNat_lt.1 ha
  have h64 : 2 ^ (7 * k) ≤ 2 ^ 64 := Nat.pow_le_pow_right (by decide) (by omega)
  have hxn : 2 ^ (7 * k) * xn < 18446744073709551616 := by omega
  show IntKind.u64.wrap ((BitVec.ofInt 64 (an : Int) ||| BitVec.ofInt 64 ((2 ^ (7 * k) * xn : Nat) : Int)).toNat : Int) = _
  rw [BitVec.toNat_or, BitVec.toNat_ofInt, BitVec.toNat_ofInt]
  have f1 : ((an : Int) % ((2 ^ 64 : Nat) : Int)).toNat = an := by omega
  have f2 : (((2 ^ (7 * k) * xn : Nat) : Int) % ((2 ^ 64 : Nat) : Int)).toNat = 2 ^ (7 * k) * xn := by omega
  rw [f1, f2, Nat.or_comm, ← Nat.two_pow_add_eq_or_of_lt han xn]
  have hbig : 2 ^ (7 * k) * xn + an < 18446744073709551616 := by
    have hor := Nat.two_pow_add_eq_or_of_lt han xn
    rw [hor]
    exact Nat.or_lt_two_pow (n := 64) hxn (by omega)
  rw [u64_wrap _ (by omega) (by omega)]
  omega
def grpM : Nat → Int → List Int
  | 0, u => [u]
  | f + 1, u => if u < 128 then [u] else (u % 128 + 128) :: grpM f (u / 128)
def putM (n : Int) : List Int := grpM 9 (zigM n)
def putR (n : Int) : List Int := grpM 9 (zigR n)
theorem putR_eq {n : Int} (h0 : -9223372036854775808 ≤ n) (h1 : n ≤ 9223372036854775807) : putR n = putM n := by unfold putR putM; rw [zigR_eq h0 h1]
def getG : List Int → Nat → Int → Option (Int × Nat)
  | [], _, _ => none
  | x :: r, k, u => if 9 < k ∨ (k = 9 ∧ 1 < x) then none else if x < 128 then (if x = 0 ∧ 0 < k then none else some (u + x * 128 ^ k, k + 1)) else getG r (k + 1) (u + (x - 128) * 128 ^ k)
def getM (b : List Int) : Option (Int × Nat) := (getG b 0 0).map fun p => (unzigM p.1, p.2)
theorem grp_len : ∀ (f : Nat) (u : Int), 0 < (grpM f u).length ∧ (grpM f u).length ≤ f + 1
  | 0, u => ⟨Nat.one_pos, Nat.le_refl _⟩
  | f + 1, u => by
    unfold grpM
    split
    · exact ⟨Nat.one_pos, by simp⟩
    · obtain ⟨h1, h2⟩ := grp_len f (u / 128)
      simp only [List.length_cons]
      omega
theorem put_len (n : Int) : 0 < (putM n).length ∧ (putM n).length ≤ 10 := grp_len 9 _
theorem grp_rge : ∀ (f : Nat) (u : Int), 0 ≤ u → u < 128 ^ (f + 1) → ∀ v ∈ grpM f u, 0 ≤ v ∧ v ≤ 255
  | 0, u, h0, h1, v, hv => by
    simp only [grpM, List.mem_singleton] at hv
    subst hv
    have : (128 : Int) ^ (0 + 1) = 128 := rfl
    omega
  | f + 1, u, h0, h1, v, hv => by
    unfold grpM at hv
    split at hv
    · simp only [List.mem_singleton] at hv
      omega
    · rcases List.mem_cons.1 hv with rfl | hv
      · omega
      · refine grp_rge f (u / 128) (by omega) ?_ v hv
        have e : (128 : Int) ^ (f + 1 + 1) = 128 ^ (f + 1) * 128 := by rw [Int.pow_succ]
        rw [e] at h1
        exact Int.ediv_lt_of_lt_mul (by omega) h1
theorem put_rge {n : Int} (h0 : -9223372036854775808 ≤ n) (h1 : n ≤ 9223372036854775807) : ∀ v ∈ putM n, 0 ≤ v ∧ v ≤ 255 := by
  obtain ⟨z0, z1⟩ := zig_rge h0 h1
  exact grp_rge 9 (zigM n) z0 (by have : (128 : Int) ^ (9 + 1) = 1180591620717411303424 := by decide
                                  omega)
theorem pow_le64 {k : Nat} (hk : k ≤ 9) : ∃ q : Int, 18446744073709551616 = q * 128 ^ k ∧ 0 < (128 : Int) ^ k := by
  refine ⟨2 ^ (64 - 7 * k), ?_, Int.pow_pos (by decide)⟩
  have hp : (128 : Int) ^ k = 2 ^ (7 * k) := by rw [Int.pow_mul]; rfl
  rw [hp, ← Int.pow_add, show 64 - 7 * k + 7 * k = 64 by omega]
  rfl
theorem get_grp : ∀ (f k : Nat) (u a : Int) (r : List Int), k + f = 9 → 0 ≤ u → u * 128 ^ k < 18446744073709551616 → (0 < k → 0 < u) → getG (grpM f u ++ r) k a = some (a + u * 128 ^ k, k + (grpM f u).length)
  | 0, k, u, a, r, hk, h0, h1, h2 => by
    have hk9 : k = 9 := by omega
    subst hk9
    have e : (128 : Int) ^ 9 = 9223372036854775808 := by decide
    rw [e] at h1 ⊢
    unfold grpM
    simp only [List.cons_append, List.nil_append, getG]
    rw [if_neg (by omega), if_pos (by omega), if_neg (by omega), e]
    rfl
  | f + 1, k, u, a, r, hk, h0, h1, h2 => by
    unfold grpM
    by_cases hu : u < 128
    · rw [if_pos hu]
      simp only [List.cons_append, List.nil_append, getG]
      rw [if_neg (by omega), if_pos hu, if_neg (by omega)]
      rfl
    · rw [if_neg hu]
      simp only [List.cons_append, getG]
      rw [if_neg (by omega), if_neg (by omega)]
      obtain ⟨q, hq, hp⟩ := pow_le64 (show k ≤ 9 by omega)
      have e : (128 : Int) ^ (k + 1) = 128 ^ k * 128 := by rw [Int.pow_succ]
      have hd : u = u / 128 * 128 + u % 128 := by omega
      have hm : u / 128 * 128 ^ (k + 1) + u % 128 * 128 ^ k = u * 128 ^ k := by
        conv => rhs; rw [hd]
        rw [e, Int.add_mul, Int.mul_assoc, Int.mul_comm (128 ^ k) 128]
      have hnn : 0 ≤ u % 128 * 128 ^ k := Int.mul_nonneg (by omega) (by omega)
      rw [get_grp f (k + 1) (u / 128) _ r (by omega) (by omega) (by omega) (by omega)]
      simp only [Option.some.injEq, Prod.mk.injEq, List.length_cons]
      constructor
      · rw [show u % 128 + 128 - 128 = u % 128 by omega]; omega
      · omega
theorem get_put {n : Int} (h0 : -9223372036854775808 ≤ n) (h1 : n ≤ 9223372036854775807) (r : List Int) : getM (putM n ++ r) = some (n, (putM n).length) := by
  obtain ⟨z0, z1⟩ := zig_rge h0 h1
  unfold getM putM
  rw [get_grp 9 0 (zigM n) 0 r rfl z0 (by simpa using z1) (by omega)]
  simp [unzig_zig]
theorem get_canon : ∀ (b : List Int) (f k : Nat) (a : Int) (v : Int) (m : Nat), k + f = 9 → (∀ x ∈ b, 0 ≤ x ∧ x ≤ 255) → getG b k a = some (v, m) →
    ∃ u, v = a + u * 128 ^ k ∧ 0 ≤ u ∧ u * 128 ^ k < 18446744073709551616 ∧ (0 < k → 0 < u) ∧ k < m ∧ m ≤ k + b.length ∧ b.take (m - k) = grpM f u
  | [], f, k, a, v, m, hk, hb, h => by cases h
  | x :: r, f, k, a, v, m, hk, hb, h => by
    obtain ⟨x0, x1⟩ := hb x (by simp)
    unfold getG at h
    split at h
    · cases h
    · rename_i hk9
      split at h
      · rename_i hx
        split at h
        · cases h
        · rename_i hz
          simp only [Option.some.injEq, Prod.mk.injEq] at h
          obtain ⟨rfl, rfl⟩ := h
          refine ⟨x, rfl, x0, ?_, by omega, by omega, by simp, ?_⟩
          · by_cases e9 : k = 9
            · subst e9
              have e : (128 : Int) ^ 9 = 9223372036854775808 := by decide
              rw [e]; omega
            · obtain ⟨q, hq, hp⟩ := pow_le64 (show k + 1 ≤ 9 by omega)
              have e : (128 : Int) ^ (k + 1) = 128 ^ k * 128 := by rw [Int.pow_succ]
              have h1 : x * 128 ^ k ≤ 127 * 128 ^ k := Int.mul_le_mul_of_nonneg_right (by omega) (by have : (0:Int) < 128 ^ k := Int.pow_pos (by decide); omega)
              have h2 : (128 : Int) ^ (k + 1) ≤ 18446744073709551616 := by
                rw [hq]
                have : 1 ≤ q := by
                  rcases Int.lt_or_le q 1 with hq1 | hq1
                  · exfalso
                    have : q * 128 ^ (k + 1) ≤ 0 * 128 ^ (k + 1) := Int.mul_le_mul_of_nonneg_right (by omega) (by omega)
                    omega
                  · exact hq1
                have := Int.mul_le_mul_of_nonneg_right this (show 0 ≤ (128:Int) ^ (k + 1) by omega)
                omega
              omega
          · rw [show k + 1 - k = 1 by omega]
            cases f with
            | zero => rfl
            | succ f => unfold grpM; rw [if_pos hx]; rfl
      · rename_i hx
        have hkk : k < 9 := by omega
        cases f with
        | zero => omega
        | succ f =>
          obtain ⟨u, h1, h2, h3, h4, h5, h6, h7⟩ := get_canon r f (k + 1) _ v m (by omega) (fun y hy => hb y (List.mem_cons_of_mem _ hy)) h
          have hu := h4 (by omega)
          have e : (128 : Int) ^ (k + 1) = 128 ^ k * 128 := by rw [Int.pow_succ]
          have hm : (x - 128 + 128 * u) * 128 ^ k = (x - 128) * 128 ^ k + u * 128 ^ (k + 1) := by
            rw [e, Int.add_mul, Int.mul_comm 128 u, Int.mul_assoc, Int.mul_comm 128 (128 ^ k)]
          refine ⟨x - 128 + 128 * u, ?_, by omega, ?_, by omega, by omega, by simp only [List.length_cons]; omega, ?_⟩
          · rw [h1, hm]; omega
          · obtain ⟨q, hq, hp⟩ := pow_le64 (show k + 1 ≤ 9 by omega)
            rw [hm]
            have hu1 : u < q := by
              rcases Int.lt_or_le u q with hh | hh
              · exact hh
              · exfalso
                have := Int.mul_le_mul_of_nonneg_right hh (show 0 ≤ (128:Int) ^ (k + 1) by omega)
                omega
            have h8 : (u + 1) * 128 ^ (k + 1) ≤ q * 128 ^ (k + 1) := Int.mul_le_mul_of_nonneg_right (by omega) (by omega)
            rw [← hq, Int.add_mul] at h8
            have h9 : (x - 128) * 128 ^ k ≤ 127 * 128 ^ k := Int.mul_le_mul_of_nonneg_right (by omega) (by have : (0:Int) < 128 ^ k := Int.pow_pos (by decide); omega)
            have : (0:Int) < 128 ^ k := Int.pow_pos (by decide)
            omega
          · rw [show m - k = (m - (k + 1)) + 1 by omega, List.take_succ_cons, h7]
            conv => rhs; unfold grpM
            rw [if_neg (by omega)]
            congr 1
            · omega
            · congr 1; omega
theorem getM_canon {b : List Int} {n : Int} {m : Nat} (hb : ∀ x ∈ b, 0 ≤ x ∧ x ≤ 255) (h : getM b = some (n, m)) : -9223372036854775808 ≤ n ∧ n ≤ 9223372036854775807 ∧ 0 < m ∧ m ≤ b.length ∧ b.take m = putM n := by
  unfold getM at h
  cases hg : getG b 0 0 with
  | none => rw [hg] at h; cases h
  | some p =>
    obtain ⟨v, m'⟩ := p
    rw [hg] at h
    simp only [Option.map_some, Option.some.injEq, Prod.mk.injEq] at h
    obtain ⟨rfl, rfl⟩ := h
    obtain ⟨u, h1, h2, h3, h4, h5, h6, h7⟩ := get_canon b 9 0 0 v m' rfl hb hg
    have e : v = u := by rw [h1]; simp
    subst e
    have h3 : v < 18446744073709551616 := by simpa using h3
    obtain ⟨z0, z1⟩ := unzig_rge h2 h3
    refine ⟨z0, z1, h5, by omega, ?_⟩
    unfold putM
    rw [zig_unzig h2]
    simpa using h7
def numsM (l : List Int) : List Int := putM l.length ++ l.flatMap putM
def numsR (l : List Int) : List Int := putR l.length ++ l.flatMap putR
theorem flatR_eq : ∀ {l : List Int}, (∀ n ∈ l, -9223372036854775808 ≤ n ∧ n ≤ 9223372036854775807) → l.flatMap putR = l.flatMap putM
  | [], _ => by rw [List.flatMap_nil, List.flatMap_nil]
  | n :: l, h => by
    obtain ⟨h0, h1⟩ := h n (by simp)
    rw [List.flatMap_cons, List.flatMap_cons, putR_eq h0 h1, flatR_eq (fun x hx => h x (List.mem_cons_of_mem _ hx))]
theorem numsR_eq {l : List Int} (hl : l.length ≤ 1000000) (h : ∀ n ∈ l, -9223372036854775808 ≤ n ∧ n ≤ 9223372036854775807) : numsR l = numsM l := by
  unfold numsR numsM
  rw [putR_eq (by omega) (by omega), flatR_eq h]
def gnG : Nat → List Int → Nat → List Int → Option (List Int × Nat)
  | 0, _, at', acc => some (acc, at')
  | m + 1, b, at', acc => match getM b with | none => none | some p => gnG m (b.drop p.2) (at' + p.2) (acc ++ [p.1])
def getNumsM (b : List Int) : Option (List Int × Nat) := match getM b with | none => none | some p => if p.1 < 0 ∨ (b.length : Int) < p.1 then none else gnG p.1.toNat (b.drop p.2) p.2 []
theorem gn_put : ∀ (l : List Int) (r : List Int) (a : Nat) (acc : List Int), (∀ n ∈ l, -9223372036854775808 ≤ n ∧ n ≤ 9223372036854775807) → gnG l.length (l.flatMap putM ++ r) a acc = some (acc ++ l, a + (l.flatMap putM).length)
  | [], r, a, acc, h => by simp [gnG]
  | n :: l, r, a, acc, h => by
    obtain ⟨h0, h1⟩ := h n (by simp)
    simp only [List.length_cons, gnG, List.flatMap_cons, List.append_assoc]
    rw [get_put h0 h1]
    simp only [List.drop_left]
    rw [gn_put l r _ _ (fun x hx => h x (List.mem_cons_of_mem _ hx))]
    simp [Nat.add_assoc]
theorem flat_len (l : List Int) : l.length ≤ (l.flatMap putM).length := by
  induction l with
  | nil => simp
  | cons n l ih =>
    have := (put_len n).1
    simp only [List.length_cons, List.flatMap_cons, List.length_append]
    omega
theorem flat_le (l : List Int) : (l.flatMap putM).length ≤ 10 * l.length := by
  induction l with
  | nil => simp
  | cons n l ih =>
    have := (put_len n).2
    simp only [List.length_cons, List.flatMap_cons, List.length_append]
    omega
theorem nums_len (l : List Int) : l.length < (numsM l).length ∧ (numsM l).length ≤ 10 + 10 * l.length := by
  have h1 := put_len l.length
  have h2 := flat_len l
  have h3 := flat_le l
  unfold numsM
  rw [List.length_append]
  omega
theorem getNums_nums {l : List Int} (r : List Int) (hl : l.length ≤ 1000) (h : ∀ n ∈ l, -9223372036854775808 ≤ n ∧ n ≤ 9223372036854775807) : getNumsM (numsM l ++ r) = some (l, (numsM l).length) := by
  have hlen := nums_len l
  unfold getNumsM
  have e : numsM l ++ r = putM l.length ++ (l.flatMap putM ++ r) := by unfold numsM; rw [List.append_assoc]
  rw [e, get_put (by omega) (by omega)]
  simp only
  rw [if_neg (by rw [← e, List.length_append]; omega), Int.toNat_natCast, List.drop_left, gn_put l r _ _ h]
  simp [numsM]
theorem gn_canon : ∀ (m : Nat) (b : List Int) (a : Nat) (acc : List Int) (l : List Int) (u : Nat), (∀ x ∈ b, 0 ≤ x ∧ x ≤ 255) → gnG m b a acc = some (l, u) →
    ∃ l', l = acc ++ l' ∧ l'.length = m ∧ (∀ n ∈ l', -9223372036854775808 ≤ n ∧ n ≤ 9223372036854775807) ∧ a ≤ u ∧ u ≤ a + b.length ∧ b.take (u - a) = l'.flatMap putM
  | 0, b, a, acc, l, u, hb, h => by
    simp only [gnG, Option.some.injEq, Prod.mk.injEq] at h
    obtain ⟨rfl, rfl⟩ := h
    exact ⟨[], by simp, rfl, by simp, Nat.le_refl _, by omega, by simp⟩
  | m + 1, b, a, acc, l, u, hb, h => by
    unfold gnG at h
    cases hg : getM b with
    | none => rw [hg] at h; cases h
    | some p =>
      obtain ⟨n, k⟩ := p
      rw [hg] at h
      simp only at h
      obtain ⟨n0, n1, k0, k1, ht⟩ := getM_canon hb hg
      obtain ⟨l', h1, h2, h3, h4, h5, h6⟩ := gn_canon m (b.drop k) (a + k) _ l u (fun x hx => hb x (List.mem_of_mem_drop hx)) h
      rw [List.length_drop] at h5
      refine ⟨n :: l', by rw [h1]; simp, by simp [h2], fun x hx => ?_, by omega, by omega, ?_⟩
      · rcases List.mem_cons.1 hx with rfl | hx
        · exact ⟨n0, n1⟩
        · exact h3 x hx
      · rw [List.flatMap_cons, ← ht, ← h6, show u - a = k + (u - (a + k)) by omega, List.take_add]
theorem getNums_canon {b : List Int} {l : List Int} {u : Nat} (hb : ∀ x ∈ b, 0 ≤ x ∧ x ≤ 255) (h : getNumsM b = some (l, u)) : (∀ n ∈ l, -9223372036854775808 ≤ n ∧ n ≤ 9223372036854775807) ∧ u ≤ b.length ∧ b.take u = numsM l := by
  unfold getNumsM at h
  cases hg : getM b with
  | none => rw [hg] at h; cases h
  | some p =>
    obtain ⟨n, k⟩ := p
    rw [hg] at h
    simp only at h
    split at h
    · cases h
    · rename_i hn
      obtain ⟨n0, n1, k0, k1, ht⟩ := getM_canon hb hg
      obtain ⟨l', h1, h2, h3, h4, h5, h6⟩ := gn_canon n.toNat (b.drop k) k [] l u (fun x hx => hb x (List.mem_of_mem_drop hx)) h
      rw [List.nil_append] at h1
      subst h1
      rw [List.length_drop] at h5
      refine ⟨h3, by omega, ?_⟩
      unfold numsM
      rw [show ((l.length : Nat) : Int) = n by omega, ← ht, ← h6, ← List.take_add]
      congr 1
      omega
def accR (u x : Int) (k : Nat) : Int := IntKind.u64.wrap ((BitVec.ofInt IntKind.u64.bits u ||| BitVec.ofInt IntKind.u64.bits (IntKind.u64.wrap (IntKind.u64.wrap (IntKind.u8.wrap ((BitVec.ofInt IntKind.u8.bits x &&& ~~~BitVec.ofInt IntKind.u8.bits 128).toNat : Int)) * 2 ^ min (Int.toNat (IntKind.i64.wrap (7 * (k : Int)))) IntKind.u64.bits))).toNat : Int)
def unzR (u : Int) : Int := IntKind.i64.wrap ((BitVec.ofInt IntKind.i64.bits (IntKind.i64.wrap (u.fdiv (2 ^ min 1 IntKind.u64.bits))) ^^^ BitVec.ofInt IntKind.i64.bits (IntKind.i64.wrap (0 - IntKind.i64.wrap (IntKind.u64.wrap ((BitVec.ofInt IntKind.u64.bits u &&& BitVec.ofInt IntKind.u64.bits 1).toNat : Int))))).toNat : Int)
theorem accR_eq {u x : Int} {k : Nat} (hk : k ≤ 9) (hu0 : 0 ≤ u) (hu : u < 128 ^ k) (hx0 : 0 ≤ x) (hx1 : x ≤ 255) (hx : x % 128 * 128 ^ k < 18446744073709551616) : accR u x k = u + x % 128 * 128 ^ k := by
  unfold accR
  rw [u8_andn x hx0 hx1]
  exact u64_or u (x % 128) k hk hu0 hu (by omega) hx
def getRG : List Int → Nat → Int → Option (Int × Nat)
  | [], _, _ => none
  | x :: r, k, u => if 9 < k ∨ (k = 9 ∧ 1 < x) then none else if x < 128 then (if x = 0 ∧ 0 < k then none else some (accR u x k, k + 1)) else getRG r (k + 1) (accR u x k)
def getR (b : List Int) : Option (Int × Nat) := (getRG b 0 0).map fun p => (unzR p.1, p.2)
theorem getRG_len : ∀ (b : List Int) (k : Nat) (u v : Int) (m : Nat), getRG b k u = some (v, m) → k < m ∧ m ≤ k + b.length
  | [], k, u, v, m, h => by cases h
  | x :: r, k, u, v, m, h => by
    unfold getRG at h
    split at h
    · cases h
    · split at h
      · split at h
        · cases h
        · cases h
          simp
      · obtain ⟨h1, h2⟩ := getRG_len r (k + 1) _ v m h
        simp only [List.length_cons]
        omega
theorem getR_len {b : List Int} {n : Int} {m : Nat} (h : getR b = some (n, m)) : 0 < m ∧ m ≤ b.length := by
  unfold getR at h
  cases hg : getRG b 0 0 with
  | none => rw [hg] at h; cases h
  | some p =>
    rw [hg] at h
    cases h
    have := getRG_len b 0 0 p.1 p.2 hg
    omega
theorem getRG_eq : ∀ (b : List Int) (k : Nat) (u : Int), (∀ x ∈ b, 0 ≤ x ∧ x ≤ 255) → 0 ≤ u → u < 128 ^ k → k ≤ 9 → getRG b k u = getG b k u
  | [], _, _, _, _, _, _ => rfl
  | x :: r, k, u, hb, h0, h1, hk => by
    obtain ⟨x0, x1⟩ := hb x (by simp)
    unfold getRG getG
    by_cases c1 : 9 < k ∨ (k = 9 ∧ 1 < x)
    · rw [if_pos c1, if_pos c1]
    · rw [if_neg c1, if_neg c1]
      have hp : (0 : Int) < 128 ^ k := Int.pow_pos (by decide)
      have hx : x % 128 * 128 ^ k < 18446744073709551616 := by
        by_cases e9 : k = 9
        · subst e9
          have e : (128 : Int) ^ 9 = 9223372036854775808 := by decide
          rw [e]; omega
        · obtain ⟨q, hq, hp2⟩ := pow_le64 (show k + 1 ≤ 9 by omega)
          have e : (128 : Int) ^ (k + 1) = 128 ^ k * 128 := by rw [Int.pow_succ]
          have h1 : x % 128 * 128 ^ k ≤ 127 * 128 ^ k := Int.mul_le_mul_of_nonneg_right (by omega) (by omega)
          have h2 : (128 : Int) ^ (k + 1) ≤ 18446744073709551616 := by
            rw [hq]
            have : 1 ≤ q := by
              rcases Int.lt_or_le q 1 with hq1 | hq1
              · exfalso
                have : q * 128 ^ (k + 1) ≤ 0 * 128 ^ (k + 1) := Int.mul_le_mul_of_nonneg_right (by omega) (by omega)
                omega
              · exact hq1
            have := Int.mul_le_mul_of_nonneg_right this (show 0 ≤ (128:Int) ^ (k + 1) by omega)
            omega
          omega
      rw [accR_eq hk h0 h1 x0 x1 hx]
      by_cases c2 : x < 128
      · rw [if_pos c2, if_pos c2, show x % 128 = x by omega]
      · rw [if_neg c2, if_neg c2, show x % 128 = x - 128 by omega]
        have hk8 : k < 9 := by omega
        have e : (128 : Int) ^ (k + 1) = 128 ^ k * 128 := by rw [Int.pow_succ]
        have h1' : (x - 128) * 128 ^ k ≤ 127 * 128 ^ k := Int.mul_le_mul_of_nonneg_right (by omega) (by omega)
        have h0' : 0 ≤ (x - 128) * 128 ^ k := Int.mul_nonneg (by omega) (by omega)
        exact getRG_eq r (k + 1) _ (fun y hy => hb y (List.mem_cons_of_mem _ hy)) (by omega) (by rw [e]; omega) (by omega)
theorem getR_eq {b : List Int} (hb : ∀ x ∈ b, 0 ≤ x ∧ x ≤ 255) : getR b = getM b := by
  unfold getR getM
  rw [getRG_eq b 0 0 hb (Int.le_refl _) (by decide) (by omega)]
  cases hg : getG b 0 0 with
  | none => rfl
  | some p =>
    obtain ⟨v, m⟩ := p
    obtain ⟨u, h1, h2, h3, _⟩ := get_canon b 9 0 0 v m rfl hb hg
    have e : v = u := by rw [h1]; simp
    subst e
    simp only [Option.map_some]
    have : unzR v = unzigM v := unzig_ops v h2 (by simpa using h3)
    rw [this]
def gnR : Nat → List Int → Nat → List Int → Option (List Int × Nat)
  | 0, _, at', acc => some (acc, at')
  | m + 1, b, at', acc => match getR b with | none => none | some p => gnR m (b.drop p.2) (at' + p.2) (acc ++ [p.1])
def getNumsR (b : List Int) : Option (List Int × Nat) := match getR b with | none => none | some p => if p.1 < 0 ∨ (b.length : Int) < p.1 then none else gnR p.1.toNat (b.drop p.2) p.2 []
theorem gnR_eq : ∀ (m : Nat) (b : List Int) (a : Nat) (acc : List Int), (∀ x ∈ b, 0 ≤ x ∧ x ≤ 255) → gnR m b a acc = gnG m b a acc
  | 0, _, _, _, _ => rfl
  | m + 1, b, a, acc, hb => by
    unfold gnR gnG
    rw [getR_eq hb]
    cases getM b with
    | none => rfl
    | some p => exact gnR_eq m _ _ _ (fun x hx => hb x (List.mem_of_mem_drop hx))
theorem getNumsR_eq {b : List Int} (hb : ∀ x ∈ b, 0 ≤ x ∧ x ≤ 255) : getNumsR b = getNumsM b := by
  unfold getNumsR getNumsM
  rw [getR_eq hb]
  cases getM b with
  | none => rfl
  | some p =>
    simp only
    split
    · rfl
    · exact gnR_eq _ _ _ _ (fun x hx => hb x (List.mem_of_mem_drop hx))
def sumS (s : List UInt8) : Int × Int := s.foldl (fun p c => ((p.1 + (c.toNat : Int)) % 65521, (p.2 + (p.1 + (c.toNat : Int)) % 65521) % 65521)) (1, 0)
def sumM (s : List UInt8) : Int := (sumS s).2 * 65536 + (sumS s).1
theorem sumS_snoc (s : List UInt8) (c : UInt8) : sumS (s ++ [c]) = (((sumS s).1 + (c.toNat : Int)) % 65521, ((sumS s).2 + ((sumS s).1 + (c.toNat : Int)) % 65521) % 65521) := by
  unfold sumS
  rw [List.foldl_append]
  rfl
theorem sumS_rge (s : List UInt8) : 0 ≤ (sumS s).1 ∧ (sumS s).1 < 65521 ∧ 0 ≤ (sumS s).2 ∧ (sumS s).2 < 65521 := by
  rcases List.eq_nil_or_concat s with rfl | ⟨t, c, rfl⟩
  · decide
  · rw [List.concat_eq_append, sumS_snoc]
    simp only
    omega
theorem sum_or (x y : Int) (x0 : 0 ≤ x) (x1 : x < 65536) (y0 : 0 ≤ y) (y1 : y < 65536) :
    IntKind.i64.wrap ((BitVec.ofInt IntKind.i64.bits (IntKind.i64.wrap (y * 2 ^ min 16 IntKind.i64.bits)) ||| BitVec.ofInt IntKind.i64.bits x).toNat : Int) = y * 65536 + x := by
  have e : IntKind.i64.wrap (y * 2 ^ min 16 IntKind.i64.bits) = y * 65536 := by
    show IntKind.i64.wrap (y * 65536) = _
    exact w64 (by omega) (by omega)
  rw [e]
  obtain ⟨xn, rfl⟩ := Int.eq_ofNat_of_zero_le x0
  obtain ⟨yn, rfl⟩ := Int.eq_ofNat_of_zero_le y0
  have hx : xn < 2 ^ 16 := by omega
  show IntKind.i64.wrap ((BitVec.ofInt 64 ((yn : Int) * 65536) ||| BitVec.ofInt 64 (xn : Int)).toNat : Int) = _
  rw [BitVec.toNat_or, BitVec.toNat_ofInt, BitVec.toNat_ofInt]
  have f1 : (((yn : Int) * 65536) % ((2 ^ 64 : Nat) : Int)).toNat = 2 ^ 16 * yn := by omega
  have f2 : ((xn : Int) % ((2 ^ 64 : Nat) : Int)).toNat = xn := by omega
  rw [f1, f2, ← Nat.two_pow_add_eq_or_of_lt hx yn]
  rw [w64 (by omega) (by omega)]
  omega
end Go.Proofs.YtkfjgggiopegbaaDoor
end
section
namespace Go.Proofs.YtkfjgggiopegbaaDoor
set_option linter.unusedVariables false
set_option linter.unusedSimpArgs false
set_option maxRecDepth 100000
def wSumE (s : List UInt8) : List DV := [.int (sumM s)]
def wSumF (ds : List DV) : List DV := wSumE (gs ds 0)
def wSumTree : PT :=
(.loop 1 [(.int 1), (.int 0), (.int 0)]
 (.br (.un .not (.bin .le (.un .slen (.var 0)) (.var 3)))
  (.asrt (.bin .le (.int 0) (.var 3))
   (.leaf [(.bin .tmod (.un (.wrap .i64) (.bin .add (.var 1) (.un (.wrap .i64) (.bin .byte (.var 0) (.var 3))))) (.int 65521)), (.bin .tmod (.un (.wrap .i64) (.bin .add (.var 2) (.bin .tmod (.un (.wrap .i64) (.bin .add (.var 1) (.un (.wrap .i64) (.bin .byte (.var 0) (.var 3))))) (.int 65521)))) (.int 65521)), (.un (.wrap .i64) (.bin .add (.var 3) (.int 1)))]))
  .fail)
 (.br (.un .not (.bin .le (.un .slen (.var 0)) (.var 3)))
  (.asrt (.bin .le (.int 0) (.var 3))
   .fail)
  (.leaf [(.bin (.bor .i64) (.bin (.shl .i64) (.var 2) (.int 16)) (.var 1))])))
def wSumSm : List (Nat × Smy) := []
def wSumLa : List (LK × LA) := [(⟨27, 3, 1, 1, 0⟩, ⟨[(3, (.int .i64 (.var 1))), (4, (.int .i64 (.var 2))), (5, .any), (8, (.int .i64 (.var 3))), (9, .any), (10, .any), (11, .any), (12, .any), (13, .any), (14, .any), (15, .any), (16, .any), (17, .any), (18, .any), (19, .any), (20, .any), (21, .any), (22, .any)], [], [], 3, 0⟩)]
def wSumPhi : Fs := ⟨fun n d => match n with
  | _ => d, 147⟩
theorem wSumS : SmyOk true Tryd.prog wSumPhi wSumSm := smy_nil
theorem wSumT : treeOk ⟨Tryd.prog, wSumSm, wSumLa, true⟩ 4000 39 [.one (.pl .str)] [.one (.pl (.int .i64))] ([]) wSumTree = true := by decide +kernel
set_option maxHeartbeats 1000000 in
theorem wSum_pure : PureE true Tryd.prog 39 [.one (.pl .str)] [.one (.pl (.int .i64))] (fun ds => (fun _ => True) ds ∧ slenP [(0, 0, 1000000)] ds) wSumF := by
  refine pure_tree (X := ⟨Tryd.prog, wSumSm, wSumLa, true⟩) (by decide +kernel) (Checked.mixed Tryd.checked) wSumS (by decide +kernel) (by decide +kernel) wSumT (by decide +kernel) ?_
  intro ds hl hp
  obtain ⟨d0, rfl⟩ := len1 hl
  have l0 : 0 ≤ (d0.s.length : Int) ∧ (d0.s.length : Int) ≤ 1000000 := hp.2 (0, 0, 1000000) (by simp)
  have hF : wSumF [d0] = wSumE d0.s := rfl
  rw [hF]
  clear hF hp hl
  have hN : nrmL (clsOf [.one (.pl .str)]) [d0] = [.str d0.s] := by
    simp only [clsOf, Sh.cls, List.append_nil, nrmL, Cl.nrm, CK.nrm]
  rw [hN]
  clear hN
  generalize d0.s = x0 at l0 ⊢
  refine ⟨facts_nil _, ?_⟩
  unfold wSumTree wSumE
  simp only [Sat, clsOf, Sh.cls, List.append_nil, List.cons_append, List.nil_append, nrmL, Cl.nrm, CK.nrm, List.map_cons, List.map_nil, List.length_cons, List.length_nil, List.cons.injEq, DV.int.injEq, and_true, true_and]
  try simp only [q_le, q_not, iff_true, iff_false, Bool.not_true, Bool.not_false, Bool.false_eq_true, eq_self]
  simp only [SE.den, evU, ev_add, ev_tmod, ev_bor, ev_shl, ev_byte, i_int, s_str, envL, List.getElem?_cons_succ, List.getElem?_cons_zero, Option.getD_some, Int.reduceToNat, wSumPhi]
  refine rounds_at x0.length (fun i => [.int (sumS (x0.take i)).1, .int (sumS (x0.take i)).2, .int i]) rfl (fun _ => rfl) (fun i hi => ?_) ?_
  · have e1 : ¬ (x0.length : Int) ≤ i := by omega
    have hwi : IntKind.i64.wrap ((i : Int) + 1) = ((i + 1 : Nat) : Int) := by rw [w64 (by omega) (by omega)]; omega
    have hs : x0.take (i + 1) = x0.take i ++ [x0[i]?.getD 0] := by rw [List.take_add_one, List.getElem?_eq_getElem hi]; rfl
    obtain ⟨a0, a1, b0, b1⟩ := sumS_rge (x0.take i)
    have hc : (0 : Int) ≤ ((x0[i]?.getD 0).toNat : Int) ∧ ((x0[i]?.getD 0).toNat : Int) < 256 := by have := (x0[i]?.getD 0).toNat_lt; omega
    rw [hs, sumS_snoc]
    simp only [i_int, List.getElem?_cons_succ, List.getElem?_cons_zero, Option.getD_some, Int.toNat_natCast, and_true, eq_self, not_false_eq_true, DV.int.injEq, List.cons.injEq, e1, hwi]
    generalize (sumS (x0.take i)).1 = a at *
    generalize (sumS (x0.take i)).2 = b at *
    generalize ((x0[i]?.getD 0).toNat : Int) = c at *
    have w1 : IntKind.i64.wrap c = c := w64 (by omega) (by omega)
    rw [w1]
    have w2 : IntKind.i64.wrap (a + c) = a + c := w64 (by omega) (by omega)
    rw [w2, Int.tmod_eq_emod_of_nonneg (by omega)]
    have w3 : IntKind.i64.wrap (b + (a + c) % 65521) = b + (a + c) % 65521 := w64 (by omega) (by omega)
    rw [w3, Int.tmod_eq_emod_of_nonneg (by omega)]
    exact ⟨fun _ => ⟨by omega, rfl, rfl⟩, fun h => h.elim⟩
  · obtain ⟨a0, a1, b0, b1⟩ := sumS_rge x0
    simp only [i_int, List.getElem?_cons_succ, List.getElem?_cons_zero, Option.getD_some, List.take_length, sum_or _ _ a0 (show (sumS x0).1 < 65536 by omega) b0 (show (sumS x0).2 < 65536 by omega)]
    simp [sumM]
end Go.Proofs.YtkfjgggiopegbaaDoor
end
section
namespace Go.Proofs.YtkfjgggiopegbaaDoor
set_option linter.unusedVariables false
set_option linter.unusedSimpArgs false
set_option maxRecDepth 100000
theorem raw_ii_0 (l : List Tii) (j : Nat) : (((((l.map encii)[j]?).getD (DV.int 0)).l[0]?).getD (DV.int 0)) = .int ((l[j]?).getD dii).1 := by rw [List.getElem?_map]; cases l[j]? <;> rfl
theorem raw_ii_1 (l : List Tii) (j : Nat) : (((((l.map encii)[j]?).getD (DV.int 0)).l[1]?).getD (DV.int 0)) = .int ((l[j]?).getD dii).2 := by rw [List.getElem?_map]; cases l[j]? <;> rfl
def ascM : Int → List Tii → Bool
  | _, [] => true
  | p, x :: l => decide (p < x.1) && ascM x.1 l
def validM (v : Int) (w : List Tii) : Bool := ascM (-1) w && (decide (1 ≤ v) && (decide (v ≤ 1099511627776) && decide (w.length ≤ 32)))
theorem validM_iff {v : Int} {w : List Tii} : validM v w = true ↔ ascM (-1) w = true ∧ 1 ≤ v ∧ v ≤ 1099511627776 ∧ w.length ≤ 32 := by
  unfold validM
  simp only [Bool.and_eq_true, decide_eq_true_eq]
def pairsM : List Int → List Tii
  | a :: b :: l => (a, b) :: pairsM l
  | _ => []
def flatW (w : List Tii) : List Int := w.flatMap fun x => [x.1, x.2]
def entryM (l : List Int) : (Int × List Tii) × Bool := if l.length % 2 = 0 then ((0, []), false) else ((l[0]?.getD 0, pairsM (l.drop 1)), validM (l[0]?.getD 0) (pairsM (l.drop 1)))
theorem flatW_len (w : List Tii) : (flatW w).length = 2 * w.length := by
  induction w with
  | nil => rfl
  | cons x w ih => simp only [flatW, List.flatMap_cons, List.length_append, List.length_cons, List.length_nil] at ih ⊢; omega
theorem pairs_flat : ∀ w : List Tii, pairsM (flatW w) = w
  | [] => rfl
  | x :: w => by
    show (x.1, x.2) :: pairsM (flatW w) = _
    rw [pairs_flat w]
theorem flat_pairs : ∀ (n : Nat) (l : List Int), l.length = 2 * n → flatW (pairsM l) = l
  | 0, [], _ => rfl
  | 0, _ :: _, h => by simp at h
  | n + 1, [], h => by simp at h
  | n + 1, [a], h => by simp only [List.length_cons, List.length_nil] at h; omega
  | n + 1, a :: b :: l, h => by
    show a :: b :: flatW (pairsM l) = _
    rw [flat_pairs n l (by simp only [List.length_cons] at h; omega)]
theorem flatW_rge {w : List Tii} (h : ∀ x ∈ w, (-9223372036854775808 ≤ x.1 ∧ x.1 ≤ 9223372036854775807) ∧ (-9223372036854775808 ≤ x.2 ∧ x.2 ≤ 9223372036854775807)) : ∀ n ∈ flatW w, -9223372036854775808 ≤ n ∧ n ≤ 9223372036854775807 := by
  intro n hn
  simp only [flatW, List.mem_flatMap, List.mem_cons, List.not_mem_nil, or_false] at hn
  obtain ⟨x, hx, e⟩ := hn
  rcases e with e | e
  · rw [e]; exact (h x hx).1
  · rw [e]; exact (h x hx).2
theorem entry_flat (v : Int) (w : List Tii) : entryM (v :: flatW w) = ((v, w), validM v w) := by
  unfold entryM
  rw [if_neg (by rw [List.length_cons, flatW_len]; omega)]
  show ((v, pairsM (flatW w)), validM v (pairsM (flatW w))) = _
  rw [pairs_flat]
theorem flat_entry {l : List Int} (h : (entryM l).2 = true) : l = (entryM l).1.1 :: flatW (entryM l).1.2 ∧ validM (entryM l).1.1 (entryM l).1.2 = true := by
  unfold entryM at h ⊢
  split at h
  · cases h
  · rename_i hl
    rw [if_neg hl]
    refine ⟨?_, h⟩
    cases l with
    | nil => simp at hl
    | cons a l =>
      show a :: l = a :: flatW (pairsM l)
      rw [flat_pairs (l.length / 2) l (by simp only [List.length_cons] at hl; omega)]
def le4 (n : Int) : List UInt8 := [UInt8.ofNat (n % 256).toNat, UInt8.ofNat (n / 256 % 256).toNat, UInt8.ofNat (n / 65536 % 256).toNat, UInt8.ofNat (n / 16777216 % 256).toNat]
def headS (k : Int) (b : List UInt8) : List UInt8 := UInt8.ofNat (k % 256).toNat :: b
def sectorM (k : Int) (b : List UInt8) : List UInt8 := headS k b ++ le4 (sumM (headS k b))
theorem sector_len (k : Int) (b : List UInt8) : (sectorM k b).length = b.length + 5 := by
  unfold sectorM headS le4
  simp
theorem sector_body {k : Int} {b : List UInt8} (h : b.length = 27) : ((sectorM k b).take 28).drop 1 = b := by
  unfold sectorM headS
  rw [List.take_append_of_le_length (by simp [h]), List.take_of_length_le (by simp [h])]
  rfl
theorem sector_fst (k : Int) (b : List UInt8) : (sectorM k b)[0]?.getD 0 = UInt8.ofNat (k % 256).toNat := rfl
def padM (b : List UInt8) : List UInt8 := b ++ List.replicate ((b.length + 26) / 27 * 27 - b.length) 0
def sectsM : Nat → List UInt8 → List (List UInt8)
  | 0, _ => []
  | n + 1, b => sectorM n (b.take 27) :: sectsM n (b.drop 27)
def bodyM (v : Int) (w : List Tii) : List UInt8 := padM (strN (numsR (v :: flatW w)))
def recordM (v : Int) (w : List Tii) : List (List UInt8) := if validM v w = true then sectsM ((bodyM v w).length / 27) (bodyM v w) else []
theorem pad_len (b : List UInt8) : (padM b).length = (b.length + 26) / 27 * 27 := by
  unfold padM
  rw [List.length_append, List.length_replicate]
  omega
theorem sects_len : ∀ (n : Nat) (b : List UInt8), (sectsM n b).length = n
  | 0, _ => rfl
  | n + 1, b => by rw [sectsM, List.length_cons, sects_len n]
theorem sects_at : ∀ (n : Nat) (b : List UInt8) (i : Nat), i < n → (sectsM n b)[i]?.getD [] = sectorM ((n - 1 - i : Nat) : Int) ((b.drop (27 * i)).take 27)
  | n + 1, b, 0, _ => by simp [sectsM]
  | n + 1, b, i + 1, h => by
    rw [sectsM, List.getElem?_cons_succ, sects_at n _ i (by omega), List.drop_drop]
    rw [show n + 1 - 1 - (i + 1) = n - 1 - i by omega, show 27 + 27 * i = 27 * (i + 1) by omega]
def okS (n : Nat) (s : List UInt8) : Bool := decide (s.length = 32) && decide (s = sectorM n ((s.take 28).drop 1))
def loadM : Nat → List (List UInt8) → Option (List UInt8)
  | 0, _ => some []
  | _ + 1, [] => none
  | n + 1, s :: l => if okS n s = true then (loadM n l).map (((s.take 28).drop 1) ++ ·) else none
def zerosM (b : List UInt8) : Bool := b.all (· == 0)
def finM (b : List UInt8) : Option (Int × List Tii) := match getNumsR (bytesN b) with
  | none => none
  | some p => if (entryM p.1).2 = true ∧ (b.length : Int) - p.2 < 27 ∧ zerosM (b.drop p.2) = true then some (entryM p.1).1 else none
def manyM (l : List (List UInt8)) (at' : Nat) : Nat := ((l[at']?.getD [])[0]?.getD 0).toNat + 1
def parseM (l : List (List UInt8)) (at' : Int) : Option ((Int × List Tii) × Nat) :=
  if 0 ≤ at' ∧ at' < l.length ∧ (l[at'.toNat]?.getD []).length = 32 ∧ (manyM l at'.toNat : Int) ≤ l.length - at' then
    (match loadM (manyM l at'.toNat) (l.drop at'.toNat) with
    | none => none
    | some b => (finM b).map (·, manyM l at'.toNat))
  else none
theorem load_sects : ∀ (n : Nat) (b : List UInt8) (l : List (List UInt8)), b.length = 27 * n → loadM n (sectsM n b ++ l) = some b
  | 0, b, l, h => by
    have : b = [] := List.eq_nil_of_length_eq_zero (by omega)
    rw [this]; rfl
  | n + 1, b, l, h => by
    have h27 : (b.take 27).length = 27 := by rw [List.length_take]; omega
    have hok : okS n (sectorM n (b.take 27)) = true := by
      unfold okS
      rw [sector_body h27, sector_len, h27]
      simp
    rw [sectsM, List.cons_append, loadM, if_pos hok, load_sects n (b.drop 27) l (by rw [List.length_drop]; omega), sector_body h27]
    simp
theorem okS_eq {n : Nat} {s : List UInt8} (h : okS n s = true) : s.length = 32 ∧ s = sectorM n ((s.take 28).drop 1) := by
  unfold okS at h
  simpa only [Bool.and_eq_true, decide_eq_true_eq] using h
theorem load_canon : ∀ (n : Nat) (l : List (List UInt8)) (b : List UInt8), loadM n l = some b → n ≤ l.length ∧ b.length = 27 * n ∧ l.take n = sectsM n b
  | 0, l, b, h => by
    cases h
    exact ⟨Nat.zero_le _, rfl, rfl⟩
  | n + 1, [], b, h => by cases h
  | n + 1, s :: l, b, h => by
    rw [loadM] at h
    split at h
    · rename_i hok
      obtain ⟨h32, hs⟩ := okS_eq hok
      cases hl : loadM n l with
      | none => rw [hl] at h; cases h
      | some c =>
        rw [hl] at h
        cases h
        obtain ⟨a1, a2, a3⟩ := load_canon n l c hl
        have h27 : ((s.take 28).drop 1).length = 27 := by rw [List.length_drop, List.length_take]; omega
        refine ⟨by simp only [List.length_cons]; omega, by rw [List.length_append, h27]; omega, ?_⟩
        generalize hq : (s.take 28).drop 1 = q at hs h27 ⊢
        rw [List.take_succ_cons, a3]
        show s :: sectsM n c = sectorM n ((q ++ c).take 27) :: sectsM n ((q ++ c).drop 27)
        rw [← h27, List.take_left, List.drop_left, ← hs]
    · cases h
theorem zeros_rep {b : List UInt8} (h : zerosM b = true) : b = List.replicate b.length 0 := by
  unfold zerosM at h
  rw [List.all_eq_true] at h
  exact List.eq_replicate_iff.2 ⟨rfl, fun x hx => by simpa using h x hx⟩
theorem rep_zeros (n : Nat) : zerosM (List.replicate n 0) = true := by
  unfold zerosM
  rw [List.all_eq_true]
  intro x hx
  simp [List.eq_of_mem_replicate hx]
def rgeW (w : List Tii) : Prop := ∀ x ∈ w, (-9223372036854775808 ≤ x.1 ∧ x.1 ≤ 9223372036854775807) ∧ (-9223372036854775808 ≤ x.2 ∧ x.2 ≤ 9223372036854775807)
theorem nums_entry {v : Int} {w : List Tii} (hv : validM v w = true) (hw : rgeW w) : numsR (v :: flatW w) = numsM (v :: flatW w) ∧ (v :: flatW w).length ≤ 65 ∧ (∀ n ∈ v :: flatW w, -9223372036854775808 ≤ n ∧ n ≤ 9223372036854775807) ∧ (numsM (v :: flatW w)).length ≤ 660 ∧ 0 < (numsM (v :: flatW w)).length := by
  obtain ⟨_, v1, v2, v3⟩ := validM_iff.1 hv
  have hl : (v :: flatW w).length ≤ 65 := by rw [List.length_cons, flatW_len]; omega
  have hr : ∀ n ∈ v :: flatW w, -9223372036854775808 ≤ n ∧ n ≤ 9223372036854775807 := fun n hn => by
    rcases List.mem_cons.1 hn with e | e
    · omega
    · exact flatW_rge hw n e
  have := nums_len (v :: flatW w)
  exact ⟨numsR_eq (by omega) hr, hl, hr, by omega, by omega⟩
theorem nums_rge {l : List Int} (hl : l.length ≤ 1000) (h : ∀ n ∈ l, -9223372036854775808 ≤ n ∧ n ≤ 9223372036854775807) : ∀ x ∈ numsM l, 0 ≤ x ∧ x ≤ 255 := by
  intro x hx
  rw [numsM, List.mem_append, List.mem_flatMap] at hx
  rcases hx with hx | ⟨n, hn, hx⟩
  · exact put_rge (by omega) (by omega) x hx
  · exact put_rge (h n hn).1 (h n hn).2 x hx
theorem fin_body {v : Int} {w : List Tii} (hv : validM v w = true) (hw : rgeW w) : finM (bodyM v w) = some (v, w) := by
  obtain ⟨e, l65, hr, h660, h0⟩ := nums_entry hv hw
  have hb := nums_rge (l := v :: flatW w) (by omega) hr
  unfold finM bodyM padM
  rw [e, bytes_app, bytes_str hb, getNumsR_eq (fun x hx => by
    rcases List.mem_append.1 hx with h | h
    · exact hb x h
    · exact bytes_rge _ x h), getNums_nums _ (by omega) hr]
  simp only
  rw [entry_flat, List.drop_append, strN_len, List.drop_eq_nil_of_le (by rw [strN_len]; omega), Nat.sub_self, List.drop_zero, List.nil_append, if_pos]
  refine ⟨hv, ?_, rep_zeros _⟩
  rw [List.length_append, List.length_replicate, strN_len]
  omega
theorem body_len {v : Int} {w : List Tii} (hv : validM v w = true) (hw : rgeW w) : (bodyM v w).length = 27 * ((bodyM v w).length / 27) ∧ 1 ≤ (bodyM v w).length / 27 ∧ (bodyM v w).length / 27 ≤ 26 := by
  obtain ⟨e, l65, hr, h660, h0⟩ := nums_entry hv hw
  have : (bodyM v w).length = ((numsM (v :: flatW w)).length + 26) / 27 * 27 := by unfold bodyM; rw [pad_len, strN_len, e]
  omega
theorem record_len {v : Int} {w : List Tii} (hv : validM v w = true) : (recordM v w).length = (bodyM v w).length / 27 := by
  unfold recordM
  rw [if_pos hv, sects_len]
theorem record_le (v : Int) {w : List Tii} (hw : rgeW w) : (recordM v w).length ≤ 26 := by
  by_cases hv : validM v w = true
  · rw [record_len hv]; exact (body_len hv hw).2.2
  · unfold recordM; rw [if_neg hv]; simp
theorem record_secs {v : Int} {w : List Tii} (hv : validM v w = true) (hw : rgeW w) : ∀ s ∈ recordM v w, s.length = 32 := by
  obtain ⟨h1, h2, h3⟩ := body_len hv hw
  intro s hs
  unfold recordM at hs
  rw [if_pos hv] at hs
  obtain ⟨i, hi, e⟩ := List.mem_iff_getElem.1 hs
  rw [sects_len] at hi
  have := sects_at _ (bodyM v w) i hi
  rw [List.getElem?_eq_getElem (by rw [sects_len]; exact hi), Option.getD_some, e] at this
  rw [this, sector_len, List.length_take, List.length_drop]
  omega
theorem parse_record {v : Int} {w : List Tii} (hv : validM v w = true) (hw : rgeW w) (a z : List (List UInt8)) : parseM (a ++ recordM v w ++ z) a.length = some ((v, w), (recordM v w).length) := by
  obtain ⟨h1, h2, h3⟩ := body_len hv hw
  have hl := record_len hv
  have hR : recordM v w = sectsM ((bodyM v w).length / 27) (bodyM v w) := by unfold recordM; rw [if_pos hv]
  have h0 : (a ++ recordM v w ++ z)[a.length]?.getD [] = (recordM v w)[0]?.getD [] := by
    rw [List.append_assoc, List.getElem?_append_right (by omega), Nat.sub_self, List.getElem?_append_left (by omega)]
  have hs0 : (recordM v w)[0]?.getD [] = sectorM (((bodyM v w).length / 27 - 1 - 0 : Nat) : Int) (((bodyM v w).drop (27 * 0)).take 27) := by rw [hR]; exact sects_at _ _ 0 (by omega)
  have hm : manyM (a ++ recordM v w ++ z) a.length = (bodyM v w).length / 27 := by
    unfold manyM
    rw [h0, hs0, sector_fst]
    rw [UInt8.toNat_ofNat', Nat.mod_eq_of_lt (by omega)]
    omega
  unfold parseM
  rw [Int.toNat_natCast, hm, h0, if_pos]
  · rw [List.append_assoc, List.drop_append, List.drop_eq_nil_of_le (Nat.le_refl _), Nat.sub_self, List.drop_zero, List.nil_append]
    rw [hl, hR, load_sects _ _ _ h1]
    simp only [fin_body hv hw, Option.map_some]
  · refine ⟨by omega, by simp only [List.length_append]; omega, ?_, by simp only [List.length_append]; omega⟩
    rw [hs0, sector_len, List.length_take, List.length_drop]
    omega
theorem pairs_rge : ∀ (n : Nat) (l : List Int), l.length ≤ n → (∀ n ∈ l, -9223372036854775808 ≤ n ∧ n ≤ 9223372036854775807) → rgeW (pairsM l)
  | _, [], _, _ => by intro x hx; cases hx
  | _, [a], _, _ => by intro x hx; cases hx
  | 0, a :: b :: l, h, _ => by simp at h
  | n + 1, a :: b :: l, h, hr => by
    intro x hx
    rcases List.mem_cons.1 hx with e | e
    · rw [e]; exact ⟨hr a (by simp), hr b (by simp)⟩
    · exact pairs_rge n l (by simp only [List.length_cons] at h; omega) (fun y hy => hr y (by simp [hy])) x e
theorem fin_canon {b : List UInt8} {e : Int × List Tii} {n : Nat} (hb : b.length = 27 * n) (h : finM b = some e) : validM e.1 e.2 = true ∧ rgeW e.2 ∧ bodyM e.1 e.2 = b := by
  unfold finM at h
  rw [getNumsR_eq (bytes_rge b)] at h
  cases hg : getNumsM (bytesN b) with
  | none => rw [hg] at h; cases h
  | some p =>
    obtain ⟨l, u⟩ := p
    rw [hg] at h
    simp only at h
    split at h
    · rename_i hc
      obtain ⟨c1, c2, c3⟩ := hc
      cases h
      obtain ⟨g1, g2, g3⟩ := getNums_canon (bytes_rge b) hg
      rw [bytes_len] at g2
      obtain ⟨f1, f2⟩ := flat_entry c1
      have hw : rgeW (entryM l).1.2 := by
        unfold entryM
        split
        · intro x hx; cases hx
        · exact pairs_rge _ (l.drop 1) (Nat.le_refl _) fun x hx => g1 x (List.mem_of_mem_drop hx)
      obtain ⟨e1, l65, hr, h660, h0⟩ := nums_entry f2 hw
      refine ⟨f2, hw, ?_⟩
      rw [← f1] at e1 h0 h660
      have hu : u = (numsM l).length := by rw [← g3, List.length_take, bytes_len]; omega
      have hs : strN (numsM l) = b.take u := by
        rw [← g3]
        conv => rhs; rw [← str_bytes b]
        unfold strN
        rw [List.map_take]
      unfold bodyM
      rw [← f1, e1]
      unfold padM
      rw [strN_len, ← hu, hs]
      have hz := zeros_rep c3
      rw [List.length_drop] at hz
      have : (u + 26) / 27 * 27 - u = b.length - u := by omega
      rw [this, ← hz, List.take_append_drop]
    · cases h
theorem parse_canon {l : List (List UInt8)} {at' : Int} {e : Int × List Tii} {n : Nat} (h : parseM l at' = some (e, n)) : validM e.1 e.2 = true ∧ rgeW e.2 ∧ 0 ≤ at' ∧ 1 ≤ n ∧ at' + n ≤ l.length ∧ n = manyM l at'.toNat ∧ recordM e.1 e.2 = (l.drop at'.toNat).take n := by
  unfold parseM at h
  split at h
  · rename_i hc
    obtain ⟨c1, c2, c3, c4⟩ := hc
    cases hl : loadM (manyM l at'.toNat) (l.drop at'.toNat) with
    | none => rw [hl] at h; cases h
    | some b =>
      rw [hl] at h
      simp only at h
      cases hf : finM b with
      | none => rw [hf] at h; cases h
      | some f =>
        rw [hf] at h
        cases h
        obtain ⟨a1, a2, a3⟩ := load_canon _ _ _ hl
        obtain ⟨b1, b2, b3⟩ := fin_canon a2 hf
        have hm : 1 ≤ manyM l at'.toNat := by unfold manyM; omega
        refine ⟨b1, b2, c1, hm, by omega, rfl, ?_⟩
        unfold recordM
        rw [if_pos b1, b3, a2, a3]
        congr 1
        omega
  · cases h
theorem sum_fst : ∀ (s : List UInt8) (x y : Int), 0 ≤ x → x + 255 * s.length < 65521 → x ≤ (s.foldl (fun (p : Int × Int) (c : UInt8) => ((p.1 + (c.toNat : Int)) % 65521, (p.2 + (p.1 + (c.toNat : Int)) % 65521) % 65521)) (x, y)).1 ∧ (s.foldl (fun (p : Int × Int) (c : UInt8) => ((p.1 + (c.toNat : Int)) % 65521, (p.2 + (p.1 + (c.toNat : Int)) % 65521) % 65521)) (x, y)).1 ≤ x + 255 * s.length
  | [], x, y, h0, h1 => by simp
  | c :: s, x, y, h0, h1 => by
    have hc : (c.toNat : Int) < 256 := by have := c.toNat_lt; omega
    simp only [List.length_cons] at h1
    have e : (x + (c.toNat : Int)) % 65521 = x + c.toNat := by omega
    rw [List.foldl_cons]
    simp only [e]
    obtain ⟨a, b⟩ := sum_fst s (x + c.toNat) ((y + (x + c.toNat)) % 65521) (by omega) (by omega)
    simp only [List.length_cons]
    constructor <;> omega
theorem sum_low {s : List UInt8} (h : s.length = 28) : sumM s % 65536 ≠ 0 := by
  have := sum_fst s 1 0 (by omega) (by omega)
  obtain ⟨a, b, c, d⟩ := sumS_rge s
  unfold sumM
  unfold sumS at *
  omega
def cutM (c : Nat) (s : List UInt8) : List UInt8 := s.take c ++ List.replicate (s.length - c) 0
theorem le4_zero {n : Int} (h : le4 n = [0, 0, 0, 0]) (h0 : n % 65536 ≠ 0) : False := by
  unfold le4 at h
  simp only [List.cons.injEq] at h
  obtain ⟨a, b, _⟩ := h
  have a' := congrArg UInt8.toNat a
  have b' := congrArg UInt8.toNat b
  rw [UInt8.toNat_ofNat', show (0 : UInt8).toNat = 0 from rfl] at a' b'
  omega
theorem ofNat_mod {j k : Nat} (h : UInt8.ofNat ((j : Int) % 256).toNat = UInt8.ofNat ((k : Int) % 256).toNat) : (j : Int) % 256 = (k : Int) % 256 := by
  have := congrArg UInt8.toNat h
  rw [UInt8.toNat_ofNat', UInt8.toNat_ofNat'] at this
  omega
theorem torn_same {n k c : Nat} {b : List UInt8} (hb : b.length = 27) (h : okS n (cutM c (sectorM k b)) = true) : cutM c (sectorM k b) = sectorM k b := by
  obtain ⟨h32, he⟩ := okS_eq h
  have hs : (sectorM k b).length = 32 := by rw [sector_len, hb]
  by_cases hc : c ≤ 28
  · exfalso
    generalize hq : ((cutM c (sectorM k b)).take 28).drop 1 = q at he
    have hql : q.length = 27 := by rw [← hq, List.length_drop, List.length_take, h32]; omega
    have hh : (headS n q).length = 28 := by unfold headS; rw [List.length_cons, hql]
    have hd : (cutM c (sectorM k b)).drop 28 = [0, 0, 0, 0] := by
      unfold cutM
      rw [hs, List.drop_append, List.drop_eq_nil_of_le (by rw [List.length_take]; omega), List.nil_append, List.drop_replicate, List.length_take, hs]
      have : 32 - c - (28 - min c 32) = 4 := by omega
      rw [this]
      rfl
    have hd2 : (sectorM n q).drop 28 = le4 (sumM (headS n q)) := by
      unfold sectorM
      rw [List.drop_append, List.drop_eq_nil_of_le (by omega), hh]
      rfl
    rw [he, hd2] at hd
    exact le4_zero hd (sum_low hh)
  · have ht : (cutM c (sectorM k b)).take 28 = (sectorM k b).take 28 := by
      unfold cutM
      rw [List.take_append_of_le_length (by rw [List.length_take]; omega), List.take_take]
      congr 1
      omega
    rw [ht, sector_body hb] at he
    have h0 : (cutM c (sectorM k b))[0]?.getD 0 = (sectorM k b)[0]?.getD 0 := by
      have e : ∀ l : List UInt8, l[0]?.getD 0 = (l.take 28)[0]?.getD 0 := fun l => by rw [List.getElem?_take]; simp
      rw [e, ht, ← e]
    rw [he, sector_fst, sector_fst] at h0
    have hm := ofNat_mod h0
    rw [he]
    unfold sectorM headS
    rw [hm]
theorem parse_torn {v : Int} {w : List Tii} (hv : validM v w = true) (hw : rgeW w) {l : List (List UInt8)} (hl : l.length = (recordM v w).length) (hc : ∀ i, i < l.length → ∃ c, l[i]?.getD [] = cutM c ((recordM v w)[i]?.getD [])) (hn : l ≠ recordM v w) : parseM l 0 = none := by
  cases hp : parseM l 0 with
  | none => rfl
  | some r =>
    exfalso
    obtain ⟨⟨v', w'⟩, n⟩ := r
    obtain ⟨h1, h2, h3⟩ := body_len hv hw
    have hrl := record_len hv
    have hR : recordM v w = sectsM ((bodyM v w).length / 27) (bodyM v w) := by unfold recordM; rw [if_pos hv]
    generalize hM : (bodyM v w).length / 27 = M at *
    generalize bodyM v w = B at *
    have hch : ∀ i, i < M → (List.take 27 (List.drop (27 * i) B)).length = 27 := fun i hi => by rw [List.length_take, List.length_drop]; omega
    obtain ⟨c1, c2, c3, c4, c5, c6, c7⟩ := parse_canon hp
    simp only [Int.toNat_zero, List.drop_zero] at c6 c7
    have hn2 : n ≤ l.length := by omega
    have hsec : ∀ i, i < n → l[i]?.getD [] = (recordM v w)[i]?.getD [] := fun i hi => by
      obtain ⟨c, hci⟩ := hc i (by omega)
      have hr : (recordM v w)[i]?.getD [] = sectorM ((M - 1 - i : Nat) : Int) (List.take 27 (List.drop (27 * i) B)) := by rw [hR]; exact sects_at M B i (by omega)
      have hb' := body_len c1 c2
      have hrl' := record_len c1
      simp only at hb' hrl' c7
      have hR' : recordM v' w' = sectsM ((bodyM v' w').length / 27) (bodyM v' w') := by unfold recordM; rw [if_pos c1]
      have hlen := congrArg List.length c7
      rw [hrl', List.length_take] at hlen
      have hi' : (recordM v' w')[i]?.getD [] = l[i]?.getD [] := by rw [c7, List.getElem?_take]; simp [hi]
      have hs' : (recordM v' w')[i]?.getD [] = sectorM (((bodyM v' w').length / 27 - 1 - i : Nat) : Int) (List.take 27 (List.drop (27 * i) (bodyM v' w'))) := by rw [hR']; exact sects_at _ _ i (by omega)
      have h27' : (List.take 27 (List.drop (27 * i) (bodyM v' w'))).length = 27 := by rw [List.length_take, List.length_drop]; omega
      have hok : okS ((bodyM v' w').length / 27 - 1 - i) (l[i]?.getD []) = true := by
        unfold okS
        rw [← hi', hs', sector_body h27', sector_len, h27']
        simp
      rw [hci, hr] at hok ⊢
      exact torn_same (hch i (by omega)) hok
    have h0 := hsec 0 (by omega)
    have hnM : n = M := by
      rw [c6]
      unfold manyM
      rw [h0, hR, sects_at M B 0 (by omega), sector_fst, UInt8.toNat_ofNat', Nat.mod_eq_of_lt (by omega)]
      omega
    apply hn
    apply List.ext_getElem?
    intro i
    by_cases hi : i < l.length
    · have := hsec i (by omega)
      rw [List.getElem?_eq_getElem hi, List.getElem?_eq_getElem (by omega)] at this ⊢
      simpa using this
    · rw [List.getElem?_eq_none (by omega), List.getElem?_eq_none (by omega)]
end Go.Proofs.YtkfjgggiopegbaaDoor
end
section
namespace Go.Proofs.YtkfjgggiopegbaaDoor
set_option linter.unusedVariables false
set_option linter.unusedSimpArgs false
set_option maxRecDepth 100000
def wSectorE (k : Int) (b : List UInt8) : List DV := [.str (sectorM k b)]
theorem sec_app (c m : Int) (b : List UInt8) (hb : b.length = 27) (hm : m = 27) : List.take 1 [DV.int c, DV.int 0, DV.int 0, DV.int 0, DV.int 0, DV.int 0, DV.int 0, DV.int 0, DV.int 0, DV.int 0, DV.int 0, DV.int 0, DV.int 0, DV.int 0, DV.int 0, DV.int 0, DV.int 0, DV.int 0, DV.int 0, DV.int 0, DV.int 0, DV.int 0, DV.int 0, DV.int 0, DV.int 0, DV.int 0, DV.int 0, DV.int 0, DV.int 0, DV.int 0, DV.int 0, DV.int 0] ++ (List.take m.toNat ((bytesN b).map DV.int) ++ List.drop (1 + m).toNat [DV.int c, DV.int 0, DV.int 0, DV.int 0, DV.int 0, DV.int 0, DV.int 0, DV.int 0, DV.int 0, DV.int 0, DV.int 0, DV.int 0, DV.int 0, DV.int 0, DV.int 0, DV.int 0, DV.int 0, DV.int 0, DV.int 0, DV.int 0, DV.int 0, DV.int 0, DV.int 0, DV.int 0, DV.int 0, DV.int 0, DV.int 0, DV.int 0, DV.int 0, DV.int 0, DV.int 0, DV.int 0]) = ((c :: bytesN b) ++ [0, 0, 0, 0]).map DV.int := by
  subst hm
  rw [List.take_of_length_le (l := (bytesN b).map DV.int) (by rw [List.length_map, bytes_len]; omega)]
  simp
theorem set_28 (h : List Int) (v0 v1 v2 v3 : Int) (hh : h.length = 28) : (((((h ++ [0, 0, 0, 0]).set 28 v0).set 29 v1).set 30 v2).set 31 v3) = h ++ [v0, v1, v2, v3] := by
  rw [List.set_append_right _ _ (by omega), List.set_append_right _ _ (by omega), List.set_append_right _ _ (by omega), List.set_append_right _ _ (by omega)]
  simp [hh]
theorem shr_by (n : Int) (k : Nat) (hk : k ≤ 64) : n.fdiv (2 ^ min k IntKind.i64.bits) = n / 2 ^ k := by
  have : min k IntKind.i64.bits = k := Nat.min_eq_left hk
  rw [this]
  exact Int.fdiv_eq_ediv_of_nonneg _ (Int.le_of_lt (Int.pow_pos (by decide)))
theorem wrap_u8n (n : Int) : UInt8.ofNat (IntKind.u8.wrap n).toNat = UInt8.ofNat (n % 256).toNat := by
  have : IntKind.u8.wrap n = n % 256 := rfl
  rw [this]
def wSectorF (ds : List DV) : List DV := wSectorE (gi ds 0) (gs ds 1)
def wSectorTree : PT :=
(.asrt (.bin .le (.int 32) (.un .len (.bin .cons (.un (.wrap .u8) (.var 0)) (.bin .cons (.int 0) (.bin .cons (.int 0) (.bin .cons (.int 0) (.bin .cons (.int 0) (.bin .cons (.int 0) (.bin .cons (.int 0) (.bin .cons (.int 0) (.bin .cons (.int 0) (.bin .cons (.int 0) (.bin .cons (.int 0) (.bin .cons (.int 0) (.bin .cons (.int 0) (.bin .cons (.int 0) (.bin .cons (.int 0) (.bin .cons (.int 0) (.bin .cons (.int 0) (.bin .cons (.int 0) (.bin .cons (.int 0) (.bin .cons (.int 0) (.bin .cons (.int 0) (.bin .cons (.int 0) (.bin .cons (.int 0) (.bin .cons (.int 0) (.bin .cons (.int 0) (.bin .cons (.int 0) (.bin .cons (.int 0) (.bin .cons (.int 0) (.bin .cons (.int 0) (.bin .cons (.int 0) (.bin .cons (.int 0) (.bin .cons (.int 0) .nil))))))))))))))))))))))))))))))))))
 (.asrt (.bin .le (.int 32) (.un .len (.bin .app (.bin .take (.bin .cons (.un (.wrap .u8) (.var 0)) (.bin .cons (.int 0) (.bin .cons (.int 0) (.bin .cons (.int 0) (.bin .cons (.int 0) (.bin .cons (.int 0) (.bin .cons (.int 0) (.bin .cons (.int 0) (.bin .cons (.int 0) (.bin .cons (.int 0) (.bin .cons (.int 0) (.bin .cons (.int 0) (.bin .cons (.int 0) (.bin .cons (.int 0) (.bin .cons (.int 0) (.bin .cons (.int 0) (.bin .cons (.int 0) (.bin .cons (.int 0) (.bin .cons (.int 0) (.bin .cons (.int 0) (.bin .cons (.int 0) (.bin .cons (.int 0) (.bin .cons (.int 0) (.bin .cons (.int 0) (.bin .cons (.int 0) (.bin .cons (.int 0) (.bin .cons (.int 0) (.bin .cons (.int 0) (.bin .cons (.int 0) (.bin .cons (.int 0) (.bin .cons (.int 0) (.bin .cons (.int 0) .nil)))))))))))))))))))))))))))))))) (.int 1)) (.bin .app (.bin .take (.un .bytes (.var 1)) (.tri .ite (.bin .le (.int 31) (.un .slen (.var 1))) (.int 31) (.un .slen (.var 1)))) (.bin .drop (.bin .cons (.un (.wrap .u8) (.var 0)) (.bin .cons (.int 0) (.bin .cons (.int 0) (.bin .cons (.int 0) (.bin .cons (.int 0) (.bin .cons (.int 0) (.bin .cons (.int 0) (.bin .cons (.int 0) (.bin .cons (.int 0) (.bin .cons (.int 0) (.bin .cons (.int 0) (.bin .cons (.int 0) (.bin .cons (.int 0) (.bin .cons (.int 0) (.bin .cons (.int 0) (.bin .cons (.int 0) (.bin .cons (.int 0) (.bin .cons (.int 0) (.bin .cons (.int 0) (.bin .cons (.int 0) (.bin .cons (.int 0) (.bin .cons (.int 0) (.bin .cons (.int 0) (.bin .cons (.int 0) (.bin .cons (.int 0) (.bin .cons (.int 0) (.bin .cons (.int 0) (.bin .cons (.int 0) (.bin .cons (.int 0) (.bin .cons (.int 0) (.bin .cons (.int 0) (.bin .cons (.int 0) .nil)))))))))))))))))))))))))))))))) (.bin .add (.int 1) (.tri .ite (.bin .le (.int 31) (.un .slen (.var 1))) (.int 31) (.un .slen (.var 1)))))))))
  (.asrt (.bin .le (.un .len (.bin .take (.bin .drop (.bin .app (.bin .take (.bin .cons (.un (.wrap .u8) (.var 0)) (.bin .cons (.int 0) (.bin .cons (.int 0) (.bin .cons (.int 0) (.bin .cons (.int 0) (.bin .cons (.int 0) (.bin .cons (.int 0) (.bin .cons (.int 0) (.bin .cons (.int 0) (.bin .cons (.int 0) (.bin .cons (.int 0) (.bin .cons (.int 0) (.bin .cons (.int 0) (.bin .cons (.int 0) (.bin .cons (.int 0) (.bin .cons (.int 0) (.bin .cons (.int 0) (.bin .cons (.int 0) (.bin .cons (.int 0) (.bin .cons (.int 0) (.bin .cons (.int 0) (.bin .cons (.int 0) (.bin .cons (.int 0) (.bin .cons (.int 0) (.bin .cons (.int 0) (.bin .cons (.int 0) (.bin .cons (.int 0) (.bin .cons (.int 0) (.bin .cons (.int 0) (.bin .cons (.int 0) (.bin .cons (.int 0) (.bin .cons (.int 0) .nil)))))))))))))))))))))))))))))))) (.int 1)) (.bin .app (.bin .take (.un .bytes (.var 1)) (.tri .ite (.bin .le (.int 31) (.un .slen (.var 1))) (.int 31) (.un .slen (.var 1)))) (.bin .drop (.bin .cons (.un (.wrap .u8) (.var 0)) (.bin .cons (.int 0) (.bin .cons (.int 0) (.bin .cons (.int 0) (.bin .cons (.int 0) (.bin .cons (.int 0) (.bin .cons (.int 0) (.bin .cons (.int 0) (.bin .cons (.int 0) (.bin .cons (.int 0) (.bin .cons (.int 0) (.bin .cons (.int 0) (.bin .cons (.int 0) (.bin .cons (.int 0) (.bin .cons (.int 0) (.bin .cons (.int 0) (.bin .cons (.int 0) (.bin .cons (.int 0) (.bin .cons (.int 0) (.bin .cons (.int 0) (.bin .cons (.int 0) (.bin .cons (.int 0) (.bin .cons (.int 0) (.bin .cons (.int 0) (.bin .cons (.int 0) (.bin .cons (.int 0) (.bin .cons (.int 0) (.bin .cons (.int 0) (.bin .cons (.int 0) (.bin .cons (.int 0) (.bin .cons (.int 0) (.bin .cons (.int 0) .nil)))))))))))))))))))))))))))))))) (.bin .add (.int 1) (.tri .ite (.bin .le (.int 31) (.un .slen (.var 1))) (.int 31) (.un .slen (.var 1))))))) (.int 0)) (.int 28))) (.int 1000000))
   (.asrt (.un .not (.bin .le (.un .len (.tri .set (.bin .app (.bin .take (.bin .cons (.un (.wrap .u8) (.var 0)) (.bin .cons (.int 0) (.bin .cons (.int 0) (.bin .cons (.int 0) (.bin .cons (.int 0) (.bin .cons (.int 0) (.bin .cons (.int 0) (.bin .cons (.int 0) (.bin .cons (.int 0) (.bin .cons (.int 0) (.bin .cons (.int 0) (.bin .cons (.int 0) (.bin .cons (.int 0) (.bin .cons (.int 0) (.bin .cons (.int 0) (.bin .cons (.int 0) (.bin .cons (.int 0) (.bin .cons (.int 0) (.bin .cons (.int 0) (.bin .cons (.int 0) (.bin .cons (.int 0) (.bin .cons (.int 0) (.bin .cons (.int 0) (.bin .cons (.int 0) (.bin .cons (.int 0) (.bin .cons (.int 0) (.bin .cons (.int 0) (.bin .cons (.int 0) (.bin .cons (.int 0) (.bin .cons (.int 0) (.bin .cons (.int 0) (.bin .cons (.int 0) .nil)))))))))))))))))))))))))))))))) (.int 1)) (.bin .app (.bin .take (.un .bytes (.var 1)) (.tri .ite (.bin .le (.int 31) (.un .slen (.var 1))) (.int 31) (.un .slen (.var 1)))) (.bin .drop (.bin .cons (.un (.wrap .u8) (.var 0)) (.bin .cons (.int 0) (.bin .cons (.int 0) (.bin .cons (.int 0) (.bin .cons (.int 0) (.bin .cons (.int 0) (.bin .cons (.int 0) (.bin .cons (.int 0) (.bin .cons (.int 0) (.bin .cons (.int 0) (.bin .cons (.int 0) (.bin .cons (.int 0) (.bin .cons (.int 0) (.bin .cons (.int 0) (.bin .cons (.int 0) (.bin .cons (.int 0) (.bin .cons (.int 0) (.bin .cons (.int 0) (.bin .cons (.int 0) (.bin .cons (.int 0) (.bin .cons (.int 0) (.bin .cons (.int 0) (.bin .cons (.int 0) (.bin .cons (.int 0) (.bin .cons (.int 0) (.bin .cons (.int 0) (.bin .cons (.int 0) (.bin .cons (.int 0) (.bin .cons (.int 0) (.bin .cons (.int 0) (.bin .cons (.int 0) (.bin .cons (.int 0) .nil)))))))))))))))))))))))))))))))) (.bin .add (.int 1) (.tri .ite (.bin .le (.int 31) (.un .slen (.var 1))) (.int 31) (.un .slen (.var 1))))))) (.int 28) (.un (.wrap .u8) (.bin (.shr .i64) (.bin .idx (.fn 94 (.bin .cons (.un .str8 (.bin .take (.bin .drop (.bin .app (.bin .take (.bin .cons (.un (.wrap .u8) (.var 0)) (.bin .cons (.int 0) (.bin .cons (.int 0) (.bin .cons (.int 0) (.bin .cons (.int 0) (.bin .cons (.int 0) (.bin .cons (.int 0) (.bin .cons (.int 0) (.bin .cons (.int 0) (.bin .cons (.int 0) (.bin .cons (.int 0) (.bin .cons (.int 0) (.bin .cons (.int 0) (.bin .cons (.int 0) (.bin .cons (.int 0) (.bin .cons (.int 0) (.bin .cons (.int 0) (.bin .cons (.int 0) (.bin .cons (.int 0) (.bin .cons (.int 0) (.bin .cons (.int 0) (.bin .cons (.int 0) (.bin .cons (.int 0) (.bin .cons (.int 0) (.bin .cons (.int 0) (.bin .cons (.int 0) (.bin .cons (.int 0) (.bin .cons (.int 0) (.bin .cons (.int 0) (.bin .cons (.int 0) (.bin .cons (.int 0) (.bin .cons (.int 0) .nil)))))))))))))))))))))))))))))))) (.int 1)) (.bin .app (.bin .take (.un .bytes (.var 1)) (.tri .ite (.bin .le (.int 31) (.un .slen (.var 1))) (.int 31) (.un .slen (.var 1)))) (.bin .drop (.bin .cons (.un (.wrap .u8) (.var 0)) (.bin .cons (.int 0) (.bin .cons (.int 0) (.bin .cons (.int 0) (.bin .cons (.int 0) (.bin .cons (.int 0) (.bin .cons (.int 0) (.bin .cons (.int 0) (.bin .cons (.int 0) (.bin .cons (.int 0) (.bin .cons (.int 0) (.bin .cons (.int 0) (.bin .cons (.int 0) (.bin .cons (.int 0) (.bin .cons (.int 0) (.bin .cons (.int 0) (.bin .cons (.int 0) (.bin .cons (.int 0) (.bin .cons (.int 0) (.bin .cons (.int 0) (.bin .cons (.int 0) (.bin .cons (.int 0) (.bin .cons (.int 0) (.bin .cons (.int 0) (.bin .cons (.int 0) (.bin .cons (.int 0) (.bin .cons (.int 0) (.bin .cons (.int 0) (.bin .cons (.int 0) (.bin .cons (.int 0) (.bin .cons (.int 0) (.bin .cons (.int 0) .nil)))))))))))))))))))))))))))))))) (.bin .add (.int 1) (.tri .ite (.bin .le (.int 31) (.un .slen (.var 1))) (.int 31) (.un .slen (.var 1))))))) (.int 0)) (.int 28))) .nil)) (.int 0)) (.int 0))))) (.int 29)))
    (.asrt (.un .not (.bin .le (.un .len (.tri .set (.tri .set (.bin .app (.bin .take (.bin .cons (.un (.wrap .u8) (.var 0)) (.bin .cons (.int 0) (.bin .cons (.int 0) (.bin .cons (.int 0) (.bin .cons (.int 0) (.bin .cons (.int 0) (.bin .cons (.int 0) (.bin .cons (.int 0) (.bin .cons (.int 0) (.bin .cons (.int 0) (.bin .cons (.int 0) (.bin .cons (.int 0) (.bin .cons (.int 0) (.bin .cons (.int 0) (.bin .cons (.int 0) (.bin .cons (.int 0) (.bin .cons (.int 0) (.bin .cons (.int 0) (.bin .cons (.int 0) (.bin .cons (.int 0) (.bin .cons (.int 0) (.bin .cons (.int 0) (.bin .cons (.int 0) (.bin .cons (.int 0) (.bin .cons (.int 0) (.bin .cons (.int 0) (.bin .cons (.int 0) (.bin .cons (.int 0) (.bin .cons (.int 0) (.bin .cons (.int 0) (.bin .cons (.int 0) (.bin .cons (.int 0) .nil)))))))))))))))))))))))))))))))) (.int 1)) (.bin .app (.bin .take (.un .bytes (.var 1)) (.tri .ite (.bin .le (.int 31) (.un .slen (.var 1))) (.int 31) (.un .slen (.var 1)))) (.bin .drop (.bin .cons (.un (.wrap .u8) (.var 0)) (.bin .cons (.int 0) (.bin .cons (.int 0) (.bin .cons (.int 0) (.bin .cons (.int 0) (.bin .cons (.int 0) (.bin .cons (.int 0) (.bin .cons (.int 0) (.bin .cons (.int 0) (.bin .cons (.int 0) (.bin .cons (.int 0) (.bin .cons (.int 0) (.bin .cons (.int 0) (.bin .cons (.int 0) (.bin .cons (.int 0) (.bin .cons (.int 0) (.bin .cons (.int 0) (.bin .cons (.int 0) (.bin .cons (.int 0) (.bin .cons (.int 0) (.bin .cons (.int 0) (.bin .cons (.int 0) (.bin .cons (.int 0) (.bin .cons (.int 0) (.bin .cons (.int 0) (.bin .cons (.int 0) (.bin .cons (.int 0) (.bin .cons (.int 0) (.bin .cons (.int 0) (.bin .cons (.int 0) (.bin .cons (.int 0) (.bin .cons (.int 0) .nil)))))))))))))))))))))))))))))))) (.bin .add (.int 1) (.tri .ite (.bin .le (.int 31) (.un .slen (.var 1))) (.int 31) (.un .slen (.var 1))))))) (.int 28) (.un (.wrap .u8) (.bin (.shr .i64) (.bin .idx (.fn 94 (.bin .cons (.un .str8 (.bin .take (.bin .drop (.bin .app (.bin .take (.bin .cons (.un (.wrap .u8) (.var 0)) (.bin .cons (.int 0) (.bin .cons (.int 0) (.bin .cons (.int 0) (.bin .cons (.int 0) (.bin .cons (.int 0) (.bin .cons (.int 0) (.bin .cons (.int 0) (.bin .cons (.int 0) (.bin .cons (.int 0) (.bin .cons (.int 0) (.bin .cons (.int 0) (.bin .cons (.int 0) (.bin .cons (.int 0) (.bin .cons (.int 0) (.bin .cons (.int 0) (.bin .cons (.int 0) (.bin .cons (.int 0) (.bin .cons (.int 0) (.bin .cons (.int 0) (.bin .cons (.int 0) (.bin .cons (.int 0) (.bin .cons (.int 0) (.bin .cons (.int 0) (.bin .cons (.int 0) (.bin .cons (.int 0) (.bin .cons (.int 0) (.bin .cons (.int 0) (.bin .cons (.int 0) (.bin .cons (.int 0) (.bin .cons (.int 0) (.bin .cons (.int 0) .nil)))))))))))))))))))))))))))))))) (.int 1)) (.bin .app (.bin .take (.un .bytes (.var 1)) (.tri .ite (.bin .le (.int 31) (.un .slen (.var 1))) (.int 31) (.un .slen (.var 1)))) (.bin .drop (.bin .cons (.un (.wrap .u8) (.var 0)) (.bin .cons (.int 0) (.bin .cons (.int 0) (.bin .cons (.int 0) (.bin .cons (.int 0) (.bin .cons (.int 0) (.bin .cons (.int 0) (.bin .cons (.int 0) (.bin .cons (.int 0) (.bin .cons (.int 0) (.bin .cons (.int 0) (.bin .cons (.int 0) (.bin .cons (.int 0) (.bin .cons (.int 0) (.bin .cons (.int 0) (.bin .cons (.int 0) (.bin .cons (.int 0) (.bin .cons (.int 0) (.bin .cons (.int 0) (.bin .cons (.int 0) (.bin .cons (.int 0) (.bin .cons (.int 0) (.bin .cons (.int 0) (.bin .cons (.int 0) (.bin .cons (.int 0) (.bin .cons (.int 0) (.bin .cons (.int 0) (.bin .cons (.int 0) (.bin .cons (.int 0) (.bin .cons (.int 0) (.bin .cons (.int 0) (.bin .cons (.int 0) .nil)))))))))))))))))))))))))))))))) (.bin .add (.int 1) (.tri .ite (.bin .le (.int 31) (.un .slen (.var 1))) (.int 31) (.un .slen (.var 1))))))) (.int 0)) (.int 28))) .nil)) (.int 0)) (.int 0)))) (.int 29) (.un (.wrap .u8) (.bin (.shr .i64) (.bin .idx (.fn 94 (.bin .cons (.un .str8 (.bin .take (.bin .drop (.bin .app (.bin .take (.bin .cons (.un (.wrap .u8) (.var 0)) (.bin .cons (.int 0) (.bin .cons (.int 0) (.bin .cons (.int 0) (.bin .cons (.int 0) (.bin .cons (.int 0) (.bin .cons (.int 0) (.bin .cons (.int 0) (.bin .cons (.int 0) (.bin .cons (.int 0) (.bin .cons (.int 0) (.bin .cons (.int 0) (.bin .cons (.int 0) (.bin .cons (.int 0) (.bin .cons (.int 0) (.bin .cons (.int 0) (.bin .cons (.int 0) (.bin .cons (.int 0) (.bin .cons (.int 0) (.bin .cons (.int 0) (.bin .cons (.int 0) (.bin .cons (.int 0) (.bin .cons (.int 0) (.bin .cons (.int 0) (.bin .cons (.int 0) (.bin .cons (.int 0) (.bin .cons (.int 0) (.bin .cons (.int 0) (.bin .cons (.int 0) (.bin .cons (.int 0) (.bin .cons (.int 0) (.bin .cons (.int 0) .nil)))))))))))))))))))))))))))))))) (.int 1)) (.bin .app (.bin .take (.un .bytes (.var 1)) (.tri .ite (.bin .le (.int 31) (.un .slen (.var 1))) (.int 31) (.un .slen (.var 1)))) (.bin .drop (.bin .cons (.un (.wrap .u8) (.var 0)) (.bin .cons (.int 0) (.bin .cons (.int 0) (.bin .cons (.int 0) (.bin .cons (.int 0) (.bin .cons (.int 0) (.bin .cons (.int 0) (.bin .cons (.int 0) (.bin .cons (.int 0) (.bin .cons (.int 0) (.bin .cons (.int 0) (.bin .cons (.int 0) (.bin .cons (.int 0) (.bin .cons (.int 0) (.bin .cons (.int 0) (.bin .cons (.int 0) (.bin .cons (.int 0) (.bin .cons (.int 0) (.bin .cons (.int 0) (.bin .cons (.int 0) (.bin .cons (.int 0) (.bin .cons (.int 0) (.bin .cons (.int 0) (.bin .cons (.int 0) (.bin .cons (.int 0) (.bin .cons (.int 0) (.bin .cons (.int 0) (.bin .cons (.int 0) (.bin .cons (.int 0) (.bin .cons (.int 0) (.bin .cons (.int 0) (.bin .cons (.int 0) .nil)))))))))))))))))))))))))))))))) (.bin .add (.int 1) (.tri .ite (.bin .le (.int 31) (.un .slen (.var 1))) (.int 31) (.un .slen (.var 1))))))) (.int 0)) (.int 28))) .nil)) (.int 0)) (.int 8))))) (.int 30)))
     (.asrt (.un .not (.bin .le (.un .len (.tri .set (.tri .set (.tri .set (.bin .app (.bin .take (.bin .cons (.un (.wrap .u8) (.var 0)) (.bin .cons (.int 0) (.bin .cons (.int 0) (.bin .cons (.int 0) (.bin .cons (.int 0) (.bin .cons (.int 0) (.bin .cons (.int 0) (.bin .cons (.int 0) (.bin .cons (.int 0) (.bin .cons (.int 0) (.bin .cons (.int 0) (.bin .cons (.int 0) (.bin .cons (.int 0) (.bin .cons (.int 0) (.bin .cons (.int 0) (.bin .cons (.int 0) (.bin .cons (.int 0) (.bin .cons (.int 0) (.bin .cons (.int 0) (.bin .cons (.int 0) (.bin .cons (.int 0) (.bin .cons (.int 0) (.bin .cons (.int 0) (.bin .cons (.int 0) (.bin .cons (.int 0) (.bin .cons (.int 0) (.bin .cons (.int 0) (.bin .cons (.int 0) (.bin .cons (.int 0) (.bin .cons (.int 0) (.bin .cons (.int 0) (.bin .cons (.int 0) .nil)))))))))))))))))))))))))))))))) (.int 1)) (.bin .app (.bin .take (.un .bytes (.var 1)) (.tri .ite (.bin .le (.int 31) (.un .slen (.var 1))) (.int 31) (.un .slen (.var 1)))) (.bin .drop (.bin .cons (.un (.wrap .u8) (.var 0)) (.bin .cons (.int 0) (.bin .cons (.int 0) (.bin .cons (.int 0) (.bin .cons (.int 0) (.bin .cons (.int 0) (.bin .cons (.int 0) (.bin .cons (.int 0) (.bin .cons (.int 0) (.bin .cons (.int 0) (.bin .cons (.int 0) (.bin .cons (.int 0) (.bin .cons (.int 0) (.bin .cons (.int 0) (.bin .cons (.int 0) (.bin .cons (.int 0) (.bin .cons (.int 0) (.bin .cons (.int 0) (.bin .cons (.int 0) (.bin .cons (.int 0) (.bin .cons (.int 0) (.bin .cons (.int 0) (.bin .cons (.int 0) (.bin .cons (.int 0) (.bin .cons (.int 0) (.bin .cons (.int 0) (.bin .cons (.int 0) (.bin .cons (.int 0) (.bin .cons (.int 0) (.bin .cons (.int 0) (.bin .cons (.int 0) (.bin .cons (.int 0) .nil)))))))))))))))))))))))))))))))) (.bin .add (.int 1) (.tri .ite (.bin .le (.int 31) (.un .slen (.var 1))) (.int 31) (.un .slen (.var 1))))))) (.int 28) (.un (.wrap .u8) (.bin (.shr .i64) (.bin .idx (.fn 94 (.bin .cons (.un .str8 (.bin .take (.bin .drop (.bin .app (.bin .take (.bin .cons (.un (.wrap .u8) (.var 0)) (.bin .cons (.int 0) (.bin .cons (.int 0) (.bin .cons (.int 0) (.bin .cons (.int 0) (.bin .cons (.int 0) (.bin .cons (.int 0) (.bin .cons (.int 0) (.bin .cons (.int 0) (.bin .cons (.int 0) (.bin .cons (.int 0) (.bin .cons (.int 0) (.bin .cons (.int 0) (.bin .cons (.int 0) (.bin .cons (.int 0) (.bin .cons (.int 0) (.bin .cons (.int 0) (.bin .cons (.int 0) (.bin .cons (.int 0) (.bin .cons (.int 0) (.bin .cons (.int 0) (.bin .cons (.int 0) (.bin .cons (.int 0) (.bin .cons (.int 0) (.bin .cons (.int 0) (.bin .cons (.int 0) (.bin .cons (.int 0) (.bin .cons (.int 0) (.bin .cons (.int 0) (.bin .cons (.int 0) (.bin .cons (.int 0) (.bin .cons (.int 0) .nil)))))))))))))))))))))))))))))))) (.int 1)) (.bin .app (.bin .take (.un .bytes (.var 1)) (.tri .ite (.bin .le (.int 31) (.un .slen (.var 1))) (.int 31) (.un .slen (.var 1)))) (.bin .drop (.bin .cons (.un (.wrap .u8) (.var 0)) (.bin .cons (.int 0) (.bin .cons (.int 0) (.bin .cons (.int 0) (.bin .cons (.int 0) (.bin .cons (.int 0) (.bin .cons (.int 0) (.bin .cons (.int 0) (.bin .cons (.int 0) (.bin .cons (.int 0) (.bin .cons (.int 0) (.bin .cons (.int 0) (.bin .cons (.int 0) (.bin .cons (.int 0) (.bin .cons (.int 0) (.bin .cons (.int 0) (.bin .cons (.int 0) (.bin .cons (.int 0) (.bin .cons (.int 0) (.bin .cons (.int 0) (.bin .cons (.int 0) (.bin .cons (.int 0) (.bin .cons (.int 0) (.bin .cons (.int 0) (.bin .cons (.int 0) (.bin .cons (.int 0) (.bin .cons (.int 0) (.bin .cons (.int 0) (.bin .cons (.int 0) (.bin .cons (.int 0) (.bin .cons (.int 0) (.bin .cons (.int 0) .nil)))))))))))))))))))))))))))))))) (.bin .add (.int 1) (.tri .ite (.bin .le (.int 31) (.un .slen (.var 1))) (.int 31) (.un .slen (.var 1))))))) (.int 0)) (.int 28))) .nil)) (.int 0)) (.int 0)))) (.int 29) (.un (.wrap .u8) (.bin (.shr .i64) (.bin .idx (.fn 94 (.bin .cons (.un .str8 (.bin .take (.bin .drop (.bin .app (.bin .take (.bin .cons (.un (.wrap .u8) (.var 0)) (.bin .cons (.int 0) (.bin .cons (.int 0) (.bin .cons (.int 0) (.bin .cons (.int 0) (.bin .cons (.int 0) (.bin .cons (.int 0) (.bin .cons (.int 0) (.bin .cons (.int 0) (.bin .cons (.int 0) (.bin .cons (.int 0) (.bin .cons (.int 0) (.bin .cons (.int 0) (.bin .cons (.int 0) (.bin .cons (.int 0) (.bin .cons (.int 0) (.bin .cons (.int 0) (.bin .cons (.int 0) (.bin .cons (.int 0) (.bin .cons (.int 0) (.bin .cons (.int 0) (.bin .cons (.int 0) (.bin .cons (.int 0) (.bin .cons (.int 0) (.bin .cons (.int 0) (.bin .cons (.int 0) (.bin .cons (.int 0) (.bin .cons (.int 0) (.bin .cons (.int 0) (.bin .cons (.int 0) (.bin .cons (.int 0) (.bin .cons (.int 0) .nil)))))))))))))))))))))))))))))))) (.int 1)) (.bin .app (.bin .take (.un .bytes (.var 1)) (.tri .ite (.bin .le (.int 31) (.un .slen (.var 1))) (.int 31) (.un .slen (.var 1)))) (.bin .drop (.bin .cons (.un (.wrap .u8) (.var 0)) (.bin .cons (.int 0) (.bin .cons (.int 0) (.bin .cons (.int 0) (.bin .cons (.int 0) (.bin .cons (.int 0) (.bin .cons (.int 0) (.bin .cons (.int 0) (.bin .cons (.int 0) (.bin .cons (.int 0) (.bin .cons (.int 0) (.bin .cons (.int 0) (.bin .cons (.int 0) (.bin .cons (.int 0) (.bin .cons (.int 0) (.bin .cons (.int 0) (.bin .cons (.int 0) (.bin .cons (.int 0) (.bin .cons (.int 0) (.bin .cons (.int 0) (.bin .cons (.int 0) (.bin .cons (.int 0) (.bin .cons (.int 0) (.bin .cons (.int 0) (.bin .cons (.int 0) (.bin .cons (.int 0) (.bin .cons (.int 0) (.bin .cons (.int 0) (.bin .cons (.int 0) (.bin .cons (.int 0) (.bin .cons (.int 0) (.bin .cons (.int 0) .nil)))))))))))))))))))))))))))))))) (.bin .add (.int 1) (.tri .ite (.bin .le (.int 31) (.un .slen (.var 1))) (.int 31) (.un .slen (.var 1))))))) (.int 0)) (.int 28))) .nil)) (.int 0)) (.int 8)))) (.int 30) (.un (.wrap .u8) (.bin (.shr .i64) (.bin .idx (.fn 94 (.bin .cons (.un .str8 (.bin .take (.bin .drop (.bin .app (.bin .take (.bin .cons (.un (.wrap .u8) (.var 0)) (.bin .cons (.int 0) (.bin .cons (.int 0) (.bin .cons (.int 0) (.bin .cons (.int 0) (.bin .cons (.int 0) (.bin .cons (.int 0) (.bin .cons (.int 0) (.bin .cons (.int 0) (.bin .cons (.int 0) (.bin .cons (.int 0) (.bin .cons (.int 0) (.bin .cons (.int 0) (.bin .cons (.int 0) (.bin .cons (.int 0) (.bin .cons (.int 0) (.bin .cons (.int 0) (.bin .cons (.int 0) (.bin .cons (.int 0) (.bin .cons (.int 0) (.bin .cons (.int 0) (.bin .cons (.int 0) (.bin .cons (.int 0) (.bin .cons (.int 0) (.bin .cons (.int 0) (.bin .cons (.int 0) (.bin .cons (.int 0) (.bin .cons (.int 0) (.bin .cons (.int 0) (.bin .cons (.int 0) (.bin .cons (.int 0) (.bin .cons (.int 0) .nil)))))))))))))))))))))))))))))))) (.int 1)) (.bin .app (.bin .take (.un .bytes (.var 1)) (.tri .ite (.bin .le (.int 31) (.un .slen (.var 1))) (.int 31) (.un .slen (.var 1)))) (.bin .drop (.bin .cons (.un (.wrap .u8) (.var 0)) (.bin .cons (.int 0) (.bin .cons (.int 0) (.bin .cons (.int 0) (.bin .cons (.int 0) (.bin .cons (.int 0) (.bin .cons (.int 0) (.bin .cons (.int 0) (.bin .cons (.int 0) (.bin .cons (.int 0) (.bin .cons (.int 0) (.bin .cons (.int 0) (.bin .cons (.int 0) (.bin .cons (.int 0) (.bin .cons (.int 0) (.bin .cons (.int 0) (.bin .cons (.int 0) (.bin .cons (.int 0) (.bin .cons (.int 0) (.bin .cons (.int 0) (.bin .cons (.int 0) (.bin .cons (.int 0) (.bin .cons (.int 0) (.bin .cons (.int 0) (.bin .cons (.int 0) (.bin .cons (.int 0) (.bin .cons (.int 0) (.bin .cons (.int 0) (.bin .cons (.int 0) (.bin .cons (.int 0) (.bin .cons (.int 0) (.bin .cons (.int 0) .nil)))))))))))))))))))))))))))))))) (.bin .add (.int 1) (.tri .ite (.bin .le (.int 31) (.un .slen (.var 1))) (.int 31) (.un .slen (.var 1))))))) (.int 0)) (.int 28))) .nil)) (.int 0)) (.int 16))))) (.int 31)))
      (.asrt (.bin .le (.int 32) (.un .len (.tri .set (.tri .set (.tri .set (.tri .set (.bin .app (.bin .take (.bin .cons (.un (.wrap .u8) (.var 0)) (.bin .cons (.int 0) (.bin .cons (.int 0) (.bin .cons (.int 0) (.bin .cons (.int 0) (.bin .cons (.int 0) (.bin .cons (.int 0) (.bin .cons (.int 0) (.bin .cons (.int 0) (.bin .cons (.int 0) (.bin .cons (.int 0) (.bin .cons (.int 0) (.bin .cons (.int 0) (.bin .cons (.int 0) (.bin .cons (.int 0) (.bin .cons (.int 0) (.bin .cons (.int 0) (.bin .cons (.int 0) (.bin .cons (.int 0) (.bin .cons (.int 0) (.bin .cons (.int 0) (.bin .cons (.int 0) (.bin .cons (.int 0) (.bin .cons (.int 0) (.bin .cons (.int 0) (.bin .cons (.int 0) (.bin .cons (.int 0) (.bin .cons (.int 0) (.bin .cons (.int 0) (.bin .cons (.int 0) (.bin .cons (.int 0) (.bin .cons (.int 0) .nil)))))))))))))))))))))))))))))))) (.int 1)) (.bin .app (.bin .take (.un .bytes (.var 1)) (.tri .ite (.bin .le (.int 31) (.un .slen (.var 1))) (.int 31) (.un .slen (.var 1)))) (.bin .drop (.bin .cons (.un (.wrap .u8) (.var 0)) (.bin .cons (.int 0) (.bin .cons (.int 0) (.bin .cons (.int 0) (.bin .cons (.int 0) (.bin .cons (.int 0) (.bin .cons (.int 0) (.bin .cons (.int 0) (.bin .cons (.int 0) (.bin .cons (.int 0) (.bin .cons (.int 0) (.bin .cons (.int 0) (.bin .cons (.int 0) (.bin .cons (.int 0) (.bin .cons (.int 0) (.bin .cons (.int 0) (.bin .cons (.int 0) (.bin .cons (.int 0) (.bin .cons (.int 0) (.bin .cons (.int 0) (.bin .cons (.int 0) (.bin .cons (.int 0) (.bin .cons (.int 0) (.bin .cons (.int 0) (.bin .cons (.int 0) (.bin .cons (.int 0) (.bin .cons (.int 0) (.bin .cons (.int 0) (.bin .cons (.int 0) (.bin .cons (.int 0) (.bin .cons (.int 0) (.bin .cons (.int 0) .nil)))))))))))))))))))))))))))))))) (.bin .add (.int 1) (.tri .ite (.bin .le (.int 31) (.un .slen (.var 1))) (.int 31) (.un .slen (.var 1))))))) (.int 28) (.un (.wrap .u8) (.bin (.shr .i64) (.bin .idx (.fn 94 (.bin .cons (.un .str8 (.bin .take (.bin .drop (.bin .app (.bin .take (.bin .cons (.un (.wrap .u8) (.var 0)) (.bin .cons (.int 0) (.bin .cons (.int 0) (.bin .cons (.int 0) (.bin .cons (.int 0) (.bin .cons (.int 0) (.bin .cons (.int 0) (.bin .cons (.int 0) (.bin .cons (.int 0) (.bin .cons (.int 0) (.bin .cons (.int 0) (.bin .cons (.int 0) (.bin .cons (.int 0) (.bin .cons (.int 0) (.bin .cons (.int 0) (.bin .cons (.int 0) (.bin .cons (.int 0) (.bin .cons (.int 0) (.bin .cons (.int 0) (.bin .cons (.int 0) (.bin .cons (.int 0) (.bin .cons (.int 0) (.bin .cons (.int 0) (.bin .cons (.int 0) (.bin .cons (.int 0) (.bin .cons (.int 0) (.bin .cons (.int 0) (.bin .cons (.int 0) (.bin .cons (.int 0) (.bin .cons (.int 0) (.bin .cons (.int 0) (.bin .cons (.int 0) .nil)))))))))))))))))))))))))))))))) (.int 1)) (.bin .app (.bin .take (.un .bytes (.var 1)) (.tri .ite (.bin .le (.int 31) (.un .slen (.var 1))) (.int 31) (.un .slen (.var 1)))) (.bin .drop (.bin .cons (.un (.wrap .u8) (.var 0)) (.bin .cons (.int 0) (.bin .cons (.int 0) (.bin .cons (.int 0) (.bin .cons (.int 0) (.bin .cons (.int 0) (.bin .cons (.int 0) (.bin .cons (.int 0) (.bin .cons (.int 0) (.bin .cons (.int 0) (.bin .cons (.int 0) (.bin .cons (.int 0) (.bin .cons (.int 0) (.bin .cons (.int 0) (.bin .cons (.int 0) (.bin .cons (.int 0) (.bin .cons (.int 0) (.bin .cons (.int 0) (.bin .cons (.int 0) (.bin .cons (.int 0) (.bin .cons (.int 0) (.bin .cons (.int 0) (.bin .cons (.int 0) (.bin .cons (.int 0) (.bin .cons (.int 0) (.bin .cons (.int 0) (.bin .cons (.int 0) (.bin .cons (.int 0) (.bin .cons (.int 0) (.bin .cons (.int 0) (.bin .cons (.int 0) (.bin .cons (.int 0) .nil)))))))))))))))))))))))))))))))) (.bin .add (.int 1) (.tri .ite (.bin .le (.int 31) (.un .slen (.var 1))) (.int 31) (.un .slen (.var 1))))))) (.int 0)) (.int 28))) .nil)) (.int 0)) (.int 0)))) (.int 29) (.un (.wrap .u8) (.bin (.shr .i64) (.bin .idx (.fn 94 (.bin .cons (.un .str8 (.bin .take (.bin .drop (.bin .app (.bin .take (.bin .cons (.un (.wrap .u8) (.var 0)) (.bin .cons (.int 0) (.bin .cons (.int 0) (.bin .cons (.int 0) (.bin .cons (.int 0) (.bin .cons (.int 0) (.bin .cons (.int 0) (.bin .cons (.int 0) (.bin .cons (.int 0) (.bin .cons (.int 0) (.bin .cons (.int 0) (.bin .cons (.int 0) (.bin .cons (.int 0) (.bin .cons (.int 0) (.bin .cons (.int 0) (.bin .cons (.int 0) (.bin .cons (.int 0) (.bin .cons (.int 0) (.bin .cons (.int 0) (.bin .cons (.int 0) (.bin .cons (.int 0) (.bin .cons (.int 0) (.bin .cons (.int 0) (.bin .cons (.int 0) (.bin .cons (.int 0) (.bin .cons (.int 0) (.bin .cons (.int 0) (.bin .cons (.int 0) (.bin .cons (.int 0) (.bin .cons (.int 0) (.bin .cons (.int 0) (.bin .cons (.int 0) .nil)))))))))))))))))))))))))))))))) (.int 1)) (.bin .app (.bin .take (.un .bytes (.var 1)) (.tri .ite (.bin .le (.int 31) (.un .slen (.var 1))) (.int 31) (.un .slen (.var 1)))) (.bin .drop (.bin .cons (.un (.wrap .u8) (.var 0)) (.bin .cons (.int 0) (.bin .cons (.int 0) (.bin .cons (.int 0) (.bin .cons (.int 0) (.bin .cons (.int 0) (.bin .cons (.int 0) (.bin .cons (.int 0) (.bin .cons (.int 0) (.bin .cons (.int 0) (.bin .cons (.int 0) (.bin .cons (.int 0) (.bin .cons (.int 0) (.bin .cons (.int 0) (.bin .cons (.int 0) (.bin .cons (.int 0) (.bin .cons (.int 0) (.bin .cons (.int 0) (.bin .cons (.int 0) (.bin .cons (.int 0) (.bin .cons (.int 0) (.bin .cons (.int 0) (.bin .cons (.int 0) (.bin .cons (.int 0) (.bin .cons (.int 0) (.bin .cons (.int 0) (.bin .cons (.int 0) (.bin .cons (.int 0) (.bin .cons (.int 0) (.bin .cons (.int 0) (.bin .cons (.int 0) (.bin .cons (.int 0) .nil)))))))))))))))))))))))))))))))) (.bin .add (.int 1) (.tri .ite (.bin .le (.int 31) (.un .slen (.var 1))) (.int 31) (.un .slen (.var 1))))))) (.int 0)) (.int 28))) .nil)) (.int 0)) (.int 8)))) (.int 30) (.un (.wrap .u8) (.bin (.shr .i64) (.bin .idx (.fn 94 (.bin .cons (.un .str8 (.bin .take (.bin .drop (.bin .app (.bin .take (.bin .cons (.un (.wrap .u8) (.var 0)) (.bin .cons (.int 0) (.bin .cons (.int 0) (.bin .cons (.int 0) (.bin .cons (.int 0) (.bin .cons (.int 0) (.bin .cons (.int 0) (.bin .cons (.int 0) (.bin .cons (.int 0) (.bin .cons (.int 0) (.bin .cons (.int 0) (.bin .cons (.int 0) (.bin .cons (.int 0) (.bin .cons (.int 0) (.bin .cons (.int 0) (.bin .cons (.int 0) (.bin .cons (.int 0) (.bin .cons (.int 0) (.bin .cons (.int 0) (.bin .cons (.int 0) (.bin .cons (.int 0) (.bin .cons (.int 0) (.bin .cons (.int 0) (.bin .cons (.int 0) (.bin .cons (.int 0) (.bin .cons (.int 0) (.bin .cons (.int 0) (.bin .cons (.int 0) (.bin .cons (.int 0) (.bin .cons (.int 0) (.bin .cons (.int 0) (.bin .cons (.int 0) .nil)))))))))))))))))))))))))))))))) (.int 1)) (.bin .app (.bin .take (.un .bytes (.var 1)) (.tri .ite (.bin .le (.int 31) (.un .slen (.var 1))) (.int 31) (.un .slen (.var 1)))) (.bin .drop (.bin .cons (.un (.wrap .u8) (.var 0)) (.bin .cons (.int 0) (.bin .cons (.int 0) (.bin .cons (.int 0) (.bin .cons (.int 0) (.bin .cons (.int 0) (.bin .cons (.int 0) (.bin .cons (.int 0) (.bin .cons (.int 0) (.bin .cons (.int 0) (.bin .cons (.int 0) (.bin .cons (.int 0) (.bin .cons (.int 0) (.bin .cons (.int 0) (.bin .cons (.int 0) (.bin .cons (.int 0) (.bin .cons (.int 0) (.bin .cons (.int 0) (.bin .cons (.int 0) (.bin .cons (.int 0) (.bin .cons (.int 0) (.bin .cons (.int 0) (.bin .cons (.int 0) (.bin .cons (.int 0) (.bin .cons (.int 0) (.bin .cons (.int 0) (.bin .cons (.int 0) (.bin .cons (.int 0) (.bin .cons (.int 0) (.bin .cons (.int 0) (.bin .cons (.int 0) (.bin .cons (.int 0) .nil)))))))))))))))))))))))))))))))) (.bin .add (.int 1) (.tri .ite (.bin .le (.int 31) (.un .slen (.var 1))) (.int 31) (.un .slen (.var 1))))))) (.int 0)) (.int 28))) .nil)) (.int 0)) (.int 16)))) (.int 31) (.un (.wrap .u8) (.bin (.shr .i64) (.bin .idx (.fn 94 (.bin .cons (.un .str8 (.bin .take (.bin .drop (.bin .app (.bin .take (.bin .cons (.un (.wrap .u8) (.var 0)) (.bin .cons (.int 0) (.bin .cons (.int 0) (.bin .cons (.int 0) (.bin .cons (.int 0) (.bin .cons (.int 0) (.bin .cons (.int 0) (.bin .cons (.int 0) (.bin .cons (.int 0) (.bin .cons (.int 0) (.bin .cons (.int 0) (.bin .cons (.int 0) (.bin .cons (.int 0) (.bin .cons (.int 0) (.bin .cons (.int 0) (.bin .cons (.int 0) (.bin .cons (.int 0) (.bin .cons (.int 0) (.bin .cons (.int 0) (.bin .cons (.int 0) (.bin .cons (.int 0) (.bin .cons (.int 0) (.bin .cons (.int 0) (.bin .cons (.int 0) (.bin .cons (.int 0) (.bin .cons (.int 0) (.bin .cons (.int 0) (.bin .cons (.int 0) (.bin .cons (.int 0) (.bin .cons (.int 0) (.bin .cons (.int 0) (.bin .cons (.int 0) .nil)))))))))))))))))))))))))))))))) (.int 1)) (.bin .app (.bin .take (.un .bytes (.var 1)) (.tri .ite (.bin .le (.int 31) (.un .slen (.var 1))) (.int 31) (.un .slen (.var 1)))) (.bin .drop (.bin .cons (.un (.wrap .u8) (.var 0)) (.bin .cons (.int 0) (.bin .cons (.int 0) (.bin .cons (.int 0) (.bin .cons (.int 0) (.bin .cons (.int 0) (.bin .cons (.int 0) (.bin .cons (.int 0) (.bin .cons (.int 0) (.bin .cons (.int 0) (.bin .cons (.int 0) (.bin .cons (.int 0) (.bin .cons (.int 0) (.bin .cons (.int 0) (.bin .cons (.int 0) (.bin .cons (.int 0) (.bin .cons (.int 0) (.bin .cons (.int 0) (.bin .cons (.int 0) (.bin .cons (.int 0) (.bin .cons (.int 0) (.bin .cons (.int 0) (.bin .cons (.int 0) (.bin .cons (.int 0) (.bin .cons (.int 0) (.bin .cons (.int 0) (.bin .cons (.int 0) (.bin .cons (.int 0) (.bin .cons (.int 0) (.bin .cons (.int 0) (.bin .cons (.int 0) (.bin .cons (.int 0) .nil)))))))))))))))))))))))))))))))) (.bin .add (.int 1) (.tri .ite (.bin .le (.int 31) (.un .slen (.var 1))) (.int 31) (.un .slen (.var 1))))))) (.int 0)) (.int 28))) .nil)) (.int 0)) (.int 24))))))
       (.leaf [(.un .str8 (.bin .take (.bin .drop (.tri .set (.tri .set (.tri .set (.tri .set (.bin .app (.bin .take (.bin .cons (.un (.wrap .u8) (.var 0)) (.bin .cons (.int 0) (.bin .cons (.int 0) (.bin .cons (.int 0) (.bin .cons (.int 0) (.bin .cons (.int 0) (.bin .cons (.int 0) (.bin .cons (.int 0) (.bin .cons (.int 0) (.bin .cons (.int 0) (.bin .cons (.int 0) (.bin .cons (.int 0) (.bin .cons (.int 0) (.bin .cons (.int 0) (.bin .cons (.int 0) (.bin .cons (.int 0) (.bin .cons (.int 0) (.bin .cons (.int 0) (.bin .cons (.int 0) (.bin .cons (.int 0) (.bin .cons (.int 0) (.bin .cons (.int 0) (.bin .cons (.int 0) (.bin .cons (.int 0) (.bin .cons (.int 0) (.bin .cons (.int 0) (.bin .cons (.int 0) (.bin .cons (.int 0) (.bin .cons (.int 0) (.bin .cons (.int 0) (.bin .cons (.int 0) (.bin .cons (.int 0) .nil)))))))))))))))))))))))))))))))) (.int 1)) (.bin .app (.bin .take (.un .bytes (.var 1)) (.tri .ite (.bin .le (.int 31) (.un .slen (.var 1))) (.int 31) (.un .slen (.var 1)))) (.bin .drop (.bin .cons (.un (.wrap .u8) (.var 0)) (.bin .cons (.int 0) (.bin .cons (.int 0) (.bin .cons (.int 0) (.bin .cons (.int 0) (.bin .cons (.int 0) (.bin .cons (.int 0) (.bin .cons (.int 0) (.bin .cons (.int 0) (.bin .cons (.int 0) (.bin .cons (.int 0) (.bin .cons (.int 0) (.bin .cons (.int 0) (.bin .cons (.int 0) (.bin .cons (.int 0) (.bin .cons (.int 0) (.bin .cons (.int 0) (.bin .cons (.int 0) (.bin .cons (.int 0) (.bin .cons (.int 0) (.bin .cons (.int 0) (.bin .cons (.int 0) (.bin .cons (.int 0) (.bin .cons (.int 0) (.bin .cons (.int 0) (.bin .cons (.int 0) (.bin .cons (.int 0) (.bin .cons (.int 0) (.bin .cons (.int 0) (.bin .cons (.int 0) (.bin .cons (.int 0) (.bin .cons (.int 0) .nil)))))))))))))))))))))))))))))))) (.bin .add (.int 1) (.tri .ite (.bin .le (.int 31) (.un .slen (.var 1))) (.int 31) (.un .slen (.var 1))))))) (.int 28) (.un (.wrap .u8) (.bin (.shr .i64) (.bin .idx (.fn 94 (.bin .cons (.un .str8 (.bin .take (.bin .drop (.bin .app (.bin .take (.bin .cons (.un (.wrap .u8) (.var 0)) (.bin .cons (.int 0) (.bin .cons (.int 0) (.bin .cons (.int 0) (.bin .cons (.int 0) (.bin .cons (.int 0) (.bin .cons (.int 0) (.bin .cons (.int 0) (.bin .cons (.int 0) (.bin .cons (.int 0) (.bin .cons (.int 0) (.bin .cons (.int 0) (.bin .cons (.int 0) (.bin .cons (.int 0) (.bin .cons (.int 0) (.bin .cons (.int 0) (.bin .cons (.int 0) (.bin .cons (.int 0) (.bin .cons (.int 0) (.bin .cons (.int 0) (.bin .cons (.int 0) (.bin .cons (.int 0) (.bin .cons (.int 0) (.bin .cons (.int 0) (.bin .cons (.int 0) (.bin .cons (.int 0) (.bin .cons (.int 0) (.bin .cons (.int 0) (.bin .cons (.int 0) (.bin .cons (.int 0) (.bin .cons (.int 0) (.bin .cons (.int 0) .nil)))))))))))))))))))))))))))))))) (.int 1)) (.bin .app (.bin .take (.un .bytes (.var 1)) (.tri .ite (.bin .le (.int 31) (.un .slen (.var 1))) (.int 31) (.un .slen (.var 1)))) (.bin .drop (.bin .cons (.un (.wrap .u8) (.var 0)) (.bin .cons (.int 0) (.bin .cons (.int 0) (.bin .cons (.int 0) (.bin .cons (.int 0) (.bin .cons (.int 0) (.bin .cons (.int 0) (.bin .cons (.int 0) (.bin .cons (.int 0) (.bin .cons (.int 0) (.bin .cons (.int 0) (.bin .cons (.int 0) (.bin .cons (.int 0) (.bin .cons (.int 0) (.bin .cons (.int 0) (.bin .cons (.int 0) (.bin .cons (.int 0) (.bin .cons (.int 0) (.bin .cons (.int 0) (.bin .cons (.int 0) (.bin .cons (.int 0) (.bin .cons (.int 0) (.bin .cons (.int 0) (.bin .cons (.int 0) (.bin .cons (.int 0) (.bin .cons (.int 0) (.bin .cons (.int 0) (.bin .cons (.int 0) (.bin .cons (.int 0) (.bin .cons (.int 0) (.bin .cons (.int 0) (.bin .cons (.int 0) .nil)))))))))))))))))))))))))))))))) (.bin .add (.int 1) (.tri .ite (.bin .le (.int 31) (.un .slen (.var 1))) (.int 31) (.un .slen (.var 1))))))) (.int 0)) (.int 28))) .nil)) (.int 0)) (.int 0)))) (.int 29) (.un (.wrap .u8) (.bin (.shr .i64) (.bin .idx (.fn 94 (.bin .cons (.un .str8 (.bin .take (.bin .drop (.bin .app (.bin .take (.bin .cons (.un (.wrap .u8) (.var 0)) (.bin .cons (.int 0) (.bin .cons (.int 0) (.bin .cons (.int 0) (.bin .cons (.int 0) (.bin .cons (.int 0) (.bin .cons (.int 0) (.bin .cons (.int 0) (.bin .cons (.int 0) (.bin .cons (.int 0) (.bin .cons (.int 0) (.bin .cons (.int 0) (.bin .cons (.int 0) (.bin .cons (.int 0) (.bin .cons (.int 0) (.bin .cons (.int 0) (.bin .cons (.int 0) (.bin .cons (.int 0) (.bin .cons (.int 0) (.bin .cons (.int 0) (.bin .cons (.int 0) (.bin .cons (.int 0) (.bin .cons (.int 0) (.bin .cons (.int 0) (.bin .cons (.int 0) (.bin .cons (.int 0) (.bin .cons (.int 0) (.bin .cons (.int 0) (.bin .cons (.int 0) (.bin .cons (.int 0) (.bin .cons (.int 0) (.bin .cons (.int 0) .nil)))))))))))))))))))))))))))))))) (.int 1)) (.bin .app (.bin .take (.un .bytes (.var 1)) (.tri .ite (.bin .le (.int 31) (.un .slen (.var 1))) (.int 31) (.un .slen (.var 1)))) (.bin .drop (.bin .cons (.un (.wrap .u8) (.var 0)) (.bin .cons (.int 0) (.bin .cons (.int 0) (.bin .cons (.int 0) (.bin .cons (.int 0) (.bin .cons (.int 0) (.bin .cons (.int 0) (.bin .cons (.int 0) (.bin .cons (.int 0) (.bin .cons (.int 0) (.bin .cons (.int 0) (.bin .cons (.int 0) (.bin .cons (.int 0) (.bin .cons (.int 0) (.bin .cons (.int 0) (.bin .cons (.int 0) (.bin .cons (.int 0) (.bin .cons (.int 0) (.bin .cons (.int 0) (.bin .cons (.int 0) (.bin .cons (.int 0) (.bin .cons (.int 0) (.bin .cons (.int 0) (.bin .cons (.int 0) (.bin .cons (.int 0) (.bin .cons (.int 0) (.bin .cons (.int 0) (.bin .cons (.int 0) (.bin .cons (.int 0) (.bin .cons (.int 0) (.bin .cons (.int 0) (.bin .cons (.int 0) .nil)))))))))))))))))))))))))))))))) (.bin .add (.int 1) (.tri .ite (.bin .le (.int 31) (.un .slen (.var 1))) (.int 31) (.un .slen (.var 1))))))) (.int 0)) (.int 28))) .nil)) (.int 0)) (.int 8)))) (.int 30) (.un (.wrap .u8) (.bin (.shr .i64) (.bin .idx (.fn 94 (.bin .cons (.un .str8 (.bin .take (.bin .drop (.bin .app (.bin .take (.bin .cons (.un (.wrap .u8) (.var 0)) (.bin .cons (.int 0) (.bin .cons (.int 0) (.bin .cons (.int 0) (.bin .cons (.int 0) (.bin .cons (.int 0) (.bin .cons (.int 0) (.bin .cons (.int 0) (.bin .cons (.int 0) (.bin .cons (.int 0) (.bin .cons (.int 0) (.bin .cons (.int 0) (.bin .cons (.int 0) (.bin .cons (.int 0) (.bin .cons (.int 0) (.bin .cons (.int 0) (.bin .cons (.int 0) (.bin .cons (.int 0) (.bin .cons (.int 0) (.bin .cons (.int 0) (.bin .cons (.int 0) (.bin .cons (.int 0) (.bin .cons (.int 0) (.bin .cons (.int 0) (.bin .cons (.int 0) (.bin .cons (.int 0) (.bin .cons (.int 0) (.bin .cons (.int 0) (.bin .cons (.int 0) (.bin .cons (.int 0) (.bin .cons (.int 0) (.bin .cons (.int 0) .nil)))))))))))))))))))))))))))))))) (.int 1)) (.bin .app (.bin .take (.un .bytes (.var 1)) (.tri .ite (.bin .le (.int 31) (.un .slen (.var 1))) (.int 31) (.un .slen (.var 1)))) (.bin .drop (.bin .cons (.un (.wrap .u8) (.var 0)) (.bin .cons (.int 0) (.bin .cons (.int 0) (.bin .cons (.int 0) (.bin .cons (.int 0) (.bin .cons (.int 0) (.bin .cons (.int 0) (.bin .cons (.int 0) (.bin .cons (.int 0) (.bin .cons (.int 0) (.bin .cons (.int 0) (.bin .cons (.int 0) (.bin .cons (.int 0) (.bin .cons (.int 0) (.bin .cons (.int 0) (.bin .cons (.int 0) (.bin .cons (.int 0) (.bin .cons (.int 0) (.bin .cons (.int 0) (.bin .cons (.int 0) (.bin .cons (.int 0) (.bin .cons (.int 0) (.bin .cons (.int 0) (.bin .cons (.int 0) (.bin .cons (.int 0) (.bin .cons (.int 0) (.bin .cons (.int 0) (.bin .cons (.int 0) (.bin .cons (.int 0) (.bin .cons (.int 0) (.bin .cons (.int 0) (.bin .cons (.int 0) .nil)))))))))))))))))))))))))))))))) (.bin .add (.int 1) (.tri .ite (.bin .le (.int 31) (.un .slen (.var 1))) (.int 31) (.un .slen (.var 1))))))) (.int 0)) (.int 28))) .nil)) (.int 0)) (.int 16)))) (.int 31) (.un (.wrap .u8) (.bin (.shr .i64) (.bin .idx (.fn 94 (.bin .cons (.un .str8 (.bin .take (.bin .drop (.bin .app (.bin .take (.bin .cons (.un (.wrap .u8) (.var 0)) (.bin .cons (.int 0) (.bin .cons (.int 0) (.bin .cons (.int 0) (.bin .cons (.int 0) (.bin .cons (.int 0) (.bin .cons (.int 0) (.bin .cons (.int 0) (.bin .cons (.int 0) (.bin .cons (.int 0) (.bin .cons (.int 0) (.bin .cons (.int 0) (.bin .cons (.int 0) (.bin .cons (.int 0) (.bin .cons (.int 0) (.bin .cons (.int 0) (.bin .cons (.int 0) (.bin .cons (.int 0) (.bin .cons (.int 0) (.bin .cons (.int 0) (.bin .cons (.int 0) (.bin .cons (.int 0) (.bin .cons (.int 0) (.bin .cons (.int 0) (.bin .cons (.int 0) (.bin .cons (.int 0) (.bin .cons (.int 0) (.bin .cons (.int 0) (.bin .cons (.int 0) (.bin .cons (.int 0) (.bin .cons (.int 0) (.bin .cons (.int 0) .nil)))))))))))))))))))))))))))))))) (.int 1)) (.bin .app (.bin .take (.un .bytes (.var 1)) (.tri .ite (.bin .le (.int 31) (.un .slen (.var 1))) (.int 31) (.un .slen (.var 1)))) (.bin .drop (.bin .cons (.un (.wrap .u8) (.var 0)) (.bin .cons (.int 0) (.bin .cons (.int 0) (.bin .cons (.int 0) (.bin .cons (.int 0) (.bin .cons (.int 0) (.bin .cons (.int 0) (.bin .cons (.int 0) (.bin .cons (.int 0) (.bin .cons (.int 0) (.bin .cons (.int 0) (.bin .cons (.int 0) (.bin .cons (.int 0) (.bin .cons (.int 0) (.bin .cons (.int 0) (.bin .cons (.int 0) (.bin .cons (.int 0) (.bin .cons (.int 0) (.bin .cons (.int 0) (.bin .cons (.int 0) (.bin .cons (.int 0) (.bin .cons (.int 0) (.bin .cons (.int 0) (.bin .cons (.int 0) (.bin .cons (.int 0) (.bin .cons (.int 0) (.bin .cons (.int 0) (.bin .cons (.int 0) (.bin .cons (.int 0) (.bin .cons (.int 0) (.bin .cons (.int 0) (.bin .cons (.int 0) .nil)))))))))))))))))))))))))))))))) (.bin .add (.int 1) (.tri .ite (.bin .le (.int 31) (.un .slen (.var 1))) (.int 31) (.un .slen (.var 1))))))) (.int 0)) (.int 28))) .nil)) (.int 0)) (.int 24)))) (.int 0)) (.int 32)))]))))))))
def wSectorSm : List (Nat × Smy) := [(39, ⟨94, [.one (.pl .str)], [.one (.pl (.int .i64))], fun es => (fun _ => []) es ++ slenC [(0, 0, 1000000)] es, none⟩)]
def wSectorLa : List (LK × LA) := []
def wSectorPhi : Fs := ⟨fun n d => match n with
  | 94 => .list (wSumF d.l)
  | _ => d, 147⟩
theorem wSectorS : SmyOk true Tryd.prog wSectorPhi wSectorSm := (smy_cons (fun ds => (fun _ => True) ds ∧ slenP [(0, 0, 1000000)] ds) wSumF wSum_pure (slen_hp (C := fun _ => []) (Q := fun _ => True) [(0, 0, 1000000)] (fun _ _ _ _ => trivial)) (fun _ => rfl) (fun _ h => by cases h) smy_nil)
theorem wSectorT : treeOk ⟨Tryd.prog, wSectorSm, wSectorLa, true⟩ 4000 41 [.one (.pl (.int .i64)), .one (.pl .str)] [.one (.pl .str)] ([]) wSectorTree = true := by decide +kernel
set_option maxHeartbeats 1000000 in
theorem wSector_pure : PureE true Tryd.prog 41 [.one (.pl (.int .i64)), .one (.pl .str)] [.one (.pl .str)] (fun ds => (fun _ => True) ds ∧ slenP [(1, 27, 27)] ds) wSectorF := by
  refine pure_tree (X := ⟨Tryd.prog, wSectorSm, wSectorLa, true⟩) (by decide +kernel) (Checked.mixed Tryd.checked) wSectorS (by decide +kernel) (by decide +kernel) wSectorT (by decide +kernel) ?_
  intro ds hl hp
  obtain ⟨d0, d1, rfl⟩ := len2 hl
  have l1 : 27 ≤ (d1.s.length : Int) ∧ (d1.s.length : Int) ≤ 27 := hp.2 (1, 27, 27) (by simp)
  have hF : wSectorF [d0, d1] = wSectorE d0.i d1.s := rfl
  rw [hF]
  clear hF hp hl
  have hN : nrmL (clsOf [.one (.pl (.int .i64)), .one (.pl .str)]) [d0, d1] = [.int d0.i, .str d1.s] := by
    simp only [clsOf, Sh.cls, List.append_nil, List.cons_append, List.nil_append, nrmL, Cl.nrm, CK.nrm]
  rw [hN]
  clear hN
  generalize d0.i = x0
  generalize d1.s = x1 at l1 ⊢
  refine ⟨facts_nil _, ?_⟩
  unfold wSectorTree wSectorE
  simp only [Sat, clsOf, Sh.cls, List.append_nil, nrmL, Cl.nrm, CK.nrm, List.map_cons, List.map_nil, List.cons.injEq, DV.str.injEq, and_true]
  simp only [q_le, q_not, iff_true, iff_false, Bool.not_true, Bool.false_eq_true, eq_self]
  have h27 : x1.length = 27 := by omega
  have hif : (if (31 : Int) ≤ (x1.length : Int) then (31 : Int) else x1.length) = 27 := by rw [if_neg (by omega)]; omega
  simp only [SE.den, evU, evT, ev_le, ev_add, ev_shr, ev_idx, ev_cons, ev_app, ev_take, ev_drop, leB_q, i_if, i_int, b_bool, s_str, l_list, envL, List.getElem?_cons_succ, List.getElem?_cons_zero, Option.getD_some, Int.toNat_zero, Int.reduceToNat, List.length_map, set_Li, iff_true, eq_self, wSectorPhi, wSumF, wSumE, gs, sec_app _ _ x1 h27 hif]
  have hb : (IntKind.u8.wrap x0 :: bytesN x1).length = 28 := by rw [List.length_cons, bytes_len]; omega
  have ht : strN ((IntKind.u8.wrap x0 :: bytesN x1)) = headS x0 x1 := by
    unfold headS
    show UInt8.ofNat (IntKind.u8.wrap x0).toNat :: strN (bytesN x1) = _
    rw [str_bytes, wrap_u8n]
  generalize hh : (IntKind.u8.wrap x0 :: bytesN x1) = h at hb ht ⊢
  have h28 : List.map (fun d => UInt8.ofNat d.i.toNat) (List.take 28 (List.drop 0 (List.map DV.int (h ++ [0, 0, 0, 0])))) = headS x0 x1 := by
    rw [List.drop_zero, ← List.map_take, List.take_append_of_le_length (by omega), List.take_of_length_le (by omega), str8_Li, ht]
  simp only [h28, set_28 _ _ _ _ _ hb]
  refine ⟨by simp, by simp [hb], by simp; omega, by simp [hb], by simp [hb], by simp [hb], by simp [hb], ?_⟩
  rw [List.drop_zero, List.take_of_length_le (by simp [hb]), str8_Li, strN_app, ht]
  unfold sectorM le4
  generalize sumM (headS x0 x1) = n
  simp only [strN, List.map_cons, List.map_nil, wrap_u8n]
  rw [shr_by n 0 (by decide), shr_by n 8 (by decide), shr_by n 16 (by decide), shr_by n 24 (by decide)]
  simp
end Go.Proofs.YtkfjgggiopegbaaDoor
end
section
namespace Go.Proofs.YtkfjgggiopegbaaDoor
set_option linter.unusedVariables false
set_option linter.unusedSimpArgs false
set_option maxRecDepth 100000
def getD3 : Option (Int × Nat) → List DV
  | none => [.int 0, .int 0, .int 3]
  | some p => [.int p.1, .int p.2, .int 0]
theorem nrm_D3 (o : Option (Int × Nat)) : nrmL [Cl.pl (CK.int IntKind.i64), Cl.pl (CK.int IntKind.i64), Cl.pl (CK.int IntKind.i64)] (getD3 o) = getD3 o := by cases o <;> rfl
theorem getRG_cons (x : Int) (r : List Int) (k : Nat) (u : Int) : getRG (x :: r) k u = if 9 < k ∨ (k = 9 ∧ 1 < x) then none else if x < 128 then (if x = 0 ∧ 0 < k then none else some (accR u x k, k + 1)) else getRG r (k + 1) (accR u x k) := rfl
def wGetE (b : List Int) : List DV := getD3 (getR b)
def wGetF (ds : List DV) : List DV := wGetE (gLi ds 0)
def wGetTree : PT :=
(.loop 1 [(.int 0), (.int 0)]
 (.br (.un .not (.bin .le (.un .len (.var 0)) (.var 2)))
  (.asrt (.bin .le (.int 0) (.var 2))
   (.br (.bin .eq (.var 2) (.int 9))
    .fail
    (.br (.un .not (.bin .le (.var 2) (.int 9)))
     .fail
     (.br (.un .not (.bin .le (.int 128) (.bin .idx (.var 0) (.bin .add (.int 0) (.var 2)))))
      .fail
      (.leaf [(.bin (.bor .u64) (.var 1) (.bin (.shl .u64) (.un (.wrap .u64) (.bin (.bandn .u8) (.bin .idx (.var 0) (.bin .add (.int 0) (.var 2))) (.int 128))) (.un (.wrap .i64) (.bin .mul (.int 7) (.var 2))))), (.un (.wrap .i64) (.bin .add (.var 2) (.int 1)))])))))
  .fail)
 (.br (.un .not (.bin .le (.un .len (.var 0)) (.var 2)))
  (.asrt (.bin .le (.int 0) (.var 2))
   (.br (.bin .eq (.var 2) (.int 9))
    (.br (.un .not (.bin .le (.bin .idx (.var 0) (.bin .add (.int 0) (.var 2))) (.int 1)))
     (.leaf [(.int 0), (.int 0), (.int 3)])
     (.br (.bin .eq (.bin .idx (.var 0) (.bin .add (.int 0) (.var 2))) (.int 0))
      (.leaf [(.int 0), (.int 0), (.int 3)])
      (.leaf [(.bin (.bxor .i64) (.un (.wrap .i64) (.bin (.shr .u64) (.bin (.bor .u64) (.var 1) (.bin (.shl .u64) (.un (.wrap .u64) (.bin (.bandn .u8) (.bin .idx (.var 0) (.bin .add (.int 0) (.var 2))) (.int 128))) (.un (.wrap .i64) (.bin .mul (.int 7) (.var 2))))) (.int 1))) (.un (.wrap .i64) (.bin .sub (.int 0) (.un (.wrap .i64) (.bin (.band .u64) (.bin (.bor .u64) (.var 1) (.bin (.shl .u64) (.un (.wrap .u64) (.bin (.bandn .u8) (.bin .idx (.var 0) (.bin .add (.int 0) (.var 2))) (.int 128))) (.un (.wrap .i64) (.bin .mul (.int 7) (.var 2))))) (.int 1)))))), (.un (.wrap .i64) (.bin .add (.var 2) (.int 1))), (.int 0)])))
    (.br (.un .not (.bin .le (.var 2) (.int 9)))
     (.leaf [(.int 0), (.int 0), (.int 3)])
     (.br (.un .not (.bin .le (.int 128) (.bin .idx (.var 0) (.bin .add (.int 0) (.var 2)))))
      (.br (.bin .eq (.bin .idx (.var 0) (.bin .add (.int 0) (.var 2))) (.int 0))
       (.br (.un .not (.bin .le (.var 2) (.int 0)))
        (.leaf [(.int 0), (.int 0), (.int 3)])
        (.leaf [(.bin (.bxor .i64) (.un (.wrap .i64) (.bin (.shr .u64) (.bin (.bor .u64) (.var 1) (.bin (.shl .u64) (.un (.wrap .u64) (.bin (.bandn .u8) (.bin .idx (.var 0) (.bin .add (.int 0) (.var 2))) (.int 128))) (.un (.wrap .i64) (.bin .mul (.int 7) (.var 2))))) (.int 1))) (.un (.wrap .i64) (.bin .sub (.int 0) (.un (.wrap .i64) (.bin (.band .u64) (.bin (.bor .u64) (.var 1) (.bin (.shl .u64) (.un (.wrap .u64) (.bin (.bandn .u8) (.bin .idx (.var 0) (.bin .add (.int 0) (.var 2))) (.int 128))) (.un (.wrap .i64) (.bin .mul (.int 7) (.var 2))))) (.int 1)))))), (.un (.wrap .i64) (.bin .add (.var 2) (.int 1))), (.int 0)]))
       (.leaf [(.bin (.bxor .i64) (.un (.wrap .i64) (.bin (.shr .u64) (.bin (.bor .u64) (.var 1) (.bin (.shl .u64) (.un (.wrap .u64) (.bin (.bandn .u8) (.bin .idx (.var 0) (.bin .add (.int 0) (.var 2))) (.int 128))) (.un (.wrap .i64) (.bin .mul (.int 7) (.var 2))))) (.int 1))) (.un (.wrap .i64) (.bin .sub (.int 0) (.un (.wrap .i64) (.bin (.band .u64) (.bin (.bor .u64) (.var 1) (.bin (.shl .u64) (.un (.wrap .u64) (.bin (.bandn .u8) (.bin .idx (.var 0) (.bin .add (.int 0) (.var 2))) (.int 128))) (.un (.wrap .i64) (.bin .mul (.int 7) (.var 2))))) (.int 1)))))), (.un (.wrap .i64) (.bin .add (.var 2) (.int 1))), (.int 0)]))
      .fail))))
  (.leaf [(.int 0), (.int 0), (.int 3)])))
def wGetSm : List (Nat × Smy) := []
def wGetLa : List (LK × LA) := [(⟨52, 3, 1, 1, 0⟩, ⟨[(5, (.int .u64 (.var 1))), (6, .any), (7, .any), (10, (.int .i64 (.var 2))), (11, .any), (12, .any), (13, .any), (14, .any), (15, .any), (16, .any), (17, .any), (18, .any), (19, .any), (20, .any), (21, .any), (22, .any), (23, .any), (24, .any), (25, .any), (26, .any), (27, .any), (28, .any), (29, .any), (30, .any), (31, .any), (32, .any), (33, .any), (34, .any), (35, .any), (36, .any), (37, .any), (38, .any), (39, .any), (40, .any), (41, .any), (42, .any), (43, .any), (44, .any), (45, .any), (46, .any), (47, .any), (48, .any), (49, .any), (50, .any), (51, .any)], [], [], 2, 0⟩)]
def wGetPhi : Fs := ⟨fun n d => match n with
  | _ => d, 147⟩
theorem wGetS : SmyOk true Tryd.prog wGetPhi wGetSm := smy_nil
theorem wGetT : treeOk ⟨Tryd.prog, wGetSm, wGetLa, true⟩ 4000 100 [.one (.rows false [.int .u8])] [.one (.pl (.int .i64)), .one (.pl (.int .i64)), .one (.pl (.int .i64))] ([]) wGetTree = true := by decide +kernel
set_option maxHeartbeats 1000000 in
theorem wGet_pure : PureE true Tryd.prog 100 [.one (.rows false [.int .u8])] [.one (.pl (.int .i64)), .one (.pl (.int .i64)), .one (.pl (.int .i64))] (lenP [(0, 1000000)]) wGetF := by
  refine pure_tree (X := ⟨Tryd.prog, wGetSm, wGetLa, true⟩) (by decide +kernel) (Checked.mixed Tryd.checked) wGetS (by decide +kernel) (by decide +kernel) wGetT (by decide +kernel) ?_
  intro ds hl hp
  obtain ⟨d0, rfl⟩ := len1 hl
  have b0 : (d0.l.length : Int) ≤ 1000000 := hp (0, 1000000) (by simp)
  have hF : wGetF [d0] = wGetE (d0.l.map DV.i) := rfl
  rw [hF]
  clear hF hp hl
  have hN : nrmL (clsOf [.one (.rows false [.int .u8])]) [d0] = [.list ((d0.l.map DV.i).map DV.int)] := by
    simp only [clsOf, Sh.cls, List.append_nil, nrmL, Cl.nrm, map_Li]
  rw [hN]
  clear hN
  rw [← List.length_map (f := DV.i)] at b0
  generalize d0.l.map DV.i = x0 at b0 ⊢
  refine ⟨facts_nil _, ?_⟩
  unfold wGetTree wGetE
  simp only [Sat, clsOf, Sh.cls, List.append_nil, List.cons_append, List.nil_append, nrmL, Cl.nrm, CK.nrm, List.map_cons, List.map_nil, List.length_cons, List.length_nil, true_and]
  try simp only [q_le, q_eq, q_not, iff_true, iff_false, Bool.not_true, Bool.not_false, Bool.false_eq_true, eq_self]
  simp only [SE.den, evU, ev_add, ev_sub, ev_mul, ev_band, ev_bor, ev_bxor, ev_bandn, ev_shl, ev_shr, ev_idx, i_int, l_list, envL, List.getElem?_cons_succ, List.getElem?_cons_zero, Option.getD_some, Int.reduceToNat, List.length_map, get_Li, Int.zero_add, wGetPhi]
  refine rounds_inv (fun y => ∃ (k : Nat) (u : Int), y = [.int u, .int k] ∧ k ≤ x0.length ∧ k ≤ 9 ∧ getRG (x0.drop k) k u = getRG x0 0 0) (fun y => x0.length - ((y[1]?).getD (DV.int 0)).i.toNat) ⟨0, 0, rfl, by omega, by omega, rfl⟩ ?_
  rintro y ⟨k, u, rfl, h0, h1, h2⟩
  simp only [i_int, List.getElem?_cons_succ, List.getElem?_cons_zero, Option.getD_some, Int.toNat_natCast]
  have hwk : IntKind.i64.wrap ((k : Int) + 1) = ((k + 1 : Nat) : Int) := by rw [w64 (by omega) (by omega)]; omega
  by_cases hk : k < x0.length
  · have e1 : ¬ (x0.length : Int) ≤ k := by omega
    have hd : x0.drop k = (x0[k]?.getD 0) :: x0.drop (k + 1) := by rw [List.drop_eq_getElem_cons hk, List.getElem?_eq_getElem hk]; rfl
    rw [hd] at h2
    generalize x0[k]?.getD 0 = x at *
    rw [getRG_cons] at h2
    have ha : accR u x k = accR u x k := rfl
    conv at ha => lhs; unfold accR
    have hu : unzR (accR u x k) = unzR (accR u x k) := rfl
    conv at hu => lhs; unfold unzR
    have hR : ∀ o, o = getRG x0 0 0 → getR x0 = o.map fun p => (unzR p.1, p.2) := fun o h => by unfold getR; rw [h]
    simp only [e1, hwk, ha, hu, nrm_D3]
    by_cases c : k < 9 ∧ 128 ≤ x
    · right
      rw [if_neg (by omega), if_neg (by omega)] at h2
      refine ⟨[.int (accR u x k), .int ((k + 1 : Nat) : Int)], ⟨fun _ => ⟨by omega, fun h => by omega, fun _ => ⟨fun h => by omega, fun _ => ⟨fun h => by omega, fun _ => rfl⟩⟩⟩, fun h => h.elim⟩, rfl, ⟨k + 1, accR u x k, rfl, by omega, by omega, h2⟩, ?_⟩
      simp only [i_int, List.getElem?_cons_succ, List.getElem?_cons_zero, Option.getD_some, Int.toNat_natCast]
      omega
    · left
      have hb := hR _ h2
      rw [hb]
      by_cases c1 : 9 < k ∨ (k = 9 ∧ 1 < x)
      · rw [if_pos c1]
        refine ⟨fun _ => ⟨by omega, fun h9 => ⟨fun hx => ?_, fun hx => ⟨fun hz => ?_, fun hz => ?_⟩⟩, fun h9 => ⟨fun hk => ?_, fun hk => ⟨fun hx => ⟨fun hz => ⟨fun hk0 => ?_, fun hk0 => ?_⟩, fun hz => ?_⟩, fun hx => ?_⟩⟩⟩, fun h => h.elim⟩ <;> first | rfl | (exfalso; omega)
      · rw [if_neg c1]
        have c2 : x < 128 := by omega
        rw [if_pos c2]
        by_cases c3 : x = 0 ∧ 0 < k
        · rw [if_pos c3]
          refine ⟨fun _ => ⟨by omega, fun h9 => ⟨fun hx => ?_, fun hx => ⟨fun hz => ?_, fun hz => ?_⟩⟩, fun h9 => ⟨fun hk => ?_, fun hk => ⟨fun hx => ⟨fun hz => ⟨fun hk0 => ?_, fun hk0 => ?_⟩, fun hz => ?_⟩, fun hx => ?_⟩⟩⟩, fun h => h.elim⟩ <;> first | rfl | (exfalso; omega)
        · rw [if_neg c3]
          refine ⟨fun _ => ⟨by omega, fun h9 => ⟨fun hx => ?_, fun hx => ⟨fun hz => ?_, fun hz => ?_⟩⟩, fun h9 => ⟨fun hk => ?_, fun hk => ⟨fun hx => ⟨fun hz => ⟨fun hk0 => ?_, fun hk0 => ?_⟩, fun hz => ?_⟩, fun hx => ?_⟩⟩⟩, fun h => h.elim⟩ <;> first | rfl | (exfalso; omega)
  · left
    have e1 : (x0.length : Int) ≤ k := by omega
    have hd : x0.drop k = [] := List.drop_eq_nil_of_le (by omega)
    rw [hd] at h2
    have hn : getR x0 = none := by unfold getR; rw [← h2]; rfl
    simp only [e1, hn, nrm_D3]
    simp [getD3]
end Go.Proofs.YtkfjgggiopegbaaDoor
end
section
namespace Go.Proofs.YtkfjgggiopegbaaDoor
set_option linter.unusedVariables false
set_option linter.unusedSimpArgs false
set_option maxRecDepth 100000
def getN3 : Option (List Int × Nat) → List DV
  | none => [.list [], .int 0, .int 3]
  | some p => [.list (p.1.map .int), .int p.2, .int 0]
theorem nrm_N3 (o : Option (List Int × Nat)) : nrmL [Cl.rows true [CK.int IntKind.i64], Cl.pl (CK.int IntKind.i64), Cl.pl (CK.int IntKind.i64)] (getN3 o) = getN3 o := by
  cases o with
  | none => rfl
  | some p => simp only [getN3, nrmL, Cl.nrm, CK.nrm, l_list, i_int, rows_i]
theorem gnR_succ (m : Nat) (b : List Int) (a : Nat) (acc : List Int) : gnR (m + 1) b a acc = match getR b with | none => none | some p => gnR m (b.drop p.2) (a + p.2) (acc ++ [p.1]) := rfl
def wGetNumsE (b : List Int) : List DV := getN3 (getNumsR b)
def wGetNumsF (ds : List DV) : List DV := wGetNumsE (gLi ds 0)
def wGetNumsTree : PT :=
(.asrt (.bin .le (.un .len (.bin .take (.bin .drop (.var 0) (.int 0)) (.bin .sub (.un .len (.var 0)) (.int 0)))) (.int 1000000))
 (.br (.un .not (.bin .eq (.bin .idx (.fn 95 (.bin .cons (.bin .take (.bin .drop (.var 0) (.int 0)) (.bin .sub (.un .len (.var 0)) (.int 0))) .nil)) (.int 2)) (.int 0)))
  (.leaf [.nil, (.int 0), (.int 3)])
  (.br (.un .not (.bin .le (.int 0) (.bin .idx (.fn 95 (.bin .cons (.bin .take (.bin .drop (.var 0) (.int 0)) (.bin .sub (.un .len (.var 0)) (.int 0))) .nil)) (.int 0))))
   (.leaf [.nil, (.int 0), (.int 3)])
   (.br (.un .not (.bin .le (.bin .idx (.fn 95 (.bin .cons (.bin .take (.bin .drop (.var 0) (.int 0)) (.bin .sub (.un .len (.var 0)) (.int 0))) .nil)) (.int 0)) (.un .len (.var 0))))
    (.leaf [.nil, (.int 0), (.int 3)])
    (.loop 1 [.nil, (.int 0), (.un (.wrap .i64) (.bin .add (.int 0) (.bin .idx (.fn 95 (.bin .cons (.bin .take (.bin .drop (.var 0) (.int 0)) (.bin .sub (.un .len (.var 0)) (.int 0))) .nil)) (.int 1))))]
     (.br (.un .not (.bin .le (.bin .idx (.fn 95 (.bin .cons (.bin .take (.bin .drop (.var 0) (.int 0)) (.bin .sub (.un .len (.var 0)) (.int 0))) .nil)) (.int 0)) (.var 2)))
      (.asrt (.bin .le (.int 0) (.var 3))
       (.asrt (.bin .le (.var 3) (.un .len (.var 0)))
        (.asrt (.bin .le (.un .len (.bin .take (.bin .drop (.var 0) (.bin .add (.int 0) (.var 3))) (.bin .sub (.un .len (.var 0)) (.var 3)))) (.int 1000000))
         (.br (.un .not (.bin .eq (.bin .idx (.fn 95 (.bin .cons (.bin .take (.bin .drop (.var 0) (.bin .add (.int 0) (.var 3))) (.bin .sub (.un .len (.var 0)) (.var 3))) .nil)) (.int 2)) (.int 0)))
          .fail
          (.asrt (.bin .le (.bin .add (.un .len (.var 1)) (.int 1)) (.int 4294967296))
           (.leaf [(.bin .snoc (.var 1) (.bin .idx (.fn 95 (.bin .cons (.bin .take (.bin .drop (.var 0) (.bin .add (.int 0) (.var 3))) (.bin .sub (.un .len (.var 0)) (.var 3))) .nil)) (.int 0))), (.un (.wrap .i64) (.bin .add (.var 2) (.int 1))), (.un (.wrap .i64) (.bin .add (.var 3) (.bin .idx (.fn 95 (.bin .cons (.bin .take (.bin .drop (.var 0) (.bin .add (.int 0) (.var 3))) (.bin .sub (.un .len (.var 0)) (.var 3))) .nil)) (.int 1))))]))))))
      .fail)
     (.br (.un .not (.bin .le (.bin .idx (.fn 95 (.bin .cons (.bin .take (.bin .drop (.var 0) (.int 0)) (.bin .sub (.un .len (.var 0)) (.int 0))) .nil)) (.int 0)) (.var 2)))
      (.asrt (.bin .le (.int 0) (.var 3))
       (.asrt (.bin .le (.var 3) (.un .len (.var 0)))
        (.asrt (.bin .le (.un .len (.bin .take (.bin .drop (.var 0) (.bin .add (.int 0) (.var 3))) (.bin .sub (.un .len (.var 0)) (.var 3)))) (.int 1000000))
         (.br (.un .not (.bin .eq (.bin .idx (.fn 95 (.bin .cons (.bin .take (.bin .drop (.var 0) (.bin .add (.int 0) (.var 3))) (.bin .sub (.un .len (.var 0)) (.var 3))) .nil)) (.int 2)) (.int 0)))
          (.leaf [.nil, (.int 0), (.int 3)])
          (.asrt (.bin .le (.bin .add (.un .len (.var 1)) (.int 1)) (.int 4294967296))
           .fail)))))
      (.leaf [(.var 1), (.var 3), (.int 0)])))))))
def wGetNumsSm : List (Nat × Smy) := [(100, ⟨95, [.one (.rows false [.int .u8])], [.one (.pl (.int .i64)), .one (.pl (.int .i64)), .one (.pl (.int .i64))], lenC [(0, 1000000)], none⟩)]
def wGetNumsLa : List (LK × LA) := [(⟨52, 7, 3, 1, 4⟩, ⟨[(9, (.sl 3 1 (.int 0) (.un .len (.var 1)) none)), (10, .any), (11, .any), (35, (.int .i64 (.var 2))), (36, .any), (37, .any), (38, .any), (39, .any), (40, .any), (41, .any), (42, .any), (43, .any), (44, .any), (45, .any), (46, .any), (47, .any), (48, .any)], [(2, (.cells [(.int .i64 (.var 3))])), (3, (.rows [.int .i64] (.var 1)))], [], 3, 1⟩)]
def wGetNumsPhi : Fs := ⟨fun n d => match n with
  | 95 => .list (wGetF d.l)
  | _ => d, 147⟩
theorem wGetNumsS : SmyOk true Tryd.prog wGetNumsPhi wGetNumsSm := (smy_cons (lenP [(0, 1000000)]) wGetF wGet_pure (len_hp [(0, 1000000)]) (fun _ => rfl) (fun _ h => by cases h) smy_nil)
theorem wGetNumsT : treeOk ⟨Tryd.prog, wGetNumsSm, wGetNumsLa, true⟩ 4000 42 [.one (.rows false [.int .u8])] [.one (.rows true [.int .i64]), .one (.pl (.int .i64)), .one (.pl (.int .i64))] ([]) wGetNumsTree = true := by decide +kernel
set_option maxHeartbeats 1000000 in
theorem wGetNums_pure : PureE true Tryd.prog 42 [.one (.rows false [.int .u8])] [.one (.rows true [.int .i64]), .one (.pl (.int .i64)), .one (.pl (.int .i64))] (lenP [(0, 1000000)]) wGetNumsF := by
  refine pure_tree (X := ⟨Tryd.prog, wGetNumsSm, wGetNumsLa, true⟩) (by decide +kernel) (Checked.mixed Tryd.checked) wGetNumsS (by decide +kernel) (by decide +kernel) wGetNumsT (by decide +kernel) ?_
  intro ds hl hp
  obtain ⟨d0, rfl⟩ := len1 hl
  have b0 : (d0.l.length : Int) ≤ 1000000 := hp (0, 1000000) (by simp)
  have hF : wGetNumsF [d0] = wGetNumsE (d0.l.map DV.i) := rfl
  rw [hF]
  clear hF hp hl
  have hN : nrmL (clsOf [.one (.rows false [.int .u8])]) [d0] = [.list ((d0.l.map DV.i).map DV.int)] := by
    simp only [clsOf, Sh.cls, List.append_nil, nrmL, Cl.nrm, map_Li]
  rw [hN]
  clear hN
  rw [← List.length_map (f := DV.i)] at b0
  generalize d0.l.map DV.i = x0 at b0 ⊢
  refine ⟨facts_nil _, ?_⟩
  unfold wGetNumsTree wGetNumsE
  simp only [Sat, clsOf, Sh.cls, List.append_nil, List.cons_append, List.nil_append, nrmL, Cl.nrm, CK.nrm, List.map_cons, List.map_nil, List.length_cons, List.length_nil, true_and]
  try simp only [q_le, q_eq, q_not, iff_true, iff_false, Bool.not_true, Bool.not_false, Bool.false_eq_true, eq_self]
  simp only [SE.den, evU, ev_add, ev_sub, ev_idx, ev_cons, ev_snoc, ev_take, ev_drop, i_int, l_list, envL, List.getElem?_cons_succ, List.getElem?_cons_zero, Option.getD_some, Int.toNat_natCast, Int.toNat_zero, Int.reduceToNat, List.length_map, Int.zero_add, wGetNumsPhi, wGetF, wGetE, gLi, dece_i, Int.sub_zero, List.drop_zero, take_Li, drop_Li, List.take_length, dece_i, nrm_N3]
  unfold getNumsR
  cases hg : getR x0 with
  | none =>
    simp [getD3, getN3, i_int, Option.getD_some, and_true, true_and, eq_self, not_true_eq_false, not_false_eq_true, DV.int.injEq, DV.list.injEq, List.cons.injEq]
    omega
  | some p =>
    obtain ⟨n, k⟩ := p
    obtain ⟨k0, k1⟩ := getR_len hg
    simp only [getD3, i_int, List.getElem?_cons_succ, List.getElem?_cons_zero, Option.getD_some, eq_self, not_true_eq_false]
    refine ⟨by omega, fun h => h.elim, fun _ => ⟨fun h => ?_, fun hn => ⟨fun h => ?_, fun hm => ?_⟩⟩⟩
    · rw [if_pos (by omega)]; rfl
    · rw [if_pos (by omega)]; rfl
    · rw [if_neg (by omega)]
      have hwk : IntKind.i64.wrap (0 + (k : Int)) = k := by rw [w64 (by omega) (by omega)]; omega
      generalize hR : gnR n.toNat (x0.drop k) k [] = R
      refine rounds_inv (fun y => ∃ (out : List Int) (i q : Nat), y = [.list (out.map .int), .int i, .int q] ∧ i ≤ n.toNat ∧ out.length = i ∧ q ≤ x0.length ∧ gnR (n.toNat - i) (x0.drop q) q out = R) (fun y => n.toNat - ((y[1]?).getD (DV.int 0)).i.toNat) ⟨[], 0, k, ?_, by omega, rfl, k1, hR⟩ ?_
      · simp only [and_true, true_and, eq_self, DV.int.injEq, List.cons.injEq, List.map_nil]
        exact ⟨rfl, w64 (by omega) (by omega)⟩
      · rintro y ⟨out, i, q, rfl, h0, h1, h2, h3⟩
        have ht : List.take ((x0.length : Int) - (q : Int)).toNat (List.drop q x0) = x0.drop q := List.take_of_length_le (by rw [List.length_drop]; omega)
        have hwi : IntKind.i64.wrap ((i : Int) + 1) = ((i + 1 : Nat) : Int) := by rw [w64 (by omega) (by omega)]; omega
        simp only [i_int, l_list, List.getElem?_cons_succ, List.getElem?_cons_zero, Option.getD_some, Int.toNat_natCast, List.length_map, rows_i, ht, hwi]
        by_cases hi : i < n.toNat
        · have e1 : ¬ n ≤ (i : Int) := by omega
          obtain ⟨m, hm'⟩ : ∃ m, n.toNat - i = m + 1 := ⟨n.toNat - i - 1, by omega⟩
          have hm2 : n.toNat - (i + 1) = m := by omega
          rw [hm', gnR_succ] at h3
          cases hq : getR (x0.drop q) with
          | none =>
            left
            rw [hq] at h3
            simp only at h3
            rw [← h3]
            simp [e1, getN3, i_int]
            omega
          | some p =>
            obtain ⟨v, w⟩ := p
            rw [hq] at h3
            simp only at h3
            obtain ⟨w0, w1⟩ := getR_len hq
            rw [List.length_drop] at w1
            rw [List.drop_drop] at h3
            right
            refine ⟨[.list ((out ++ [v]).map .int), .int ((i + 1 : Nat) : Int), .int ((q + w : Nat) : Int)], ?_, rfl, ⟨out ++ [v], i + 1, q + w, rfl, by omega, by simp; omega, by omega, by rw [hm2]; exact h3⟩, ?_⟩
            · have hww : IntKind.i64.wrap ((q : Int) + (w : Int)) = ((q + w : Nat) : Int) := by rw [w64 (by omega) (by omega)]; omega
              simp [e1, hww, i_int]
              omega
            · simp only [i_int, List.getElem?_cons_succ, List.getElem?_cons_zero, Option.getD_some, Int.toNat_natCast]; omega
        · left
          have hi' : i = n.toNat := by omega
          have e1 : n ≤ (i : Int) := by omega
          rw [show n.toNat - i = 0 by omega] at h3
          have h3 : some (out, q) = R := h3
          rw [← h3]
          simp [e1, getN3]
end Go.Proofs.YtkfjgggiopegbaaDoor
end
section
namespace Go.Proofs.YtkfjgggiopegbaaDoor
set_option linter.unusedVariables false
set_option linter.unusedSimpArgs false
set_option maxRecDepth 100000
def wValidE (v : Int) (w : List Tii) : List DV := [.bool (validM v w)]
theorem asc_at (p : Int) (w : List Tii) (i : Nat) : ascM p (w.drop i) = if w.length ≤ i then true else (decide (p < (w[i]?.getD dii).1) && ascM (w[i]?.getD dii).1 (w.drop (i + 1))) := by
  by_cases h : w.length ≤ i
  · rw [if_pos h, List.drop_eq_nil_of_le h]; rfl
  · rw [if_neg h, List.drop_eq_getElem_cons (by omega)]
    have e1 : w[i]?.getD dii = w[i] := by rw [List.getElem?_eq_getElem (by omega)]; rfl
    rw [e1]; rfl
def wValidF (ds : List DV) : List DV := wValidE (gi ds 0) (gLii ds 1)
def wValidTree : PT :=
(.loop 2 [(.int (-1)), (.int 0)]
 (.br (.un .not (.bin .le (.un .len (.var 1)) (.var 3)))
  (.asrt (.bin .le (.int 0) (.var 3))
   (.br (.bin .le (.bin .idx (.bin .idx (.var 1) (.bin .add (.int 0) (.var 3))) (.int 0)) (.var 2))
    .fail
    (.leaf [(.bin .idx (.bin .idx (.var 1) (.bin .add (.int 0) (.var 3))) (.int 0)), (.un (.wrap .i64) (.bin .add (.var 3) (.int 1)))])))
  .fail)
 (.br (.un .not (.bin .le (.un .len (.var 1)) (.var 3)))
  (.asrt (.bin .le (.int 0) (.var 3))
   (.br (.bin .le (.bin .idx (.bin .idx (.var 1) (.bin .add (.int 0) (.var 3))) (.int 0)) (.var 2))
    (.leaf [(.bool false)])
    .fail))
  (.br (.bin .le (.int 1) (.var 0))
   (.br (.bin .le (.var 0) (.int 1099511627776))
    (.leaf [(.bin .le (.un .len (.var 1)) (.int 32))])
    (.leaf [(.bool false)]))
   (.leaf [(.bool false)]))))
def wValidSm : List (Nat × Smy) := []
def wValidLa : List (LK × LA) := [(⟨34, 3, 3, 2, 0⟩, ⟨[(3, (.int .i64 (.var 2))), (5, .any), (9, (.int .i64 (.var 3))), (10, .any), (11, .any), (12, .any), (13, .any), (14, .any), (15, .any), (16, .any), (17, .any), (18, .any), (19, .any)], [], [], 2, 0⟩)]
def wValidPhi : Fs := ⟨fun n d => match n with
  | _ => d, 147⟩
theorem wValidS : SmyOk true Tryd.prog wValidPhi wValidSm := smy_nil
theorem wValidT : treeOk ⟨Tryd.prog, wValidSm, wValidLa, true⟩ 4000 48 [.agg [.pl (.int .i64), .rows false [.int .i64, .int .i64]]] [.one (.pl .bool)] ([]) wValidTree = true := by decide +kernel
set_option maxHeartbeats 1000000 in
theorem wValid_pure : PureE true Tryd.prog 48 [.agg [.pl (.int .i64), .rows false [.int .i64, .int .i64]]] [.one (.pl .bool)] (lenP [(1, 1000000)]) wValidF := by
  refine pure_tree (X := ⟨Tryd.prog, wValidSm, wValidLa, true⟩) (by decide +kernel) (Checked.mixed Tryd.checked) wValidS (by decide +kernel) (by decide +kernel) wValidT (by decide +kernel) ?_
  intro ds hl hp
  obtain ⟨d0, d1, rfl⟩ := len2 hl
  have b1 : (d1.l.length : Int) ≤ 1000000 := hp (1, 1000000) (by simp)
  have hF : wValidF [d0, d1] = wValidE d0.i (d1.l.map decii) := rfl
  rw [hF]
  clear hF hp hl
  have hN : nrmL (clsOf [.agg [.pl (.int .i64), .rows false [.int .i64, .int .i64]]]) [d0, d1] = [.int d0.i, .list ((d1.l.map decii).map encii)] := by
    simp only [clsOf, Sh.cls, List.append_nil, nrmL, Cl.nrm, CK.nrm, map_Lii]
  rw [hN]
  clear hN
  generalize d0.i = x0
  rw [← List.length_map (f := decii)] at b1
  generalize d1.l.map decii = x1 at b1 ⊢
  refine ⟨facts_nil _, ?_⟩
  unfold wValidTree wValidE
  simp only [Sat, clsOf, Sh.cls, List.append_nil, List.cons_append, List.nil_append, nrmL, Cl.nrm, CK.nrm, List.map_cons, List.map_nil, List.length_cons, List.length_nil, List.cons.injEq, DV.bool.injEq, and_true, true_and]
  simp only [q_le, q_not, q_bool, iff_true, iff_false, Bool.not_true, Bool.not_false, Bool.false_eq_true, eq_self]
  simp only [SE.den, evU, ev_add, ev_idx, i_int, b_bool, l_list, envL, List.getElem?_cons_succ, List.getElem?_cons_zero, Option.getD_some, Int.toNat_zero, List.length_map, Int.zero_add, f_ii_0, wValidPhi]
  refine rounds_inv (fun y => ∃ (i : Nat) (p : Int), y = [.int p, .int i] ∧ i ≤ x1.length ∧ ascM (-1) x1 = ascM p (x1.drop i)) (fun y => x1.length - ((y[1]?).getD (DV.int 0)).i.toNat) ⟨0, -1, rfl, Nat.zero_le _, by rw [List.drop_zero]⟩ ?_
  rintro y ⟨i, p, rfl, hi, hall⟩
  rw [asc_at] at hall
  have e1 : IntKind.i64.wrap ((i : Int) + 1) = ((i + 1 : Nat) : Int) := by rw [w64 (by omega) (by omega)]; omega
  simp only [i_int, List.getElem?_cons_succ, List.getElem?_cons_zero, Option.getD_some, Int.toNat_natCast, e1, raw_ii_0]
  by_cases h1 : x1.length ≤ i
  · left
    rw [if_pos h1] at hall
    have h1' : (x1.length : Int) ≤ i := by omega
    unfold validM
    rw [hall]
    rw [Bool.true_and]
    by_cases a1 : 1 ≤ x0
    · by_cases a2 : x0 ≤ 1099511627776
      · simp [h1', a1, a2]
        try omega
      · simp [h1', a1, a2]
    · simp [h1', a1]
  · rw [if_neg h1] at hall
    have h1' : ¬ (x1.length : Int) ≤ i := by omega
    by_cases h2 : (x1[i]?.getD dii).1 ≤ p
    · left
      have : ascM (-1) x1 = false := by rw [hall]; simp; omega
      unfold validM
      rw [this]
      simp [h1', h2]
    · right
      have h2' : p < (x1[i]?.getD dii).1 := by omega
      rw [decide_eq_true h2', Bool.true_and] at hall
      refine ⟨[.int (x1[i]?.getD dii).1, .int ((i + 1 : Nat) : Int)], ?_, rfl, ⟨i + 1, _, rfl, by omega, hall⟩, ?_⟩
      · simp [h1', h2]
      · simp only [i_int, List.getElem?_cons_succ, List.getElem?_cons_zero, Option.getD_some, Int.toNat_natCast]; omega
end Go.Proofs.YtkfjgggiopegbaaDoor
end
section
namespace Go.Proofs.YtkfjgggiopegbaaDoor
set_option linter.unusedVariables false
set_option linter.unusedSimpArgs false
set_option maxRecDepth 100000
def wEntryE (l : List Int) : List DV := [.int (entryM l).1.1, .list ((entryM l).1.2.map encii), .bool (entryM l).2]
def wEntryF (ds : List DV) : List DV := wEntryE (gLi ds 0)
def wEntryTree : PT :=
(.br (.bin .eq (.bin .tmod (.un .len (.var 0)) (.int 2)) (.int 0))
 (.leaf [(.int 0), .nil, (.bool false)])
 (.asrt (.un .not (.bin .le (.un .len (.var 0)) (.int 0)))
  (.loop 1 [(.bin .take (.bin .drop (.var 0) (.int 1)) (.bin .sub (.un .len (.var 0)) (.int 1))), .nil]
   (.br (.un .not (.bin .le (.un .len (.var 1)) (.int 0)))
    (.asrt (.un .not (.bin .le (.un .len (.var 1)) (.int 1)))
     (.asrt (.bin .le (.bin .add (.un .len (.var 2)) (.int 1)) (.int 4294967296))
      (.leaf [(.bin .take (.bin .drop (.var 1) (.int 2)) (.bin .sub (.un .len (.var 1)) (.int 2))), (.bin .snoc (.var 2) (.bin .cons (.bin .idx (.var 1) (.int 0)) (.bin .cons (.bin .idx (.var 1) (.int 1)) .nil)))])))
    .fail)
   (.br (.un .not (.bin .le (.un .len (.var 1)) (.int 0)))
    (.asrt (.un .not (.bin .le (.un .len (.var 1)) (.int 1)))
     (.asrt (.bin .le (.bin .add (.un .len (.var 2)) (.int 1)) (.int 4294967296))
      .fail))
    (.asrt (.bin .le (.un .len (.var 2)) (.int 1000000))
     (.leaf [(.bin .idx (.var 0) (.int 0)), (.var 2), (.bin .idx (.fn 98 (.bin .cons (.bin .idx (.var 0) (.int 0)) (.bin .cons (.var 2) .nil))) (.int 0))]))))))
def wEntrySm : List (Nat × Smy) := [(48, ⟨98, [.agg [.pl (.int .i64), .rows false [.int .i64, .int .i64]]], [.one (.pl .bool)], lenC [(1, 1000000)], none⟩)]
def wEntryLa : List (LK × LA) := [(⟨36, 5, 3, 1, 2⟩, ⟨[(0, (.sl 3 1 (.int 0) (.un .len (.var 1)) none)), (16, .any), (17, .any), (18, .any), (19, .any), (20, .any), (21, .any), (22, .any), (23, .any), (24, .any), (25, .any), (26, .any), (27, .any), (28, .any), (29, .any), (30, .any), (31, .any), (32, .any)], [(2, (.cells [(.int .i64 (.bin .idx (.var 0) (.int 0))), (.sl 4 2 (.int 0) (.un .len (.var 2)) none)])), (3, (.ro [.int .i64] (.var 1))), (4, (.rows [.int .i64, .int .i64] (.var 2)))], [], 2, 2⟩)]
def wEntryPhi : Fs := ⟨fun n d => match n with
  | 98 => .list (wValidF d.l)
  | _ => d, 147⟩
theorem wEntryS : SmyOk true Tryd.prog wEntryPhi wEntrySm := (smy_cons (lenP [(1, 1000000)]) wValidF wValid_pure (len_hp [(1, 1000000)]) (fun _ => rfl) (fun _ h => by cases h) smy_nil)
theorem wEntryT : treeOk ⟨Tryd.prog, wEntrySm, wEntryLa, true⟩ 4000 43 [.one (.rows false [.int .i64])] [.agg [.pl (.int .i64), .rows true [.int .i64, .int .i64]], .one (.pl .bool)] ([]) wEntryTree = true := by decide +kernel
set_option maxHeartbeats 1000000 in
theorem wEntry_pure : PureE true Tryd.prog 43 [.one (.rows false [.int .i64])] [.agg [.pl (.int .i64), .rows true [.int .i64, .int .i64]], .one (.pl .bool)] (lenP [(0, 1000000)]) wEntryF := by
  refine pure_tree (X := ⟨Tryd.prog, wEntrySm, wEntryLa, true⟩) (by decide +kernel) (Checked.mixed Tryd.checked) wEntryS (by decide +kernel) (by decide +kernel) wEntryT (by decide +kernel) ?_
  intro ds hl hp
  obtain ⟨d0, rfl⟩ := len1 hl
  have b0 : (d0.l.length : Int) ≤ 1000000 := hp (0, 1000000) (by simp)
  have hF : wEntryF [d0] = wEntryE (d0.l.map DV.i) := rfl
  rw [hF]
  clear hF hp hl
  have hN : nrmL (clsOf [.one (.rows false [.int .i64])]) [d0] = [.list ((d0.l.map DV.i).map DV.int)] := by
    simp only [clsOf, Sh.cls, List.append_nil, nrmL, Cl.nrm, map_Li]
  rw [hN]
  clear hN
  rw [← List.length_map (f := DV.i)] at b0
  generalize d0.l.map DV.i = x0 at b0 ⊢
  refine ⟨facts_nil _, ?_⟩
  unfold wEntryTree wEntryE
  simp only [Sat, clsOf, Sh.cls, List.append_nil, List.cons_append, List.nil_append, nrmL, Cl.nrm, CK.nrm, List.map_cons, List.map_nil, List.length_cons, List.length_nil, List.cons.injEq, DV.bool.injEq, DV.int.injEq, DV.list.injEq, and_true, true_and]
  simp only [q_le, q_eq, q_not, q_bool, iff_true, iff_false, Bool.not_true, Bool.not_false, Bool.false_eq_true, eq_self]
  simp only [SE.den, evU, ev_add, ev_sub, ev_tmod, ev_idx, ev_cons, ev_snoc, ev_take, ev_drop, i_int, b_bool, l_list, envL, List.getElem?_cons_succ, List.getElem?_cons_zero, Option.getD_some, Int.toNat_zero, Int.reduceToNat, List.length_map, get_Li, rows_ii, rows_ii, wEntryPhi, wValidF, wValidE, gi, gLii]
  have hm : ((x0.length : Int)).tmod 2 = ((x0.length % 2 : Nat) : Int) := by rw [Int.tmod_eq_emod_of_nonneg (by omega)]; omega
  simp only [hm]
  refine ⟨fun h => ?_, fun h => ?_⟩
  · have h' : x0.length % 2 = 0 := by omega
    unfold entryM
    rw [if_pos h']
    simp
  · have h' : ¬ x0.length % 2 = 0 := by omega
    unfold entryM
    rw [if_neg h']
    refine ⟨by omega, ?_⟩
    have hd : List.take ((x0.length : Int) - 1).toNat (List.drop 1 x0) = x0.drop 1 := List.take_of_length_le (by rw [List.length_drop]; omega)
    refine rounds_inv (fun y => ∃ (l : List Int) (acc : List Tii), y = [.list (l.map .int), .list (acc.map encii)] ∧ l.length % 2 = 0 ∧ 2 * acc.length + l.length + 1 = x0.length ∧ acc ++ pairsM l = pairsM (x0.drop 1)) (fun y => ((y[0]?).getD (DV.int 0)).l.length) ⟨x0.drop 1, [], ?_, by rw [List.length_drop]; omega, by rw [List.length_drop, List.length_nil]; omega, rfl⟩ ?_
    · simp only [eq_self, take_Li, drop_Li, hd, List.map_nil]
    · rintro y ⟨l, acc, rfl, hl, hal, hall⟩
      simp only [l_list, List.getElem?_cons_succ, List.getElem?_cons_zero, Option.getD_some, List.length_map, true_and, eq_self, rows_ii, inj_Lii, rows_ii, inj_Lii, take_Li, drop_Li, deces_ii, deces_ii]
      match l, hl, hall with
      | [], _, hall =>
        left
        rw [pairsM, List.append_nil] at hall
        · rw [← hall]
          have hac : (acc.length : Int) ≤ 1000000 := by omega
          simp [hac]
        · intro a b l e; cases e
      | [a], hl, _ => simp at hl
      | a :: b :: l, hl, hall =>
        right
        refine ⟨[.list (l.map .int), .list ((acc ++ [(a, b)]).map encii)], ?_, rfl, ⟨l, acc ++ [(a, b)], rfl, by simp only [List.length_cons] at hl; omega, by simp only [List.length_append, List.length_cons, List.length_nil] at hal ⊢; omega, by rw [List.append_assoc]; exact hall⟩, ?_⟩
        · have hac : (acc.length : Int) + 1 ≤ 4294967296 := by omega
          have ht : List.take (((l.length : Int) + 1 + 1) - 2).toNat (l.map DV.int) = l.map DV.int := List.take_of_length_le (by rw [List.length_map]; omega)
          simp [hac, encii, ht]
          omega
        · simp only [l_list, List.getElem?_cons_zero, Option.getD_some, List.length_map, List.length_cons]; omega
end Go.Proofs.YtkfjgggiopegbaaDoor
end
section
namespace Go.Proofs.YtkfjgggiopegbaaDoor
set_option linter.unusedVariables false
set_option linter.unusedSimpArgs false
set_option maxRecDepth 100000
def trimL (s : List UInt8) (c : Int) : List UInt8 := s.dropWhile fun x => decide ((x.toNat : Int) = c)
def wTrimLE (s : List UInt8) (c : Int) : List DV := [.str (trimL s c)]
def wTrimLF (ds : List DV) : List DV := wTrimLE (gs ds 0) (gi ds 1)
def wTrimLTree : PT :=
(.loop 2 [(.var 0)]
 (.br (.un .not (.bin .le (.un .slen (.var 2)) (.int 0)))
  (.br (.bin .eq (.bin .byte (.var 2) (.int 0)) (.var 1))
   (.leaf [(.bin .sdrop (.bin .stake (.var 2) (.un .slen (.var 2))) (.int 1))])
   .fail)
  .fail)
 (.br (.un .not (.bin .le (.un .slen (.var 2)) (.int 0)))
  (.br (.bin .eq (.bin .byte (.var 2) (.int 0)) (.var 1))
   .fail
   (.leaf [(.var 2)]))
  (.leaf [(.var 2)])))
def wTrimLSm : List (Nat × Smy) := []
def wTrimLLa : List (LK × LA) := [(⟨17, 1, 2, 2, 0⟩, ⟨[(0, (.str (.var 2))), (5, .any), (6, .any), (7, .any), (8, .any), (9, .any), (10, .any), (11, .any), (12, .any), (13, .any), (14, .any), (15, .any)], [], [], 1, 0⟩)]
def wTrimLPhi : Fs := ⟨fun n d => match n with
  | _ => d, 147⟩
theorem wTrimLS : SmyOk true Tryd.prog wTrimLPhi wTrimLSm := smy_nil
theorem wTrimLT : treeOk ⟨Tryd.prog, wTrimLSm, wTrimLLa, true⟩ 4000 76 [.one (.pl .str), .one (.pl (.int .u8))] [.one (.pl .str)] ([]) wTrimLTree = true := by decide +kernel
set_option maxHeartbeats 1000000 in
theorem wTrimL_pure : PureE true Tryd.prog 76 [.one (.pl .str), .one (.pl (.int .u8))] [.one (.pl .str)] (fun ds => (fun _ => True) ds ∧ slenP [(0, 0, 1000000)] ds) wTrimLF := by
  refine pure_tree (X := ⟨Tryd.prog, wTrimLSm, wTrimLLa, true⟩) (by decide +kernel) (Checked.mixed Tryd.checked) wTrimLS (by decide +kernel) (by decide +kernel) wTrimLT (by decide +kernel) ?_
  intro ds hl hp
  obtain ⟨d0, d1, rfl⟩ := len2 hl
  have l0 : 0 ≤ (d0.s.length : Int) ∧ (d0.s.length : Int) ≤ 1000000 := hp.2 (0, 0, 1000000) (by simp)
  have hF : wTrimLF [d0, d1] = wTrimLE d0.s d1.i := rfl
  rw [hF]
  clear hF hp hl
  have hN : nrmL (clsOf [.one (.pl .str), .one (.pl (.int .u8))]) [d0, d1] = [.str d0.s, .int d1.i] := by
    simp only [clsOf, Sh.cls, List.append_nil, List.cons_append, List.nil_append, nrmL, Cl.nrm, CK.nrm]
  rw [hN]
  clear hN
  generalize d0.s = x0 at l0 ⊢
  generalize d1.i = x1
  refine ⟨facts_nil _, ?_⟩
  unfold wTrimLTree wTrimLE
  simp only [Sat, clsOf, Sh.cls, List.append_nil, List.cons_append, List.nil_append, nrmL, Cl.nrm, CK.nrm, List.map_cons, List.map_nil, List.length_cons, List.length_nil, List.cons.injEq, DV.str.injEq, and_true, true_and]
  simp only [q_le, q_eq, q_not, iff_true, iff_false, Bool.not_true, Bool.not_false, Bool.false_eq_true, eq_self]
  simp only [SE.den, evU, ev_byte, ev_stake, ev_sdrop, i_int, s_str, envL, List.getElem?_cons_succ, List.getElem?_cons_zero, Option.getD_some, Int.toNat_natCast, Int.toNat_zero, Int.reduceToNat, wTrimLPhi]
  refine rounds_inv (fun y => ∃ s : List UInt8, y = [.str s] ∧ trimL s x1 = trimL x0 x1) (fun y => ((y[0]?).getD (DV.int 0)).s.length) ⟨x0, rfl, rfl⟩ ?_
  rintro y ⟨s, rfl, hall⟩
  simp only [s_str, List.getElem?_cons_zero, Option.getD_some]
  cases s with
  | nil => left; rw [← hall]; simp [trimL]
  | cons c s =>
    have hl : ¬ (((c :: s).length : Int)) ≤ 0 := by simp only [List.length_cons]; omega
    by_cases hc : (c.toNat : Int) = x1
    · right
      refine ⟨[.str s], ?_, rfl, ⟨s, rfl, ?_⟩, ?_⟩
      · simp [hc]
      · rw [← hall]; unfold trimL; rw [List.dropWhile_cons, if_pos (by simpa using hc)]
      · simp only [s_str, List.getElem?_cons_zero, Option.getD_some, List.length_cons]; omega
    · left
      rw [← hall]
      unfold trimL
      rw [List.dropWhile_cons, if_neg (by simpa using hc)]
      simp [hc]
      try omega
end Go.Proofs.YtkfjgggiopegbaaDoor
end
section
namespace Go.Proofs.YtkfjgggiopegbaaDoor
set_option linter.unusedVariables false
set_option linter.unusedSimpArgs false
set_option maxRecDepth 100000
def trimR (s : List UInt8) (c : Int) : List UInt8 := (s.reverse.dropWhile fun x => decide ((x.toNat : Int) = c)).reverse
def wTrimRE (s : List UInt8) (c : Int) : List DV := [.str (trimR s c)]
theorem trimR_snoc (s : List UInt8) (x : UInt8) (c : Int) : trimR (s ++ [x]) c = if (x.toNat : Int) = c then trimR s c else s ++ [x] := by
  unfold trimR
  rw [List.reverse_append, List.reverse_singleton, List.singleton_append, List.dropWhile_cons]
  by_cases h : (x.toNat : Int) = c
  · rw [if_pos h, if_pos (by simpa using h)]
  · rw [if_neg h, if_neg (by simpa using h)]; simp
def wTrimRF (ds : List DV) : List DV := wTrimRE (gs ds 0) (gi ds 1)
def wTrimRTree : PT :=
(.loop 2 [(.var 0)]
 (.br (.un .not (.bin .le (.un .slen (.var 2)) (.int 0)))
  (.asrt (.bin .le (.int 0) (.un (.wrap .i64) (.bin .sub (.un .slen (.var 2)) (.int 1))))
   (.asrt (.un .not (.bin .le (.un .slen (.var 2)) (.un (.wrap .i64) (.bin .sub (.un .slen (.var 2)) (.int 1)))))
    (.br (.bin .eq (.bin .byte (.var 2) (.un (.wrap .i64) (.bin .sub (.un .slen (.var 2)) (.int 1)))) (.var 1))
     (.leaf [(.bin .sdrop (.bin .stake (.var 2) (.un (.wrap .i64) (.bin .sub (.un .slen (.var 2)) (.int 1)))) (.int 0))])
     .fail)))
  .fail)
 (.br (.un .not (.bin .le (.un .slen (.var 2)) (.int 0)))
  (.asrt (.bin .le (.int 0) (.un (.wrap .i64) (.bin .sub (.un .slen (.var 2)) (.int 1))))
   (.asrt (.un .not (.bin .le (.un .slen (.var 2)) (.un (.wrap .i64) (.bin .sub (.un .slen (.var 2)) (.int 1)))))
    (.br (.bin .eq (.bin .byte (.var 2) (.un (.wrap .i64) (.bin .sub (.un .slen (.var 2)) (.int 1)))) (.var 1))
     .fail
     (.leaf [(.var 2)]))))
  (.leaf [(.var 2)])))
def wTrimRSm : List (Nat × Smy) := []
def wTrimRLa : List (LK × LA) := [(⟨23, 1, 2, 2, 0⟩, ⟨[(0, (.str (.var 2))), (5, .any), (6, .any), (7, .any), (8, .any), (9, .any), (10, .any), (11, .any), (12, .any), (13, .any), (14, .any), (15, .any), (16, .any), (17, .any), (18, .any), (19, .any), (20, .any), (21, .any)], [], [], 1, 0⟩)]
def wTrimRPhi : Fs := ⟨fun n d => match n with
  | _ => d, 147⟩
theorem wTrimRS : SmyOk true Tryd.prog wTrimRPhi wTrimRSm := smy_nil
theorem wTrimRT : treeOk ⟨Tryd.prog, wTrimRSm, wTrimRLa, true⟩ 4000 77 [.one (.pl .str), .one (.pl (.int .u8))] [.one (.pl .str)] ([]) wTrimRTree = true := by decide +kernel
set_option maxHeartbeats 1000000 in
theorem wTrimR_pure : PureE true Tryd.prog 77 [.one (.pl .str), .one (.pl (.int .u8))] [.one (.pl .str)] (fun ds => (fun _ => True) ds ∧ slenP [(0, 0, 1000000)] ds) wTrimRF := by
  refine pure_tree (X := ⟨Tryd.prog, wTrimRSm, wTrimRLa, true⟩) (by decide +kernel) (Checked.mixed Tryd.checked) wTrimRS (by decide +kernel) (by decide +kernel) wTrimRT (by decide +kernel) ?_
  intro ds hl hp
  obtain ⟨d0, d1, rfl⟩ := len2 hl
  have l0 : 0 ≤ (d0.s.length : Int) ∧ (d0.s.length : Int) ≤ 1000000 := hp.2 (0, 0, 1000000) (by simp)
  have hF : wTrimRF [d0, d1] = wTrimRE d0.s d1.i := rfl
  rw [hF]
  clear hF hp hl
  have hN : nrmL (clsOf [.one (.pl .str), .one (.pl (.int .u8))]) [d0, d1] = [.str d0.s, .int d1.i] := by
    simp only [clsOf, Sh.cls, List.append_nil, List.cons_append, List.nil_append, nrmL, Cl.nrm, CK.nrm]
  rw [hN]
  clear hN
  generalize d0.s = x0 at l0 ⊢
  generalize d1.i = x1
  refine ⟨facts_nil _, ?_⟩
  unfold wTrimRTree wTrimRE
  simp only [Sat, clsOf, Sh.cls, List.append_nil, List.cons_append, List.nil_append, nrmL, Cl.nrm, CK.nrm, List.map_cons, List.map_nil, List.length_cons, List.length_nil, List.cons.injEq, DV.str.injEq, and_true, true_and]
  simp only [q_le, q_eq, q_not, iff_true, iff_false, Bool.not_true, Bool.not_false, Bool.false_eq_true, eq_self]
  simp only [SE.den, evU, ev_sub, ev_byte, ev_stake, ev_sdrop, i_int, s_str, envL, List.getElem?_cons_succ, List.getElem?_cons_zero, Option.getD_some, Int.toNat_zero, wTrimRPhi]
  refine rounds_inv (fun y => ∃ s : List UInt8, y = [.str s] ∧ s.length ≤ x0.length ∧ trimR s x1 = trimR x0 x1) (fun y => ((y[0]?).getD (DV.int 0)).s.length) ⟨x0, rfl, Nat.le_refl _, rfl⟩ ?_
  rintro y ⟨s, rfl, hs, hall⟩
  simp only [s_str, List.getElem?_cons_zero, Option.getD_some]
  rcases List.eq_nil_or_concat s with rfl | ⟨s, c, rfl⟩
  · left; rw [← hall]; simp [trimR]
  · rw [List.concat_eq_append] at hall hs ⊢
    have hw : IntKind.i64.wrap (((s ++ [c]).length : Int) - 1) = s.length := by
      have : (s ++ [c]).length = s.length + 1 := by simp
      rw [this] at hs ⊢
      rw [w64 (by omega) (by omega)]; omega
    have hl : ¬ (((s ++ [c]).length : Int)) ≤ 0 := by simp only [List.length_append, List.length_cons, List.length_nil]; omega
    have hl2 : ¬ (((s ++ [c]).length : Int)) ≤ s.length := by simp only [List.length_append, List.length_cons, List.length_nil]; omega
    have hg : (s ++ [c])[s.length]?.getD 0 = c := by simp
    rw [trimR_snoc] at hall
    simp only [hw, Int.toNat_natCast, hg, hl, hl2]
    by_cases hc : (c.toNat : Int) = x1
    · right
      rw [if_pos hc] at hall
      refine ⟨[.str s], ?_, rfl, ⟨s, rfl, by simp only [List.length_append] at hs; omega, hall⟩, ?_⟩
      · simp [hc]
      · simp only [s_str, List.getElem?_cons_zero, Option.getD_some, List.length_append, List.length_cons, List.length_nil]; omega
    · left
      rw [if_neg hc] at hall
      rw [← hall]
      simp [hc]
end Go.Proofs.YtkfjgggiopegbaaDoor
end
section
namespace Go.Proofs.YtkfjgggiopegbaaDoor
set_option linter.unusedVariables false
set_option linter.unusedSimpArgs false
set_option maxRecDepth 100000
def parse4 : Option ((Int × List Tii) × Nat) → List DV
  | none => [.int 0, .list [], .int 0, .int 11]
  | some r => [.int r.1.1, .list (r.1.2.map encii), .int r.2, .int 0]
def wParseE (l : List (List UInt8)) (a : Int) : List DV := parse4 (parseM l a)
theorem gnR_len : ∀ (m : Nat) (b : List Int) (a : Nat) (acc l : List Int) (u : Nat), gnR m b a acc = some (l, u) → l.length = acc.length + m ∧ u ≤ a + b.length
  | 0, b, a, acc, l, u, h => by cases h; exact ⟨rfl, by omega⟩
  | m + 1, b, a, acc, l, u, h => by
    rw [gnR_succ] at h
    cases hg : getR b with
    | none => rw [hg] at h; cases h
    | some p =>
      rw [hg] at h
      obtain ⟨n, k⟩ := p
      obtain ⟨k0, k1⟩ := getR_len hg
      have := gnR_len m _ _ _ _ _ h
      simp only [List.length_append, List.length_cons, List.length_nil, List.length_drop] at this
      omega
theorem getNumsR_len {b l : List Int} {u : Nat} (h : getNumsR b = some (l, u)) : l.length ≤ b.length ∧ u ≤ b.length := by
  unfold getNumsR at h
  cases hg : getR b with
  | none => rw [hg] at h; cases h
  | some p =>
    rw [hg] at h
    obtain ⟨n, k⟩ := p
    obtain ⟨k0, k1⟩ := getR_len hg
    simp only at h
    split at h
    · cases h
    · have := gnR_len _ _ _ _ _ _ h
      simp only [List.length_drop, List.length_nil] at this
      omega
theorem trimL_zero : ∀ z : List UInt8, (∀ x ∈ trimL z 0, x = 0) → ∀ x ∈ z, x = 0
  | [], _ => by intro x hx; cases hx
  | c :: z, h => by
    unfold trimL at h
    rw [List.dropWhile_cons] at h
    split at h
    · rename_i hc
      have hc' : c = 0 := by
        simp only [decide_eq_true_eq] at hc
        exact UInt8.toNat_inj.1 (by rw [show (0 : UInt8).toNat = 0 from rfl]; omega)
      intro x hx
      rcases List.mem_cons.1 hx with e | e
      · rw [e, hc']
      · exact trimL_zero z h x e
    · exact h
theorem dw_nil {p : UInt8 → Bool} : ∀ {s : List UInt8}, s.dropWhile p = [] ↔ ∀ x ∈ s, p x = true
  | [] => by simp
  | c :: s => by
    rw [List.dropWhile_cons]
    by_cases h : p c = true
    · rw [if_pos h, dw_nil (s := s)]; simp [h]
    · rw [if_neg h]; simp [h]
theorem trims_zero (z : List UInt8) : trimL (trimR z 0) 0 = [] ↔ zerosM z = true := by
  have hL : ∀ s : List UInt8, trimL s 0 = [] ↔ ∀ x ∈ s, x = 0 := fun s => by
    unfold trimL
    rw [dw_nil]
    refine ⟨fun h x hx => ?_, fun h x hx => ?_⟩
    · have := h x hx
      simp only [decide_eq_true_eq] at this
      exact UInt8.toNat_inj.1 (by rw [show (0 : UInt8).toNat = 0 from rfl]; omega)
    · rw [h x hx]; rfl
  rw [hL]
  unfold zerosM
  rw [List.all_eq_true]
  refine ⟨fun h x hx => ?_, fun h x hx => ?_⟩
  · have := trimL_zero z.reverse (fun y hy => h y (List.mem_reverse.2 hy)) x (List.mem_reverse.2 hx)
    simp [this]
  · have := h x (List.mem_reverse.1 ((List.dropWhile_sublist _).mem (List.mem_reverse.1 hx)))
    simpa using this
theorem trimR_le (z : List UInt8) (c : Int) : (trimR z c).length ≤ z.length := by
  unfold trimR
  rw [List.length_reverse]
  have := (List.dropWhile_sublist (fun x : UInt8 => decide ((x.toNat : Int) = c)) (l := z.reverse)).length_le
  rwa [List.length_reverse] at this
theorem nrm_P4 (o : Option ((Int × List Tii) × Nat)) : nrmL [Cl.pl (CK.int IntKind.i64), Cl.rows true [CK.int IntKind.i64, CK.int IntKind.i64], Cl.pl (CK.int IntKind.i64), Cl.pl (CK.int IntKind.i64)] (parse4 o) = parse4 o := by
  cases o with
  | none => rfl
  | some p => simp only [parse4, nrmL, Cl.nrm, CK.nrm, l_list, i_int, rows_ii]
theorem load_step (n : Nat) (l : List (List UInt8)) (i : Nat) (h : i < l.length) : loadM (n + 1) (l.drop i) = if okS n (l[i]?.getD []) = true then (loadM n (l.drop (i + 1))).map ((((l[i]?.getD []).take 28).drop 1) ++ ·) else none := by
  rw [List.drop_eq_getElem_cons h, List.getElem?_eq_getElem h]
  rfl
def goM (M : Nat) (x : List (List UInt8)) (a i : Nat) (acc : List UInt8) : Option ((Int × List Tii) × Nat) := match (loadM (M - i) (x.drop (a + i))).map (acc ++ ·) with
  | none => none
  | some b => (finM b).map (·, M)
theorem go_step {M : Nat} {x : List (List UInt8)} {a i : Nat} {acc : List UInt8} (hi : i < M) (h : a + i < x.length) : goM M x a i acc = if okS (M - 1 - i) (x[a + i]?.getD []) = true then goM M x a (i + 1) (acc ++ ((x[a + i]?.getD []).take 28).drop 1) else none := by
  unfold goM
  rw [show M - i = (M - 1 - i) + 1 by omega, load_step _ _ _ h, show M - (i + 1) = M - 1 - i by omega, show a + (i + 1) = a + i + 1 by omega]
  by_cases hk : okS (M - 1 - i) (x[a + i]?.getD []) = true
  · rw [if_pos hk, if_pos hk]
    cases loadM (M - 1 - i) (x.drop (a + i + 1)) with
    | none => rfl
    | some b => simp only [Option.map_some, List.append_assoc]
  · rw [if_neg hk, if_neg hk]
    rfl
theorem go_end {M : Nat} {x : List (List UInt8)} {a : Nat} {acc : List UInt8} : goM M x a M acc = (finM acc).map (·, M) := by
  unfold goM
  rw [Nat.sub_self]
  simp only [loadM, Option.map_some, List.append_nil]
def wParseF (ds : List DV) : List DV := wParseE (gLs ds 0) (gi ds 1)
def wParseTree : PT :=
(.br (.un .not (.bin .le (.int 0) (.var 1)))
 (.leaf [(.int 0), .nil, (.int 0), (.int 11)])
 (.br (.bin .le (.un .len (.var 0)) (.var 1))
  (.leaf [(.int 0), .nil, (.int 0), (.int 11)])
  (.br (.un .not (.bin .eq (.un .slen (.bin .idx (.var 0) (.bin .add (.int 0) (.var 1)))) (.int 32)))
   (.leaf [(.int 0), .nil, (.int 0), (.int 11)])
   (.br (.un .not (.bin .le (.un (.wrap .i64) (.bin .add (.un (.wrap .i64) (.bin .byte (.bin .idx (.var 0) (.bin .add (.int 0) (.var 1))) (.int 0))) (.int 1))) (.un (.wrap .i64) (.bin .sub (.un .len (.var 0)) (.var 1)))))
    (.leaf [(.int 0), .nil, (.int 0), (.int 11)])
    (.asrt (.bin .le (.int 0) (.un (.wrap .i64) (.bin .add (.var 1) (.un (.wrap .i64) (.bin .add (.un (.wrap .i64) (.bin .byte (.bin .idx (.var 0) (.bin .add (.int 0) (.var 1))) (.int 0))) (.int 1))))))
     (.asrt (.bin .le (.un (.wrap .i64) (.bin .add (.var 1) (.un (.wrap .i64) (.bin .add (.un (.wrap .i64) (.bin .byte (.bin .idx (.var 0) (.bin .add (.int 0) (.var 1))) (.int 0))) (.int 1))))) (.un .len (.var 0)))
      (.asrt (.bin .le (.var 1) (.un (.wrap .i64) (.bin .add (.var 1) (.un (.wrap .i64) (.bin .add (.un (.wrap .i64) (.bin .byte (.bin .idx (.var 0) (.bin .add (.int 0) (.var 1))) (.int 0))) (.int 1))))))
       (.loop 2 [(.str []), (.int 0)]
        (.br (.un .not (.bin .le (.bin .sub (.un (.wrap .i64) (.bin .add (.var 1) (.un (.wrap .i64) (.bin .add (.un (.wrap .i64) (.bin .byte (.bin .idx (.var 0) (.bin .add (.int 0) (.var 1))) (.int 0))) (.int 1))))) (.var 1)) (.var 3)))
         (.asrt (.bin .le (.int 0) (.var 3))
          (.asrt (.un .not (.bin .le (.un .len (.var 0)) (.bin .add (.bin .add (.int 0) (.var 1)) (.var 3))))
           (.br (.un .not (.bin .eq (.un .slen (.bin .idx (.var 0) (.bin .add (.bin .add (.int 0) (.var 1)) (.var 3)))) (.int 32)))
            .fail
            (.asrt (.bin .le (.int 27) (.un .slen (.bin .sdrop (.bin .stake (.bin .idx (.var 0) (.bin .add (.bin .add (.int 0) (.var 1)) (.var 3))) (.int 28)) (.int 1))))
             (.asrt (.bin .le (.un .slen (.bin .sdrop (.bin .stake (.bin .idx (.var 0) (.bin .add (.bin .add (.int 0) (.var 1)) (.var 3))) (.int 28)) (.int 1))) (.int 27))
              (.br (.un .not (.bin .eqs (.bin .idx (.var 0) (.bin .add (.bin .add (.int 0) (.var 1)) (.var 3))) (.bin .idx (.fn 97 (.bin .cons (.un (.wrap .i64) (.bin .sub (.un (.wrap .i64) (.bin .sub (.un (.wrap .i64) (.bin .add (.un (.wrap .i64) (.bin .byte (.bin .idx (.var 0) (.bin .add (.int 0) (.var 1))) (.int 0))) (.int 1))) (.int 1))) (.var 3))) (.bin .cons (.bin .sdrop (.bin .stake (.bin .idx (.var 0) (.bin .add (.bin .add (.int 0) (.var 1)) (.var 3))) (.int 28)) (.int 1)) .nil))) (.int 0))))
               .fail
               (.asrt (.bin .le (.bin .add (.un .slen (.var 2)) (.un .slen (.bin .sdrop (.bin .stake (.bin .idx (.var 0) (.bin .add (.bin .add (.int 0) (.var 1)) (.var 3))) (.int 28)) (.int 1)))) (.int 9223372036854775807))
                (.leaf [(.bin .cat (.var 2) (.bin .sdrop (.bin .stake (.bin .idx (.var 0) (.bin .add (.bin .add (.int 0) (.var 1)) (.var 3))) (.int 28)) (.int 1))), (.un (.wrap .i64) (.bin .add (.var 3) (.int 1)))]))))))))
         .fail)
        (.br (.un .not (.bin .le (.bin .sub (.un (.wrap .i64) (.bin .add (.var 1) (.un (.wrap .i64) (.bin .add (.un (.wrap .i64) (.bin .byte (.bin .idx (.var 0) (.bin .add (.int 0) (.var 1))) (.int 0))) (.int 1))))) (.var 1)) (.var 3)))
         (.asrt (.bin .le (.int 0) (.var 3))
          (.asrt (.un .not (.bin .le (.un .len (.var 0)) (.bin .add (.bin .add (.int 0) (.var 1)) (.var 3))))
           (.br (.un .not (.bin .eq (.un .slen (.bin .idx (.var 0) (.bin .add (.bin .add (.int 0) (.var 1)) (.var 3)))) (.int 32)))
            (.leaf [(.int 0), .nil, (.int 0), (.int 11)])
            (.asrt (.bin .le (.int 27) (.un .slen (.bin .sdrop (.bin .stake (.bin .idx (.var 0) (.bin .add (.bin .add (.int 0) (.var 1)) (.var 3))) (.int 28)) (.int 1))))
             (.asrt (.bin .le (.un .slen (.bin .sdrop (.bin .stake (.bin .idx (.var 0) (.bin .add (.bin .add (.int 0) (.var 1)) (.var 3))) (.int 28)) (.int 1))) (.int 27))
              (.br (.un .not (.bin .eqs (.bin .idx (.var 0) (.bin .add (.bin .add (.int 0) (.var 1)) (.var 3))) (.bin .idx (.fn 97 (.bin .cons (.un (.wrap .i64) (.bin .sub (.un (.wrap .i64) (.bin .sub (.un (.wrap .i64) (.bin .add (.un (.wrap .i64) (.bin .byte (.bin .idx (.var 0) (.bin .add (.int 0) (.var 1))) (.int 0))) (.int 1))) (.int 1))) (.var 3))) (.bin .cons (.bin .sdrop (.bin .stake (.bin .idx (.var 0) (.bin .add (.bin .add (.int 0) (.var 1)) (.var 3))) (.int 28)) (.int 1)) .nil))) (.int 0))))
               (.leaf [(.int 0), .nil, (.int 0), (.int 11)])
               (.asrt (.bin .le (.bin .add (.un .slen (.var 2)) (.un .slen (.bin .sdrop (.bin .stake (.bin .idx (.var 0) (.bin .add (.bin .add (.int 0) (.var 1)) (.var 3))) (.int 28)) (.int 1)))) (.int 9223372036854775807))
                .fail)))))))
         (.asrt (.bin .le (.un .slen (.var 2)) (.int 1000000))
          (.asrt (.bin .le (.un .len (.bin .idx (.fn 100 (.bin .cons (.un .bytes (.var 2)) .nil)) (.int 0))) (.int 1000000))
           (.br (.un .not (.bin .eq (.bin .idx (.fn 100 (.bin .cons (.un .bytes (.var 2)) .nil)) (.int 2)) (.int 0)))
            (.leaf [(.int 0), .nil, (.int 0), (.int 11)])
            (.br (.un .not (.bin .idx (.fn 99 (.bin .cons (.bin .idx (.fn 100 (.bin .cons (.un .bytes (.var 2)) .nil)) (.int 0)) .nil)) (.int 2)))
             (.leaf [(.int 0), .nil, (.int 0), (.int 11)])
             (.br (.bin .le (.int 27) (.un (.wrap .i64) (.bin .sub (.un .slen (.var 2)) (.bin .idx (.fn 100 (.bin .cons (.un .bytes (.var 2)) .nil)) (.int 1)))))
              (.leaf [(.int 0), .nil, (.int 0), (.int 11)])
              (.asrt (.bin .le (.int 0) (.bin .idx (.fn 100 (.bin .cons (.un .bytes (.var 2)) .nil)) (.int 1)))
               (.asrt (.bin .le (.bin .idx (.fn 100 (.bin .cons (.un .bytes (.var 2)) .nil)) (.int 1)) (.un .slen (.var 2)))
                (.br (.bin .eqs (.bin .sdrop (.bin .stake (.var 2) (.un .slen (.var 2))) (.bin .idx (.fn 100 (.bin .cons (.un .bytes (.var 2)) .nil)) (.int 1))) (.str []))
                 (.leaf [(.bin .idx (.fn 99 (.bin .cons (.bin .idx (.fn 100 (.bin .cons (.un .bytes (.var 2)) .nil)) (.int 0)) .nil)) (.int 0)), (.bin .idx (.fn 99 (.bin .cons (.bin .idx (.fn 100 (.bin .cons (.un .bytes (.var 2)) .nil)) (.int 0)) .nil)) (.int 1)), (.un (.wrap .i64) (.bin .add (.un (.wrap .i64) (.bin .byte (.bin .idx (.var 0) (.bin .add (.int 0) (.var 1))) (.int 0))) (.int 1))), (.int 0)])
                 (.asrt (.bin .le (.un .slen (.bin .sdrop (.bin .stake (.var 2) (.un .slen (.var 2))) (.bin .idx (.fn 100 (.bin .cons (.un .bytes (.var 2)) .nil)) (.int 1)))) (.int 1000000))
                  (.asrt (.bin .le (.un .slen (.bin .idx (.fn 102 (.bin .cons (.bin .sdrop (.bin .stake (.var 2) (.un .slen (.var 2))) (.bin .idx (.fn 100 (.bin .cons (.un .bytes (.var 2)) .nil)) (.int 1))) (.bin .cons (.int 0) .nil))) (.int 0))) (.int 1000000))
                   (.br (.un .not (.bin .eqs (.bin .idx (.fn 101 (.bin .cons (.bin .idx (.fn 102 (.bin .cons (.bin .sdrop (.bin .stake (.var 2) (.un .slen (.var 2))) (.bin .idx (.fn 100 (.bin .cons (.un .bytes (.var 2)) .nil)) (.int 1))) (.bin .cons (.int 0) .nil))) (.int 0)) (.bin .cons (.int 0) .nil))) (.int 0)) (.str [])))
                    (.leaf [(.int 0), .nil, (.int 0), (.int 11)])
                    (.leaf [(.bin .idx (.fn 99 (.bin .cons (.bin .idx (.fn 100 (.bin .cons (.un .bytes (.var 2)) .nil)) (.int 0)) .nil)) (.int 0)), (.bin .idx (.fn 99 (.bin .cons (.bin .idx (.fn 100 (.bin .cons (.un .bytes (.var 2)) .nil)) (.int 0)) .nil)) (.int 1)), (.un (.wrap .i64) (.bin .add (.un (.wrap .i64) (.bin .byte (.bin .idx (.var 0) (.bin .add (.int 0) (.var 1))) (.int 0))) (.int 1))), (.int 0)])))))))))))))))))))))
def wParseSm : List (Nat × Smy) := [(41, ⟨97, [.one (.pl (.int .i64)), .one (.pl .str)], [.one (.pl .str)], fun es => (fun _ => []) es ++ slenC [(1, 27, 27)] es, none⟩), (42, ⟨100, [.one (.rows false [.int .u8])], [.one (.rows true [.int .i64]), .one (.pl (.int .i64)), .one (.pl (.int .i64))], lenC [(0, 1000000)], none⟩), (43, ⟨99, [.one (.rows false [.int .i64])], [.agg [.pl (.int .i64), .rows true [.int .i64, .int .i64]], .one (.pl .bool)], lenC [(0, 1000000)], none⟩), (76, ⟨101, [.one (.pl .str), .one (.pl (.int .u8))], [.one (.pl .str)], fun es => (fun _ => []) es ++ slenC [(0, 0, 1000000)] es, none⟩), (77, ⟨102, [.one (.pl .str), .one (.pl (.int .u8))], [.one (.pl .str)], fun es => (fun _ => []) es ++ slenC [(0, 0, 1000000)] es, none⟩)]
def wParseLa : List (LK × LA) := [(⟨131, 9, 3, 2, 7⟩, ⟨[(9, (.str (.var 2))), (10, .any), (11, .any), (63, (.int .i64 (.var 3))), (64, .any), (65, .any), (66, .any), (67, .any), (68, .any), (69, .any), (70, .any), (71, .any), (72, .any), (73, .any), (74, .any), (75, .any), (76, .any), (77, .any), (78, .any), (79, .any), (80, .any), (81, .any), (82, .any), (83, .any), (84, .any), (85, .any), (86, .any), (87, .any), (88, .any), (89, .any), (90, .any), (91, .any)], [], [], 2, 0⟩)]
def wParsePhi : Fs := ⟨fun n d => match n with
  | 97 => .list (wSectorF d.l)
  | 100 => .list (wGetNumsF d.l)
  | 99 => .list (wEntryF d.l)
  | 101 => .list (wTrimLF d.l)
  | 102 => .list (wTrimRF d.l)
  | _ => d, 147⟩
theorem wParseS : SmyOk true Tryd.prog wParsePhi wParseSm := (smy_cons (fun ds => (fun _ => True) ds ∧ slenP [(1, 27, 27)] ds) wSectorF wSector_pure (slen_hp (C := fun _ => []) (Q := fun _ => True) [(1, 27, 27)] (fun _ _ _ _ => trivial)) (fun _ => rfl) (fun _ h => by cases h) (smy_cons (lenP [(0, 1000000)]) wGetNumsF wGetNums_pure (len_hp [(0, 1000000)]) (fun _ => rfl) (fun _ h => by cases h) (smy_cons (lenP [(0, 1000000)]) wEntryF wEntry_pure (len_hp [(0, 1000000)]) (fun _ => rfl) (fun _ h => by cases h) (smy_cons (fun ds => (fun _ => True) ds ∧ slenP [(0, 0, 1000000)] ds) wTrimLF wTrimL_pure (slen_hp (C := fun _ => []) (Q := fun _ => True) [(0, 0, 1000000)] (fun _ _ _ _ => trivial)) (fun _ => rfl) (fun _ h => by cases h) (smy_cons (fun ds => (fun _ => True) ds ∧ slenP [(0, 0, 1000000)] ds) wTrimRF wTrimR_pure (slen_hp (C := fun _ => []) (Q := fun _ => True) [(0, 0, 1000000)] (fun _ _ _ _ => trivial)) (fun _ => rfl) (fun _ h => by cases h) smy_nil)))))
theorem wParseT : treeOk ⟨Tryd.prog, wParseSm, wParseLa, true⟩ 4000 10 [.one (.rows false [.str]), .one (.pl (.int .i64))] [.agg [.pl (.int .i64), .rows true [.int .i64, .int .i64]], .one (.pl (.int .i64)), .one (.pl (.int .i64))] ([]) wParseTree = true := by decide +kernel
set_option maxHeartbeats 1000000 in
theorem wParse_pure : PureE true Tryd.prog 10 [.one (.rows false [.str]), .one (.pl (.int .i64))] [.agg [.pl (.int .i64), .rows true [.int .i64, .int .i64]], .one (.pl (.int .i64)), .one (.pl (.int .i64))] (lenP [(0, 1000)]) wParseF := by
  refine pure_tree (X := ⟨Tryd.prog, wParseSm, wParseLa, true⟩) (by decide +kernel) (Checked.mixed Tryd.checked) wParseS (by decide +kernel) (by decide +kernel) wParseT (by decide +kernel) ?_
  intro ds hl hp
  obtain ⟨d0, d1, rfl⟩ := len2 hl
  have b0 : (d0.l.length : Int) ≤ 1000 := hp (0, 1000) (by simp)
  have hF : wParseF [d0, d1] = wParseE (d0.l.map DV.s) d1.i := rfl
  rw [hF]
  clear hF hp hl
  have hN : nrmL (clsOf [.one (.rows false [.str]), .one (.pl (.int .i64))]) [d0, d1] = [.list ((d0.l.map DV.s).map DV.str), .int d1.i] := by
    simp only [clsOf, Sh.cls, List.append_nil, List.cons_append, List.nil_append, nrmL, Cl.nrm, CK.nrm, map_Ls]
  rw [hN]
  clear hN
  rw [← List.length_map (f := DV.s)] at b0
  generalize d0.l.map DV.s = x0 at b0 ⊢
  generalize d1.i = x1
  refine ⟨facts_nil _, ?_⟩
  unfold wParseTree wParseE
  simp only [Sat, clsOf, Sh.cls, List.append_nil, List.cons_append, List.nil_append, nrmL, Cl.nrm, CK.nrm, List.map_cons, List.map_nil, List.length_cons, List.length_nil, true_and]
  simp only [q_le, q_eq, q_eqs, q_not, iff_true, iff_false, Bool.not_true, Bool.not_false, Bool.false_eq_true, eq_self]
  simp only [SE.den, evU, ev_add, ev_sub, ev_cat, ev_byte, ev_idx, ev_cons, ev_stake, ev_sdrop, i_int, b_bool, s_str, l_list, envL, List.getElem?_cons_succ, List.getElem?_cons_zero, Option.getD_some, Int.toNat_natCast, Int.toNat_zero, Int.reduceToNat, List.length_map, get_Ls, Int.zero_add, rows_ii, rows_ii, wParsePhi, wSectorF, wSectorE, wGetNumsF, wGetNumsE, wEntryF, wEntryE, wTrimLF, wTrimLE, wTrimRF, wTrimRE, gi, gs, gLi, dece_i]
  by_cases c1 : 0 ≤ x1
  · obtain ⟨a, rfl⟩ : ∃ a : Nat, x1 = a := ⟨x1.toNat, by omega⟩
    simp only [Int.toNat_natCast]
    by_cases c2 : (a : Int) < x0.length
    · by_cases c3 : (x0[a]?.getD []).length = 32
      · have hby : ((x0[a]?.getD [])[0]?.getD 0).toNat ≤ 255 := by have := ((x0[a]?.getD [])[0]?.getD 0).toNat_lt; omega
        have hm : manyM x0 a = ((x0[a]?.getD [])[0]?.getD 0).toNat + 1 := rfl
        have hw1 : ∀ b : Int, 0 ≤ b → b ≤ 255 → IntKind.i64.wrap (IntKind.i64.wrap b + 1) = b + 1 := fun b h0 h1 => by rw [w64 (n := b) (by omega) (by omega), w64 (by omega) (by omega)]
        simp only [hw1 _ (Int.natCast_nonneg _) (Int.ofNat_le.2 hby)]
        have hmI : ((((x0[a]?.getD [])[0]?.getD 0).toNat : Int) + 1) = manyM x0 a := by rw [hm]; omega
        simp only [hmI]
        have hw2 : IntKind.i64.wrap ((x0.length : Int) - a) = x0.length - a := w64 (by omega) (by omega)
        simp only [hw2]
        generalize hM : manyM x0 a = M at *
        have hM1 : 1 ≤ M ∧ M ≤ 256 := by omega
        by_cases c4 : (M : Int) ≤ x0.length - a
        · have hw3 : IntKind.i64.wrap ((a : Int) + M) = a + M := w64 (by omega) (by omega)
          simp only [hw3]
          have hP : parseM x0 a = goM M x0 a 0 [] := by
            unfold parseM goM
            rw [Int.toNat_natCast, hM, if_pos ⟨c1, c2, by exact_mod_cast c3, c4⟩, Nat.sub_zero, Nat.add_zero]
            cases loadM M (x0.drop a) <;> rfl
          simp only [nrm_P4]
          refine ⟨fun h => absurd c1 h, fun _ => ⟨fun h => absurd c2 (by omega), fun _ => ⟨fun h => absurd c3 (by omega), fun _ => ⟨fun h => absurd c4 h, fun _ => ⟨by omega, by omega, by omega, ?_⟩⟩⟩⟩⟩
          have hrow : (rowN [CK.int IntKind.i64, CK.int IntKind.i64]) = (rowN [CK.int IntKind.i64, CK.int IntKind.i64]) := rfl
          simp only [List.map_nil, show (a : Int) + M - a = M by omega]
          generalize hRR : parseM x0 a = R at hP ⊢
          refine rounds_inv (fun y => ∃ (i : Nat) (acc : List UInt8), y = [.str acc, .int i] ∧ i ≤ M ∧ acc.length = 27 * i ∧ goM M x0 a i acc = R) (fun y => M - ((y[1]?).getD (DV.int 0)).i.toNat) ⟨0, [], rfl, Nat.zero_le _, rfl, hP.symm⟩ ?_
          rintro y ⟨i, acc, rfl, hi, hac, hall⟩
          have e1 : IntKind.i64.wrap ((i : Int) + 1) = ((i + 1 : Nat) : Int) := by rw [w64 (by omega) (by omega)]; omega
          have e2 : ((a : Int) + (i : Int)).toNat = a + i := by omega
          simp only [i_int, s_str, List.getElem?_cons_succ, List.getElem?_cons_zero, Option.getD_some, Int.toNat_natCast, e1, e2]
          by_cases h1 : i = M
          · left
            subst h1
            rw [go_end] at hall
            have hle : (i : Int) ≤ i := by omega
            have hal : (acc.length : Int) ≤ 1000000 := by omega
            simp only [hle, not_true_eq_false, false_imp_iff, true_and, true_imp_iff, hal]
            unfold finM at hall
            cases hg : getNumsR (bytesN acc) with
            | none =>
              rw [hg] at hall
              rw [← hall]
              refine ⟨by show ((0 : Nat) : Int) ≤ 1000000; omega, fun _ => rfl, fun h => absurd (show (3 : Int) = 0 from h) (by omega)⟩
            | some p =>
              obtain ⟨l, u⟩ := p
              rw [hg] at hall
              obtain ⟨g1, g2⟩ := getNumsR_len hg
              rw [bytes_len] at g1 g2
              have hw : IntKind.i64.wrap ((acc.length : Int) - (u : Int)) = acc.length - u := w64 (by omega) (by omega)
              have hst : List.take (acc.length : Int).toNat acc = acc := List.take_of_length_le (by omega)
              have hd : (List.drop u acc).length ≤ 1000000 := by rw [List.length_drop]; omega
              have hd2 : (trimR (List.drop u acc) 0).length ≤ 1000000 := by have := trimR_le (List.drop u acc) 0; omega
              simp only [getN3, i_int, l_list, List.getElem?_cons_succ, List.getElem?_cons_zero, Option.getD_some, Int.toNat_natCast, List.length_map, eq_self, not_true_eq_false, dece_i, hw, List.take_length, dece_i]
              simp only at hall
              have hd3 : ∀ h : List.drop u acc = [], zerosM (List.drop u acc) = true := fun h => by rw [h]; rfl
              have htr := trims_zero (List.drop u acc)
              by_cases k : (entryM l).2 = true ∧ (acc.length : Int) - u < 27 ∧ zerosM (List.drop u acc) = true
              · rw [if_pos k] at hall
                rw [← hall]
                obtain ⟨k1, k2, k3⟩ := k
                have k4 := htr.2 k3
                have k5 : ¬ 27 ≤ (acc.length : Int) - u := by omega
                have k6 : (u : Int) ≤ acc.length := by omega
                have k7 : (l.length : Int) ≤ 1000000 := by omega
                simp [k1, k4, k5, k6, k7, parse4]
                try omega
              · rw [if_neg k] at hall
                rw [← hall]
                repeat' (first | apply And.intro | intro)
                all_goals first
                  | omega
                  | rfl
                  | (exfalso; simp_all; done)
                  | trace_state
          · have h1' : ¬ (M : Int) ≤ i := by omega
            have h2 : a + i < x0.length := by omega
            have h2' : ¬ (x0.length : Int) ≤ a + i := by omega
            rw [go_step (by omega) h2] at hall
            generalize hs : x0[a + i]?.getD [] = s at hall ⊢
            have e3 : IntKind.i64.wrap (IntKind.i64.wrap ((M : Int) - 1) - i) = ((M - 1 - i : Nat) : Int) := by rw [w64 (n := (M : Int) - 1) (by omega) (by omega), w64 (by omega) (by omega)]; omega
            simp only [e3]
            by_cases h3 : s.length = 32
            · have h27 : (List.drop 1 (List.take 28 s)).length = 27 := by rw [List.length_drop, List.length_take]; omega
              by_cases h4 : s = sectorM ((M - 1 - i : Nat) : Int) (List.drop 1 (List.take 28 s))
              · right
                have hok : okS (M - 1 - i) s = true := by unfold okS; rw [Bool.and_eq_true, decide_eq_true_eq, decide_eq_true_eq]; exact ⟨h3, h4⟩
                rw [if_pos hok] at hall
                have h3' : (s.length : Int) = 32 := by omega
                refine ⟨[.str (acc ++ List.drop 1 (List.take 28 s)), .int ((i + 1 : Nat) : Int)], ?_, rfl, ⟨i + 1, _, rfl, by omega, by rw [List.length_append, h27]; omega, hall⟩, ?_⟩
                · refine ⟨fun _ => ⟨by omega, h2', fun h => absurd h3' h, fun _ => ⟨by omega, by omega, fun h => absurd h4 h, fun _ => ⟨by omega, rfl⟩⟩⟩, fun h => absurd h h1'⟩
                · simp only [i_int, List.getElem?_cons_succ, List.getElem?_cons_zero, Option.getD_some, Int.toNat_natCast]; omega
              · left
                have hok : ¬ okS (M - 1 - i) s = true := by unfold okS; rw [Bool.and_eq_true, decide_eq_true_eq, decide_eq_true_eq]; exact fun h => h4 h.2
                rw [if_neg hok] at hall
                have h3' : (s.length : Int) = 32 := by omega
                rw [← hall]
                refine ⟨fun _ => ⟨by omega, h2', fun h => absurd h3' h, fun _ => ⟨by omega, by omega, fun _ => rfl, fun h => absurd h h4⟩⟩, fun h => absurd h h1'⟩
            · left
              have hok : ¬ okS (M - 1 - i) s = true := by unfold okS; rw [Bool.and_eq_true, decide_eq_true_eq, decide_eq_true_eq]; exact fun h => h3 h.1
              rw [if_neg hok] at hall
              have h3' : ¬ (s.length : Int) = 32 := by omega
              rw [← hall]
              refine ⟨fun _ => ⟨by omega, h2', fun _ => rfl, fun h => absurd h h3'⟩, fun h => absurd h h1'⟩
        · have hP : parseM x0 a = none := by
            unfold parseM
            rw [Int.toNat_natCast, hM, if_neg fun h => c4 h.2.2.2]
          rw [hP]
          refine ⟨fun _ => rfl, fun _ => ⟨fun _ => rfl, fun _ => ⟨fun _ => rfl, fun _ => ⟨fun _ => rfl, fun h => absurd h c4⟩⟩⟩⟩
      · have hP : parseM x0 a = none := by
          unfold parseM
          rw [Int.toNat_natCast, if_neg fun h => c3 h.2.2.1]
        rw [hP]
        have c3' : ¬ ((x0[a]?.getD []).length : Int) = 32 := by omega
        refine ⟨fun h => absurd c1 h, fun _ => ⟨fun h => absurd c2 (by omega), fun _ => ⟨fun _ => rfl, fun h => absurd h c3'⟩⟩⟩
    · have hP : parseM x0 a = none := by
        unfold parseM
        rw [if_neg fun h => c2 h.2.1]
      rw [hP]
      refine ⟨fun h => absurd c1 h, fun _ => ⟨fun _ => rfl, fun h => absurd (by omega) h⟩⟩
  · have hP : parseM x0 x1 = none := by
      unfold parseM
      rw [if_neg fun h => c1 h.1]
    rw [hP]
    refine ⟨fun _ => rfl, fun h => absurd h c1⟩
end Go.Proofs.YtkfjgggiopegbaaDoor
end
section
set_option linter.unusedSimpArgs false
namespace Go.Proofs.YtkfjgggiopegbaaDoor
set_option linter.unusedVariables false
structure Nx where
  k : Int
  c : Int
  o : Int
  n : Int
  s : List UInt8
  val : Int
  ver : Int
  rv : Int
  st : Int
  is : Bool
  lost : Bool
  err : Int
  done : Bool
  deriving DecidableEq
def Nx.ds (x : Nx) : List DV := [.int x.k, .int x.c, .int x.o, .int x.n, .str x.s, .int x.val, .int x.ver, .int x.rv, .int x.st, .bool x.is, .bool x.lost, .int x.err, .bool x.done]
end Go.Proofs.YtkfjgggiopegbaaDoor
end
section
namespace Go.Proofs.YtkfjgggiopegbaaDoor
set_option linter.unusedVariables false
set_option linter.unusedSimpArgs false
def noughtM : List UInt8 := List.replicate 32 0
def newM (n : Int) : List (List UInt8) := if 0 ≤ n ∧ n ≤ 512 then List.replicate n.toNat noughtM else []
end Go.Proofs.YtkfjgggiopegbaaDoor
end
section
namespace Go.Proofs.YtkfjgggiopegbaaDoor
set_option linter.unusedVariables false
set_option linter.unusedSimpArgs false
set_option maxRecDepth 100000
def rDNewE (n : Int) : List DV := [.list ((newM n).map DV.str), .list [], .int (if 0 ≤ n ∧ n ≤ 512 then 0 else 1)]
def rDNewF (ds : List DV) : List DV := rDNewE (gi ds 0)
def rDNewTree : PT :=
(.br (.un .not (.bin .le (.int 0) (.var 0)))
 (.leaf [.nil, .nil, (.int 1)])
 (.br (.un .not (.bin .le (.var 0) (.int 512)))
  (.leaf [.nil, .nil, (.int 1)])
  (.loop 1 [(.int 0), .nil]
   (.br (.un .not (.bin .le (.var 0) (.var 1)))
    (.asrt (.bin .le (.bin .add (.un .len (.var 2)) (.int 1)) (.int 4294967296))
     (.leaf [(.un (.wrap .i64) (.bin .add (.var 1) (.int 1))), (.bin .snoc (.var 2) (.str [0, 0, 0, 0, 0, 0, 0, 0, 0, 0, 0, 0, 0, 0, 0, 0, 0, 0, 0, 0, 0, 0, 0, 0, 0, 0, 0, 0, 0, 0, 0, 0]))]))
    .fail)
   (.br (.un .not (.bin .le (.var 0) (.var 1)))
    (.asrt (.bin .le (.bin .add (.un .len (.var 2)) (.int 1)) (.int 4294967296))
     .fail)
    (.leaf [(.var 2), .nil, (.int 0)])))))
def rDNewSm : List (Nat × Smy) := []
def rDNewLa : List (LK × LA) := [(⟨26, 5, 3, 1, 2⟩, ⟨[(5, (.int .i64 (.var 1))), (14, .any), (15, .any), (16, .any), (17, .any), (18, .any), (19, .any), (20, .any), (21, .any), (22, .any), (23, .any), (24, .any)], [(2, (.cells [(.sl 3 1 (.int 0) (.un .len (.var 2)) none), .nils])), (3, (.rows [.str] (.var 2)))], [], 2, 1⟩)]
def rDNewPhi : Fs := ⟨fun n d => match n with
  | _ => d, 147⟩
theorem rDNewS : SmyOk true Tryd.prog rDNewPhi rDNewSm := smy_nil
theorem rDNewT : treeOk ⟨Tryd.prog, rDNewSm, rDNewLa, true⟩ 4000 30 [.one (.pl (.int .i64))] [.agg [.rows false [.str], .rows false [.int .i64, .str]], .one (.pl (.int .i64))] ([]) rDNewTree = true := by decide +kernel
set_option maxHeartbeats 1000000 in
theorem rDNew_pure : PureE true Tryd.prog 30 [.one (.pl (.int .i64))] [.agg [.rows false [.str], .rows false [.int .i64, .str]], .one (.pl (.int .i64))] (fun _ => True) rDNewF := by
  refine pure_tree (X := ⟨Tryd.prog, rDNewSm, rDNewLa, true⟩) (by decide +kernel) (Checked.mixed Tryd.checked) rDNewS (by decide +kernel) (by decide +kernel) rDNewT (by decide +kernel) ?_
  intro ds hl hp
  obtain ⟨d0, rfl⟩ := len1 hl
  have hF : rDNewF [d0] = rDNewE d0.i := rfl
  rw [hF]
  clear hF hp hl
  have hN : nrmL (clsOf [.one (.pl (.int .i64))]) [d0] = [.int d0.i] := by
    simp only [clsOf, Sh.cls, List.append_nil, nrmL, Cl.nrm, CK.nrm]
  rw [hN]
  clear hN
  generalize d0.i = x0
  refine ⟨facts_nil _, ?_⟩
  unfold rDNewTree rDNewE
  simp only [Sat, clsOf, Sh.cls, List.append_nil, List.cons_append, List.nil_append, nrmL, Cl.nrm, CK.nrm, List.map_cons, List.map_nil, List.length_cons, List.length_nil, List.cons.injEq, DV.int.injEq, DV.list.injEq, and_true, true_and]
  try simp only [q_le, q_not, iff_true, iff_false, Bool.not_true, Bool.not_false, Bool.false_eq_true, eq_self]
  simp only [SE.den, evU, ev_add, ev_snoc, i_int, l_list, envL, List.getElem?_cons_succ, List.getElem?_cons_zero, Option.getD_some, rows_s, true_and, eq_self]
  have hnil : newM x0 = if 0 ≤ x0 ∧ x0 ≤ 512 then List.replicate x0.toNat noughtM else [] := rfl
  by_cases h : 0 ≤ x0 ∧ x0 ≤ 512
  · obtain ⟨n, rfl⟩ : ∃ n : Nat, x0 = n := ⟨x0.toNat, by omega⟩
    rw [hnil, if_pos h]
    simp only [h.1, h.2]
    refine ⟨by simp, fun _ => ⟨by simp, fun _ => ?_⟩⟩
    refine rounds_at n (fun i => [.int i, .list ((List.replicate i noughtM).map DV.str)]) rfl (fun _ => rfl) (fun i hi => ?_) ?_
    · have e1 : ¬ (n : Int) ≤ i := by omega
      have hz : [DV.str [0, 0, 0, 0, 0, 0, 0, 0, 0, 0, 0, 0, 0, 0, 0, 0, 0, 0, 0, 0, 0, 0, 0, 0, 0, 0, 0, 0, 0, 0, 0, 0]] = [noughtM].map DV.str := rfl
      simp only [i_int, l_list, List.getElem?_cons_succ, List.getElem?_cons_zero, Option.getD_some, List.length_map, and_true, eq_self, not_false_eq_true, List.length_replicate, DV.int.injEq, DV.list.injEq, List.cons.injEq, e1, w64 (n := (i : Int) + 1) (by omega) (by omega), hz]
      rw [← List.map_append, ← List.replicate_succ']
      simp
      try omega
    · simp only [i_int, l_list, List.getElem?_cons_succ, List.getElem?_cons_zero, Option.getD_some, Int.toNat_natCast, List.length_map, rows_s, and_true, true_and, eq_self, List.length_replicate]
      simp []
      try exact .inr rfl
  · simp only [hnil, if_neg h]
    by_cases h0 : 0 ≤ x0
    · have h1 : ¬ x0 ≤ 512 := fun e => h ⟨h0, e⟩
      simp only [h0, h1]
      simp
    · simp only [h0]
      simp
end Go.Proofs.YtkfjgggiopegbaaDoor
end
section
namespace Go.Proofs.YtkfjgggiopegbaaDoor
set_option linter.unusedVariables false
set_option linter.unusedSimpArgs false
set_option maxRecDepth 100000
theorem doM_len (l : List Int) (k c o n : Int) (s : List UInt8) : (doM l k c o n s).1.length = l.length := by unfold doM; split <;> (try split) <;> simp
def allM (m0 : List Int) : List Tiiiis → List Int → List Tib → List Int × List Tib × Int
  | [], m, told => (m, told, 0)
  | a :: r, m, told =>
    if (doM m a.1 a.2.1 a.2.2.1 a.2.2.2.1 a.2.2.2.2).2.2 = 0 then allM m0 r (doM m a.1 a.2.1 a.2.2.1 a.2.2.2.1 a.2.2.2.2).1 (told ++ [(doM m a.1 a.2.1 a.2.2.1 a.2.2.2.1 a.2.2.2.2).2.1])
    else (m0, [], (doM m a.1 a.2.1 a.2.2.1 a.2.2.2.1 a.2.2.2.2).2.2)
def memAllE (m : List Int) (l : List Tiiiis) : List DV := [.list ((allM m l m []).1.map DV.int), .list ((allM m l m []).2.1.map encib), .int (allM m l m []).2.2]
def memAllF (ds : List DV) : List DV := memAllE (gLi ds 0) (gLiiiis ds 1)
def memAllTree : PT :=
(.loop 2 [.nil, (.int 0), (.var 0)]
 (.br (.un .not (.bin .le (.un .len (.var 1)) (.var 3)))
  (.asrt (.bin .le (.int 0) (.var 3))
   (.asrt (.bin .le (.un .len (.var 4)) (.int 1000000))
    (.br (.un .not (.bin .eq (.bin .idx (.fn 0 (.bin .cons (.var 4) (.bin .cons (.bin .idx (.bin .idx (.var 1) (.bin .add (.int 0) (.var 3))) (.int 0)) (.bin .cons (.bin .idx (.bin .idx (.var 1) (.bin .add (.int 0) (.var 3))) (.int 1)) (.bin .cons (.bin .idx (.bin .idx (.var 1) (.bin .add (.int 0) (.var 3))) (.int 2)) (.bin .cons (.bin .idx (.bin .idx (.var 1) (.bin .add (.int 0) (.var 3))) (.int 3)) (.bin .cons (.bin .idx (.bin .idx (.var 1) (.bin .add (.int 0) (.var 3))) (.int 4)) .nil))))))) (.int 3)) (.int 0)))
     .fail
     (.asrt (.bin .le (.bin .add (.un .len (.var 2)) (.int 1)) (.int 4294967296))
      (.leaf [(.bin .snoc (.var 2) (.bin .cons (.bin .idx (.fn 0 (.bin .cons (.var 4) (.bin .cons (.bin .idx (.bin .idx (.var 1) (.bin .add (.int 0) (.var 3))) (.int 0)) (.bin .cons (.bin .idx (.bin .idx (.var 1) (.bin .add (.int 0) (.var 3))) (.int 1)) (.bin .cons (.bin .idx (.bin .idx (.var 1) (.bin .add (.int 0) (.var 3))) (.int 2)) (.bin .cons (.bin .idx (.bin .idx (.var 1) (.bin .add (.int 0) (.var 3))) (.int 3)) (.bin .cons (.bin .idx (.bin .idx (.var 1) (.bin .add (.int 0) (.var 3))) (.int 4)) .nil))))))) (.int 1)) (.bin .cons (.bin .idx (.fn 0 (.bin .cons (.var 4) (.bin .cons (.bin .idx (.bin .idx (.var 1) (.bin .add (.int 0) (.var 3))) (.int 0)) (.bin .cons (.bin .idx (.bin .idx (.var 1) (.bin .add (.int 0) (.var 3))) (.int 1)) (.bin .cons (.bin .idx (.bin .idx (.var 1) (.bin .add (.int 0) (.var 3))) (.int 2)) (.bin .cons (.bin .idx (.bin .idx (.var 1) (.bin .add (.int 0) (.var 3))) (.int 3)) (.bin .cons (.bin .idx (.bin .idx (.var 1) (.bin .add (.int 0) (.var 3))) (.int 4)) .nil))))))) (.int 2)) .nil))), (.un (.wrap .i64) (.bin .add (.var 3) (.int 1))), (.bin .idx (.fn 0 (.bin .cons (.var 4) (.bin .cons (.bin .idx (.bin .idx (.var 1) (.bin .add (.int 0) (.var 3))) (.int 0)) (.bin .cons (.bin .idx (.bin .idx (.var 1) (.bin .add (.int 0) (.var 3))) (.int 1)) (.bin .cons (.bin .idx (.bin .idx (.var 1) (.bin .add (.int 0) (.var 3))) (.int 2)) (.bin .cons (.bin .idx (.bin .idx (.var 1) (.bin .add (.int 0) (.var 3))) (.int 3)) (.bin .cons (.bin .idx (.bin .idx (.var 1) (.bin .add (.int 0) (.var 3))) (.int 4)) .nil))))))) (.int 0))])))))
  .fail)
 (.br (.un .not (.bin .le (.un .len (.var 1)) (.var 3)))
  (.asrt (.bin .le (.int 0) (.var 3))
   (.asrt (.bin .le (.un .len (.var 4)) (.int 1000000))
    (.br (.un .not (.bin .eq (.bin .idx (.fn 0 (.bin .cons (.var 4) (.bin .cons (.bin .idx (.bin .idx (.var 1) (.bin .add (.int 0) (.var 3))) (.int 0)) (.bin .cons (.bin .idx (.bin .idx (.var 1) (.bin .add (.int 0) (.var 3))) (.int 1)) (.bin .cons (.bin .idx (.bin .idx (.var 1) (.bin .add (.int 0) (.var 3))) (.int 2)) (.bin .cons (.bin .idx (.bin .idx (.var 1) (.bin .add (.int 0) (.var 3))) (.int 3)) (.bin .cons (.bin .idx (.bin .idx (.var 1) (.bin .add (.int 0) (.var 3))) (.int 4)) .nil))))))) (.int 3)) (.int 0)))
     (.leaf [(.var 0), .nil, (.bin .idx (.fn 0 (.bin .cons (.var 4) (.bin .cons (.bin .idx (.bin .idx (.var 1) (.bin .add (.int 0) (.var 3))) (.int 0)) (.bin .cons (.bin .idx (.bin .idx (.var 1) (.bin .add (.int 0) (.var 3))) (.int 1)) (.bin .cons (.bin .idx (.bin .idx (.var 1) (.bin .add (.int 0) (.var 3))) (.int 2)) (.bin .cons (.bin .idx (.bin .idx (.var 1) (.bin .add (.int 0) (.var 3))) (.int 3)) (.bin .cons (.bin .idx (.bin .idx (.var 1) (.bin .add (.int 0) (.var 3))) (.int 4)) .nil))))))) (.int 3))])
     (.asrt (.bin .le (.bin .add (.un .len (.var 2)) (.int 1)) (.int 4294967296))
      .fail))))
  (.leaf [(.var 4), (.var 2), (.int 0)])))
def memAllSm : List (Nat × Smy) := [(68, ⟨0, [.agg [.rows false [.int .i64]], .agg [.pl (.int .i64), .pl (.int .i64), .pl (.int .i64), .pl (.int .i64), .pl .str]], [.agg [.rows false [.int .i64]], .agg [.pl (.int .i64), .pl .bool], .one (.pl (.int .i64))], lenC [(0, 1000000)], none⟩)]
def memAllLa : List (LK × LA) := [(⟨40, 4, 5, 2, 0⟩, ⟨[(8, (.sl 5 2 (.int 0) (.un .len (.var 2)) none)), (10, .any), (11, .any), (12, .any), (13, .any), (17, (.int .i64 (.var 3))), (18, .any), (19, .any), (20, .any), (21, .any), (22, .any), (23, .any), (24, .any), (25, .any), (26, .any), (27, .any), (28, .any), (29, .any), (30, .any), (31, .any), (32, .any), (33, .any), (34, .any), (35, .any), (36, .any), (37, .any)], [(4, (.cells [(.sl 6 1 (.int 0) (.un .len (.var 4)) none)])), (5, (.rows [.int .i64, .bool] (.var 2))), (6, (.ro [.int .i64] (.var 4)))], [], 3, 2⟩)]
def memAllPhi : Fs := ⟨fun n d => match n with
  | 0 => .list (memDoF d.l)
  | _ => d, 147⟩
theorem memAllS : SmyOk true Tryd.prog memAllPhi memAllSm := (smy_cons (lenP [(0, 1000000)]) memDoF memDo_pure (len_hp [(0, 1000000)]) (fun _ => rfl) (fun _ h => by cases h) smy_nil)
theorem memAllT : treeOk ⟨Tryd.prog, memAllSm, memAllLa, true⟩ 4000 52 [.agg [.rows false [.int .i64]], .one (.rows false [.int .i64, .int .i64, .int .i64, .int .i64, .str])] [.agg [.rows false [.int .i64]], .one (.rows true [.int .i64, .bool]), .one (.pl (.int .i64))] ([]) memAllTree = true := by decide +kernel
set_option maxHeartbeats 1000000 in
theorem memAll_pure : PureE true Tryd.prog 52 [.agg [.rows false [.int .i64]], .one (.rows false [.int .i64, .int .i64, .int .i64, .int .i64, .str])] [.agg [.rows false [.int .i64]], .one (.rows true [.int .i64, .bool]), .one (.pl (.int .i64))] (lenP [(0, 1000000), (1, 1000000)]) memAllF := by
  refine pure_tree (X := ⟨Tryd.prog, memAllSm, memAllLa, true⟩) (by decide +kernel) (Checked.mixed Tryd.checked) memAllS (by decide +kernel) (by decide +kernel) memAllT (by decide +kernel) ?_
  intro ds hl hp
  obtain ⟨d0, d1, rfl⟩ := len2 hl
  have b0 : (d0.l.length : Int) ≤ 1000000 := hp (0, 1000000) (by simp)
  have b1 : (d1.l.length : Int) ≤ 1000000 := hp (1, 1000000) (by simp)
  have hF : memAllF [d0, d1] = memAllE (d0.l.map DV.i) (d1.l.map deciiiis) := rfl
  rw [hF]
  clear hF hp hl
  have hN : nrmL (clsOf [.agg [.rows false [.int .i64]], .one (.rows false [.int .i64, .int .i64, .int .i64, .int .i64, .str])]) [d0, d1] = [.list ((d0.l.map DV.i).map DV.int), .list ((d1.l.map deciiiis).map enciiiis)] := by
    simp only [clsOf, Sh.cls, List.append_nil, List.cons_append, List.nil_append, nrmL, Cl.nrm, map_Li, map_Liiiis]
  rw [hN]
  clear hN
  rw [← List.length_map (f := DV.i)] at b0
  generalize d0.l.map DV.i = x0 at b0 ⊢
  rw [← List.length_map (f := deciiiis)] at b1
  generalize d1.l.map deciiiis = x1 at b1 ⊢
  refine ⟨facts_nil _, ?_⟩
  unfold memAllTree memAllE
  simp only [Sat, clsOf, Sh.cls, List.append_nil, List.cons_append, List.nil_append, nrmL, Cl.nrm, CK.nrm, List.map_cons, List.map_nil, List.length_cons, List.length_nil, List.cons.injEq, DV.int.injEq, DV.list.injEq, and_true, true_and]
  simp only [q_le, q_eq, q_not, iff_true, iff_false, Bool.not_true, Bool.not_false, Bool.false_eq_true, eq_self]
  simp only [SE.den, evU, ev_add, ev_idx, ev_cons, ev_snoc, i_int, l_list, envL, List.getElem?_cons_succ, List.getElem?_cons_zero, Option.getD_some, Int.toNat_zero, Int.reduceToNat, List.length_map, inj_Li, rows_i, Int.zero_add, rows_ib, rows_ib, f_iiiis_0, f_iiiis_1, f_iiiis_2, f_iiiis_3, f_iiiis_4, memAllPhi, memDoF, memDoE, gi, gs, gLi]
  refine rounds_inv (fun y => ∃ (i : Nat) (m : List Int) (told : List Tib), y = [.list (told.map encib), .int i, .list (m.map DV.int)] ∧ i ≤ x1.length ∧ m.length = x0.length ∧ told.length = i ∧ allM x0 (x1.drop i) m told = allM x0 x1 x0 []) (fun y => x1.length - ((y[1]?).getD (DV.int 0)).i.toNat) ⟨0, x0, [], rfl, Nat.zero_le _, rfl, rfl, by rw [List.drop_zero]⟩ ?_
  rintro y ⟨i, m, told, rfl, hi, hm, ht, hall⟩
  rcases Nat.lt_or_ge i x1.length with hlt | hge
  · obtain ⟨a, ha⟩ := listGet hlt
    have hd : x1.drop i = a :: x1.drop (i + 1) := by
      rw [List.drop_eq_getElem_cons hlt]
      congr 1
      have := List.getElem?_eq_getElem hlt
      rw [ha] at this
      exact (Option.some.inj this).symm
    have hst : ∀ r, allM x0 (a :: r) m told = if (doM m a.1 a.2.1 a.2.2.1 a.2.2.2.1 a.2.2.2.2).2.2 = 0 then allM x0 r (doM m a.1 a.2.1 a.2.2.1 a.2.2.2.1 a.2.2.2.2).1 (told ++ [(doM m a.1 a.2.1 a.2.2.1 a.2.2.2.1 a.2.2.2.2).2.1]) else (x0, [], (doM m a.1 a.2.1 a.2.2.1 a.2.2.2.1 a.2.2.2.2).2.2) := fun _ => rfl
    rw [hd, hst] at hall
    by_cases he : (doM m a.1 a.2.1 a.2.2.1 a.2.2.2.1 a.2.2.2.2).2.2 = 0
    · refine .inr ⟨[.list ((told ++ [(doM m a.1 a.2.1 a.2.2.1 a.2.2.2.1 a.2.2.2.2).2.1]).map encib), .int ((i + 1 : Nat) : Int), .list ((doM m a.1 a.2.1 a.2.2.1 a.2.2.2.1 a.2.2.2.2).1.map DV.int)], ?_, rfl, ⟨i + 1, _, _, rfl, hlt, by rw [doM_len, hm], by simp [ht], by rw [if_pos he] at hall; exact hall⟩, ?_⟩
      · simp only [i_int, l_list, List.getElem?_cons_succ, List.getElem?_cons_zero, Option.getD_some, Int.toNat_natCast, List.length_map, and_true, true_and, eq_self, not_true_eq_false, DV.int.injEq, List.cons.injEq, dece_i, ha, he, List.map_append, encib, List.map_cons, List.map_nil, w64 (n := (i : Int) + 1) (by omega) (by omega)]
        have : ¬ (x1.length : Int) ≤ i := by omega
        simp only [this, not_false_eq_true, true_imp_iff, false_imp_iff, and_true]
        simp
        omega
      · simp only [i_int, List.getElem?_cons_succ, List.getElem?_cons_zero, Option.getD_some, Int.toNat_natCast]
        omega
    · rw [if_neg he] at hall
      refine .inl ?_
      simp only [i_int, l_list, List.getElem?_cons_succ, List.getElem?_cons_zero, Option.getD_some, Int.toNat_natCast, List.length_map, inj_Li, rows_i, and_true, true_and, eq_self, not_false_eq_true, rows_ib, inj_Lib, rows_ib, inj_Lib, dece_i, ha, he, ← hall]
      have : ¬ (x1.length : Int) ≤ i := by omega
      simp [this]
      omega
  · have : i = x1.length := by omega
    subst this
    have hst : allM x0 [] m told = (m, told, 0) := rfl
    rw [List.drop_length, hst] at hall
    refine .inl ?_
    simp only [i_int, l_list, List.getElem?_cons_succ, List.getElem?_cons_zero, Option.getD_some, Int.toNat_natCast, List.length_map, rows_i, and_true, eq_self, rows_ib, rows_ib, ← hall]
    simp []
end Go.Proofs.YtkfjgggiopegbaaDoor
end
section
namespace Go.Proofs.YtkfjgggiopegbaaDoor
set_option linter.unusedVariables false
set_option linter.unusedSimpArgs false
set_option maxRecDepth 100000
def placeM (from' many n size at' : Int) : Int := if n < 0 ∨ many ≤ n then -1 else IntKind.i64.wrap (IntKind.i64.wrap (from' + IntKind.i64.wrap (size * n)) + at')
end Go.Proofs.YtkfjgggiopegbaaDoor
end
section
namespace Go.Proofs.YtkfjgggiopegbaaDoor
set_option linter.unusedVariables false
set_option linter.unusedSimpArgs false
set_option maxRecDepth 100000
def initsM (locs loc : Int) (first : List Int) : Nat → List Tiiiis
  | 0 => []
  | n + 1 => initsM locs loc first n ++ [(2, placeM loc locs n 4 1, 0, first[n]?.getD 0, [])]
def manyI (locs : Int) (first : List Int) : Nat := (min (first.length : Int) locs).toNat
theorem initsM_len (locs loc : Int) (first : List Int) : ∀ n, (initsM locs loc first n).length = n
  | 0 => rfl
  | n + 1 => by simp [initsM, initsM_len locs loc first n]
theorem get_dv (l : List Int) (j : Nat) : ((l.map DV.int)[j]?).getD (DV.int 0) = .int ((l[j]?).getD 0) := by rw [List.getElem?_map]; cases l[j]? <;> rfl
theorem manyI_le (locs : Int) (first : List Int) (h : 0 ≤ locs) : (manyI locs first : Int) ≤ first.length ∧ (manyI locs first : Int) ≤ locs ∧ ((manyI locs first : Int) = first.length ∨ (manyI locs first : Int) = locs) := by unfold manyI; omega
def layInitE (t l k s m a0 a1 a2 a3 a4 a5 a6 a7 : Int) (first : List Int) : List DV := [.list (((2, a1, 0, 1, []) :: initsM l a6 first (manyI l first)).map enciiiis)]
def layInitF (ds : List DV) : List DV := layInitE (gi ds 0) (gi ds 1) (gi ds 2) (gi ds 3) (gi ds 4) (gi ds 5) (gi ds 6) (gi ds 7) (gi ds 8) (gi ds 9) (gi ds 10) (gi ds 11) (gi ds 12) (gLi ds 13)
def layInitTree : PT :=
(.asrt (.bin .le (.int 0) (.tri .ite (.un .not (.bin .le (.un .len (.var 13)) (.var 1))) (.var 1) (.un .len (.var 13))))
 (.asrt (.bin .le (.tri .ite (.un .not (.bin .le (.un .len (.var 13)) (.var 1))) (.var 1) (.un .len (.var 13))) (.un .len (.var 13)))
  (.loop 14 [(.bin .cons (.bin .cons (.int 2) (.bin .cons (.var 6) (.bin .cons (.int 0) (.bin .cons (.int 1) (.bin .cons (.str []) .nil))))) .nil), (.int 0)]
   (.br (.un .not (.bin .le (.bin .sub (.tri .ite (.un .not (.bin .le (.un .len (.var 13)) (.var 1))) (.var 1) (.un .len (.var 13))) (.int 0)) (.var 15)))
    (.asrt (.bin .le (.int 0) (.var 15))
     (.asrt (.un .not (.bin .le (.un .len (.var 13)) (.bin .add (.int 0) (.var 15))))
      (.br (.bin .le (.var 1) (.var 15))
       (.asrt (.bin .le (.bin .add (.un .len (.var 14)) (.int 1)) (.int 4294967296))
        (.leaf [(.bin .snoc (.var 14) (.bin .cons (.int 2) (.bin .cons (.int (-1)) (.bin .cons (.int 0) (.bin .cons (.bin .idx (.var 13) (.bin .add (.int 0) (.var 15))) (.bin .cons (.str []) .nil)))))), (.un (.wrap .i64) (.bin .add (.var 15) (.int 1)))]))
       (.asrt (.bin .le (.bin .add (.un .len (.var 14)) (.int 1)) (.int 4294967296))
        (.leaf [(.bin .snoc (.var 14) (.bin .cons (.int 2) (.bin .cons (.un (.wrap .i64) (.bin .add (.un (.wrap .i64) (.bin .add (.var 11) (.un (.wrap .i64) (.bin .mul (.int 4) (.var 15))))) (.int 1))) (.bin .cons (.int 0) (.bin .cons (.bin .idx (.var 13) (.bin .add (.int 0) (.var 15))) (.bin .cons (.str []) .nil)))))), (.un (.wrap .i64) (.bin .add (.var 15) (.int 1)))])))))
    .fail)
   (.br (.un .not (.bin .le (.bin .sub (.tri .ite (.un .not (.bin .le (.un .len (.var 13)) (.var 1))) (.var 1) (.un .len (.var 13))) (.int 0)) (.var 15)))
    (.asrt (.bin .le (.int 0) (.var 15))
     (.asrt (.un .not (.bin .le (.un .len (.var 13)) (.bin .add (.int 0) (.var 15))))
      (.asrt (.bin .le (.bin .add (.un .len (.var 14)) (.int 1)) (.int 4294967296))
       .fail)))
    (.leaf [(.var 14)])))))
def layInitSm : List (Nat × Smy) := []
def layInitLa : List (LK × LA) := [(⟨36, 3, 16, 14, 2⟩, ⟨[(5, (.sl 16 5 (.int 0) (.un .len (.var 14)) none)), (6, .any), (7, .any), (21, (.int .i64 (.var 15))), (22, .any), (23, .any), (24, .any), (25, .any), (26, .any), (27, .any), (28, .any), (29, .any), (30, .any), (31, .any), (32, .any), (33, .any), (34, .any)], [(16, (.rows [.int .i64, .int .i64, .int .i64, .int .i64, .str] (.var 14)))], [15], 2, 1⟩)]
def layInitPhi : Fs := ⟨fun n d => match n with
  | _ => d, 147⟩
theorem layInitS : SmyOk true Tryd.prog layInitPhi layInitSm := smy_nil
theorem layInitT : treeOk ⟨Tryd.prog, layInitSm, layInitLa, true⟩ 4000 53 [.agg [.pl (.int .i64), .pl (.int .i64), .pl (.int .i64), .pl (.int .i64), .pl (.int .i64), .pl (.int .i64), .pl (.int .i64), .pl (.int .i64), .pl (.int .i64), .pl (.int .i64), .pl (.int .i64), .pl (.int .i64), .pl (.int .i64)], .one (.rows false [.int .i64])] [.one (.rows true [.int .i64, .int .i64, .int .i64, .int .i64, .str])] ([]) layInitTree = true := by decide +kernel
set_option maxHeartbeats 1000000 in
theorem layInit_pure : PureE true Tryd.prog 53 [.agg [.pl (.int .i64), .pl (.int .i64), .pl (.int .i64), .pl (.int .i64), .pl (.int .i64), .pl (.int .i64), .pl (.int .i64), .pl (.int .i64), .pl (.int .i64), .pl (.int .i64), .pl (.int .i64), .pl (.int .i64), .pl (.int .i64)], .one (.rows false [.int .i64])] [.one (.rows true [.int .i64, .int .i64, .int .i64, .int .i64, .str])] (fun ds => lenP [(13, 1000000)] ds ∧ rgeP [(1, 0, 1000)] ds) layInitF := by
  refine pure_tree (X := ⟨Tryd.prog, layInitSm, layInitLa, true⟩) (by decide +kernel) (Checked.mixed Tryd.checked) layInitS (by decide +kernel) (by decide +kernel) layInitT (by decide +kernel) ?_
  intro ds hl hp
  obtain ⟨d0, d1, d2, d3, d4, d5, d6, d7, d8, d9, d10, d11, d12, d13, rfl⟩ := len14 hl
  have b13 : (d13.l.length : Int) ≤ 1000000 := hp.1 (13, 1000000) (by simp)
  have r1 : 0 ≤ d1.i ∧ d1.i ≤ 1000 := hp.2 (1, 0, 1000) (by simp)
  have hF : layInitF [d0, d1, d2, d3, d4, d5, d6, d7, d8, d9, d10, d11, d12, d13] = layInitE d0.i d1.i d2.i d3.i d4.i d5.i d6.i d7.i d8.i d9.i d10.i d11.i d12.i (d13.l.map DV.i) := rfl
  rw [hF]
  clear hF hp hl
  have hN : nrmL (clsOf [.agg [.pl (.int .i64), .pl (.int .i64), .pl (.int .i64), .pl (.int .i64), .pl (.int .i64), .pl (.int .i64), .pl (.int .i64), .pl (.int .i64), .pl (.int .i64), .pl (.int .i64), .pl (.int .i64), .pl (.int .i64), .pl (.int .i64)], .one (.rows false [.int .i64])]) [d0, d1, d2, d3, d4, d5, d6, d7, d8, d9, d10, d11, d12, d13] = [.int d0.i, .int d1.i, .int d2.i, .int d3.i, .int d4.i, .int d5.i, .int d6.i, .int d7.i, .int d8.i, .int d9.i, .int d10.i, .int d11.i, .int d12.i, .list ((d13.l.map DV.i).map DV.int)] := by
    simp only [clsOf, Sh.cls, List.append_nil, List.cons_append, List.nil_append, nrmL, Cl.nrm, CK.nrm, map_Li]
  rw [hN]
  clear hN
  generalize d0.i = x0
  generalize d1.i = x1 at r1 ⊢
  generalize d2.i = x2
  generalize d3.i = x3
  generalize d4.i = x4
  generalize d5.i = x5
  generalize d6.i = x6
  generalize d7.i = x7
  generalize d8.i = x8
  generalize d9.i = x9
  generalize d10.i = x10
  generalize d11.i = x11
  generalize d12.i = x12
  rw [← List.length_map (f := DV.i)] at b13
  generalize d13.l.map DV.i = x13 at b13 ⊢
  refine ⟨facts_nil _, ?_⟩
  unfold layInitTree layInitE
  simp only [Sat, clsOf, Sh.cls, List.append_nil, List.cons_append, List.nil_append, nrmL, Cl.nrm, List.map_cons, List.map_nil, List.length_cons, List.length_nil, List.cons.injEq, DV.list.injEq, and_true, true_and]
  simp only [q_le, q_not, iff_true, iff_false, Bool.not_true, Bool.not_false, Bool.false_eq_true, eq_self]
  simp only [Bool.not_true, SE.den, evU, evT, ev_le, ev_add, ev_sub, ev_mul, ev_idx, ev_cons, ev_snoc, leB_q, not_q, i_if, i_int, b_bool, l_list, envL, List.getElem?_cons_succ, List.getElem?_cons_zero, Option.getD_some, List.length_map, Int.zero_add, iff_false, Bool.false_eq_true]
  obtain ⟨m1, m2, m3⟩ := manyI_le x1 x13 r1.1
  have hm : (if ¬ (x13.length : Int) ≤ x1 then x1 else (x13.length : Int)) = (manyI x1 x13 : Int) := by split <;> omega
  simp only [hm]
  generalize hn : manyI x1 x13 = n at *
  refine ⟨by omega, m1, ?_⟩
  refine rounds_at n (fun i => [.list (((2, x6, 0, 1, []) :: initsM x1 x11 x13 i).map enciiiis), .int i]) rfl (fun _ => rfl) (fun i hi => ?_) ?_
  · have h1 : ¬ (n : Int) - 0 ≤ i := by omega
    have h2 : ¬ (x13.length : Int) ≤ i := by omega
    have h3 : ¬ x1 ≤ i := by omega
    have hp : placeM x11 x1 i 4 1 = IntKind.i64.wrap (IntKind.i64.wrap (x11 + IntKind.i64.wrap (4 * (i : Int))) + 1) := by unfold placeM; rw [if_neg (by omega)]
    simp only [i_int, l_list, List.getElem?_cons_succ, List.getElem?_cons_zero, Option.getD_some, Int.toNat_natCast, List.length_map, and_true, true_and, eq_self, not_false_eq_true, DV.int.injEq, DV.list.injEq, List.cons.injEq, h1, h2, h3, get_dv, w64 (n := (i : Int) + 1) (by omega) (by omega), List.length_cons, initsM_len]
    simp [initsM, hp, enciiiis]
    omega
  · have h1 : (n : Int) - 0 ≤ n := by omega
    simp only [i_int, l_list, List.getElem?_cons_succ, List.getElem?_cons_zero, Option.getD_some, List.length_map, not_true_eq_false, rows_iiiis, rows_iiiis, rows_iiiis, rows_iiiis, rows_iiiis, h1]
    simp [row_iiiis]
end Go.Proofs.YtkfjgggiopegbaaDoor
end
section
set_option linter.unusedSimpArgs false
namespace Go.Proofs.YtkfjgggiopegbaaDoor
def mayM (t l k s m : Int) : Bool := decide (1 ≤ t ∧ t ≤ 4 ∧ 0 ≤ l ∧ l ≤ 32 ∧ 0 ≤ k ∧ k ≤ 8 ∧ 0 ≤ s ∧ s ≤ 512 ∧ 0 ≤ m ∧ m ≤ 3)
def layOfE (t l k s m : Int) : List DV := if mayM t l k s m = true then [.int t, .int l, .int k, .int s, .int m, .int 0, .int 1, .int 2, .int 3, .int 4, .int (4 + 4 * t), .int (4 + 4 * t + k), .int (4 + 4 * t + k + 4 * l), .int 0]
  else [.int 0, .int 0, .int 0, .int 0, .int 0, .int 0, .int 0, .int 0, .int 0, .int 0, .int 0, .int 0, .int 0, .int 1]
end Go.Proofs.YtkfjgggiopegbaaDoor
end
section
namespace Go.Proofs.YtkfjgggiopegbaaDoor
set_option linter.unusedVariables false
set_option linter.unusedSimpArgs false
set_option maxRecDepth 100000
def rOfME (t l k s m : Int) : List DV := layOfE t l k s m
def rOfMF (ds : List DV) : List DV := rOfME (gi ds 0) (gi ds 1) (gi ds 2) (gi ds 3) (gi ds 4)
def rOfMTree : PT :=
(.br (.un .not (.bin .le (.int 1) (.var 0)))
 (.leaf [(.int 0), (.int 0), (.int 0), (.int 0), (.int 0), (.int 0), (.int 0), (.int 0), (.int 0), (.int 0), (.int 0), (.int 0), (.int 0), (.int 1)])
 (.br (.un .not (.bin .le (.var 0) (.int 4)))
  (.leaf [(.int 0), (.int 0), (.int 0), (.int 0), (.int 0), (.int 0), (.int 0), (.int 0), (.int 0), (.int 0), (.int 0), (.int 0), (.int 0), (.int 1)])
  (.br (.un .not (.bin .le (.int 0) (.var 1)))
   (.leaf [(.int 0), (.int 0), (.int 0), (.int 0), (.int 0), (.int 0), (.int 0), (.int 0), (.int 0), (.int 0), (.int 0), (.int 0), (.int 0), (.int 1)])
   (.br (.un .not (.bin .le (.var 1) (.int 32)))
    (.leaf [(.int 0), (.int 0), (.int 0), (.int 0), (.int 0), (.int 0), (.int 0), (.int 0), (.int 0), (.int 0), (.int 0), (.int 0), (.int 0), (.int 1)])
    (.br (.un .not (.bin .le (.int 0) (.var 2)))
     (.leaf [(.int 0), (.int 0), (.int 0), (.int 0), (.int 0), (.int 0), (.int 0), (.int 0), (.int 0), (.int 0), (.int 0), (.int 0), (.int 0), (.int 1)])
     (.br (.un .not (.bin .le (.var 2) (.int 8)))
      (.leaf [(.int 0), (.int 0), (.int 0), (.int 0), (.int 0), (.int 0), (.int 0), (.int 0), (.int 0), (.int 0), (.int 0), (.int 0), (.int 0), (.int 1)])
      (.br (.bin .le (.int 0) (.var 3))
       (.br (.bin .le (.var 3) (.int 512))
        (.br (.bin .le (.int 0) (.var 4))
         (.br (.un .not (.bin .le (.var 4) (.int 3)))
          (.leaf [(.int 0), (.int 0), (.int 0), (.int 0), (.int 0), (.int 0), (.int 0), (.int 0), (.int 0), (.int 0), (.int 0), (.int 0), (.int 0), (.int 1)])
          (.leaf [(.var 0), (.var 1), (.var 2), (.var 3), (.var 4), (.int 0), (.int 1), (.int 2), (.int 3), (.int 4), (.un (.wrap .i64) (.bin .add (.int 4) (.un (.wrap .i64) (.bin .mul (.int 4) (.var 0))))), (.un (.wrap .i64) (.bin .add (.un (.wrap .i64) (.bin .add (.int 4) (.un (.wrap .i64) (.bin .mul (.int 4) (.var 0))))) (.var 2))), (.un (.wrap .i64) (.bin .add (.un (.wrap .i64) (.bin .add (.un (.wrap .i64) (.bin .add (.int 4) (.un (.wrap .i64) (.bin .mul (.int 4) (.var 0))))) (.var 2))) (.un (.wrap .i64) (.bin .mul (.int 4) (.var 1))))), (.int 0)]))
         (.leaf [(.int 0), (.int 0), (.int 0), (.int 0), (.int 0), (.int 0), (.int 0), (.int 0), (.int 0), (.int 0), (.int 0), (.int 0), (.int 0), (.int 1)]))
        (.leaf [(.int 0), (.int 0), (.int 0), (.int 0), (.int 0), (.int 0), (.int 0), (.int 0), (.int 0), (.int 0), (.int 0), (.int 0), (.int 0), (.int 1)]))
       (.leaf [(.int 0), (.int 0), (.int 0), (.int 0), (.int 0), (.int 0), (.int 0), (.int 0), (.int 0), (.int 0), (.int 0), (.int 0), (.int 0), (.int 1)]))))))))
def rOfMSm : List (Nat × Smy) := []
def rOfMLa : List (LK × LA) := []
def rOfMPhi : Fs := ⟨fun n d => match n with
  | _ => d, 147⟩
theorem rOfMS : SmyOk true Tryd.prog rOfMPhi rOfMSm := smy_nil
theorem rOfMT : treeOk ⟨Tryd.prog, rOfMSm, rOfMLa, true⟩ 4000 28 [.agg [.pl (.int .i64), .pl (.int .i64), .pl (.int .i64), .pl (.int .i64), .pl (.int .i64)]] [.agg [.pl (.int .i64), .pl (.int .i64), .pl (.int .i64), .pl (.int .i64), .pl (.int .i64), .pl (.int .i64), .pl (.int .i64), .pl (.int .i64), .pl (.int .i64), .pl (.int .i64), .pl (.int .i64), .pl (.int .i64), .pl (.int .i64)], .one (.pl (.int .i64))] ([]) rOfMTree = true := by decide +kernel
set_option maxHeartbeats 1000000 in
theorem rOfM_pure : PureE true Tryd.prog 28 [.agg [.pl (.int .i64), .pl (.int .i64), .pl (.int .i64), .pl (.int .i64), .pl (.int .i64)]] [.agg [.pl (.int .i64), .pl (.int .i64), .pl (.int .i64), .pl (.int .i64), .pl (.int .i64), .pl (.int .i64), .pl (.int .i64), .pl (.int .i64), .pl (.int .i64), .pl (.int .i64), .pl (.int .i64), .pl (.int .i64), .pl (.int .i64)], .one (.pl (.int .i64))] (fun _ => True) rOfMF := by
  refine pure_tree (X := ⟨Tryd.prog, rOfMSm, rOfMLa, true⟩) (by decide +kernel) (Checked.mixed Tryd.checked) rOfMS (by decide +kernel) (by decide +kernel) rOfMT (by decide +kernel) ?_
  intro ds hl hp
  obtain ⟨d0, d1, d2, d3, d4, rfl⟩ := len5 hl
  have hF : rOfMF [d0, d1, d2, d3, d4] = rOfME d0.i d1.i d2.i d3.i d4.i := rfl
  rw [hF]
  clear hF hp hl
  have hN : nrmL (clsOf [.agg [.pl (.int .i64), .pl (.int .i64), .pl (.int .i64), .pl (.int .i64), .pl (.int .i64)]]) [d0, d1, d2, d3, d4] = [.int d0.i, .int d1.i, .int d2.i, .int d3.i, .int d4.i] := by
    simp only [clsOf, Sh.cls, List.append_nil, nrmL, Cl.nrm, CK.nrm]
  rw [hN]
  clear hN
  generalize d0.i = x0
  generalize d1.i = x1
  generalize d2.i = x2
  generalize d3.i = x3
  generalize d4.i = x4
  refine ⟨facts_nil _, ?_⟩
  unfold rOfMTree rOfME layOfE
  by_cases hm : mayM x0 x1 x2 x3 x4 = true
  · rw [if_pos hm]
    unfold mayM at hm
    simp only [decide_eq_true_eq] at hm
    simp only [Sat, clsOf, Sh.cls, List.append_nil, List.cons_append, List.nil_append, nrmL, Cl.nrm, CK.nrm, List.map_cons, List.map_nil, List.cons.injEq, DV.int.injEq, and_true]
    simp only [q_le, q_not, iff_true, iff_false, Bool.not_true, Bool.not_false, Bool.false_eq_true, eq_self]
    simp only [SE.den, evU, ev_add, ev_mul, i_int, envL, List.getElem?_cons_succ, List.getElem?_cons_zero, Option.getD_some, and_true, true_and, eq_self, w64_eq]
    repeat' (first | apply And.intro | intro)
    all_goals first | omega | rfl | (simp; done) | trace_state
  · rw [if_neg hm]
    unfold mayM at hm
    simp only [decide_eq_true_eq] at hm
    simp only [Sat, clsOf, Sh.cls, List.append_nil, List.cons_append, List.nil_append, nrmL, Cl.nrm, CK.nrm, List.map_cons, List.map_nil, List.cons.injEq, DV.int.injEq, and_true]
    simp only [q_le, q_not, iff_true, iff_false, Bool.not_true, Bool.not_false, Bool.false_eq_true, eq_self]
    simp only [SE.den, evU, ev_add, ev_mul, i_int, envL, List.getElem?_cons_succ, List.getElem?_cons_zero, Option.getD_some, and_true, true_and, eq_self, w64_eq]
    repeat' (first | apply And.intro | intro)
    all_goals first | omega | rfl | (simp; done) | trace_state
end Go.Proofs.YtkfjgggiopegbaaDoor
end
section
namespace Go.Proofs.YtkfjgggiopegbaaDoor
set_option linter.unusedVariables false
set_option linter.unusedSimpArgs false
set_option maxRecDepth 100000
def cellM (l : List Int) (k : Int) : Int := if k < 0 ∨ l.length ≤ k then 0 else l[k.toNat]?.getD 0
def rCellE (l : List Int) (k : Int) : List DV := [.int (cellM l k)]
def rCellF (ds : List DV) : List DV := rCellE (gLi ds 0) (gi ds 1)
def rCellTree : PT :=
(.br (.un .not (.bin .le (.int 0) (.var 1)))
 (.leaf [(.int 0)])
 (.br (.bin .le (.un .len (.var 0)) (.var 1))
  (.leaf [(.int 0)])
  (.leaf [(.bin .idx (.var 0) (.bin .add (.int 0) (.var 1)))])))
def rCellSm : List (Nat × Smy) := []
def rCellLa : List (LK × LA) := []
def rCellPhi : Fs := ⟨fun n d => match n with
  | _ => d, 147⟩
theorem rCellS : SmyOk true Tryd.prog rCellPhi rCellSm := smy_nil
theorem rCellT : treeOk ⟨Tryd.prog, rCellSm, rCellLa, true⟩ 4000 33 [.agg [.rows false [.int .i64]], .one (.pl (.int .i64))] [.one (.pl (.int .i64))] ([]) rCellTree = true := by decide +kernel
set_option maxHeartbeats 1000000 in
theorem rCell_pure : PureE true Tryd.prog 33 [.agg [.rows false [.int .i64]], .one (.pl (.int .i64))] [.one (.pl (.int .i64))] (fun _ => True) rCellF := by
  refine pure_tree (X := ⟨Tryd.prog, rCellSm, rCellLa, true⟩) (by decide +kernel) (Checked.mixed Tryd.checked) rCellS (by decide +kernel) (by decide +kernel) rCellT (by decide +kernel) ?_
  intro ds hl hp
  obtain ⟨d0, d1, rfl⟩ := len2 hl
  have hF : rCellF [d0, d1] = rCellE (d0.l.map DV.i) d1.i := rfl
  rw [hF]
  clear hF hp hl
  have hN : nrmL (clsOf [.agg [.rows false [.int .i64]], .one (.pl (.int .i64))]) [d0, d1] = [.list ((d0.l.map DV.i).map DV.int), .int d1.i] := by
    simp only [clsOf, Sh.cls, List.append_nil, List.cons_append, List.nil_append, nrmL, Cl.nrm, CK.nrm, map_Li]
  rw [hN]
  clear hN
  generalize d0.l.map DV.i = x0
  generalize d1.i = x1
  refine ⟨facts_nil _, ?_⟩
  unfold rCellTree rCellE cellM
  simp only [Sat, clsOf, Sh.cls, List.append_nil, nrmL, Cl.nrm, CK.nrm, List.map_cons, List.map_nil, List.cons.injEq, DV.int.injEq, and_true]
  simp only [q_le, q_not, iff_true, iff_false, Bool.not_true, Bool.not_false, Bool.false_eq_true, eq_self]
  simp only [SE.den, evU, ev_add, ev_idx, i_int, l_list, envL, List.getElem?_cons_succ, List.getElem?_cons_zero, Option.getD_some, List.length_map, get_Li, Int.zero_add]
  repeat' (first | apply And.intro | intro)
  all_goals grind
end Go.Proofs.YtkfjgggiopegbaaDoor
end
section
namespace Go.Proofs.YtkfjgggiopegbaaDoor
set_option linter.unusedVariables false
set_option linter.unusedSimpArgs false
set_option maxRecDepth 100000
def rValE (t l k s m a0 a1 a2 a3 a4 a5 a6 a7 n : Int) : List DV := [.int (placeM a6 l n 4 1)]
def rValF (ds : List DV) : List DV := rValE (gi ds 0) (gi ds 1) (gi ds 2) (gi ds 3) (gi ds 4) (gi ds 5) (gi ds 6) (gi ds 7) (gi ds 8) (gi ds 9) (gi ds 10) (gi ds 11) (gi ds 12) (gi ds 13)
def rValTree : PT :=
(.br (.un .not (.bin .le (.int 0) (.var 13)))
 (.leaf [(.int (-1))])
 (.br (.bin .le (.var 1) (.var 13))
  (.leaf [(.int (-1))])
  (.leaf [(.un (.wrap .i64) (.bin .add (.un (.wrap .i64) (.bin .add (.var 11) (.un (.wrap .i64) (.bin .mul (.int 4) (.var 13))))) (.int 1)))])))
def rValSm : List (Nat × Smy) := []
def rValLa : List (LK × LA) := []
def rValPhi : Fs := ⟨fun n d => match n with
  | _ => d, 147⟩
theorem rValS : SmyOk true Tryd.prog rValPhi rValSm := smy_nil
theorem rValT : treeOk ⟨Tryd.prog, rValSm, rValLa, true⟩ 4000 34 [.agg [.pl (.int .i64), .pl (.int .i64), .pl (.int .i64), .pl (.int .i64), .pl (.int .i64), .pl (.int .i64), .pl (.int .i64), .pl (.int .i64), .pl (.int .i64), .pl (.int .i64), .pl (.int .i64), .pl (.int .i64), .pl (.int .i64)], .one (.pl (.int .i64))] [.one (.pl (.int .i64))] ([]) rValTree = true := by decide +kernel
set_option maxHeartbeats 1000000 in
theorem rVal_pure : PureE true Tryd.prog 34 [.agg [.pl (.int .i64), .pl (.int .i64), .pl (.int .i64), .pl (.int .i64), .pl (.int .i64), .pl (.int .i64), .pl (.int .i64), .pl (.int .i64), .pl (.int .i64), .pl (.int .i64), .pl (.int .i64), .pl (.int .i64), .pl (.int .i64)], .one (.pl (.int .i64))] [.one (.pl (.int .i64))] (fun _ => True) rValF := by
  refine pure_tree (X := ⟨Tryd.prog, rValSm, rValLa, true⟩) (by decide +kernel) (Checked.mixed Tryd.checked) rValS (by decide +kernel) (by decide +kernel) rValT (by decide +kernel) ?_
  intro ds hl hp
  obtain ⟨d0, d1, d2, d3, d4, d5, d6, d7, d8, d9, d10, d11, d12, d13, rfl⟩ := len14 hl
  have hF : rValF [d0, d1, d2, d3, d4, d5, d6, d7, d8, d9, d10, d11, d12, d13] = rValE d0.i d1.i d2.i d3.i d4.i d5.i d6.i d7.i d8.i d9.i d10.i d11.i d12.i d13.i := rfl
  rw [hF]
  clear hF hp hl
  have hN : nrmL (clsOf [.agg [.pl (.int .i64), .pl (.int .i64), .pl (.int .i64), .pl (.int .i64), .pl (.int .i64), .pl (.int .i64), .pl (.int .i64), .pl (.int .i64), .pl (.int .i64), .pl (.int .i64), .pl (.int .i64), .pl (.int .i64), .pl (.int .i64)], .one (.pl (.int .i64))]) [d0, d1, d2, d3, d4, d5, d6, d7, d8, d9, d10, d11, d12, d13] = [.int d0.i, .int d1.i, .int d2.i, .int d3.i, .int d4.i, .int d5.i, .int d6.i, .int d7.i, .int d8.i, .int d9.i, .int d10.i, .int d11.i, .int d12.i, .int d13.i] := by
    simp only [clsOf, Sh.cls, List.append_nil, List.cons_append, List.nil_append, nrmL, Cl.nrm, CK.nrm]
  rw [hN]
  clear hN
  generalize d0.i = x0
  generalize d1.i = x1
  generalize d2.i = x2
  generalize d3.i = x3
  generalize d4.i = x4
  generalize d5.i = x5
  generalize d6.i = x6
  generalize d7.i = x7
  generalize d8.i = x8
  generalize d9.i = x9
  generalize d10.i = x10
  generalize d11.i = x11
  generalize d12.i = x12
  generalize d13.i = x13
  refine ⟨facts_nil _, ?_⟩
  unfold rValTree rValE placeM
  simp only [Sat, clsOf, Sh.cls, List.append_nil, nrmL, Cl.nrm, CK.nrm, List.map_cons, List.map_nil, List.cons.injEq, DV.int.injEq, and_true]
  simp only [q_le, q_not, iff_true, iff_false, Bool.not_true, Bool.not_false, Bool.false_eq_true, eq_self]
  simp only [SE.den, evU, ev_add, ev_mul, i_int, envL, List.getElem?_cons_succ, List.getElem?_cons_zero, Option.getD_some]
  repeat' (first | apply And.intro | intro)
  all_goals grind
end Go.Proofs.YtkfjgggiopegbaaDoor
end
section
namespace Go.Proofs.YtkfjgggiopegbaaDoor
set_option linter.unusedVariables false
set_option linter.unusedSimpArgs false
set_option maxRecDepth 100000
def rWordE (t l k s m a0 a1 a2 a3 a4 a5 a6 a7 n : Int) : List DV := [.int (placeM a6 l n 4 0)]
def rWordF (ds : List DV) : List DV := rWordE (gi ds 0) (gi ds 1) (gi ds 2) (gi ds 3) (gi ds 4) (gi ds 5) (gi ds 6) (gi ds 7) (gi ds 8) (gi ds 9) (gi ds 10) (gi ds 11) (gi ds 12) (gi ds 13)
def rWordTree : PT :=
(.br (.un .not (.bin .le (.int 0) (.var 13)))
 (.leaf [(.int (-1))])
 (.br (.bin .le (.var 1) (.var 13))
  (.leaf [(.int (-1))])
  (.leaf [(.un (.wrap .i64) (.bin .add (.un (.wrap .i64) (.bin .add (.var 11) (.un (.wrap .i64) (.bin .mul (.int 4) (.var 13))))) (.int 0)))])))
def rWordSm : List (Nat × Smy) := []
def rWordLa : List (LK × LA) := []
def rWordPhi : Fs := ⟨fun n d => match n with
  | _ => d, 147⟩
theorem rWordS : SmyOk true Tryd.prog rWordPhi rWordSm := smy_nil
theorem rWordT : treeOk ⟨Tryd.prog, rWordSm, rWordLa, true⟩ 4000 35 [.agg [.pl (.int .i64), .pl (.int .i64), .pl (.int .i64), .pl (.int .i64), .pl (.int .i64), .pl (.int .i64), .pl (.int .i64), .pl (.int .i64), .pl (.int .i64), .pl (.int .i64), .pl (.int .i64), .pl (.int .i64), .pl (.int .i64)], .one (.pl (.int .i64))] [.one (.pl (.int .i64))] ([]) rWordTree = true := by decide +kernel
set_option maxHeartbeats 1000000 in
theorem rWord_pure : PureE true Tryd.prog 35 [.agg [.pl (.int .i64), .pl (.int .i64), .pl (.int .i64), .pl (.int .i64), .pl (.int .i64), .pl (.int .i64), .pl (.int .i64), .pl (.int .i64), .pl (.int .i64), .pl (.int .i64), .pl (.int .i64), .pl (.int .i64), .pl (.int .i64)], .one (.pl (.int .i64))] [.one (.pl (.int .i64))] (fun _ => True) rWordF := by
  refine pure_tree (X := ⟨Tryd.prog, rWordSm, rWordLa, true⟩) (by decide +kernel) (Checked.mixed Tryd.checked) rWordS (by decide +kernel) (by decide +kernel) rWordT (by decide +kernel) ?_
  intro ds hl hp
  obtain ⟨d0, d1, d2, d3, d4, d5, d6, d7, d8, d9, d10, d11, d12, d13, rfl⟩ := len14 hl
  have hF : rWordF [d0, d1, d2, d3, d4, d5, d6, d7, d8, d9, d10, d11, d12, d13] = rWordE d0.i d1.i d2.i d3.i d4.i d5.i d6.i d7.i d8.i d9.i d10.i d11.i d12.i d13.i := rfl
  rw [hF]
  clear hF hp hl
  have hN : nrmL (clsOf [.agg [.pl (.int .i64), .pl (.int .i64), .pl (.int .i64), .pl (.int .i64), .pl (.int .i64), .pl (.int .i64), .pl (.int .i64), .pl (.int .i64), .pl (.int .i64), .pl (.int .i64), .pl (.int .i64), .pl (.int .i64), .pl (.int .i64)], .one (.pl (.int .i64))]) [d0, d1, d2, d3, d4, d5, d6, d7, d8, d9, d10, d11, d12, d13] = [.int d0.i, .int d1.i, .int d2.i, .int d3.i, .int d4.i, .int d5.i, .int d6.i, .int d7.i, .int d8.i, .int d9.i, .int d10.i, .int d11.i, .int d12.i, .int d13.i] := by
    simp only [clsOf, Sh.cls, List.append_nil, List.cons_append, List.nil_append, nrmL, Cl.nrm, CK.nrm]
  rw [hN]
  clear hN
  generalize d0.i = x0
  generalize d1.i = x1
  generalize d2.i = x2
  generalize d3.i = x3
  generalize d4.i = x4
  generalize d5.i = x5
  generalize d6.i = x6
  generalize d7.i = x7
  generalize d8.i = x8
  generalize d9.i = x9
  generalize d10.i = x10
  generalize d11.i = x11
  generalize d12.i = x12
  generalize d13.i = x13
  refine ⟨facts_nil _, ?_⟩
  unfold rWordTree rWordE placeM
  simp only [Sat, clsOf, Sh.cls, List.append_nil, nrmL, Cl.nrm, CK.nrm, List.map_cons, List.map_nil, List.cons.injEq, DV.int.injEq, and_true]
  simp only [q_le, q_not, iff_true, iff_false, Bool.not_true, Bool.not_false, Bool.false_eq_true, eq_self]
  simp only [SE.den, evU, ev_add, ev_mul, i_int, envL, List.getElem?_cons_succ, List.getElem?_cons_zero, Option.getD_some]
  repeat' (first | apply And.intro | intro)
  all_goals grind
end Go.Proofs.YtkfjgggiopegbaaDoor
end
section
namespace Go.Proofs.YtkfjgggiopegbaaDoor
set_option linter.unusedVariables false
set_option linter.unusedSimpArgs false
set_option maxRecDepth 100000
def rSum23E (s : List UInt8) : List DV := [.int (sumM s)]
def rSum23F (ds : List DV) : List DV := rSum23E (gs ds 0)
def rSum23Tree : PT :=
(.loop 1 [(.int 1), (.int 0), (.int 0)]
 (.br (.un .not (.bin .le (.un .slen (.var 0)) (.var 3)))
  (.asrt (.bin .le (.int 0) (.var 3))
   (.leaf [(.bin .tmod (.un (.wrap .i64) (.bin .add (.var 1) (.un (.wrap .i64) (.bin .byte (.var 0) (.var 3))))) (.int 65521)), (.bin .tmod (.un (.wrap .i64) (.bin .add (.var 2) (.bin .tmod (.un (.wrap .i64) (.bin .add (.var 1) (.un (.wrap .i64) (.bin .byte (.var 0) (.var 3))))) (.int 65521)))) (.int 65521)), (.un (.wrap .i64) (.bin .add (.var 3) (.int 1)))]))
  .fail)
 (.br (.un .not (.bin .le (.un .slen (.var 0)) (.var 3)))
  (.asrt (.bin .le (.int 0) (.var 3))
   .fail)
  (.leaf [(.un (.wrap .i64) (.bin .add (.un (.wrap .i64) (.bin .mul (.int 65536) (.var 2))) (.var 1)))])))
def rSum23Sm : List (Nat × Smy) := []
def rSum23La : List (LK × LA) := [(⟨27, 4, 1, 1, 0⟩, ⟨[(3, (.int .i64 (.var 1))), (4, (.int .i64 (.var 2))), (5, (.int .i64 (.var 3))), (6, .any), (7, .any), (8, .any), (9, .any), (10, .any), (11, .any), (12, .any), (13, .any), (14, .any), (15, .any), (16, .any), (17, .any), (18, .any), (19, .any), (20, .any), (21, .any), (22, .any)], [], [], 3, 0⟩)]
def rSum23Phi : Fs := ⟨fun n d => match n with
  | _ => d, 147⟩
theorem rSum23S : SmyOk true Tryd.prog rSum23Phi rSum23Sm := smy_nil
theorem rSum23T : treeOk ⟨Tryd.prog, rSum23Sm, rSum23La, true⟩ 4000 74 [.one (.pl .str)] [.one (.pl (.int .i64))] ([]) rSum23Tree = true := by decide +kernel
set_option maxHeartbeats 1000000 in
theorem rSum23_pure : PureE true Tryd.prog 74 [.one (.pl .str)] [.one (.pl (.int .i64))] (fun ds => (fun _ => True) ds ∧ slenP [(0, 0, 1000000)] ds) rSum23F := by
  refine pure_tree (X := ⟨Tryd.prog, rSum23Sm, rSum23La, true⟩) (by decide +kernel) (Checked.mixed Tryd.checked) rSum23S (by decide +kernel) (by decide +kernel) rSum23T (by decide +kernel) ?_
  intro ds hl hp
  obtain ⟨d0, rfl⟩ := len1 hl
  have l0 : 0 ≤ (d0.s.length : Int) ∧ (d0.s.length : Int) ≤ 1000000 := hp.2 (0, 0, 1000000) (by simp)
  have hF : rSum23F [d0] = rSum23E d0.s := rfl
  rw [hF]
  clear hF hp hl
  have hN : nrmL (clsOf [.one (.pl .str)]) [d0] = [.str d0.s] := by
    simp only [clsOf, Sh.cls, List.append_nil, nrmL, Cl.nrm, CK.nrm]
  rw [hN]
  clear hN
  generalize d0.s = x0 at l0 ⊢
  refine ⟨facts_nil _, ?_⟩
  unfold rSum23Tree rSum23E
  simp only [Sat, clsOf, Sh.cls, List.append_nil, List.cons_append, List.nil_append, nrmL, Cl.nrm, CK.nrm, List.map_cons, List.map_nil, List.length_cons, List.length_nil, List.cons.injEq, DV.int.injEq, and_true, true_and]
  try simp only [q_le, q_not, iff_true, iff_false, Bool.not_true, Bool.not_false, Bool.false_eq_true, eq_self]
  simp only [SE.den, evU, ev_add, ev_mul, ev_tmod, ev_byte, i_int, s_str, envL, List.getElem?_cons_succ, List.getElem?_cons_zero, Option.getD_some, rSum23Phi]
  refine rounds_at x0.length (fun i => [.int (sumS (x0.take i)).1, .int (sumS (x0.take i)).2, .int i]) rfl (fun _ => rfl) (fun i hi => ?_) ?_
  · have e1 : ¬ (x0.length : Int) ≤ i := by omega
    have hwi : IntKind.i64.wrap ((i : Int) + 1) = ((i + 1 : Nat) : Int) := by rw [w64 (by omega) (by omega)]; omega
    have hs : x0.take (i + 1) = x0.take i ++ [x0[i]?.getD 0] := by rw [List.take_add_one, List.getElem?_eq_getElem hi]; rfl
    obtain ⟨a0, a1, b0, b1⟩ := sumS_rge (x0.take i)
    have hc : (0 : Int) ≤ ((x0[i]?.getD 0).toNat : Int) ∧ ((x0[i]?.getD 0).toNat : Int) < 256 := by have := (x0[i]?.getD 0).toNat_lt; omega
    rw [hs, sumS_snoc]
    simp only [i_int, List.getElem?_cons_succ, List.getElem?_cons_zero, Option.getD_some, Int.toNat_natCast, and_true, eq_self, not_false_eq_true, DV.int.injEq, List.cons.injEq, e1, hwi]
    generalize (sumS (x0.take i)).1 = a at *
    generalize (sumS (x0.take i)).2 = b at *
    generalize ((x0[i]?.getD 0).toNat : Int) = c at *
    have w1 : IntKind.i64.wrap c = c := w64 (by omega) (by omega)
    rw [w1]
    have w2 : IntKind.i64.wrap (a + c) = a + c := w64 (by omega) (by omega)
    rw [w2, Int.tmod_eq_emod_of_nonneg (by omega)]
    have w3 : IntKind.i64.wrap (b + (a + c) % 65521) = b + (a + c) % 65521 := w64 (by omega) (by omega)
    rw [w3, Int.tmod_eq_emod_of_nonneg (by omega)]
    exact ⟨fun _ => ⟨by omega, rfl, rfl⟩, fun h => h.elim⟩
  · obtain ⟨a0, a1, b0, b1⟩ := sumS_rge x0
    have hw : IntKind.i64.wrap (IntKind.i64.wrap (65536 * (sumS x0).2) + (sumS x0).1) = sumM x0 := by
      unfold sumM
      rw [w64 (n := 65536 * (sumS x0).2) (by omega) (by omega), w64 (by omega) (by omega)]
      omega
    simp only [i_int, List.getElem?_cons_succ, List.getElem?_cons_zero, Option.getD_some, eq_self, List.take_length, hw]
    simp
end Go.Proofs.YtkfjgggiopegbaaDoor
end
section
namespace Go.Proofs.YtkfjgggiopegbaaDoor
set_option linter.unusedVariables false
set_option linter.unusedSimpArgs false
set_option maxRecDepth 100000
def turnR (n : Int) : Int := if 0 ≤ n then IntKind.u64.wrap (2 * IntKind.u64.wrap n) else IntKind.u64.wrap (IntKind.u64.wrap (2 * IntKind.u64.wrap (IntKind.i64.wrap (0 - IntKind.i64.wrap (n + 1)))) + 1)
theorem turnR_eq {n : Int} (h0 : -9223372036854775808 ≤ n) (h1 : n ≤ 9223372036854775807) : turnR n = zigM n := by
  unfold turnR zigM
  split
  · rw [u64_wrap n (by omega) (by omega), u64_wrap _ (by omega) (by omega)]
  · rw [w64 (n := n + 1) (by omega) (by omega), w64 (by omega) (by omega), u64_wrap (0 - (n + 1)) (by omega) (by omega), u64_wrap (2 * (0 - (n + 1))) (by omega) (by omega), u64_wrap _ (by omega) (by omega)]
    omega
theorem turnR_rge (n : Int) : 0 ≤ turnR n ∧ turnR n < 18446744073709551616 := by
  unfold turnR
  split <;> (rw [u64_mod]; omega)
def put3 (n : Int) : List Int := grpM 9 (turnR n)
theorem put3_eq {n : Int} (h0 : -9223372036854775808 ≤ n) (h1 : n ≤ 9223372036854775807) : put3 n = putR n := by unfold put3; rw [turnR_eq h0 h1, putR_eq h0 h1]; rfl
theorem put3_len (n : Int) : 0 < (put3 n).length ∧ (put3 n).length ≤ 10 := grp_len 9 _
def r3PutE (n : Int) : List DV := [.list ((put3 n).map .int)]
theorem r3_loop {B : List DV → List DV → Prop} {R : List DV → Prop} {z : Int} (z0 : 0 ≤ z) (z1 : z < 18446744073709551616) (P : List Int) (hput : [] ++ grpM 9 z = P)
    (hB : ∀ u out, 0 ≤ u → u < 18446744073709551616 → 128 ≤ u → (out : List Int).length ≤ 9 → B [.int u, .list (out.map .int)] [.int (u / 128), .list ((out ++ [u % 128 + 128]).map .int)])
    (hR : ∀ u out, 0 ≤ u → u < 128 → (out : List Int).length ≤ 9 → out ++ [u] = P → R [.int u, .list (out.map .int)]) : Rounds B R [.int z, .list []] := by
  refine rounds_inv (fun y => ∃ (f : Nat) (u : Int) (out : List Int), y = [.int u, .list (out.map .int)] ∧ 0 ≤ u ∧ u < 18446744073709551616 ∧ u < 128 ^ (f + 1) ∧ f + out.length = 9 ∧ out ++ grpM f u = P) (fun y => 9 - ((y[1]?).getD (DV.int 0)).l.length) ⟨9, z, [], rfl, z0, z1, ?_, rfl, hput⟩ ?_
  · have : (128 : Int) ^ (9 + 1) = 1180591620717411303424 := by decide
    omega
  · rintro y ⟨f, u, out, rfl, h0, hz, h1, h2, h3⟩
    by_cases hu : 128 ≤ u
    · right
      cases f with
      | zero =>
        have : (128 : Int) ^ (0 + 1) = 128 := rfl
        omega
      | succ f =>
        unfold grpM at h3
        rw [if_neg (by omega)] at h3
        have e : (128 : Int) ^ (f + 1 + 1) = 128 ^ (f + 1) * 128 := by rw [Int.pow_succ]
        rw [e] at h1
        refine ⟨[.int (u / 128), .list ((out ++ [u % 128 + 128]).map .int)], hB u out h0 hz hu (by omega), rfl, ⟨f, u / 128, out ++ [u % 128 + 128], rfl, by omega, by omega, Int.ediv_lt_of_lt_mul (by omega) h1, by simp; omega, by rw [List.append_assoc]; exact h3⟩, ?_⟩
        simp only [List.getElem?_cons_succ, List.getElem?_cons_zero, Option.getD_some, l_list, List.length_map, List.length_append, List.length_cons, List.length_nil]
        omega
    · left
      have hg : grpM f u = [u] := by
        cases f with
        | zero => rfl
        | succ f => unfold grpM; rw [if_pos (by omega)]
      rw [hg] at h3
      exact hR u out h0 (by omega) (by omega) h3
def r3PutF (ds : List DV) : List DV := r3PutE (gi ds 0)
def r3PutTree : PT :=
(.br (.bin .le (.int 0) (.var 0))
 (.loop 1 [(.un (.wrap .u64) (.bin .mul (.int 2) (.un (.wrap .u64) (.var 0)))), .nil]
  (.br (.bin .le (.int 128) (.var 1))
   (.asrt (.bin .le (.bin .add (.un .len (.var 2)) (.int 1)) (.int 4294967296))
    (.leaf [(.un (.wrap .u64) (.bin .tdiv (.var 1) (.int 128))), (.bin .snoc (.var 2) (.un (.wrap .u8) (.un (.wrap .u64) (.bin .add (.bin .tmod (.var 1) (.int 128)) (.int 128)))))]))
   .fail)
  (.br (.bin .le (.int 128) (.var 1))
   (.asrt (.bin .le (.bin .add (.un .len (.var 2)) (.int 1)) (.int 4294967296))
    .fail)
   (.asrt (.bin .le (.bin .add (.un .len (.var 2)) (.int 1)) (.int 4294967296))
    (.leaf [(.bin .snoc (.var 2) (.un (.wrap .u8) (.var 1)))]))))
 (.loop 1 [(.un (.wrap .u64) (.bin .add (.un (.wrap .u64) (.bin .mul (.int 2) (.un (.wrap .u64) (.un (.wrap .i64) (.bin .sub (.int 0) (.un (.wrap .i64) (.bin .add (.var 0) (.int 1)))))))) (.int 1))), .nil]
  (.br (.bin .le (.int 128) (.var 1))
   (.asrt (.bin .le (.bin .add (.un .len (.var 2)) (.int 1)) (.int 4294967296))
    (.leaf [(.un (.wrap .u64) (.bin .tdiv (.var 1) (.int 128))), (.bin .snoc (.var 2) (.un (.wrap .u8) (.un (.wrap .u64) (.bin .add (.bin .tmod (.var 1) (.int 128)) (.int 128)))))]))
   .fail)
  (.br (.bin .le (.int 128) (.var 1))
   (.asrt (.bin .le (.bin .add (.un .len (.var 2)) (.int 1)) (.int 4294967296))
    .fail)
   (.asrt (.bin .le (.bin .add (.un .len (.var 2)) (.int 1)) (.int 4294967296))
    (.leaf [(.bin .snoc (.var 2) (.un (.wrap .u8) (.var 1)))])))))
def r3PutSm : List (Nat × Smy) := []
def r3PutLa : List (LK × LA) := [(⟨23, 3, 1, 1, 1⟩, ⟨[(3, (.int .u64 (.var 1))), (4, (.sl 1 1 (.int 0) (.un .len (.var 2)) none)), (7, .any), (8, .any), (9, .any), (10, .any), (11, .any), (12, .any), (13, .any), (14, .any), (15, .any), (16, .any), (17, .any)], [(1, (.rows [.int .u8] (.var 2)))], [], 2, 1⟩)]
def r3PutPhi : Fs := ⟨fun n d => match n with
  | _ => d, 147⟩
theorem r3PutS : SmyOk true Tryd.prog r3PutPhi r3PutSm := smy_nil
theorem r3PutT : treeOk ⟨Tryd.prog, r3PutSm, r3PutLa, true⟩ 4000 98 [.one (.pl (.int .i64))] [.one (.rows true [.int .u8])] ([]) r3PutTree = true := by decide +kernel
set_option maxHeartbeats 1000000 in
theorem r3Put_pure : PureE true Tryd.prog 98 [.one (.pl (.int .i64))] [.one (.rows true [.int .u8])] (fun _ => True) r3PutF := by
  refine pure_tree (X := ⟨Tryd.prog, r3PutSm, r3PutLa, true⟩) (by decide +kernel) (Checked.mixed Tryd.checked) r3PutS (by decide +kernel) (by decide +kernel) r3PutT (by decide +kernel) ?_
  intro ds hl hp
  obtain ⟨d0, rfl⟩ := len1 hl
  have hF : r3PutF [d0] = r3PutE d0.i := rfl
  rw [hF]
  clear hF hp hl
  have hN : nrmL (clsOf [.one (.pl (.int .i64))]) [d0] = [.int d0.i] := by
    simp only [clsOf, Sh.cls, List.append_nil, nrmL, Cl.nrm, CK.nrm]
  rw [hN]
  clear hN
  generalize d0.i = x0
  refine ⟨facts_nil _, ?_⟩
  unfold r3PutTree r3PutE
  simp only [Sat, clsOf, Sh.cls, List.append_nil, List.cons_append, List.nil_append, nrmL, Cl.nrm, List.map_cons, List.map_nil, List.length_cons, List.length_nil, List.cons.injEq, DV.list.injEq, and_true, true_and]
  try simp only [q_le, iff_true, iff_false, Bool.false_eq_true, eq_self]
  simp only [SE.den, evU, ev_add, ev_sub, ev_mul, ev_tdiv, ev_tmod, ev_snoc, i_int, l_list, envL, List.getElem?_cons_succ, List.getElem?_cons_zero, Option.getD_some, rows_i, r3PutPhi]
  obtain ⟨z0, z1⟩ := turnR_rge x0
  have hput : [] ++ grpM 9 (turnR x0) = put3 x0 := rfl
  refine ⟨fun hx => ?_, fun hx => ?_⟩
  · have ht : turnR x0 = IntKind.u64.wrap (2 * IntKind.u64.wrap x0) := if_pos hx
    rw [ht] at z0 z1 hput
    generalize IntKind.u64.wrap (2 * IntKind.u64.wrap x0) = z at *
    refine r3_loop z0 z1 (put3 x0) hput (fun u out h0 hz hu hl => ?_) (fun u out h0 hu hl hp => ?_)
    · have w1 : IntKind.u64.wrap (u.tdiv 128) = u / 128 := by rw [Int.tdiv_eq_ediv_of_nonneg h0, u64_wrap _ (by omega) (by omega)]
      have w2 : IntKind.u8.wrap (IntKind.u64.wrap (u.tmod 128 + 128)) = u % 128 + 128 := by rw [Int.tmod_eq_emod_of_nonneg h0, u64_wrap _ (by omega) (by omega), u8_wrap _ (by omega) (by omega)]
      simp only [i_int, l_list, List.getElem?_cons_succ, List.getElem?_cons_zero, Option.getD_some, List.length_map, and_true, eq_self, w1, w2, snoc_Li]
      exact ⟨fun _ => by omega, fun h => absurd hu h⟩
    · simp only [i_int, l_list, List.getElem?_cons_succ, List.getElem?_cons_zero, Option.getD_some, List.length_map, rows_i, and_true, eq_self, u8_wrap u h0 (by omega), snoc_Li, hp]
      exact ⟨fun h => absurd h (by omega), fun _ => by omega⟩
  · have ht : turnR x0 = IntKind.u64.wrap (IntKind.u64.wrap (2 * IntKind.u64.wrap (IntKind.i64.wrap (0 - IntKind.i64.wrap (x0 + 1)))) + 1) := if_neg hx
    rw [ht] at z0 z1 hput
    generalize IntKind.u64.wrap (IntKind.u64.wrap (2 * IntKind.u64.wrap (IntKind.i64.wrap (0 - IntKind.i64.wrap (x0 + 1)))) + 1) = z at *
    refine r3_loop z0 z1 (put3 x0) hput (fun u out h0 hz hu hl => ?_) (fun u out h0 hu hl hp => ?_)
    · have w1 : IntKind.u64.wrap (u.tdiv 128) = u / 128 := by rw [Int.tdiv_eq_ediv_of_nonneg h0, u64_wrap _ (by omega) (by omega)]
      have w2 : IntKind.u8.wrap (IntKind.u64.wrap (u.tmod 128 + 128)) = u % 128 + 128 := by rw [Int.tmod_eq_emod_of_nonneg h0, u64_wrap _ (by omega) (by omega), u8_wrap _ (by omega) (by omega)]
      simp only [i_int, l_list, List.getElem?_cons_succ, List.getElem?_cons_zero, Option.getD_some, List.length_map, and_true, eq_self, w1, w2, snoc_Li]
      exact ⟨fun _ => by omega, fun h => absurd hu h⟩
    · simp only [i_int, l_list, List.getElem?_cons_succ, List.getElem?_cons_zero, Option.getD_some, List.length_map, rows_i, and_true, eq_self, u8_wrap u h0 (by omega), snoc_Li, hp]
      exact ⟨fun h => absurd h (by omega), fun _ => by omega⟩
end Go.Proofs.YtkfjgggiopegbaaDoor
end
section
namespace Go.Proofs.YtkfjgggiopegbaaDoor
set_option linter.unusedVariables false
set_option linter.unusedSimpArgs false
set_option maxRecDepth 100000
def nums3 (l : List Int) : List Int := put3 l.length ++ l.flatMap put3
def r3NumsE (l : List Int) : List DV := [.list ((nums3 l).map .int)]
theorem nums3_eq {l : List Int} (hl : l.length ≤ 1000000) (h : ∀ n ∈ l, -9223372036854775808 ≤ n ∧ n ≤ 9223372036854775807) : nums3 l = numsR l := by
  unfold nums3 numsR
  rw [put3_eq (by omega) (by omega)]
  congr 1
  clear hl
  induction l with
  | nil => rfl
  | cons n l ih =>
    rw [List.flatMap_cons, List.flatMap_cons, put3_eq (h n (by simp)).1 (h n (by simp)).2, ih fun m hm => h m (by simp [hm])]
theorem flat3_len (l : List Int) : (l.flatMap put3).length ≤ 10 * l.length := by
  induction l with
  | nil => simp
  | cons n l ih =>
    have := (put3_len n).2
    simp only [List.flatMap_cons, List.length_append, List.length_cons] at ih ⊢
    omega
theorem nums3_len (l : List Int) : 0 < (nums3 l).length ∧ (nums3 l).length ≤ 10 + 10 * l.length := by
  have h1 := put3_len (l.length : Int)
  have h2 := flat3_len l
  unfold nums3
  rw [List.length_append]
  omega
def r3NumsF (ds : List DV) : List DV := r3NumsE (gLi ds 0)
def r3NumsTree : PT :=
(.loop 1 [(.bin .idx (.fn 117 (.bin .cons (.un .len (.var 0)) .nil)) (.int 0)), (.int 0)]
 (.br (.un .not (.bin .le (.un .len (.var 0)) (.var 2)))
  (.asrt (.bin .le (.int 0) (.var 2))
   (.asrt (.bin .le (.bin .add (.un .len (.var 1)) (.un .len (.bin .idx (.fn 117 (.bin .cons (.bin .idx (.var 0) (.bin .add (.int 0) (.var 2))) .nil)) (.int 0)))) (.int 4294967296))
    (.leaf [(.bin .app (.var 1) (.bin .idx (.fn 117 (.bin .cons (.bin .idx (.var 0) (.bin .add (.int 0) (.var 2))) .nil)) (.int 0))), (.un (.wrap .i64) (.bin .add (.var 2) (.int 1)))])))
  .fail)
 (.br (.un .not (.bin .le (.un .len (.var 0)) (.var 2)))
  (.asrt (.bin .le (.int 0) (.var 2))
   (.asrt (.bin .le (.bin .add (.un .len (.var 1)) (.un .len (.bin .idx (.fn 117 (.bin .cons (.bin .idx (.var 0) (.bin .add (.int 0) (.var 2))) .nil)) (.int 0)))) (.int 4294967296))
    .fail))
  (.leaf [(.var 1)])))
def r3NumsSm : List (Nat × Smy) := [(98, ⟨117, [.one (.pl (.int .i64))], [.one (.rows true [.int .u8])], fun _ => [], none⟩)]
def r3NumsLa : List (LK × LA) := [(⟨22, 3, 2, 1, 0⟩, ⟨[(3, (.sl 2 1 (.int 0) (.un .len (.var 1)) none)), (4, (.int .i64 (.var 2))), (8, .any), (9, .any), (10, .any), (11, .any), (12, .any), (13, .any), (14, .any), (15, .any), (16, .any), (17, .any), (18, .any), (19, .any), (20, .any)], [(2, (.rows [.int .u8] (.var 1)))], [1], 2, 1⟩)]
def r3NumsPhi : Fs := ⟨fun n d => match n with
  | 117 => .list (r3PutF d.l)
  | _ => d, 147⟩
theorem r3NumsS : SmyOk true Tryd.prog r3NumsPhi r3NumsSm := (smy_cons (fun _ => True) r3PutF r3Put_pure (fun _ _ _ _ => trivial) (fun _ => rfl) (fun _ h => by cases h) smy_nil)
theorem r3NumsT : treeOk ⟨Tryd.prog, r3NumsSm, r3NumsLa, true⟩ 4000 73 [.one (.rows false [.int .i64])] [.one (.rows true [.int .u8])] ([]) r3NumsTree = true := by decide +kernel
set_option maxHeartbeats 1000000 in
theorem r3Nums_pure : PureE true Tryd.prog 73 [.one (.rows false [.int .i64])] [.one (.rows true [.int .u8])] (lenP [(0, 1000)]) r3NumsF := by
  refine pure_tree (X := ⟨Tryd.prog, r3NumsSm, r3NumsLa, true⟩) (by decide +kernel) (Checked.mixed Tryd.checked) r3NumsS (by decide +kernel) (by decide +kernel) r3NumsT (by decide +kernel) ?_
  intro ds hl hp
  obtain ⟨d0, rfl⟩ := len1 hl
  have b0 : (d0.l.length : Int) ≤ 1000 := hp (0, 1000) (by simp)
  have hF : r3NumsF [d0] = r3NumsE (d0.l.map DV.i) := rfl
  rw [hF]
  clear hF hp hl
  have hN : nrmL (clsOf [.one (.rows false [.int .i64])]) [d0] = [.list ((d0.l.map DV.i).map DV.int)] := by
    simp only [clsOf, Sh.cls, List.append_nil, nrmL, Cl.nrm, map_Li]
  rw [hN]
  clear hN
  rw [← List.length_map (f := DV.i)] at b0
  generalize d0.l.map DV.i = x0 at b0 ⊢
  refine ⟨facts_nil _, ?_⟩
  unfold r3NumsTree r3NumsE
  simp only [Sat, clsOf, Sh.cls, List.append_nil, List.cons_append, List.nil_append, nrmL, Cl.nrm, List.map_cons, List.map_nil, List.length_cons, List.length_nil, List.cons.injEq, DV.list.injEq, and_true, true_and]
  try simp only [q_le, q_not, iff_true, iff_false, Bool.not_true, Bool.not_false, Bool.false_eq_true, eq_self]
  simp only [SE.den, evU, ev_add, ev_idx, ev_cons, ev_app, i_int, l_list, envL, List.getElem?_cons_succ, List.getElem?_cons_zero, Option.getD_some, Int.toNat_zero, List.length_map, get_Li, rows_i, Int.zero_add, r3NumsPhi, r3PutF, r3PutE, gi]
  have hl : ∀ i, ((x0.take i).flatMap put3).length ≤ 10 * i := fun i => by
    have := flat3_len (x0.take i)
    rw [List.length_take] at this
    omega
  have hp := put3_len (x0.length : Int)
  refine rounds_at x0.length (fun i => [.list ((put3 x0.length ++ (x0.take i).flatMap put3).map .int), .int i]) (by simp) (fun _ => rfl) (fun i hi => ?_) ?_
  · have e1 : ¬ (x0.length : Int) ≤ i := by omega
    have hwi : IntKind.i64.wrap ((i : Int) + 1) = ((i + 1 : Nat) : Int) := by rw [w64 (by omega) (by omega)]; omega
    have hs : x0.take (i + 1) = x0.take i ++ [x0[i]?.getD 0] := by rw [List.take_add_one, List.getElem?_eq_getElem hi]; rfl
    have hpi := put3_len (x0[i]?.getD 0)
    have hli := hl i
    rw [hs, List.flatMap_append]
    simp only [i_int, l_list, List.getElem?_cons_succ, List.getElem?_cons_zero, Option.getD_some, Int.toNat_natCast, List.length_map, and_true, eq_self, not_false_eq_true, e1, hwi, List.length_append, app_Li, List.flatMap_cons, List.flatMap_nil, List.append_nil, List.append_assoc]
    exact ⟨fun _ => ⟨by omega, by omega⟩, fun h => h.elim⟩
  · simp only [i_int, l_list, List.getElem?_cons_succ, List.getElem?_cons_zero, Option.getD_some, Int.toNat_natCast, List.length_map, inj_Li, rows_i, List.take_length]
    simp [nums3]
end Go.Proofs.YtkfjgggiopegbaaDoor
end
