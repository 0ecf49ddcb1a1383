/- Numbers as bytes, in groups of seven bits: what is written and what is read; no program in sight. -/
import Derived.Test.YtkfjgggiopegbaaDoorBits
import Derived.Test.YtkfjgggiopegbaaDoorBd
namespace Go.Proofs.YtkfjgggiopegbaaDoor
set_option linter.unusedVariables false
set_option linter.unusedSimpArgs false

/-! Words. -/
theorem u8_or (u : Int) (h0 : 0 ≤ u) : IntKind.u8.wrap ((BitVec.ofInt IntKind.u8.bits (IntKind.u8.wrap u) ||| BitVec.ofInt IntKind.u8.bits 128).toNat : Int) = u % 128 + 128 := by
  have hw : IntKind.u8.wrap u = u % 256 := by simp [IntKind.wrap, IntKind.bits, IntKind.signed]
  rw [hw]
  have key : ∀ b : Fin 256, IntKind.u8.wrap ((BitVec.ofInt 8 ((b.val : Int)) ||| BitVec.ofInt 8 128).toNat : Int) = (b.val : Int) % 128 + 128 := by decide +kernel
  have hb : (u % 256).toNat < 256 := by omega
  have := key ⟨(u % 256).toNat, hb⟩
  have e : (((u % 256).toNat : Nat) : Int) = u % 256 := by omega
  simp only [e] at this
  refine this.trans ?_
  omega
theorem u8_andn (x : Int) (h0 : 0 ≤ x) (h1 : x ≤ 255) : IntKind.u8.wrap ((BitVec.ofInt IntKind.u8.bits x &&& ~~~BitVec.ofInt IntKind.u8.bits 128).toNat : Int) = x % 128 := by
  have key : ∀ b : Fin 256, IntKind.u8.wrap ((BitVec.ofInt 8 ((b.val : Int)) &&& ~~~BitVec.ofInt 8 128).toNat : Int) = (b.val : Int) % 128 := by decide +kernel
  have hb : x.toNat < 256 := by omega
  have := key ⟨x.toNat, hb⟩
  have e : ((x.toNat : Nat) : Int) = x := by omega
  simp only [e] at this
  exact this
theorem u8_wrap (u : Int) (h0 : 0 ≤ u) (h1 : u ≤ 255) : IntKind.u8.wrap u = u := by
  simp [IntKind.wrap, IntKind.bits, IntKind.signed]; omega
theorem u64_wrap (u : Int) (h0 : 0 ≤ u) (h1 : u < 18446744073709551616) : IntKind.u64.wrap u = u := by
  simp [IntKind.wrap, IntKind.bits, IntKind.signed]; omega
theorem u64_mod (u : Int) : IntKind.u64.wrap u = u % 18446744073709551616 := by
  simp [IntKind.wrap, IntKind.bits, IntKind.signed]
theorem shr7 (u : Int) : u.fdiv (2 ^ min 7 IntKind.u64.bits) = u / 128 := by
  show u.fdiv 128 = _
  exact Int.fdiv_eq_ediv_of_nonneg u (by omega)
theorem shr63 (n : Int) : n.fdiv (2 ^ min 63 IntKind.i64.bits) = n / 9223372036854775808 := by
  show n.fdiv 9223372036854775808 = _
  exact Int.fdiv_eq_ediv_of_nonneg n (by omega)
/-- The zigzag number. -/
def zigM (n : Int) : Int := if 0 ≤ n then 2 * n else -2 * n - 1
def unzigM (u : Int) : Int := if u % 2 = 0 then u / 2 else -(u / 2) - 1
theorem unzig_zig (n : Int) : unzigM (zigM n) = n := by unfold unzigM zigM; split <;> split <;> omega
theorem zig_unzig {u : Int} (h : 0 ≤ u) : zigM (unzigM u) = u := by unfold unzigM zigM; split <;> split <;> omega
theorem zig_rge {n : Int} (h0 : -9223372036854775808 ≤ n) (h1 : n ≤ 9223372036854775807) : 0 ≤ zigM n ∧ zigM n < 18446744073709551616 := by unfold zigM; split <;> omega
theorem unzig_rge {u : Int} (h0 : 0 ≤ u) (h1 : u < 18446744073709551616) : -9223372036854775808 ≤ unzigM u ∧ unzigM u ≤ 9223372036854775807 := by unfold unzigM; split <;> omega
theorem zig_ops (n : Int) (h0 : -9223372036854775808 ≤ n) (h1 : n ≤ 9223372036854775807) :
    IntKind.u64.wrap ((BitVec.ofInt IntKind.u64.bits (IntKind.u64.wrap (IntKind.u64.wrap n * 2 ^ min 1 IntKind.u64.bits)) ^^^ BitVec.ofInt IntKind.u64.bits (IntKind.u64.wrap (n.fdiv (2 ^ min 63 IntKind.i64.bits)))).toNat : Int) = zigM n := by
  rw [shr63]
  have hs : IntKind.u64.wrap (IntKind.u64.wrap n * 2 ^ min 1 IntKind.u64.bits) = (n % 18446744073709551616 * 2) % 18446744073709551616 := by
    show IntKind.u64.wrap (IntKind.u64.wrap n * 2) = _
    rw [u64_mod, u64_mod]
  rw [hs]
  by_cases hn : 0 ≤ n
  · have e : n / 9223372036854775808 = 0 := by omega
    rw [e]
    have e2 : BitVec.ofInt IntKind.u64.bits (IntKind.u64.wrap 0) = 0#64 := by rw [u64_mod]; rfl
    rw [e2]
    show IntKind.u64.wrap ((BitVec.ofInt 64 _ ^^^ 0#64).toNat : Int) = _
    rw [BitVec.xor_zero, BitVec.toNat_ofInt, u64_mod]
    unfold zigM
    rw [if_pos hn]
    omega
  · have e : n / 9223372036854775808 = -1 := by omega
    rw [e]
    have e2 : BitVec.ofInt IntKind.u64.bits (IntKind.u64.wrap (-1)) = BitVec.allOnes 64 := by rw [u64_mod]; rfl
    rw [e2]
    show IntKind.u64.wrap ((BitVec.ofInt 64 _ ^^^ BitVec.allOnes 64).toNat : Int) = _
    rw [BitVec.xor_allOnes, BitVec.toNat_not, BitVec.toNat_ofInt, u64_mod]
    unfold zigM
    rw [if_neg hn]
    omega
theorem unzig_ops (u : Int) (h0 : 0 ≤ u) (h1 : u < 18446744073709551616) :
    IntKind.i64.wrap ((BitVec.ofInt IntKind.i64.bits (IntKind.i64.wrap (u.fdiv (2 ^ min 1 IntKind.u64.bits))) ^^^ BitVec.ofInt IntKind.i64.bits (IntKind.i64.wrap (0 - IntKind.i64.wrap (IntKind.u64.wrap ((BitVec.ofInt IntKind.u64.bits u &&& BitVec.ofInt IntKind.u64.bits 1).toNat : Int))))).toNat : Int) = unzigM u := by
  have e1 : u.fdiv (2 ^ min 1 IntKind.u64.bits) = u / 2 := Int.fdiv_eq_ediv_of_nonneg u (by decide)
  have e2 : IntKind.u64.wrap ((BitVec.ofInt IntKind.u64.bits u &&& BitVec.ofInt IntKind.u64.bits 1).toNat : Int) = u % 2 := by
    show IntKind.u64.wrap ((BitVec.ofInt 64 u &&& 1#64).toNat : Int) = _
    rw [BitVec.toNat_and, BitVec.toNat_ofInt]
    show IntKind.u64.wrap (((u % 18446744073709551616).toNat &&& 1 : Nat) : Int) = _
    rw [Nat.and_one_is_mod, u64_mod]
    omega
  rw [e1, e2, w64 (n := u / 2) (by omega) (by omega), w64 (n := u % 2) (by omega) (by omega)]
  rw [w64 (n := 0 - u % 2) (by omega) (by omega)]
  unfold unzigM
  by_cases hp : u % 2 = 0
  · rw [if_pos hp, hp]
    show IntKind.i64.wrap ((BitVec.ofInt 64 (u / 2) ^^^ 0#64).toNat : Int) = _
    rw [BitVec.xor_zero, wrap_ofInt]
    exact w64 (by omega) (by omega)
  · rw [if_neg hp, show (0 : Int) - u % 2 = -1 by omega]
    have e3 : BitVec.ofInt IntKind.i64.bits (-1) = BitVec.allOnes 64 := by rfl
    rw [e3]
    show IntKind.i64.wrap ((BitVec.ofInt 64 (u / 2) ^^^ BitVec.allOnes 64).toNat : Int) = _
    rw [BitVec.xor_allOnes, BitVec.toNat_not, BitVec.toNat_ofInt, w64_eq]
    omega
/-- The same, of whatever number. -/
def zigR (n : Int) : Int := IntKind.u64.wrap ((BitVec.ofInt IntKind.u64.bits (IntKind.u64.wrap (IntKind.u64.wrap n * 2 ^ min 1 IntKind.u64.bits)) ^^^ BitVec.ofInt IntKind.u64.bits (IntKind.u64.wrap (n.fdiv (2 ^ min 63 IntKind.i64.bits)))).toNat : Int)
theorem zigR_eq {n : Int} (h0 : -9223372036854775808 ≤ n) (h1 : n ≤ 9223372036854775807) : zigR n = zigM n := zig_ops n h0 h1
theorem zigR_rge (n : Int) : 0 ≤ zigR n ∧ zigR n < 18446744073709551616 := by
  unfold zigR
  rw [u64_mod]
  omega
/-- A group of seven bits is laid above those that are there. -/
theorem u64_or (a x : Int) (k : Nat) (hk : k ≤ 9) (ha0 : 0 ≤ a) (ha : a < 128 ^ k) (hx0 : 0 ≤ x) (hx : x * 128 ^ k < 18446744073709551616) :
    IntKind.u64.wrap ((BitVec.ofInt IntKind.u64.bits a ||| BitVec.ofInt IntKind.u64.bits (IntKind.u64.wrap (IntKind.u64.wrap x * 2 ^ min (Int.toNat (IntKind.i64.wrap (7 * (k : Int)))) IntKind.u64.bits))).toNat : Int) = a + x * 128 ^ k := by
  have hp : (128 : Int) ^ k = 2 ^ (7 * k) := by rw [Int.pow_mul]; rfl
  have hp0 : (0 : Int) < 2 ^ (7 * k) := Int.pow_pos (by decide)
  have e7 : Int.toNat (IntKind.i64.wrap (7 * (k : Int))) = 7 * k := by rw [w64 (by omega) (by omega)]; omega
  have hm : min (7 * k) IntKind.u64.bits = 7 * k := by
    have : IntKind.u64.bits = 64 := rfl
    omega
  rw [hp] at ha hx ⊢
  rw [e7, hm]
  have hxs : x < 18446744073709551616 := by
    have : x * 1 ≤ x * 2 ^ (7 * k) := Int.mul_le_mul_of_nonneg_left (by omega) hx0
    omega
  rw [u64_wrap x hx0 hxs, u64_wrap (x * 2 ^ (7 * k)) (Int.mul_nonneg hx0 (by omega)) hx]
  obtain ⟨an, rfl⟩ := Int.eq_ofNat_of_zero_le ha0
  obtain ⟨xn, rfl⟩ := Int.eq_ofNat_of_zero_le hx0
  have e1 : ((xn : Int) * 2 ^ (7 * k)) = ((2 ^ (7 * k) * xn : Nat) : Int) := by rw [Int.natCast_mul, Int.natCast_pow, Int.mul_comm]; rfl
  have hpn : ((2 : Int) ^ (7 * k)) = ((2 ^ (7 * k) : Nat) : Int) := by rw [Int.natCast_pow]; rfl
  rw [e1] at hx ⊢
  rw [hpn] at ha
  have han : an < 2 ^ (7 * k) := Int.ofNat_lt.1 ha
  have h64 : 2 ^ (7 * k) ≤ 2 ^ 64 := Nat.pow_le_pow_right (by decide) (by omega)
  have hxn : 2 ^ (7 * k) * xn < 18446744073709551616 := by omega
  show IntKind.u64.wrap ((BitVec.ofInt 64 (an : Int) ||| BitVec.ofInt 64 ((2 ^ (7 * k) * xn : Nat) : Int)).toNat : Int) = _
  rw [BitVec.toNat_or, BitVec.toNat_ofInt, BitVec.toNat_ofInt]
  have f1 : ((an : Int) % ((2 ^ 64 : Nat) : Int)).toNat = an := by omega
  have f2 : (((2 ^ (7 * k) * xn : Nat) : Int) % ((2 ^ 64 : Nat) : Int)).toNat = 2 ^ (7 * k) * xn := by omega
  rw [f1, f2, Nat.or_comm, ← Nat.two_pow_add_eq_or_of_lt han xn]
  have hbig : 2 ^ (7 * k) * xn + an < 18446744073709551616 := by
    have hor := Nat.two_pow_add_eq_or_of_lt han xn
    rw [hor]
    exact Nat.or_lt_two_pow (n := 64) hxn (by omega)
  rw [u64_wrap _ (by omega) (by omega)]
  omega

/-! Groups. -/
def grpM : Nat → Int → List Int
  | 0, u => [u]
  | f + 1, u => if u < 128 then [u] else (u % 128 + 128) :: grpM f (u / 128)
def putM (n : Int) : List Int := grpM 9 (zigM n)
def putR (n : Int) : List Int := grpM 9 (zigR n)
theorem putR_eq {n : Int} (h0 : -9223372036854775808 ≤ n) (h1 : n ≤ 9223372036854775807) : putR n = putM n := by unfold putR putM; rw [zigR_eq h0 h1]
def getG : List Int → Nat → Int → Option (Int × Nat)
  | [], _, _ => none
  | x :: r, k, u => if 9 < k ∨ (k = 9 ∧ 1 < x) then none else if x < 128 then (if x = 0 ∧ 0 < k then none else some (u + x * 128 ^ k, k + 1)) else getG r (k + 1) (u + (x - 128) * 128 ^ k)
def getM (b : List Int) : Option (Int × Nat) := (getG b 0 0).map fun p => (unzigM p.1, p.2)
theorem grp_len : ∀ (f : Nat) (u : Int), 0 < (grpM f u).length ∧ (grpM f u).length ≤ f + 1
  | 0, u => ⟨Nat.one_pos, Nat.le_refl _⟩
  | f + 1, u => by
    unfold grpM
    split
    · exact ⟨Nat.one_pos, by simp⟩
    · obtain ⟨h1, h2⟩ := grp_len f (u / 128)
      simp only [List.length_cons]
      omega
theorem putR_len (n : Int) : 0 < (putR n).length ∧ (putR n).length ≤ 10 := grp_len 9 _
theorem put_len (n : Int) : 0 < (putM n).length ∧ (putM n).length ≤ 10 := grp_len 9 _
theorem grp_rge : ∀ (f : Nat) (u : Int), 0 ≤ u → u < 128 ^ (f + 1) → ∀ v ∈ grpM f u, 0 ≤ v ∧ v ≤ 255
  | 0, u, h0, h1, v, hv => by
    simp only [grpM, List.mem_singleton] at hv
    subst hv
    have : (128 : Int) ^ (0 + 1) = 128 := rfl
    omega
  | f + 1, u, h0, h1, v, hv => by
    unfold grpM at hv
    split at hv
    · simp only [List.mem_singleton] at hv
      omega
    · rcases List.mem_cons.1 hv with rfl | hv
      · omega
      · refine grp_rge f (u / 128) (by omega) ?_ v hv
        have e : (128 : Int) ^ (f + 1 + 1) = 128 ^ (f + 1) * 128 := by rw [Int.pow_succ]
        rw [e] at h1
        exact Int.ediv_lt_of_lt_mul (by omega) h1
theorem putR_rge (n : Int) : ∀ v ∈ putR n, 0 ≤ v ∧ v ≤ 255 :=
  grp_rge 9 (zigR n) (zigR_rge n).1 (by have : (128 : Int) ^ (9 + 1) = 1180591620717411303424 := by decide
                                        have := (zigR_rge n).2
                                        omega)
theorem put_rge {n : Int} (h0 : -9223372036854775808 ≤ n) (h1 : n ≤ 9223372036854775807) : ∀ v ∈ putM n, 0 ≤ v ∧ v ≤ 255 := by
  obtain ⟨z0, z1⟩ := zig_rge h0 h1
  exact grp_rge 9 (zigM n) z0 (by have : (128 : Int) ^ (9 + 1) = 1180591620717411303424 := by decide
                                  omega)
theorem pow_le64 {k : Nat} (hk : k ≤ 9) : ∃ q : Int, 18446744073709551616 = q * 128 ^ k ∧ 0 < (128 : Int) ^ k := by
  refine ⟨2 ^ (64 - 7 * k), ?_, Int.pow_pos (by decide)⟩
  have hp : (128 : Int) ^ k = 2 ^ (7 * k) := by rw [Int.pow_mul]; rfl
  rw [hp, ← Int.pow_add, show 64 - 7 * k + 7 * k = 64 by omega]
  rfl
/-- What was written is read. -/
theorem get_grp : ∀ (f k : Nat) (u a : Int) (r : List Int), k + f = 9 → 0 ≤ u → u * 128 ^ k < 18446744073709551616 → (0 < k → 0 < u) → getG (grpM f u ++ r) k a = some (a + u * 128 ^ k, k + (grpM f u).length)
  | 0, k, u, a, r, hk, h0, h1, h2 => by
    have hk9 : k = 9 := by omega
    subst hk9
    have e : (128 : Int) ^ 9 = 9223372036854775808 := by decide
    rw [e] at h1 ⊢
    unfold grpM
    simp only [List.cons_append, List.nil_append, getG]
    rw [if_neg (by omega), if_pos (by omega), if_neg (by omega), e]
    rfl
  | f + 1, k, u, a, r, hk, h0, h1, h2 => by
    unfold grpM
    by_cases hu : u < 128
    · rw [if_pos hu]
      simp only [List.cons_append, List.nil_append, getG]
      rw [if_neg (by omega), if_pos hu, if_neg (by omega)]
      rfl
    · rw [if_neg hu]
      simp only [List.cons_append, getG]
      rw [if_neg (by omega), if_neg (by omega)]
      obtain ⟨q, hq, hp⟩ := pow_le64 (show k ≤ 9 by omega)
      have e : (128 : Int) ^ (k + 1) = 128 ^ k * 128 := by rw [Int.pow_succ]
      have hd : u = u / 128 * 128 + u % 128 := by omega
      have hm : u / 128 * 128 ^ (k + 1) + u % 128 * 128 ^ k = u * 128 ^ k := by
        conv => rhs; rw [hd]
        rw [e, Int.add_mul, Int.mul_assoc, Int.mul_comm (128 ^ k) 128]
      have hnn : 0 ≤ u % 128 * 128 ^ k := Int.mul_nonneg (by omega) (by omega)
      rw [get_grp f (k + 1) (u / 128) _ r (by omega) (by omega) (by omega) (by omega)]
      simp only [Option.some.injEq, Prod.mk.injEq, List.length_cons]
      constructor
      · rw [show u % 128 + 128 - 128 = u % 128 by omega]; omega
      · omega
theorem get_put {n : Int} (h0 : -9223372036854775808 ≤ n) (h1 : n ≤ 9223372036854775807) (r : List Int) : getM (putM n ++ r) = some (n, (putM n).length) := by
  obtain ⟨z0, z1⟩ := zig_rge h0 h1
  unfold getM putM
  rw [get_grp 9 0 (zigM n) 0 r rfl z0 (by simpa using z1) (by omega)]
  simp [unzig_zig]
/-- What is read was written so. -/
theorem get_canon : ∀ (b : List Int) (f k : Nat) (a : Int) (v : Int) (m : Nat), k + f = 9 → (∀ x ∈ b, 0 ≤ x ∧ x ≤ 255) → getG b k a = some (v, m) →
    ∃ u, v = a + u * 128 ^ k ∧ 0 ≤ u ∧ u * 128 ^ k < 18446744073709551616 ∧ (0 < k → 0 < u) ∧ k < m ∧ m ≤ k + b.length ∧ b.take (m - k) = grpM f u
  | [], f, k, a, v, m, hk, hb, h => by cases h
  | x :: r, f, k, a, v, m, hk, hb, h => by
    obtain ⟨x0, x1⟩ := hb x (by simp)
    unfold getG at h
    split at h
    · cases h
    · rename_i hk9
      split at h
      · rename_i hx
        split at h
        · cases h
        · rename_i hz
          simp only [Option.some.injEq, Prod.mk.injEq] at h
          obtain ⟨rfl, rfl⟩ := h
          refine ⟨x, rfl, x0, ?_, by omega, by omega, by simp, ?_⟩
          · by_cases e9 : k = 9
            · subst e9
              have e : (128 : Int) ^ 9 = 9223372036854775808 := by decide
              rw [e]; omega
            · obtain ⟨q, hq, hp⟩ := pow_le64 (show k + 1 ≤ 9 by omega)
              have e : (128 : Int) ^ (k + 1) = 128 ^ k * 128 := by rw [Int.pow_succ]
              have h1 : x * 128 ^ k ≤ 127 * 128 ^ k := Int.mul_le_mul_of_nonneg_right (by omega) (by have : (0:Int) < 128 ^ k := Int.pow_pos (by decide); omega)
              have h2 : (128 : Int) ^ (k + 1) ≤ 18446744073709551616 := by
                rw [hq]
                have : 1 ≤ q := by
                  rcases Int.lt_or_le q 1 with hq1 | hq1
                  · exfalso
                    have : q * 128 ^ (k + 1) ≤ 0 * 128 ^ (k + 1) := Int.mul_le_mul_of_nonneg_right (by omega) (by omega)
                    omega
                  · exact hq1
                have := Int.mul_le_mul_of_nonneg_right this (show 0 ≤ (128:Int) ^ (k + 1) by omega)
                omega
              omega
          · rw [show k + 1 - k = 1 by omega]
            cases f with
            | zero => rfl
            | succ f => unfold grpM; rw [if_pos hx]; rfl
      · rename_i hx
        have hkk : k < 9 := by omega
        cases f with
        | zero => omega
        | succ f =>
          obtain ⟨u, h1, h2, h3, h4, h5, h6, h7⟩ := get_canon r f (k + 1) _ v m (by omega) (fun y hy => hb y (List.mem_cons_of_mem _ hy)) h
          have hu := h4 (by omega)
          have e : (128 : Int) ^ (k + 1) = 128 ^ k * 128 := by rw [Int.pow_succ]
          have hm : (x - 128 + 128 * u) * 128 ^ k = (x - 128) * 128 ^ k + u * 128 ^ (k + 1) := by
            rw [e, Int.add_mul, Int.mul_comm 128 u, Int.mul_assoc, Int.mul_comm 128 (128 ^ k)]
          refine ⟨x - 128 + 128 * u, ?_, by omega, ?_, by omega, by omega, by simp only [List.length_cons]; omega, ?_⟩
          · rw [h1, hm]; omega
          · obtain ⟨q, hq, hp⟩ := pow_le64 (show k + 1 ≤ 9 by omega)
            rw [hm]
            have hu1 : u < q := by
              rcases Int.lt_or_le u q with hh | hh
              · exact hh
              · exfalso
                have := Int.mul_le_mul_of_nonneg_right hh (show 0 ≤ (128:Int) ^ (k + 1) by omega)
                omega
            have h8 : (u + 1) * 128 ^ (k + 1) ≤ q * 128 ^ (k + 1) := Int.mul_le_mul_of_nonneg_right (by omega) (by omega)
            rw [← hq, Int.add_mul] at h8
            have h9 : (x - 128) * 128 ^ k ≤ 127 * 128 ^ k := Int.mul_le_mul_of_nonneg_right (by omega) (by have : (0:Int) < 128 ^ k := Int.pow_pos (by decide); omega)
            have : (0:Int) < 128 ^ k := Int.pow_pos (by decide)
            omega
          · rw [show m - k = (m - (k + 1)) + 1 by omega, List.take_succ_cons, h7]
            conv => rhs; unfold grpM
            rw [if_neg (by omega)]
            congr 1
            · omega
            · congr 1; omega
theorem getM_canon {b : List Int} {n : Int} {m : Nat} (hb : ∀ x ∈ b, 0 ≤ x ∧ x ≤ 255) (h : getM b = some (n, m)) : -9223372036854775808 ≤ n ∧ n ≤ 9223372036854775807 ∧ 0 < m ∧ m ≤ b.length ∧ b.take m = putM n := by
  unfold getM at h
  cases hg : getG b 0 0 with
  | none => rw [hg] at h; cases h
  | some p =>
    obtain ⟨v, m'⟩ := p
    rw [hg] at h
    simp only [Option.map_some, Option.some.injEq, Prod.mk.injEq] at h
    obtain ⟨rfl, rfl⟩ := h
    obtain ⟨u, h1, h2, h3, h4, h5, h6, h7⟩ := get_canon b 9 0 0 v m' rfl hb hg
    have e : v = u := by rw [h1]; simp
    subst e
    have h3 : v < 18446744073709551616 := by simpa using h3
    obtain ⟨z0, z1⟩ := unzig_rge h2 h3
    refine ⟨z0, z1, h5, by omega, ?_⟩
    unfold putM
    rw [zig_unzig h2]
    simpa using h7

/-! Lists of numbers. -/
def numsM (l : List Int) : List Int := putM l.length ++ l.flatMap putM
def numsR (l : List Int) : List Int := putR l.length ++ l.flatMap putR
theorem flatR_eq : ∀ {l : List Int}, (∀ n ∈ l, -9223372036854775808 ≤ n ∧ n ≤ 9223372036854775807) → l.flatMap putR = l.flatMap putM
  | [], _ => by rw [List.flatMap_nil, List.flatMap_nil]
  | n :: l, h => by
    obtain ⟨h0, h1⟩ := h n (by simp)
    rw [List.flatMap_cons, List.flatMap_cons, putR_eq h0 h1, flatR_eq (fun x hx => h x (List.mem_cons_of_mem _ hx))]
theorem numsR_eq {l : List Int} (hl : l.length ≤ 1000000) (h : ∀ n ∈ l, -9223372036854775808 ≤ n ∧ n ≤ 9223372036854775807) : numsR l = numsM l := by
  unfold numsR numsM
  rw [putR_eq (by omega) (by omega), flatR_eq h]
def gnG : Nat → List Int → Nat → List Int → Option (List Int × Nat)
  | 0, _, at', acc => some (acc, at')
  | m + 1, b, at', acc => match getM b with | none => none | some p => gnG m (b.drop p.2) (at' + p.2) (acc ++ [p.1])
def getNumsM (b : List Int) : Option (List Int × Nat) := match getM b with | none => none | some p => if p.1 < 0 ∨ (b.length : Int) < p.1 then none else gnG p.1.toNat (b.drop p.2) p.2 []
theorem gn_put : ∀ (l : List Int) (r : List Int) (a : Nat) (acc : List Int), (∀ n ∈ l, -9223372036854775808 ≤ n ∧ n ≤ 9223372036854775807) → gnG l.length (l.flatMap putM ++ r) a acc = some (acc ++ l, a + (l.flatMap putM).length)
  | [], r, a, acc, h => by simp [gnG]
  | n :: l, r, a, acc, h => by
    obtain ⟨h0, h1⟩ := h n (by simp)
    simp only [List.length_cons, gnG, List.flatMap_cons, List.append_assoc]
    rw [get_put h0 h1]
    simp only [List.drop_left]
    rw [gn_put l r _ _ (fun x hx => h x (List.mem_cons_of_mem _ hx))]
    simp [Nat.add_assoc]
theorem flat_len (l : List Int) : l.length ≤ (l.flatMap putM).length := by
  induction l with
  | nil => simp
  | cons n l ih =>
    have := (put_len n).1
    simp only [List.length_cons, List.flatMap_cons, List.length_append]
    omega
theorem flat_le (l : List Int) : (l.flatMap putM).length ≤ 10 * l.length := by
  induction l with
  | nil => simp
  | cons n l ih =>
    have := (put_len n).2
    simp only [List.length_cons, List.flatMap_cons, List.length_append]
    omega
theorem nums_len (l : List Int) : l.length < (numsM l).length ∧ (numsM l).length ≤ 10 + 10 * l.length := by
  have h1 := put_len l.length
  have h2 := flat_len l
  have h3 := flat_le l
  unfold numsM
  rw [List.length_append]
  omega
theorem getNums_nums {l : List Int} (r : List Int) (hl : l.length ≤ 1000) (h : ∀ n ∈ l, -9223372036854775808 ≤ n ∧ n ≤ 9223372036854775807) : getNumsM (numsM l ++ r) = some (l, (numsM l).length) := by
  have hlen := nums_len l
  unfold getNumsM
  have e : numsM l ++ r = putM l.length ++ (l.flatMap putM ++ r) := by unfold numsM; rw [List.append_assoc]
  rw [e, get_put (by omega) (by omega)]
  simp only
  rw [if_neg (by rw [← e, List.length_append]; omega), Int.toNat_natCast, List.drop_left, gn_put l r _ _ h]
  simp [numsM]
theorem gn_canon : ∀ (m : Nat) (b : List Int) (a : Nat) (acc : List Int) (l : List Int) (u : Nat), (∀ x ∈ b, 0 ≤ x ∧ x ≤ 255) → gnG m b a acc = some (l, u) →
    ∃ l', l = acc ++ l' ∧ l'.length = m ∧ (∀ n ∈ l', -9223372036854775808 ≤ n ∧ n ≤ 9223372036854775807) ∧ a ≤ u ∧ u ≤ a + b.length ∧ b.take (u - a) = l'.flatMap putM
  | 0, b, a, acc, l, u, hb, h => by
    simp only [gnG, Option.some.injEq, Prod.mk.injEq] at h
    obtain ⟨rfl, rfl⟩ := h
    exact ⟨[], by simp, rfl, by simp, Nat.le_refl _, by omega, by simp⟩
  | m + 1, b, a, acc, l, u, hb, h => by
    unfold gnG at h
    cases hg : getM b with
    | none => rw [hg] at h; cases h
    | some p =>
      obtain ⟨n, k⟩ := p
      rw [hg] at h
      simp only at h
      obtain ⟨n0, n1, k0, k1, ht⟩ := getM_canon hb hg
      obtain ⟨l', h1, h2, h3, h4, h5, h6⟩ := gn_canon m (b.drop k) (a + k) _ l u (fun x hx => hb x (List.mem_of_mem_drop hx)) h
      rw [List.length_drop] at h5
      refine ⟨n :: l', by rw [h1]; simp, by simp [h2], fun x hx => ?_, by omega, by omega, ?_⟩
      · rcases List.mem_cons.1 hx with rfl | hx
        · exact ⟨n0, n1⟩
        · exact h3 x hx
      · rw [List.flatMap_cons, ← ht, ← h6, show u - a = k + (u - (a + k)) by omega, List.take_add]
theorem getNums_canon {b : List Int} {l : List Int} {u : Nat} (hb : ∀ x ∈ b, 0 ≤ x ∧ x ≤ 255) (h : getNumsM b = some (l, u)) : (∀ n ∈ l, -9223372036854775808 ≤ n ∧ n ≤ 9223372036854775807) ∧ u ≤ b.length ∧ b.take u = numsM l := by
  unfold getNumsM at h
  cases hg : getM b with
  | none => rw [hg] at h; cases h
  | some p =>
    obtain ⟨n, k⟩ := p
    rw [hg] at h
    simp only at h
    split at h
    · cases h
    · rename_i hn
      obtain ⟨n0, n1, k0, k1, ht⟩ := getM_canon hb hg
      obtain ⟨l', h1, h2, h3, h4, h5, h6⟩ := gn_canon n.toNat (b.drop k) k [] l u (fun x hx => hb x (List.mem_of_mem_drop hx)) h
      rw [List.nil_append] at h1
      subst h1
      rw [List.length_drop] at h5
      refine ⟨h3, by omega, ?_⟩
      unfold numsM
      rw [show ((l.length : Nat) : Int) = n by omega, ← ht, ← h6, ← List.take_add]
      congr 1
      omega
/-! What is read, of whatever cells. -/
def accR (u x : Int) (k : Nat) : Int := IntKind.u64.wrap ((BitVec.ofInt IntKind.u64.bits u ||| BitVec.ofInt IntKind.u64.bits (IntKind.u64.wrap (IntKind.u64.wrap (IntKind.u8.wrap ((BitVec.ofInt IntKind.u8.bits x &&& ~~~BitVec.ofInt IntKind.u8.bits 128).toNat : Int)) * 2 ^ min (Int.toNat (IntKind.i64.wrap (7 * (k : Int)))) IntKind.u64.bits))).toNat : Int)
def unzR (u : Int) : Int := IntKind.i64.wrap ((BitVec.ofInt IntKind.i64.bits (IntKind.i64.wrap (u.fdiv (2 ^ min 1 IntKind.u64.bits))) ^^^ BitVec.ofInt IntKind.i64.bits (IntKind.i64.wrap (0 - IntKind.i64.wrap (IntKind.u64.wrap ((BitVec.ofInt IntKind.u64.bits u &&& BitVec.ofInt IntKind.u64.bits 1).toNat : Int))))).toNat : Int)
theorem accR_eq {u x : Int} {k : Nat} (hk : k ≤ 9) (hu0 : 0 ≤ u) (hu : u < 128 ^ k) (hx0 : 0 ≤ x) (hx1 : x ≤ 255) (hx : x % 128 * 128 ^ k < 18446744073709551616) : accR u x k = u + x % 128 * 128 ^ k := by
  unfold accR
  rw [u8_andn x hx0 hx1]
  exact u64_or u (x % 128) k hk hu0 hu (by omega) hx
def getRG : List Int → Nat → Int → Option (Int × Nat)
  | [], _, _ => none
  | x :: r, k, u => if 9 < k ∨ (k = 9 ∧ 1 < x) then none else if x < 128 then (if x = 0 ∧ 0 < k then none else some (accR u x k, k + 1)) else getRG r (k + 1) (accR u x k)
def getR (b : List Int) : Option (Int × Nat) := (getRG b 0 0).map fun p => (unzR p.1, p.2)
theorem getRG_len : ∀ (b : List Int) (k : Nat) (u v : Int) (m : Nat), getRG b k u = some (v, m) → k < m ∧ m ≤ k + b.length
  | [], k, u, v, m, h => by cases h
  | x :: r, k, u, v, m, h => by
    unfold getRG at h
    split at h
    · cases h
    · split at h
      · split at h
        · cases h
        · cases h
          simp
      · obtain ⟨h1, h2⟩ := getRG_len r (k + 1) _ v m h
        simp only [List.length_cons]
        omega
theorem getR_len {b : List Int} {n : Int} {m : Nat} (h : getR b = some (n, m)) : 0 < m ∧ m ≤ b.length := by
  unfold getR at h
  cases hg : getRG b 0 0 with
  | none => rw [hg] at h; cases h
  | some p =>
    rw [hg] at h
    cases h
    have := getRG_len b 0 0 p.1 p.2 hg
    omega
theorem getRG_eq : ∀ (b : List Int) (k : Nat) (u : Int), (∀ x ∈ b, 0 ≤ x ∧ x ≤ 255) → 0 ≤ u → u < 128 ^ k → k ≤ 9 → getRG b k u = getG b k u
  | [], _, _, _, _, _, _ => rfl
  | x :: r, k, u, hb, h0, h1, hk => by
    obtain ⟨x0, x1⟩ := hb x (by simp)
    unfold getRG getG
    by_cases c1 : 9 < k ∨ (k = 9 ∧ 1 < x)
    · rw [if_pos c1, if_pos c1]
    · rw [if_neg c1, if_neg c1]
      have hp : (0 : Int) < 128 ^ k := Int.pow_pos (by decide)
      have hx : x % 128 * 128 ^ k < 18446744073709551616 := by
        by_cases e9 : k = 9
        · subst e9
          have e : (128 : Int) ^ 9 = 9223372036854775808 := by decide
          rw [e]; omega
        · obtain ⟨q, hq, hp2⟩ := pow_le64 (show k + 1 ≤ 9 by omega)
          have e : (128 : Int) ^ (k + 1) = 128 ^ k * 128 := by rw [Int.pow_succ]
          have h1 : x % 128 * 128 ^ k ≤ 127 * 128 ^ k := Int.mul_le_mul_of_nonneg_right (by omega) (by omega)
          have h2 : (128 : Int) ^ (k + 1) ≤ 18446744073709551616 := by
            rw [hq]
            have : 1 ≤ q := by
              rcases Int.lt_or_le q 1 with hq1 | hq1
              · exfalso
                have : q * 128 ^ (k + 1) ≤ 0 * 128 ^ (k + 1) := Int.mul_le_mul_of_nonneg_right (by omega) (by omega)
                omega
              · exact hq1
            have := Int.mul_le_mul_of_nonneg_right this (show 0 ≤ (128:Int) ^ (k + 1) by omega)
            omega
          omega
      rw [accR_eq hk h0 h1 x0 x1 hx]
      by_cases c2 : x < 128
      · rw [if_pos c2, if_pos c2, show x % 128 = x by omega]
      · rw [if_neg c2, if_neg c2, show x % 128 = x - 128 by omega]
        have hk8 : k < 9 := by omega
        have e : (128 : Int) ^ (k + 1) = 128 ^ k * 128 := by rw [Int.pow_succ]
        have h1' : (x - 128) * 128 ^ k ≤ 127 * 128 ^ k := Int.mul_le_mul_of_nonneg_right (by omega) (by omega)
        have h0' : 0 ≤ (x - 128) * 128 ^ k := Int.mul_nonneg (by omega) (by omega)
        exact getRG_eq r (k + 1) _ (fun y hy => hb y (List.mem_cons_of_mem _ hy)) (by omega) (by rw [e]; omega) (by omega)
theorem getR_eq {b : List Int} (hb : ∀ x ∈ b, 0 ≤ x ∧ x ≤ 255) : getR b = getM b := by
  unfold getR getM
  rw [getRG_eq b 0 0 hb (Int.le_refl _) (by decide) (by omega)]
  cases hg : getG b 0 0 with
  | none => rfl
  | some p =>
    obtain ⟨v, m⟩ := p
    obtain ⟨u, h1, h2, h3, _⟩ := get_canon b 9 0 0 v m rfl hb hg
    have e : v = u := by rw [h1]; simp
    subst e
    simp only [Option.map_some]
    have : unzR v = unzigM v := unzig_ops v h2 (by simpa using h3)
    rw [this]
def gnR : Nat → List Int → Nat → List Int → Option (List Int × Nat)
  | 0, _, at', acc => some (acc, at')
  | m + 1, b, at', acc => match getR b with | none => none | some p => gnR m (b.drop p.2) (at' + p.2) (acc ++ [p.1])
def getNumsR (b : List Int) : Option (List Int × Nat) := match getR b with | none => none | some p => if p.1 < 0 ∨ (b.length : Int) < p.1 then none else gnR p.1.toNat (b.drop p.2) p.2 []
theorem gnR_eq : ∀ (m : Nat) (b : List Int) (a : Nat) (acc : List Int), (∀ x ∈ b, 0 ≤ x ∧ x ≤ 255) → gnR m b a acc = gnG m b a acc
  | 0, _, _, _, _ => rfl
  | m + 1, b, a, acc, hb => by
    unfold gnR gnG
    rw [getR_eq hb]
    cases getM b with
    | none => rfl
    | some p => exact gnR_eq m _ _ _ (fun x hx => hb x (List.mem_of_mem_drop hx))
theorem getNumsR_eq {b : List Int} (hb : ∀ x ∈ b, 0 ≤ x ∧ x ≤ 255) : getNumsR b = getNumsM b := by
  unfold getNumsR getNumsM
  rw [getR_eq hb]
  cases getM b with
  | none => rfl
  | some p =>
    simp only
    split
    · rfl
    · exact gnR_eq _ _ _ _ (fun x hx => hb x (List.mem_of_mem_drop hx))

/-! The checksum. -/
def sumS (s : List UInt8) : Int × Int := s.foldl (fun p c => ((p.1 + (c.toNat : Int)) % 65521, (p.2 + (p.1 + (c.toNat : Int)) % 65521) % 65521)) (1, 0)
def sumM (s : List UInt8) : Int := (sumS s).2 * 65536 + (sumS s).1
theorem sumS_snoc (s : List UInt8) (c : UInt8) : sumS (s ++ [c]) = (((sumS s).1 + (c.toNat : Int)) % 65521, ((sumS s).2 + ((sumS s).1 + (c.toNat : Int)) % 65521) % 65521) := by
  unfold sumS
  rw [List.foldl_append]
  rfl
theorem sumS_rge (s : List UInt8) : 0 ≤ (sumS s).1 ∧ (sumS s).1 < 65521 ∧ 0 ≤ (sumS s).2 ∧ (sumS s).2 < 65521 := by
  rcases List.eq_nil_or_concat s with rfl | ⟨t, c, rfl⟩
  · decide
  · rw [List.concat_eq_append, sumS_snoc]
    simp only
    omega
theorem sum_or (x y : Int) (x0 : 0 ≤ x) (x1 : x < 65536) (y0 : 0 ≤ y) (y1 : y < 65536) :
    IntKind.i64.wrap ((BitVec.ofInt IntKind.i64.bits (IntKind.i64.wrap (y * 2 ^ min 16 IntKind.i64.bits)) ||| BitVec.ofInt IntKind.i64.bits x).toNat : Int) = y * 65536 + x := by
  have e : IntKind.i64.wrap (y * 2 ^ min 16 IntKind.i64.bits) = y * 65536 := by
    show IntKind.i64.wrap (y * 65536) = _
    exact w64 (by omega) (by omega)
  rw [e]
  obtain ⟨xn, rfl⟩ := Int.eq_ofNat_of_zero_le x0
  obtain ⟨yn, rfl⟩ := Int.eq_ofNat_of_zero_le y0
  have hx : xn < 2 ^ 16 := by omega
  show IntKind.i64.wrap ((BitVec.ofInt 64 ((yn : Int) * 65536) ||| BitVec.ofInt 64 (xn : Int)).toNat : Int) = _
  rw [BitVec.toNat_or, BitVec.toNat_ofInt, BitVec.toNat_ofInt]
  have f1 : (((yn : Int) * 65536) % ((2 ^ 64 : Nat) : Int)).toNat = 2 ^ 16 * yn := by omega
  have f2 : ((xn : Int) % ((2 ^ 64 : Nat) : Int)).toNat = xn := by omega
  rw [f1, f2, ← Nat.two_pow_add_eq_or_of_lt hx yn]
  rw [w64 (by omega) (by omega)]
  omega
end Go.Proofs.YtkfjgggiopegbaaDoor
