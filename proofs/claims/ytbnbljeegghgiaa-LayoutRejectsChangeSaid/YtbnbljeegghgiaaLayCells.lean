/- Contracts of the cell functions: place, Status .. Waiters, of layout and of hallmootref15. -/
import Derived.Test.YtbnbljeegghgiaaLayRef
import Derived.Deep.QuietTactic
import Derived.BigQuiet
namespace Go.Proofs.Ytbnbljeegghgiaa
open Go.RowKit

/-- Cell i of element n of a part that begins at b and has many elements of sz cells: -1 if there is none. -/
def placeV (b many n sz i : Int) : Int := if n < 0 ∨ many ≤ n then -1 else b + sz * n + i
theorem placeV_in {b many n sz i : Int} (h1 : 0 ≤ n) (h2 : n < many) : placeV b many n sz i = b + sz * n + i := by unfold placeV; rw [if_neg (by omega)]
theorem placeV_out {b many n sz i : Int} (h : n < 0 ∨ many ≤ n) : placeV b many n sz i = -1 := by unfold placeV; rw [if_pos h]

set_option maxHeartbeats 2000000 in
theorem place2_any (f m n i : Int) (b : Nat) (w : World) (c0 : w.cell? ⟨b, 0, none⟩ = some (.int .i64 4)) (c1 : w.cell? ⟨b, 1, none⟩ = some (.int .i64 i)) (h1 : 0 ≤ f) (h2 : f ≤ 1000) (h3 : m ≤ 1000) (h4 : 0 ≤ i) (h5 : i ≤ 3) :
    Calls Try.prog 47 #[.int .i64 f, .int .i64 m, .int .i64 n, .slice (some ⟨b, 0, none⟩) 2 2] w fun e w' => e = .returned (.int .i64 (placeV f m n 4 i)) ∧ Below w.heap.size w w' := by
  generalize hv : placeV f m n 4 i = v
  have HV := Lib.hid hv
  clear hv
  by_cases hn : n < 0
  · go_enter Try.func47, Try.ntmps47
    go_wp2
    go_ret
    exact ⟨ret_int (by rw [← HV.out, placeV_out (.inl hn)]), Below.refl _ _⟩
  · by_cases hm : m ≤ n
    · have hn' : 0 ≤ n := by omega
      go_enter Try.func47, Try.ntmps47
      go_wp2
      go_ret
      exact ⟨ret_int (by rw [← HV.out, placeV_out (.inr hm)]), Below.refl _ _⟩
    · have hn' : 0 ≤ n := by omega
      have hm' : n < m := by omega
      have i0 : (0 : Int) < 2 := by omega
      have i1 : (1 : Int) < 2 := by omega
      go_enter Try.func47, Try.ntmps47
      go_wp2
      go_quiet (fail)
      go_wp2
      go_ret
      exact ⟨ret_int (by rw [← HV.out, placeV_in hn' hm']), below_drewN (Below.refl _ _) _⟩

set_option maxHeartbeats 2000000 in
theorem place0_any (f m n : Int) (w : World) (h1 : 0 ≤ f) (h2 : f ≤ 1000) (h3 : m ≤ 1000) :
    Calls Try.prog 47 #[.int .i64 f, .int .i64 m, .int .i64 n, .slice none 0 0] w fun e w' => e = .returned (.int .i64 (placeV f m n 1 0)) ∧ Below w.heap.size w w' := by
  generalize hv : placeV f m n 1 0 = v
  have HV := Lib.hid hv
  clear hv
  by_cases hn : n < 0
  · go_enter Try.func47, Try.ntmps47
    go_wp2
    go_ret
    exact ⟨ret_int (by rw [← HV.out, placeV_out (.inl hn)]), Below.refl _ _⟩
  · by_cases hm : m ≤ n
    · have hn' : 0 ≤ n := by omega
      go_enter Try.func47, Try.ntmps47
      go_wp2
      go_ret
      exact ⟨ret_int (by rw [← HV.out, placeV_out (.inr hm)]), Below.refl _ _⟩
    · have hn' : 0 ≤ n := by omega
      have hm' : n < m := by omega
      go_enter Try.func47, Try.ntmps47
      go_wp2
      go_ret
      exact ⟨ret_int (by rw [← HV.out, placeV_in hn' hm']; omega), Below.refl _ _⟩


set_option maxHeartbeats 1000000 in
theorem Status_any (a0 a1 a2 a3 a4 a5 a6 a7 a8 a9 a10 a11 a12 n : Int) (w : World) (h1 : 0 ≤ a9) (h2 : a9 ≤ 1000) (h3 : a0 ≤ 1000) :
    Calls Try.prog 21 #[.agg #[.int .i64 a0, .int .i64 a1, .int .i64 a2, .int .i64 a3, .int .i64 a4, .int .i64 a5, .int .i64 a6, .int .i64 a7, .int .i64 a8, .int .i64 a9, .int .i64 a10, .int .i64 a11, .int .i64 a12], .int .i64 n] w fun e w' => e = .returned (.int .i64 (placeV a9 a0 n 4 0)) ∧ Below w.heap.size w w' := by
  go_enter Try.func21, Try.ntmps21
  go_wp2_with fail
  refine (place2_any _ _ _ 0 _ _ (by go_simp) (by go_simp) h1 h2 h3 (by omega) (by omega)).mono ?_
  rintro e w1 ⟨rfl, hb⟩
  have HB := Lib.hid hb
  clear hb
  go_wp2
  go_ret
  exact ⟨rfl, below_of (below_alloc (below_alloc (Below.refl _ _) _) _) HB.out⟩

set_option maxHeartbeats 1000000 in
theorem Stamp_any (a0 a1 a2 a3 a4 a5 a6 a7 a8 a9 a10 a11 a12 n : Int) (w : World) (h1 : 0 ≤ a9) (h2 : a9 ≤ 1000) (h3 : a0 ≤ 1000) :
    Calls Try.prog 48 #[.agg #[.int .i64 a0, .int .i64 a1, .int .i64 a2, .int .i64 a3, .int .i64 a4, .int .i64 a5, .int .i64 a6, .int .i64 a7, .int .i64 a8, .int .i64 a9, .int .i64 a10, .int .i64 a11, .int .i64 a12], .int .i64 n] w fun e w' => e = .returned (.int .i64 (placeV a9 a0 n 4 1)) ∧ Below w.heap.size w w' := by
  go_enter Try.func48, Try.ntmps48
  go_wp2_with fail
  refine (place2_any _ _ _ 1 _ _ (by go_simp) (by go_simp) h1 h2 h3 (by omega) (by omega)).mono ?_
  rintro e w1 ⟨rfl, hb⟩
  have HB := Lib.hid hb
  clear hb
  go_wp2
  go_ret
  exact ⟨rfl, below_of (below_alloc (below_alloc (Below.refl _ _) _) _) HB.out⟩

set_option maxHeartbeats 1000000 in
theorem Wake_any (a0 a1 a2 a3 a4 a5 a6 a7 a8 a9 a10 a11 a12 n : Int) (w : World) (h1 : 0 ≤ a9) (h2 : a9 ≤ 1000) (h3 : a0 ≤ 1000) :
    Calls Try.prog 49 #[.agg #[.int .i64 a0, .int .i64 a1, .int .i64 a2, .int .i64 a3, .int .i64 a4, .int .i64 a5, .int .i64 a6, .int .i64 a7, .int .i64 a8, .int .i64 a9, .int .i64 a10, .int .i64 a11, .int .i64 a12], .int .i64 n] w fun e w' => e = .returned (.int .i64 (placeV a9 a0 n 4 2)) ∧ Below w.heap.size w w' := by
  go_enter Try.func49, Try.ntmps49
  go_wp2_with fail
  refine (place2_any _ _ _ 2 _ _ (by go_simp) (by go_simp) h1 h2 h3 (by omega) (by omega)).mono ?_
  rintro e w1 ⟨rfl, hb⟩
  have HB := Lib.hid hb
  clear hb
  go_wp2
  go_ret
  exact ⟨rfl, below_of (below_alloc (below_alloc (Below.refl _ _) _) _) HB.out⟩

set_option maxHeartbeats 1000000 in
theorem Karma_any (a0 a1 a2 a3 a4 a5 a6 a7 a8 a9 a10 a11 a12 n : Int) (w : World) (h1 : 0 ≤ a9) (h2 : a9 ≤ 1000) (h3 : a0 ≤ 1000) :
    Calls Try.prog 43 #[.agg #[.int .i64 a0, .int .i64 a1, .int .i64 a2, .int .i64 a3, .int .i64 a4, .int .i64 a5, .int .i64 a6, .int .i64 a7, .int .i64 a8, .int .i64 a9, .int .i64 a10, .int .i64 a11, .int .i64 a12], .int .i64 n] w fun e w' => e = .returned (.int .i64 (placeV a9 a0 n 4 3)) ∧ Below w.heap.size w w' := by
  go_enter Try.func43, Try.ntmps43
  go_wp2_with fail
  refine (place2_any _ _ _ 3 _ _ (by go_simp) (by go_simp) h1 h2 h3 (by omega) (by omega)).mono ?_
  rintro e w1 ⟨rfl, hb⟩
  have HB := Lib.hid hb
  clear hb
  go_wp2
  go_ret
  exact ⟨rfl, below_of (below_alloc (below_alloc (Below.refl _ _) _) _) HB.out⟩

set_option maxHeartbeats 1000000 in
theorem Word_any (a0 a1 a2 a3 a4 a5 a6 a7 a8 a9 a10 a11 a12 n : Int) (w : World) (h1 : 0 ≤ a11) (h2 : a11 ≤ 1000) (h3 : a1 ≤ 1000) :
    Calls Try.prog 22 #[.agg #[.int .i64 a0, .int .i64 a1, .int .i64 a2, .int .i64 a3, .int .i64 a4, .int .i64 a5, .int .i64 a6, .int .i64 a7, .int .i64 a8, .int .i64 a9, .int .i64 a10, .int .i64 a11, .int .i64 a12], .int .i64 n] w fun e w' => e = .returned (.int .i64 (placeV a11 a1 n 4 0)) ∧ Below w.heap.size w w' := by
  go_enter Try.func22, Try.ntmps22
  go_wp2_with fail
  refine (place2_any _ _ _ 0 _ _ (by go_simp) (by go_simp) h1 h2 h3 (by omega) (by omega)).mono ?_
  rintro e w1 ⟨rfl, hb⟩
  have HB := Lib.hid hb
  clear hb
  go_wp2
  go_ret
  exact ⟨rfl, below_of (below_alloc (below_alloc (Below.refl _ _) _) _) HB.out⟩

set_option maxHeartbeats 1000000 in
theorem Val_any (a0 a1 a2 a3 a4 a5 a6 a7 a8 a9 a10 a11 a12 n : Int) (w : World) (h1 : 0 ≤ a11) (h2 : a11 ≤ 1000) (h3 : a1 ≤ 1000) :
    Calls Try.prog 50 #[.agg #[.int .i64 a0, .int .i64 a1, .int .i64 a2, .int .i64 a3, .int .i64 a4, .int .i64 a5, .int .i64 a6, .int .i64 a7, .int .i64 a8, .int .i64 a9, .int .i64 a10, .int .i64 a11, .int .i64 a12], .int .i64 n] w fun e w' => e = .returned (.int .i64 (placeV a11 a1 n 4 1)) ∧ Below w.heap.size w w' := by
  go_enter Try.func50, Try.ntmps50
  go_wp2_with fail
  refine (place2_any _ _ _ 1 _ _ (by go_simp) (by go_simp) h1 h2 h3 (by omega) (by omega)).mono ?_
  rintro e w1 ⟨rfl, hb⟩
  have HB := Lib.hid hb
  clear hb
  go_wp2
  go_ret
  exact ⟨rfl, below_of (below_alloc (below_alloc (Below.refl _ _) _) _) HB.out⟩

set_option maxHeartbeats 1000000 in
theorem Readers_any (a0 a1 a2 a3 a4 a5 a6 a7 a8 a9 a10 a11 a12 n : Int) (w : World) (h1 : 0 ≤ a11) (h2 : a11 ≤ 1000) (h3 : a1 ≤ 1000) :
    Calls Try.prog 51 #[.agg #[.int .i64 a0, .int .i64 a1, .int .i64 a2, .int .i64 a3, .int .i64 a4, .int .i64 a5, .int .i64 a6, .int .i64 a7, .int .i64 a8, .int .i64 a9, .int .i64 a10, .int .i64 a11, .int .i64 a12], .int .i64 n] w fun e w' => e = .returned (.int .i64 (placeV a11 a1 n 4 2)) ∧ Below w.heap.size w w' := by
  go_enter Try.func51, Try.ntmps51
  go_wp2_with fail
  refine (place2_any _ _ _ 2 _ _ (by go_simp) (by go_simp) h1 h2 h3 (by omega) (by omega)).mono ?_
  rintro e w1 ⟨rfl, hb⟩
  have HB := Lib.hid hb
  clear hb
  go_wp2
  go_ret
  exact ⟨rfl, below_of (below_alloc (below_alloc (Below.refl _ _) _) _) HB.out⟩

set_option maxHeartbeats 1000000 in
theorem Waiters_any (a0 a1 a2 a3 a4 a5 a6 a7 a8 a9 a10 a11 a12 n : Int) (w : World) (h1 : 0 ≤ a11) (h2 : a11 ≤ 1000) (h3 : a1 ≤ 1000) :
    Calls Try.prog 23 #[.agg #[.int .i64 a0, .int .i64 a1, .int .i64 a2, .int .i64 a3, .int .i64 a4, .int .i64 a5, .int .i64 a6, .int .i64 a7, .int .i64 a8, .int .i64 a9, .int .i64 a10, .int .i64 a11, .int .i64 a12], .int .i64 n] w fun e w' => e = .returned (.int .i64 (placeV a11 a1 n 4 3)) ∧ Below w.heap.size w w' := by
  go_enter Try.func23, Try.ntmps23
  go_wp2_with fail
  refine (place2_any _ _ _ 3 _ _ (by go_simp) (by go_simp) h1 h2 h3 (by omega) (by omega)).mono ?_
  rintro e w1 ⟨rfl, hb⟩
  have HB := Lib.hid hb
  clear hb
  go_wp2
  go_ret
  exact ⟨rfl, below_of (below_alloc (below_alloc (Below.refl _ _) _) _) HB.out⟩

set_option maxHeartbeats 1000000 in
theorem Lock_any (a0 a1 a2 a3 a4 a5 a6 a7 a8 a9 a10 a11 a12 n : Int) (w : World) (h1 : 0 ≤ a10) (h2 : a10 ≤ 1000) (h3 : a2 ≤ 1000) :
    Calls Try.prog 24 #[.agg #[.int .i64 a0, .int .i64 a1, .int .i64 a2, .int .i64 a3, .int .i64 a4, .int .i64 a5, .int .i64 a6, .int .i64 a7, .int .i64 a8, .int .i64 a9, .int .i64 a10, .int .i64 a11, .int .i64 a12], .int .i64 n] w fun e w' => e = .returned (.int .i64 (placeV a10 a2 n 1 0)) ∧ Below w.heap.size w w' := by
  go_enter Try.func24, Try.ntmps24
  go_wp2_with fail
  refine (place0_any _ _ _ _ h1 h2 h3).mono ?_
  rintro e w1 ⟨rfl, hb⟩
  have HB := Lib.hid hb
  clear hb
  go_wp2
  go_ret
  exact ⟨rfl, below_of (below_alloc (Below.refl _ _) _) HB.out⟩


set_option maxHeartbeats 2000000 in
theorem rthread_any (a0 a1 a2 a3 a4 a5 a6 a7 a8 a9 a10 a11 a12 n i : Int) (w : World) (h1 : 0 ≤ a9) (h2 : a9 ≤ 1000) (h3 : a0 ≤ 1000) (h4 : 0 ≤ i) (h5 : i ≤ 3) :
    Calls Try.prog 65 #[.agg #[.int .i64 a0, .int .i64 a1, .int .i64 a2, .int .i64 a3, .int .i64 a4, .int .i64 a5, .int .i64 a6, .int .i64 a7, .int .i64 a8, .int .i64 a9, .int .i64 a10, .int .i64 a11, .int .i64 a12], .int .i64 n, .int .i64 i] w fun e w' => e = .returned (.int .i64 (placeV a9 a0 n 4 i)) ∧ Below w.heap.size w w' := by
  generalize hv : placeV a9 a0 n 4 i = v
  have HV := Lib.hid hv
  clear hv
  by_cases hn : n < 0
  · go_enter Try.func65, Try.ntmps65
    go_wp2
    go_ret
    exact ⟨ret_int (by rw [← HV.out, placeV_out (.inl hn)]), below_alloc (Below.refl _ _) _⟩
  · by_cases hm : a0 ≤ n
    · have hn' : 0 ≤ n := by omega
      go_enter Try.func65, Try.ntmps65
      go_wp2
      go_ret
      exact ⟨ret_int (by rw [← HV.out, placeV_out (.inr hm)]), below_alloc (Below.refl _ _) _⟩
    · have hn' : 0 ≤ n := by omega
      have hm' : n < a0 := by omega
      go_enter Try.func65, Try.ntmps65
      go_wp2
      go_ret
      exact ⟨ret_int (by rw [← HV.out, placeV_in hn' hm']), below_alloc (Below.refl _ _) _⟩

set_option maxHeartbeats 2000000 in
theorem rloc_any (a0 a1 a2 a3 a4 a5 a6 a7 a8 a9 a10 a11 a12 n i : Int) (w : World) (h1 : 0 ≤ a11) (h2 : a11 ≤ 1000) (h3 : a1 ≤ 1000) (h4 : 0 ≤ i) (h5 : i ≤ 3) :
    Calls Try.prog 63 #[.agg #[.int .i64 a0, .int .i64 a1, .int .i64 a2, .int .i64 a3, .int .i64 a4, .int .i64 a5, .int .i64 a6, .int .i64 a7, .int .i64 a8, .int .i64 a9, .int .i64 a10, .int .i64 a11, .int .i64 a12], .int .i64 n, .int .i64 i] w fun e w' => e = .returned (.int .i64 (placeV a11 a1 n 4 i)) ∧ Below w.heap.size w w' := by
  generalize hv : placeV a11 a1 n 4 i = v
  have HV := Lib.hid hv
  clear hv
  by_cases hn : n < 0
  · go_enter Try.func63, Try.ntmps63
    go_wp2
    go_ret
    exact ⟨ret_int (by rw [← HV.out, placeV_out (.inl hn)]), below_alloc (Below.refl _ _) _⟩
  · by_cases hm : a1 ≤ n
    · have hn' : 0 ≤ n := by omega
      go_enter Try.func63, Try.ntmps63
      go_wp2
      go_ret
      exact ⟨ret_int (by rw [← HV.out, placeV_out (.inr hm)]), below_alloc (Below.refl _ _) _⟩
    · have hn' : 0 ≤ n := by omega
      have hm' : n < a1 := by omega
      go_enter Try.func63, Try.ntmps63
      go_wp2
      go_ret
      exact ⟨ret_int (by rw [← HV.out, placeV_in hn' hm']), below_alloc (Below.refl _ _) _⟩

set_option maxHeartbeats 1000000 in
theorem rStatus_any (a0 a1 a2 a3 a4 a5 a6 a7 a8 a9 a10 a11 a12 n : Int) (w : World) (h1 : 0 ≤ a9) (h2 : a9 ≤ 1000) (h3 : a0 ≤ 1000) :
    Calls Try.prog 52 #[.agg #[.int .i64 a0, .int .i64 a1, .int .i64 a2, .int .i64 a3, .int .i64 a4, .int .i64 a5, .int .i64 a6, .int .i64 a7, .int .i64 a8, .int .i64 a9, .int .i64 a10, .int .i64 a11, .int .i64 a12], .int .i64 n] w fun e w' => e = .returned (.int .i64 (placeV a9 a0 n 4 0)) ∧ Below w.heap.size w w' := by
  go_enter Try.func52, Try.ntmps52
  go_wp2_with fail
  refine (rthread_any a0 a1 a2 a3 a4 a5 a6 a7 a8 a9 a10 a11 a12 _ _ _ h1 h2 h3 (by omega) (by omega)).mono ?_
  rintro e w1 ⟨rfl, hb⟩
  have HB := Lib.hid hb
  clear hb
  go_wp2
  go_ret
  exact ⟨rfl, below_of (below_alloc (Below.refl _ _) _) HB.out⟩

set_option maxHeartbeats 1000000 in
theorem rStamp_any (a0 a1 a2 a3 a4 a5 a6 a7 a8 a9 a10 a11 a12 n : Int) (w : World) (h1 : 0 ≤ a9) (h2 : a9 ≤ 1000) (h3 : a0 ≤ 1000) :
    Calls Try.prog 53 #[.agg #[.int .i64 a0, .int .i64 a1, .int .i64 a2, .int .i64 a3, .int .i64 a4, .int .i64 a5, .int .i64 a6, .int .i64 a7, .int .i64 a8, .int .i64 a9, .int .i64 a10, .int .i64 a11, .int .i64 a12], .int .i64 n] w fun e w' => e = .returned (.int .i64 (placeV a9 a0 n 4 1)) ∧ Below w.heap.size w w' := by
  go_enter Try.func53, Try.ntmps53
  go_wp2_with fail
  refine (rthread_any a0 a1 a2 a3 a4 a5 a6 a7 a8 a9 a10 a11 a12 _ _ _ h1 h2 h3 (by omega) (by omega)).mono ?_
  rintro e w1 ⟨rfl, hb⟩
  have HB := Lib.hid hb
  clear hb
  go_wp2
  go_ret
  exact ⟨rfl, below_of (below_alloc (Below.refl _ _) _) HB.out⟩

set_option maxHeartbeats 1000000 in
theorem rWake_any (a0 a1 a2 a3 a4 a5 a6 a7 a8 a9 a10 a11 a12 n : Int) (w : World) (h1 : 0 ≤ a9) (h2 : a9 ≤ 1000) (h3 : a0 ≤ 1000) :
    Calls Try.prog 54 #[.agg #[.int .i64 a0, .int .i64 a1, .int .i64 a2, .int .i64 a3, .int .i64 a4, .int .i64 a5, .int .i64 a6, .int .i64 a7, .int .i64 a8, .int .i64 a9, .int .i64 a10, .int .i64 a11, .int .i64 a12], .int .i64 n] w fun e w' => e = .returned (.int .i64 (placeV a9 a0 n 4 2)) ∧ Below w.heap.size w w' := by
  go_enter Try.func54, Try.ntmps54
  go_wp2_with fail
  refine (rthread_any a0 a1 a2 a3 a4 a5 a6 a7 a8 a9 a10 a11 a12 _ _ _ h1 h2 h3 (by omega) (by omega)).mono ?_
  rintro e w1 ⟨rfl, hb⟩
  have HB := Lib.hid hb
  clear hb
  go_wp2
  go_ret
  exact ⟨rfl, below_of (below_alloc (Below.refl _ _) _) HB.out⟩

set_option maxHeartbeats 1000000 in
theorem rKarma_any (a0 a1 a2 a3 a4 a5 a6 a7 a8 a9 a10 a11 a12 n : Int) (w : World) (h1 : 0 ≤ a9) (h2 : a9 ≤ 1000) (h3 : a0 ≤ 1000) :
    Calls Try.prog 55 #[.agg #[.int .i64 a0, .int .i64 a1, .int .i64 a2, .int .i64 a3, .int .i64 a4, .int .i64 a5, .int .i64 a6, .int .i64 a7, .int .i64 a8, .int .i64 a9, .int .i64 a10, .int .i64 a11, .int .i64 a12], .int .i64 n] w fun e w' => e = .returned (.int .i64 (placeV a9 a0 n 4 3)) ∧ Below w.heap.size w w' := by
  go_enter Try.func55, Try.ntmps55
  go_wp2_with fail
  refine (rthread_any a0 a1 a2 a3 a4 a5 a6 a7 a8 a9 a10 a11 a12 _ _ _ h1 h2 h3 (by omega) (by omega)).mono ?_
  rintro e w1 ⟨rfl, hb⟩
  have HB := Lib.hid hb
  clear hb
  go_wp2
  go_ret
  exact ⟨rfl, below_of (below_alloc (Below.refl _ _) _) HB.out⟩

set_option maxHeartbeats 1000000 in
theorem rWord_any (a0 a1 a2 a3 a4 a5 a6 a7 a8 a9 a10 a11 a12 n : Int) (w : World) (h1 : 0 ≤ a11) (h2 : a11 ≤ 1000) (h3 : a1 ≤ 1000) :
    Calls Try.prog 57 #[.agg #[.int .i64 a0, .int .i64 a1, .int .i64 a2, .int .i64 a3, .int .i64 a4, .int .i64 a5, .int .i64 a6, .int .i64 a7, .int .i64 a8, .int .i64 a9, .int .i64 a10, .int .i64 a11, .int .i64 a12], .int .i64 n] w fun e w' => e = .returned (.int .i64 (placeV a11 a1 n 4 0)) ∧ Below w.heap.size w w' := by
  go_enter Try.func57, Try.ntmps57
  go_wp2_with fail
  refine (rloc_any a0 a1 a2 a3 a4 a5 a6 a7 a8 a9 a10 a11 a12 _ _ _ h1 h2 h3 (by omega) (by omega)).mono ?_
  rintro e w1 ⟨rfl, hb⟩
  have HB := Lib.hid hb
  clear hb
  go_wp2
  go_ret
  exact ⟨rfl, below_of (below_alloc (Below.refl _ _) _) HB.out⟩

set_option maxHeartbeats 1000000 in
theorem rVal_any (a0 a1 a2 a3 a4 a5 a6 a7 a8 a9 a10 a11 a12 n : Int) (w : World) (h1 : 0 ≤ a11) (h2 : a11 ≤ 1000) (h3 : a1 ≤ 1000) :
    Calls Try.prog 42 #[.agg #[.int .i64 a0, .int .i64 a1, .int .i64 a2, .int .i64 a3, .int .i64 a4, .int .i64 a5, .int .i64 a6, .int .i64 a7, .int .i64 a8, .int .i64 a9, .int .i64 a10, .int .i64 a11, .int .i64 a12], .int .i64 n] w fun e w' => e = .returned (.int .i64 (placeV a11 a1 n 4 1)) ∧ Below w.heap.size w w' := by
  go_enter Try.func42, Try.ntmps42
  go_wp2_with fail
  refine (rloc_any a0 a1 a2 a3 a4 a5 a6 a7 a8 a9 a10 a11 a12 _ _ _ h1 h2 h3 (by omega) (by omega)).mono ?_
  rintro e w1 ⟨rfl, hb⟩
  have HB := Lib.hid hb
  clear hb
  go_wp2
  go_ret
  exact ⟨rfl, below_of (below_alloc (Below.refl _ _) _) HB.out⟩

set_option maxHeartbeats 1000000 in
theorem rReaders_any (a0 a1 a2 a3 a4 a5 a6 a7 a8 a9 a10 a11 a12 n : Int) (w : World) (h1 : 0 ≤ a11) (h2 : a11 ≤ 1000) (h3 : a1 ≤ 1000) :
    Calls Try.prog 58 #[.agg #[.int .i64 a0, .int .i64 a1, .int .i64 a2, .int .i64 a3, .int .i64 a4, .int .i64 a5, .int .i64 a6, .int .i64 a7, .int .i64 a8, .int .i64 a9, .int .i64 a10, .int .i64 a11, .int .i64 a12], .int .i64 n] w fun e w' => e = .returned (.int .i64 (placeV a11 a1 n 4 2)) ∧ Below w.heap.size w w' := by
  go_enter Try.func58, Try.ntmps58
  go_wp2_with fail
  refine (rloc_any a0 a1 a2 a3 a4 a5 a6 a7 a8 a9 a10 a11 a12 _ _ _ h1 h2 h3 (by omega) (by omega)).mono ?_
  rintro e w1 ⟨rfl, hb⟩
  have HB := Lib.hid hb
  clear hb
  go_wp2
  go_ret
  exact ⟨rfl, below_of (below_alloc (Below.refl _ _) _) HB.out⟩

set_option maxHeartbeats 1000000 in
theorem rWaiters_any (a0 a1 a2 a3 a4 a5 a6 a7 a8 a9 a10 a11 a12 n : Int) (w : World) (h1 : 0 ≤ a11) (h2 : a11 ≤ 1000) (h3 : a1 ≤ 1000) :
    Calls Try.prog 59 #[.agg #[.int .i64 a0, .int .i64 a1, .int .i64 a2, .int .i64 a3, .int .i64 a4, .int .i64 a5, .int .i64 a6, .int .i64 a7, .int .i64 a8, .int .i64 a9, .int .i64 a10, .int .i64 a11, .int .i64 a12], .int .i64 n] w fun e w' => e = .returned (.int .i64 (placeV a11 a1 n 4 3)) ∧ Below w.heap.size w w' := by
  go_enter Try.func59, Try.ntmps59
  go_wp2_with fail
  refine (rloc_any a0 a1 a2 a3 a4 a5 a6 a7 a8 a9 a10 a11 a12 _ _ _ h1 h2 h3 (by omega) (by omega)).mono ?_
  rintro e w1 ⟨rfl, hb⟩
  have HB := Lib.hid hb
  clear hb
  go_wp2
  go_ret
  exact ⟨rfl, below_of (below_alloc (Below.refl _ _) _) HB.out⟩

set_option maxHeartbeats 2000000 in
theorem rLock_any (a0 a1 a2 a3 a4 a5 a6 a7 a8 a9 a10 a11 a12 n : Int) (w : World) (h1 : 0 ≤ a10) (h2 : a10 ≤ 1000) (h3 : a2 ≤ 1000) :
    Calls Try.prog 56 #[.agg #[.int .i64 a0, .int .i64 a1, .int .i64 a2, .int .i64 a3, .int .i64 a4, .int .i64 a5, .int .i64 a6, .int .i64 a7, .int .i64 a8, .int .i64 a9, .int .i64 a10, .int .i64 a11, .int .i64 a12], .int .i64 n] w fun e w' => e = .returned (.int .i64 (placeV a10 a2 n 1 0)) ∧ Below w.heap.size w w' := by
  generalize hv : placeV a10 a2 n 1 0 = v
  have HV := Lib.hid hv
  clear hv
  by_cases hn : n < 0
  · go_enter Try.func56, Try.ntmps56
    go_wp2
    go_ret
    exact ⟨ret_int (by rw [← HV.out, placeV_out (.inl hn)]), below_alloc (Below.refl _ _) _⟩
  · by_cases hm : a2 ≤ n
    · have hn' : 0 ≤ n := by omega
      go_enter Try.func56, Try.ntmps56
      go_wp2
      go_ret
      exact ⟨ret_int (by rw [← HV.out, placeV_out (.inr hm)]), below_alloc (Below.refl _ _) _⟩
    · have hn' : 0 ≤ n := by omega
      have hm' : n < a2 := by omega
      go_enter Try.func56, Try.ntmps56
      go_wp2
      go_ret
      exact ⟨ret_int (by rw [← HV.out, placeV_in hn' hm']; omega), below_alloc (Below.refl _ _) _⟩
end Go.Proofs.Ytbnbljeegghgiaa
