/- Contracts of the package layout: may, Of. -/
import Derived.Test.YtbnbljeegghgiaaKit
import Derived.Deep.RegionHeld3
import Derived.Deep.DeepCutAuto
namespace Go.Proofs.Ytbnbljeegghgiaa
open Go.RowKit

def inB (n lo hi : Int) : Bool := decide (lo ≤ n) && decide (n ≤ hi)
theorem inB_true {n lo hi : Int} : inB n lo hi = true ↔ lo ≤ n ∧ n ≤ hi := by simp [inB]
/-- A configuration is valid. -/
def mayB (t l k s m : Int) : Bool := inB t 1 4 && (inB l 0 32 && (inB k 0 8 && (inB s 0 512 && inB m 0 3)))
theorem mayB_true {t l k s m : Int} : mayB t l k s m = true ↔ (1 ≤ t ∧ t ≤ 4) ∧ (0 ≤ l ∧ l ≤ 32) ∧ (0 ≤ k ∧ k ≤ 8) ∧ (0 ≤ s ∧ s ≤ 512) ∧ (0 ≤ m ∧ m ≤ 3) := by simp [mayB, inB_true]

set_option maxHeartbeats 400000 in
theorem within_any (n lo hi : Int) (w : World) :
    Calls Try.prog 64 #[.int .i64 n, .int .i64 lo, .int .i64 hi] w fun e w' => e = .returned (.bool (inB n lo hi)) ∧ w = w' := by
  by_cases h1 : lo ≤ n
  · by_cases h2 : n ≤ hi
    · have hb : inB n lo hi = true := by simp [inB, h1, h2]
      rw [hb]
      go_enter Try.func64, Try.ntmps64
      go_wp2
      go_ret
      exact ⟨rfl, rfl⟩
    · have hb : inB n lo hi = false := by simp [inB, h1, h2]
      rw [hb]
      go_enter Try.func64, Try.ntmps64
      go_wp2
      go_ret
      exact ⟨rfl, rfl⟩
  · have hb : inB n lo hi = false := by simp [inB, h1]
    rw [hb]
    go_enter Try.func64, Try.ntmps64
    go_wp2
    go_ret
    exact ⟨rfl, rfl⟩

set_option maxHeartbeats 800000 in
theorem may_any (t l k s m : Int) (w : World) :
    Calls Try.prog 45 #[.agg #[.int .i64 t, .int .i64 l, .int .i64 k, .int .i64 s, .int .i64 m]] w fun e w' => e = .returned (.bool (mayB t l k s m)) ∧ Below w.heap.size w w' := by
  generalize hv : mayB t l k s m = v
  have HV := Lib.hid hv
  clear hv
  go_enter Try.func45, Try.ntmps45
  go_wp2_with (go_at_call 64; refine (within_any _ _ _ _).mono ?_; rintro e w' ⟨rfl, rfl⟩)
  all_goals go_ret
  all_goals refine ⟨?_, below_alloc (Below.refl _ _) _⟩
  all_goals refine ret_bool ?_
  all_goals rw [← HV.out]
  all_goals simp_all [mayB]

set_option maxHeartbeats 400000 in
theorem part_any (n n0 : Int) (p : Addr) (w : World) (hc : w.cell? p = some (.int .i64 n0)) (hf : w.frozen? p = false) (h1 : 0 ≤ n0) (h2 : n0 ≤ 1000) (h3 : 0 ≤ n) (h4 : n ≤ 1000) :
    Calls Try.prog 46 #[.int .i64 n, .pointer (some p)] w fun e w' => e = .returned (.int .i64 n0) ∧ w.setCell p (.int .i64 (n0 + n)) = w' := by
  go_enter Try.func46, Try.ntmps46
  go_wp2
  go_ret
  exact ⟨rfl, rfl⟩

set_option maxHeartbeats 4000000 in
theorem of_ok (t l k s m : Int) (w : World) (h : mayB t l k s m = true) :
    Calls Try.prog 20 #[.agg #[.int .i64 t, .int .i64 l, .int .i64 k, .int .i64 s, .int .i64 m]] w fun e w' =>
      e = .returned (.tuple #[.agg #[.int .i64 t, .int .i64 l, .int .i64 k, .int .i64 s, .int .i64 m, .int .i64 0, .int .i64 1, .int .i64 2, .int .i64 3, .int .i64 4, .int .i64 (4 + 4 * t), .int .i64 (4 + 4 * t + k), .int .i64 (4 + 4 * t + k + 4 * l)], .int .i64 0]) ∧ Below w.heap.size w w' := by
  obtain ⟨⟨h1, h2⟩, ⟨h3, h4⟩, ⟨h5, h6⟩, _, _⟩ := mayB_true.1 h
  have hm := fun w => may_any t l k s m w
  rw [h] at hm
  have HM := Lib.hid hm
  clear hm h
  go_enter Try.func20, Try.ntmps20
  go_wp2_with fail
  refine (HM.out _).mono ?_
  rintro e w1 ⟨rfl, hb⟩
  obtain ⟨hc, hf, hl⟩ := bcell hb
  have HB := Lib.hid hb
  clear hb HM
  go_upto_region 5 with fail
  have hw4t : IntKind.i64.wrap (4 * t) = 4 * t := IntWalk.i64_in _ (by omega)
  have hw4l : IntKind.i64.wrap (4 * l) = 4 * l := IntWalk.i64_in _ (by omega)
  go_cut [6] (fun s6 wx => s6 = .pointer (some ⟨w1.heap.size + 1, 0, none⟩) ∧ wx = ((w1.alloc (.cells #[.int .i64 (4 + 4 * t + k + 4 * l)] 3)).alloc (.cells #[.int .i64 t, .int .i64 l, .int .i64 k, .int .i64 s, .int .i64 m, .int .i64 0, .int .i64 1, .int .i64 2, .int .i64 3, .int .i64 4, .int .i64 (4 + 4 * t), .int .i64 (4 + 4 * t + k), .int .i64 0] 26)).drew)
  case first =>
    have c0 : w1.cell? ⟨w.heap.size, 0, none⟩ = some (.int .i64 t) := by go_simp
    have c1 : w1.cell? ⟨w.heap.size, 1, none⟩ = some (.int .i64 l) := by go_simp
    have c2 : w1.cell? ⟨w.heap.size, 2, none⟩ = some (.int .i64 k) := by go_simp
    have c3 : w1.cell? ⟨w.heap.size, 3, none⟩ = some (.int .i64 s) := by go_simp
    have c4 : w1.cell? ⟨w.heap.size, 4, none⟩ = some (.int .i64 m) := by go_simp
    have hz : w.heap.size < w1.heap.size := hl _ (by simp; omega)
    clear hc hf hl
    go_region_held3 (fun w' => w'.cell? ⟨w.heap.size, 0, none⟩ = some (.int .i64 t) ∧ w'.cell? ⟨w.heap.size, 1, none⟩ = some (.int .i64 l) ∧ w'.cell? ⟨w.heap.size, 2, none⟩ = some (.int .i64 k) ∧ w'.cell? ⟨w.heap.size, 3, none⟩ = some (.int .i64 s) ∧ w'.cell? ⟨w.heap.size, 4, none⟩ = some (.int .i64 m)) (go_keep)
      (first | (go_at_call 46; refine (part_any _ _ _ _ (by go_simp; rfl) (by go_simp) (by omega) (by omega) (by omega) (by omega)).mono ?_; rintro e w' ⟨rfl, rfl⟩))
    all_goals go_wp2_with fail
    all_goals go_meet
    all_goals exact ⟨rfl, rfl⟩
  case rest =>
    obtain ⟨rfl, rfl⟩ := hcut
    go_wp2
    refine bodyPost_ret (v := .tuple #[.agg #[.int .i64 t, .int .i64 l, .int .i64 k, .int .i64 s, .int .i64 m, .int .i64 0, .int .i64 1, .int .i64 2, .int .i64 3, .int .i64 4, .int .i64 (4 + 4 * t), .int .i64 (4 + 4 * t + k), .int .i64 (4 + 4 * t + k + 4 * l)], .int .i64 0]) (by simp [results, Try.results20, go_sem, hl, hc]) rfl ⟨rfl, ?_⟩
    have hb := HB.out
    repeat (first | with_reducible exact Below.refl _ _ | with_reducible refine Below.drew ?_ | with_reducible refine below_alloc ?_ _ | with_reducible refine below_set ?_ (by simp) _ | with_reducible refine below_of ?_ hb)

set_option maxHeartbeats 1000000 in
theorem of_bad (t l k s m : Int) (w : World) (h : mayB t l k s m = false) :
    Calls Try.prog 20 #[.agg #[.int .i64 t, .int .i64 l, .int .i64 k, .int .i64 s, .int .i64 m]] w fun e w' =>
      e = .returned (.tuple #[.agg #[.int .i64 0, .int .i64 0, .int .i64 0, .int .i64 0, .int .i64 0, .int .i64 0, .int .i64 0, .int .i64 0, .int .i64 0, .int .i64 0, .int .i64 0, .int .i64 0, .int .i64 0], .int .i64 1]) ∧ Below w.heap.size w w' := by
  have hm := fun w => may_any t l k s m w
  rw [h] at hm
  have HM := Lib.hid hm
  clear hm h
  go_enter Try.func20, Try.ntmps20
  go_wp2_with fail
  refine (HM.out _).mono ?_
  rintro e w1 ⟨rfl, hb⟩
  obtain ⟨hc, hf, hl⟩ := bcell hb
  have HB := Lib.hid hb
  clear hb HM
  go_wp2
  refine bodyPost_ret (v := .tuple #[.agg #[.int .i64 0, .int .i64 0, .int .i64 0, .int .i64 0, .int .i64 0, .int .i64 0, .int .i64 0, .int .i64 0, .int .i64 0, .int .i64 0, .int .i64 0, .int .i64 0, .int .i64 0], .int .i64 1]) (by simp [results, Try.results20, go_sem, hc]) rfl ⟨rfl, ?_⟩
  have hb := HB.out
  repeat (first | with_reducible exact Below.refl _ _ | with_reducible refine Below.drew ?_ | with_reducible refine below_alloc ?_ _ | with_reducible refine below_set ?_ (by simp) _ | with_reducible refine below_of ?_ hb)
end Go.Proofs.Ytbnbljeegghgiaa
