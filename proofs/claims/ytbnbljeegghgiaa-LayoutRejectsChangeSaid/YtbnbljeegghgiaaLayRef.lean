/- Contracts of the package hallmootref15: may, Of, the cell functions. -/
import Derived.Test.YtbnbljeegghgiaaLay
namespace Go.Proofs.Ytbnbljeegghgiaa
open Go.RowKit

set_option maxHeartbeats 4000000 in
theorem rmay_any (t l k s m : Int) (w : World) :
    Calls Try.prog 44 #[.agg #[.int .i64 t, .int .i64 l, .int .i64 k, .int .i64 s, .int .i64 m]] w fun e w' => e = .returned (.bool (mayB t l k s m)) ∧ Below w.heap.size w w' := by
  rcases Int.lt_or_le t 1 with g1 | g1
  · have hv : mayB t l k s m = false := by rw [Bool.eq_false_iff, ne_eq, mayB_true]; omega
    rw [hv]
    clear hv
    go_enter Try.func44, Try.ntmps44
    go_wp2
    go_ret
    exact ⟨ret_bool (by first | rfl | (simp; omega)), below_alloc (Below.refl _ _) _⟩
  rcases Int.lt_or_le 4 t with g2 | g2
  · have hv : mayB t l k s m = false := by rw [Bool.eq_false_iff, ne_eq, mayB_true]; omega
    rw [hv]
    clear hv
    go_enter Try.func44, Try.ntmps44
    go_wp2
    go_ret
    exact ⟨ret_bool (by first | rfl | (simp; omega)), below_alloc (Below.refl _ _) _⟩
  rcases Int.lt_or_le l 0 with g3 | g3
  · have hv : mayB t l k s m = false := by rw [Bool.eq_false_iff, ne_eq, mayB_true]; omega
    rw [hv]
    clear hv
    go_enter Try.func44, Try.ntmps44
    go_wp2
    go_ret
    exact ⟨ret_bool (by first | rfl | (simp; omega)), below_alloc (Below.refl _ _) _⟩
  rcases Int.lt_or_le 32 l with g4 | g4
  · have hv : mayB t l k s m = false := by rw [Bool.eq_false_iff, ne_eq, mayB_true]; omega
    rw [hv]
    clear hv
    go_enter Try.func44, Try.ntmps44
    go_wp2
    go_ret
    exact ⟨ret_bool (by first | rfl | (simp; omega)), below_alloc (Below.refl _ _) _⟩
  rcases Int.lt_or_le k 0 with g5 | g5
  · have hv : mayB t l k s m = false := by rw [Bool.eq_false_iff, ne_eq, mayB_true]; omega
    rw [hv]
    clear hv
    go_enter Try.func44, Try.ntmps44
    go_wp2
    go_ret
    exact ⟨ret_bool (by first | rfl | (simp; omega)), below_alloc (Below.refl _ _) _⟩
  rcases Int.lt_or_le 8 k with g6 | g6
  · have hv : mayB t l k s m = false := by rw [Bool.eq_false_iff, ne_eq, mayB_true]; omega
    rw [hv]
    clear hv
    go_enter Try.func44, Try.ntmps44
    go_wp2
    go_ret
    exact ⟨ret_bool (by first | rfl | (simp; omega)), below_alloc (Below.refl _ _) _⟩
  rcases Int.lt_or_le s 0 with g7 | g7
  · have hv : mayB t l k s m = false := by rw [Bool.eq_false_iff, ne_eq, mayB_true]; omega
    rw [hv]
    clear hv
    go_enter Try.func44, Try.ntmps44
    go_wp2
    go_ret
    exact ⟨ret_bool (by first | rfl | (simp; omega)), below_alloc (Below.refl _ _) _⟩
  rcases Int.lt_or_le 512 s with g8 | g8
  · have hv : mayB t l k s m = false := by rw [Bool.eq_false_iff, ne_eq, mayB_true]; omega
    rw [hv]
    clear hv
    go_enter Try.func44, Try.ntmps44
    go_wp2
    go_ret
    exact ⟨ret_bool (by first | rfl | (simp; omega)), below_alloc (Below.refl _ _) _⟩
  rcases Int.lt_or_le m 0 with g9 | g9
  · have hv : mayB t l k s m = false := by rw [Bool.eq_false_iff, ne_eq, mayB_true]; omega
    rw [hv]
    clear hv
    go_enter Try.func44, Try.ntmps44
    go_wp2
    go_ret
    exact ⟨ret_bool (by first | rfl | (simp; omega)), below_alloc (Below.refl _ _) _⟩
  rcases Int.lt_or_le 3 m with g10 | g10
  · have hv : mayB t l k s m = false := by rw [Bool.eq_false_iff, ne_eq, mayB_true]; omega
    rw [hv]
    clear hv
    go_enter Try.func44, Try.ntmps44
    go_wp2
    go_ret
    exact ⟨ret_bool (by first | rfl | (simp; omega)), below_alloc (Below.refl _ _) _⟩
  · have hv : mayB t l k s m = true := by rw [mayB_true]; omega
    rw [hv]
    clear hv
    go_enter Try.func44, Try.ntmps44
    go_wp2
    go_ret
    exact ⟨ret_bool (by first | rfl | (simp; omega)), below_alloc (Below.refl _ _) _⟩

set_option maxHeartbeats 2000000 in
theorem rof_ok (t l k s m : Int) (w : World) (h : mayB t l k s m = true) :
    Calls Try.prog 16 #[.agg #[.int .i64 t, .int .i64 l, .int .i64 k, .int .i64 s, .int .i64 m]] w fun e w' =>
      e = .returned (.tuple #[.agg #[.int .i64 t, .int .i64 l, .int .i64 k, .int .i64 s, .int .i64 m, .int .i64 0, .int .i64 1, .int .i64 2, .int .i64 3, .int .i64 4, .int .i64 (4 + 4 * t), .int .i64 (4 + 4 * t + k), .int .i64 (4 + 4 * t + k + 4 * l)], .int .i64 0]) ∧ Below w.heap.size w w' := by
  obtain ⟨⟨h1, h2⟩, ⟨h3, h4⟩, ⟨h5, h6⟩, _, _⟩ := mayB_true.1 h
  have hm := fun w => rmay_any t l k s m w
  rw [h] at hm
  have HM := Lib.hid hm
  clear hm h
  go_enter Try.func16, Try.ntmps16
  go_wp2_with fail
  refine (HM.out _).mono ?_
  rintro e w1 ⟨rfl, hb⟩
  obtain ⟨hc, hf, hl⟩ := bcell hb
  have HB := Lib.hid hb
  clear hb HM
  go_wp2
  refine bodyPost_ret (v := .tuple #[.agg #[.int .i64 t, .int .i64 l, .int .i64 k, .int .i64 s, .int .i64 m, .int .i64 0, .int .i64 1, .int .i64 2, .int .i64 3, .int .i64 4, .int .i64 (4 + 4 * t), .int .i64 (4 + 4 * t + k), .int .i64 (4 + 4 * t + k + 4 * l)], .int .i64 0]) (by simp [results, Try.results16, go_sem, hl, hc]) rfl ⟨rfl, ?_⟩
  have hb := HB.out
  repeat (first | with_reducible exact Below.refl _ _ | with_reducible refine Below.drew ?_ | with_reducible refine below_alloc ?_ _ | with_reducible refine below_set ?_ (by simp) _ | with_reducible refine below_of ?_ hb)

set_option maxHeartbeats 2000000 in
theorem rof_bad (t l k s m : Int) (w : World) (h : mayB t l k s m = false) :
    Calls Try.prog 16 #[.agg #[.int .i64 t, .int .i64 l, .int .i64 k, .int .i64 s, .int .i64 m]] w fun e w' =>
      e = .returned (.tuple #[.agg #[.int .i64 0, .int .i64 0, .int .i64 0, .int .i64 0, .int .i64 0, .int .i64 0, .int .i64 0, .int .i64 0, .int .i64 0, .int .i64 0, .int .i64 0, .int .i64 0, .int .i64 0], .int .i64 1]) ∧ Below w.heap.size w w' := by
  have hm := fun w => rmay_any t l k s m w
  rw [h] at hm
  have HM := Lib.hid hm
  clear hm h
  go_enter Try.func16, Try.ntmps16
  go_wp2_with fail
  refine (HM.out _).mono ?_
  rintro e w1 ⟨rfl, hb⟩
  obtain ⟨hc, hf, hl⟩ := bcell hb
  have HB := Lib.hid hb
  clear hb HM
  go_wp2
  refine bodyPost_ret (v := .tuple #[.agg #[.int .i64 0, .int .i64 0, .int .i64 0, .int .i64 0, .int .i64 0, .int .i64 0, .int .i64 0, .int .i64 0, .int .i64 0, .int .i64 0, .int .i64 0, .int .i64 0, .int .i64 0], .int .i64 1]) (by simp [results, Try.results16, go_sem, hc]) rfl ⟨rfl, ?_⟩
  have hb := HB.out
  repeat (first | with_reducible exact Below.refl _ _ | with_reducible refine Below.drew ?_ | with_reducible refine below_alloc ?_ _ | with_reducible refine below_set ?_ (by simp) _ | with_reducible refine below_of ?_ hb)
end Go.Proofs.Ytbnbljeegghgiaa
