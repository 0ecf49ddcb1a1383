/- LayoutRejectsChange: for every valid configuration, changing any one offset of its layout makes Right false. The walk of the law. -/
import Derived.Test.YtbnbljeegghgiaaLaySane
namespace Go.Proofs.Ytbnbljeegghgiaa.rejects
open Go.RowKit Go.Proofs.Ytbnbljeegghgiaa

theorem wrap_ne (c b : Int) (_ : 0 ≤ c) (_ : c ≤ 1000) (h2 : -9223372036854775808 ≤ b) (h3 : b ≤ 9223372036854775807) (h : b ≠ 0) : wrap64 (c + b) ≠ c := by
  rw [← IntWalk.i64_left, IntKind.wrap_i64]; omega

theorem eq_or (a : Int) (_ : 0 ≤ a) (_ : a ≤ 255) : a % 8 = 0 ∨ a % 8 = 1 ∨ a % 8 = 2 ∨ a % 8 = 3 ∨ a % 8 = 4 ∨ a % 8 = 5 ∨ a % 8 = 6 ∨ a % 8 = 7 := by omega

set_option maxHeartbeats 4000000 in
theorem bad (t l k s m a b : Int) (w : World) (h : mayB t l k s m = false) :
    Calls Try.prog 3 #[.agg #[.int .i64 t, .int .i64 l, .int .i64 k, .int .i64 s, .int .i64 m], .int .u8 a, .int .i64 b] w fun e w' => e = .returned (.bool true) ∧ Below w.heap.size w w' := by
  have H := Lib.hid h
  clear h
  go_enter Try.func3, Try.ntmps3
  go_wp2_with fail
  refine (sanity_any _).mono ?_
  rintro e w1 ⟨rfl, hb1⟩
  obtain ⟨c1, f1, l1⟩ := bblock (b := w.heap.size) hb1 (by simp)
  have HB1 := Lib.hid hb1
  clear hb1
  go_wp2_with fail
  refine (rof_bad _ _ _ _ _ _ H.out).mono ?_
  rintro e w2 ⟨rfl, hb2⟩
  have HB2 := Lib.hid hb2
  clear hb2
  go_wp2
  go_ret
  refine ⟨rfl, ?_⟩
  have b1 := HB1.out
  have b2 := HB2.out
  repeat (first | with_reducible exact Below.refl _ _ | with_reducible refine Below.drew ?_ | with_reducible refine below_alloc ?_ _ | with_reducible refine below_set ?_ (by simp) _ | with_reducible refine below_of ?_ b1 | with_reducible refine below_of ?_ b2)

set_option maxHeartbeats 4000000 in
theorem zero (t l k s m a : Int) (w : World) (h : mayB t l k s m = true) :
    Calls Try.prog 3 #[.agg #[.int .i64 t, .int .i64 l, .int .i64 k, .int .i64 s, .int .i64 m], .int .u8 a, .int .i64 0] w fun e w' => e = .returned (.bool true) ∧ Below w.heap.size w w' := by
  have H := Lib.hid h
  clear h
  go_enter Try.func3, Try.ntmps3
  go_wp2_with fail
  refine (sanity_any _).mono ?_
  rintro e w1 ⟨rfl, hb1⟩
  obtain ⟨c1, f1, l1⟩ := bblock (b := w.heap.size) hb1 (by simp)
  have HB1 := Lib.hid hb1
  clear hb1
  go_wp2_with fail
  refine (rof_ok _ _ _ _ _ _ H.out).mono ?_
  rintro e w2 ⟨rfl, hb2⟩
  have HB2 := Lib.hid hb2
  clear hb2
  go_wp2
  go_ret
  refine ⟨rfl, ?_⟩
  have b1 := HB1.out
  have b2 := HB2.out
  repeat (first | with_reducible exact Below.refl _ _ | with_reducible refine Below.drew ?_ | with_reducible refine below_alloc ?_ _ | with_reducible refine below_set ?_ (by simp) _ | with_reducible refine below_of ?_ b1 | with_reducible refine below_of ?_ b2)


set_option maxHeartbeats 4000000 in
theorem case0 (t l k s m a b : Int) (w : World) (h : mayB t l k s m = true) (ha0 : 0 ≤ a) (ha1 : a ≤ 255) (ha : a % 8 = 0) (hb : (b == 0) = false) (hr : rightB t l k s m 0 1 2 3 4 (4 + 4 * t) (4 + 4 * t + k) (4 + 4 * t + k + 4 * l) = true) (hq : rightB t l k s m (wrap64 b) 1 2 3 4 (4 + 4 * t) (4 + 4 * t + k) (4 + 4 * t + k + 4 * l) = false) :
    Calls Try.prog 3 #[.agg #[.int .i64 t, .int .i64 l, .int .i64 k, .int .i64 s, .int .i64 m], .int .u8 a, .int .i64 b] w fun e w' => e = .returned (.bool true) ∧ Below w.heap.size w w' := by
  have H := Lib.hid h
  have HR := Lib.hid hr
  have HQ := Lib.hid hq
  clear h hr hq
  go_enter Try.func3, Try.ntmps3
  go_wp2_with fail
  refine (sanity_any _).mono ?_
  rintro e w1 ⟨rfl, hb1⟩
  obtain ⟨c1, f1, l1⟩ := bblock (b := w.heap.size) hb1 (by simp)
  have HB1 := Lib.hid hb1
  clear hb1
  go_wp2_with fail
  refine (rof_ok _ _ _ _ _ _ H.out).mono ?_
  rintro e w2 ⟨rfl, hb2⟩
  have HB2 := Lib.hid hb2
  clear hb2
  go_wp2_with fail
  refine (Right_any _ _ _ _ _ _ _ _ _ _ _ _ _ _).mono ?_
  rintro e w3 ⟨rfl, hb3⟩
  obtain ⟨c3, f3, l3⟩ := bblock (b := w2.heap.size) hb3 (by simp; omega)
  obtain ⟨c3', f3', l3'⟩ := bblock (b := w2.heap.size + 1) hb3 (by simp)
  have HB3 := Lib.hid hb3
  clear hb3
  rw [HR.out]
  go_wp2_with fail
  refine (Right_any _ _ _ _ _ _ _ _ _ _ _ _ _ _).mono ?_
  rintro e w4 ⟨rfl, hb4⟩
  have HB4 := Lib.hid hb4
  clear hb4
  rw [HQ.out]
  go_wp2
  go_ret
  refine ⟨rfl, ?_⟩
  have b1 := HB1.out
  have b2 := HB2.out
  have b3 := HB3.out
  have b4 := HB4.out
  repeat (first | with_reducible exact Below.refl _ _ | with_reducible refine Below.drew ?_ | with_reducible refine below_alloc ?_ _ | with_reducible refine below_set ?_ (by simp) _ | with_reducible refine below_of ?_ b1 | with_reducible refine below_of ?_ b2 | with_reducible refine below_of ?_ b3 | with_reducible refine below_of ?_ b4)


set_option maxHeartbeats 4000000 in
theorem case1 (t l k s m a b : Int) (w : World) (h : mayB t l k s m = true) (ha0 : 0 ≤ a) (ha1 : a ≤ 255) (ha : a % 8 = 1) (hb : (b == 0) = false) (hr : rightB t l k s m 0 1 2 3 4 (4 + 4 * t) (4 + 4 * t + k) (4 + 4 * t + k + 4 * l) = true) (hq : rightB t l k s m 0 (wrap64 (1 + b)) 2 3 4 (4 + 4 * t) (4 + 4 * t + k) (4 + 4 * t + k + 4 * l) = false) :
    Calls Try.prog 3 #[.agg #[.int .i64 t, .int .i64 l, .int .i64 k, .int .i64 s, .int .i64 m], .int .u8 a, .int .i64 b] w fun e w' => e = .returned (.bool true) ∧ Below w.heap.size w w' := by
  have H := Lib.hid h
  have HR := Lib.hid hr
  have HQ := Lib.hid hq
  clear h hr hq
  go_enter Try.func3, Try.ntmps3
  go_wp2_with fail
  refine (sanity_any _).mono ?_
  rintro e w1 ⟨rfl, hb1⟩
  obtain ⟨c1, f1, l1⟩ := bblock (b := w.heap.size) hb1 (by simp)
  have HB1 := Lib.hid hb1
  clear hb1
  go_wp2_with fail
  refine (rof_ok _ _ _ _ _ _ H.out).mono ?_
  rintro e w2 ⟨rfl, hb2⟩
  have HB2 := Lib.hid hb2
  clear hb2
  go_wp2_with fail
  refine (Right_any _ _ _ _ _ _ _ _ _ _ _ _ _ _).mono ?_
  rintro e w3 ⟨rfl, hb3⟩
  obtain ⟨c3, f3, l3⟩ := bblock (b := w2.heap.size) hb3 (by simp; omega)
  obtain ⟨c3', f3', l3'⟩ := bblock (b := w2.heap.size + 1) hb3 (by simp)
  have HB3 := Lib.hid hb3
  clear hb3
  rw [HR.out]
  go_wp2_with fail
  refine (Right_any _ _ _ _ _ _ _ _ _ _ _ _ _ _).mono ?_
  rintro e w4 ⟨rfl, hb4⟩
  have HB4 := Lib.hid hb4
  clear hb4
  rw [HQ.out]
  go_wp2
  go_ret
  refine ⟨rfl, ?_⟩
  have b1 := HB1.out
  have b2 := HB2.out
  have b3 := HB3.out
  have b4 := HB4.out
  repeat (first | with_reducible exact Below.refl _ _ | with_reducible refine Below.drew ?_ | with_reducible refine below_alloc ?_ _ | with_reducible refine below_set ?_ (by simp) _ | with_reducible refine below_of ?_ b1 | with_reducible refine below_of ?_ b2 | with_reducible refine below_of ?_ b3 | with_reducible refine below_of ?_ b4)


set_option maxHeartbeats 4000000 in
theorem case2 (t l k s m a b : Int) (w : World) (h : mayB t l k s m = true) (ha0 : 0 ≤ a) (ha1 : a ≤ 255) (ha : a % 8 = 2) (hb : (b == 0) = false) (hr : rightB t l k s m 0 1 2 3 4 (4 + 4 * t) (4 + 4 * t + k) (4 + 4 * t + k + 4 * l) = true) (hq : rightB t l k s m 0 1 (wrap64 (2 + b)) 3 4 (4 + 4 * t) (4 + 4 * t + k) (4 + 4 * t + k + 4 * l) = false) :
    Calls Try.prog 3 #[.agg #[.int .i64 t, .int .i64 l, .int .i64 k, .int .i64 s, .int .i64 m], .int .u8 a, .int .i64 b] w fun e w' => e = .returned (.bool true) ∧ Below w.heap.size w w' := by
  have H := Lib.hid h
  have HR := Lib.hid hr
  have HQ := Lib.hid hq
  clear h hr hq
  go_enter Try.func3, Try.ntmps3
  go_wp2_with fail
  refine (sanity_any _).mono ?_
  rintro e w1 ⟨rfl, hb1⟩
  obtain ⟨c1, f1, l1⟩ := bblock (b := w.heap.size) hb1 (by simp)
  have HB1 := Lib.hid hb1
  clear hb1
  go_wp2_with fail
  refine (rof_ok _ _ _ _ _ _ H.out).mono ?_
  rintro e w2 ⟨rfl, hb2⟩
  have HB2 := Lib.hid hb2
  clear hb2
  go_wp2_with fail
  refine (Right_any _ _ _ _ _ _ _ _ _ _ _ _ _ _).mono ?_
  rintro e w3 ⟨rfl, hb3⟩
  obtain ⟨c3, f3, l3⟩ := bblock (b := w2.heap.size) hb3 (by simp; omega)
  obtain ⟨c3', f3', l3'⟩ := bblock (b := w2.heap.size + 1) hb3 (by simp)
  have HB3 := Lib.hid hb3
  clear hb3
  rw [HR.out]
  go_wp2_with fail
  refine (Right_any _ _ _ _ _ _ _ _ _ _ _ _ _ _).mono ?_
  rintro e w4 ⟨rfl, hb4⟩
  have HB4 := Lib.hid hb4
  clear hb4
  rw [HQ.out]
  go_wp2
  go_ret
  refine ⟨rfl, ?_⟩
  have b1 := HB1.out
  have b2 := HB2.out
  have b3 := HB3.out
  have b4 := HB4.out
  repeat (first | with_reducible exact Below.refl _ _ | with_reducible refine Below.drew ?_ | with_reducible refine below_alloc ?_ _ | with_reducible refine below_set ?_ (by simp) _ | with_reducible refine below_of ?_ b1 | with_reducible refine below_of ?_ b2 | with_reducible refine below_of ?_ b3 | with_reducible refine below_of ?_ b4)


set_option maxHeartbeats 4000000 in
theorem case3 (t l k s m a b : Int) (w : World) (h : mayB t l k s m = true) (ha0 : 0 ≤ a) (ha1 : a ≤ 255) (ha : a % 8 = 3) (hb : (b == 0) = false) (hr : rightB t l k s m 0 1 2 3 4 (4 + 4 * t) (4 + 4 * t + k) (4 + 4 * t + k + 4 * l) = true) (hq : rightB t l k s m 0 1 2 (wrap64 (3 + b)) 4 (4 + 4 * t) (4 + 4 * t + k) (4 + 4 * t + k + 4 * l) = false) :
    Calls Try.prog 3 #[.agg #[.int .i64 t, .int .i64 l, .int .i64 k, .int .i64 s, .int .i64 m], .int .u8 a, .int .i64 b] w fun e w' => e = .returned (.bool true) ∧ Below w.heap.size w w' := by
  have H := Lib.hid h
  have HR := Lib.hid hr
  have HQ := Lib.hid hq
  clear h hr hq
  go_enter Try.func3, Try.ntmps3
  go_wp2_with fail
  refine (sanity_any _).mono ?_
  rintro e w1 ⟨rfl, hb1⟩
  obtain ⟨c1, f1, l1⟩ := bblock (b := w.heap.size) hb1 (by simp)
  have HB1 := Lib.hid hb1
  clear hb1
  go_wp2_with fail
  refine (rof_ok _ _ _ _ _ _ H.out).mono ?_
  rintro e w2 ⟨rfl, hb2⟩
  have HB2 := Lib.hid hb2
  clear hb2
  go_wp2_with fail
  refine (Right_any _ _ _ _ _ _ _ _ _ _ _ _ _ _).mono ?_
  rintro e w3 ⟨rfl, hb3⟩
  obtain ⟨c3, f3, l3⟩ := bblock (b := w2.heap.size) hb3 (by simp; omega)
  obtain ⟨c3', f3', l3'⟩ := bblock (b := w2.heap.size + 1) hb3 (by simp)
  have HB3 := Lib.hid hb3
  clear hb3
  rw [HR.out]
  go_wp2_with fail
  refine (Right_any _ _ _ _ _ _ _ _ _ _ _ _ _ _).mono ?_
  rintro e w4 ⟨rfl, hb4⟩
  have HB4 := Lib.hid hb4
  clear hb4
  rw [HQ.out]
  go_wp2
  go_ret
  refine ⟨rfl, ?_⟩
  have b1 := HB1.out
  have b2 := HB2.out
  have b3 := HB3.out
  have b4 := HB4.out
  repeat (first | with_reducible exact Below.refl _ _ | with_reducible refine Below.drew ?_ | with_reducible refine below_alloc ?_ _ | with_reducible refine below_set ?_ (by simp) _ | with_reducible refine below_of ?_ b1 | with_reducible refine below_of ?_ b2 | with_reducible refine below_of ?_ b3 | with_reducible refine below_of ?_ b4)


set_option maxHeartbeats 4000000 in
theorem case4 (t l k s m a b : Int) (w : World) (h : mayB t l k s m = true) (ha0 : 0 ≤ a) (ha1 : a ≤ 255) (ha : a % 8 = 4) (hb : (b == 0) = false) (hr : rightB t l k s m 0 1 2 3 4 (4 + 4 * t) (4 + 4 * t + k) (4 + 4 * t + k + 4 * l) = true) (hq : rightB t l k s m 0 1 2 3 (wrap64 (4 + b)) (4 + 4 * t) (4 + 4 * t + k) (4 + 4 * t + k + 4 * l) = false) :
    Calls Try.prog 3 #[.agg #[.int .i64 t, .int .i64 l, .int .i64 k, .int .i64 s, .int .i64 m], .int .u8 a, .int .i64 b] w fun e w' => e = .returned (.bool true) ∧ Below w.heap.size w w' := by
  have H := Lib.hid h
  have HR := Lib.hid hr
  have HQ := Lib.hid hq
  clear h hr hq
  go_enter Try.func3, Try.ntmps3
  go_wp2_with fail
  refine (sanity_any _).mono ?_
  rintro e w1 ⟨rfl, hb1⟩
  obtain ⟨c1, f1, l1⟩ := bblock (b := w.heap.size) hb1 (by simp)
  have HB1 := Lib.hid hb1
  clear hb1
  go_wp2_with fail
  refine (rof_ok _ _ _ _ _ _ H.out).mono ?_
  rintro e w2 ⟨rfl, hb2⟩
  have HB2 := Lib.hid hb2
  clear hb2
  go_wp2_with fail
  refine (Right_any _ _ _ _ _ _ _ _ _ _ _ _ _ _).mono ?_
  rintro e w3 ⟨rfl, hb3⟩
  obtain ⟨c3, f3, l3⟩ := bblock (b := w2.heap.size) hb3 (by simp; omega)
  obtain ⟨c3', f3', l3'⟩ := bblock (b := w2.heap.size + 1) hb3 (by simp)
  have HB3 := Lib.hid hb3
  clear hb3
  rw [HR.out]
  go_wp2_with fail
  refine (Right_any _ _ _ _ _ _ _ _ _ _ _ _ _ _).mono ?_
  rintro e w4 ⟨rfl, hb4⟩
  have HB4 := Lib.hid hb4
  clear hb4
  rw [HQ.out]
  go_wp2
  go_ret
  refine ⟨rfl, ?_⟩
  have b1 := HB1.out
  have b2 := HB2.out
  have b3 := HB3.out
  have b4 := HB4.out
  repeat (first | with_reducible exact Below.refl _ _ | with_reducible refine Below.drew ?_ | with_reducible refine below_alloc ?_ _ | with_reducible refine below_set ?_ (by simp) _ | with_reducible refine below_of ?_ b1 | with_reducible refine below_of ?_ b2 | with_reducible refine below_of ?_ b3 | with_reducible refine below_of ?_ b4)


set_option maxHeartbeats 4000000 in
theorem case5 (t l k s m a b : Int) (w : World) (h : mayB t l k s m = true) (ha0 : 0 ≤ a) (ha1 : a ≤ 255) (ha : a % 8 = 5) (hb : (b == 0) = false) (hr : rightB t l k s m 0 1 2 3 4 (4 + 4 * t) (4 + 4 * t + k) (4 + 4 * t + k + 4 * l) = true) (hq : rightB t l k s m 0 1 2 3 4 (wrap64 ((4 + 4 * t) + b)) (4 + 4 * t + k) (4 + 4 * t + k + 4 * l) = false) :
    Calls Try.prog 3 #[.agg #[.int .i64 t, .int .i64 l, .int .i64 k, .int .i64 s, .int .i64 m], .int .u8 a, .int .i64 b] w fun e w' => e = .returned (.bool true) ∧ Below w.heap.size w w' := by
  have H := Lib.hid h
  have HR := Lib.hid hr
  have HQ := Lib.hid hq
  clear h hr hq
  go_enter Try.func3, Try.ntmps3
  go_wp2_with fail
  refine (sanity_any _).mono ?_
  rintro e w1 ⟨rfl, hb1⟩
  obtain ⟨c1, f1, l1⟩ := bblock (b := w.heap.size) hb1 (by simp)
  have HB1 := Lib.hid hb1
  clear hb1
  go_wp2_with fail
  refine (rof_ok _ _ _ _ _ _ H.out).mono ?_
  rintro e w2 ⟨rfl, hb2⟩
  have HB2 := Lib.hid hb2
  clear hb2
  go_wp2_with fail
  refine (Right_any _ _ _ _ _ _ _ _ _ _ _ _ _ _).mono ?_
  rintro e w3 ⟨rfl, hb3⟩
  obtain ⟨c3, f3, l3⟩ := bblock (b := w2.heap.size) hb3 (by simp; omega)
  obtain ⟨c3', f3', l3'⟩ := bblock (b := w2.heap.size + 1) hb3 (by simp)
  have HB3 := Lib.hid hb3
  clear hb3
  rw [HR.out]
  go_wp2_with fail
  refine (Right_any _ _ _ _ _ _ _ _ _ _ _ _ _ _).mono ?_
  rintro e w4 ⟨rfl, hb4⟩
  have HB4 := Lib.hid hb4
  clear hb4
  rw [HQ.out]
  go_wp2
  go_ret
  refine ⟨rfl, ?_⟩
  have b1 := HB1.out
  have b2 := HB2.out
  have b3 := HB3.out
  have b4 := HB4.out
  repeat (first | with_reducible exact Below.refl _ _ | with_reducible refine Below.drew ?_ | with_reducible refine below_alloc ?_ _ | with_reducible refine below_set ?_ (by simp) _ | with_reducible refine below_of ?_ b1 | with_reducible refine below_of ?_ b2 | with_reducible refine below_of ?_ b3 | with_reducible refine below_of ?_ b4)


set_option maxHeartbeats 4000000 in
theorem case6 (t l k s m a b : Int) (w : World) (h : mayB t l k s m = true) (ha0 : 0 ≤ a) (ha1 : a ≤ 255) (ha : a % 8 = 6) (hb : (b == 0) = false) (hr : rightB t l k s m 0 1 2 3 4 (4 + 4 * t) (4 + 4 * t + k) (4 + 4 * t + k + 4 * l) = true) (hq : rightB t l k s m 0 1 2 3 4 (4 + 4 * t) (wrap64 ((4 + 4 * t + k) + b)) (4 + 4 * t + k + 4 * l) = false) :
    Calls Try.prog 3 #[.agg #[.int .i64 t, .int .i64 l, .int .i64 k, .int .i64 s, .int .i64 m], .int .u8 a, .int .i64 b] w fun e w' => e = .returned (.bool true) ∧ Below w.heap.size w w' := by
  have H := Lib.hid h
  have HR := Lib.hid hr
  have HQ := Lib.hid hq
  clear h hr hq
  go_enter Try.func3, Try.ntmps3
  go_wp2_with fail
  refine (sanity_any _).mono ?_
  rintro e w1 ⟨rfl, hb1⟩
  obtain ⟨c1, f1, l1⟩ := bblock (b := w.heap.size) hb1 (by simp)
  have HB1 := Lib.hid hb1
  clear hb1
  go_wp2_with fail
  refine (rof_ok _ _ _ _ _ _ H.out).mono ?_
  rintro e w2 ⟨rfl, hb2⟩
  have HB2 := Lib.hid hb2
  clear hb2
  go_wp2_with fail
  refine (Right_any _ _ _ _ _ _ _ _ _ _ _ _ _ _).mono ?_
  rintro e w3 ⟨rfl, hb3⟩
  obtain ⟨c3, f3, l3⟩ := bblock (b := w2.heap.size) hb3 (by simp; omega)
  obtain ⟨c3', f3', l3'⟩ := bblock (b := w2.heap.size + 1) hb3 (by simp)
  have HB3 := Lib.hid hb3
  clear hb3
  rw [HR.out]
  go_wp2_with fail
  refine (Right_any _ _ _ _ _ _ _ _ _ _ _ _ _ _).mono ?_
  rintro e w4 ⟨rfl, hb4⟩
  have HB4 := Lib.hid hb4
  clear hb4
  rw [HQ.out]
  go_wp2
  go_ret
  refine ⟨rfl, ?_⟩
  have b1 := HB1.out
  have b2 := HB2.out
  have b3 := HB3.out
  have b4 := HB4.out
  repeat (first | with_reducible exact Below.refl _ _ | with_reducible refine Below.drew ?_ | with_reducible refine below_alloc ?_ _ | with_reducible refine below_set ?_ (by simp) _ | with_reducible refine below_of ?_ b1 | with_reducible refine below_of ?_ b2 | with_reducible refine below_of ?_ b3 | with_reducible refine below_of ?_ b4)


set_option maxHeartbeats 4000000 in
theorem case7 (t l k s m a b : Int) (w : World) (h : mayB t l k s m = true) (ha0 : 0 ≤ a) (ha1 : a ≤ 255) (ha : a % 8 = 7) (hb : (b == 0) = false) (hr : rightB t l k s m 0 1 2 3 4 (4 + 4 * t) (4 + 4 * t + k) (4 + 4 * t + k + 4 * l) = true) (hq : rightB t l k s m 0 1 2 3 4 (4 + 4 * t) (4 + 4 * t + k) (wrap64 ((4 + 4 * t + k + 4 * l) + b)) = false) :
    Calls Try.prog 3 #[.agg #[.int .i64 t, .int .i64 l, .int .i64 k, .int .i64 s, .int .i64 m], .int .u8 a, .int .i64 b] w fun e w' => e = .returned (.bool true) ∧ Below w.heap.size w w' := by
  have H := Lib.hid h
  have HR := Lib.hid hr
  have HQ := Lib.hid hq
  clear h hr hq
  go_enter Try.func3, Try.ntmps3
  go_wp2_with fail
  refine (sanity_any _).mono ?_
  rintro e w1 ⟨rfl, hb1⟩
  obtain ⟨c1, f1, l1⟩ := bblock (b := w.heap.size) hb1 (by simp)
  have HB1 := Lib.hid hb1
  clear hb1
  go_wp2_with fail
  refine (rof_ok _ _ _ _ _ _ H.out).mono ?_
  rintro e w2 ⟨rfl, hb2⟩
  have HB2 := Lib.hid hb2
  clear hb2
  go_wp2_with fail
  refine (Right_any _ _ _ _ _ _ _ _ _ _ _ _ _ _).mono ?_
  rintro e w3 ⟨rfl, hb3⟩
  obtain ⟨c3, f3, l3⟩ := bblock (b := w2.heap.size) hb3 (by simp; omega)
  obtain ⟨c3', f3', l3'⟩ := bblock (b := w2.heap.size + 1) hb3 (by simp)
  have HB3 := Lib.hid hb3
  clear hb3
  rw [HR.out]
  go_wp2_with fail
  refine (Right_any _ _ _ _ _ _ _ _ _ _ _ _ _ _).mono ?_
  rintro e w4 ⟨rfl, hb4⟩
  have HB4 := Lib.hid hb4
  clear hb4
  rw [HQ.out]
  go_wp2
  go_ret
  refine ⟨rfl, ?_⟩
  have b1 := HB1.out
  have b2 := HB2.out
  have b3 := HB3.out
  have b4 := HB4.out
  repeat (first | with_reducible exact Below.refl _ _ | with_reducible refine Below.drew ?_ | with_reducible refine below_alloc ?_ _ | with_reducible refine below_set ?_ (by simp) _ | with_reducible refine below_of ?_ b1 | with_reducible refine below_of ?_ b2 | with_reducible refine below_of ?_ b3 | with_reducible refine below_of ?_ b4)


theorem walk (t l k s m a b : Int) (w : World) (ha0 : 0 ≤ a) (ha1 : a ≤ 255) (hb0 : -9223372036854775808 ≤ b) (hb1 : b ≤ 9223372036854775807) :
    Calls Try.prog 3 #[.agg #[.int .i64 t, .int .i64 l, .int .i64 k, .int .i64 s, .int .i64 m], .int .u8 a, .int .i64 b] w fun e w' => e = .returned (.bool true) ∧ Below w.heap.size w w' := by
  cases h : mayB t l k s m
  · exact bad t l k s m a b w h
  by_cases hz : b = 0
  · subst hz; exact zero t l k s m a w h
  have hb : (b == 0) = false := by simp [hz]
  have hm := mayB_true.1 h
  have hr : rightB t l k s m 0 1 2 3 4 (4 + 4 * t) (4 + 4 * t + k) (4 + 4 * t + k + 4 * l) = true := by simp [rightB, h]
  rcases eq_or a ha0 ha1 with ha | ha | ha | ha | ha | ha | ha | ha
  · refine case0 t l k s m a b w h ha0 ha1 ha hb hr ?_
    have hne := wrap_ne (0) b (by omega) (by omega) hb0 hb1 hz
    rw [Int.zero_add] at hne
    simp [rightB, h]
    omega
  · refine case1 t l k s m a b w h ha0 ha1 ha hb hr ?_
    have hne := wrap_ne (1) b (by omega) (by omega) hb0 hb1 hz
    simp [rightB, h]
    omega
  · refine case2 t l k s m a b w h ha0 ha1 ha hb hr ?_
    have hne := wrap_ne (2) b (by omega) (by omega) hb0 hb1 hz
    simp [rightB, h]
    omega
  · refine case3 t l k s m a b w h ha0 ha1 ha hb hr ?_
    have hne := wrap_ne (3) b (by omega) (by omega) hb0 hb1 hz
    simp [rightB, h]
    omega
  · refine case4 t l k s m a b w h ha0 ha1 ha hb hr ?_
    have hne := wrap_ne (4) b (by omega) (by omega) hb0 hb1 hz
    simp [rightB, h]
    omega
  · refine case5 t l k s m a b w h ha0 ha1 ha hb hr ?_
    have hne := wrap_ne ((4 + 4 * t)) b (by omega) (by omega) hb0 hb1 hz
    simp [rightB, h]
    omega
  · refine case6 t l k s m a b w h ha0 ha1 ha hb hr ?_
    have hne := wrap_ne ((4 + 4 * t + k)) b (by omega) (by omega) hb0 hb1 hz
    simp [rightB, h]
    omega
  · refine case7 t l k s m a b w h ha0 ha1 ha hb hr ?_
    have hne := wrap_ne ((4 + 4 * t + k + 4 * l)) b (by omega) (by omega) hb0 hb1 hz
    simp [rightB, h]
    omega
end Go.Proofs.Ytbnbljeegghgiaa.rejects
