/- The example that every statement of layer 15 calls: it answers true. -/
import Derived.Test.YtbnbljeegghgiaaLayTop
import Derived.Test.YtbnbljeegghgiaaKitb
namespace Go.Proofs.Ytbnbljeegghgiaa
open Go.RowKit

set_option maxHeartbeats 8000000 in
theorem sanity_any (w : World) : Calls Try.prog 15 #[] w fun e w' => e = .returned (.bool true) ∧ Below w.heap.size w w' := by
  have m1 : mayB 1 1 0 0 0 = true := by simp [mayB, inB]
  have m2 : mayB 0 0 0 0 0 = false := by simp [mayB, inB]
  have m3 : mayB (2 : Nat) (1 : Nat) 0 9 2 = true := by simp [mayB, inB]
  have m4 : rightB 1 1 0 0 0 0 1 2 3 4 8 8 12 = true := by simp [rightB, mayB, inB]
  have m5 : rightB 0 0 0 0 0 0 0 0 0 0 0 0 0 = false := by simp [rightB, mayB, inB]
  have M1 := Lib.hid m1
  have M2 := Lib.hid m2
  have M3 := Lib.hid m3
  have M4 := Lib.hid m4
  have M5 := Lib.hid m5
  clear m1 m2 m3 m4 m5
  go_enter Try.func15, Try.ntmps15
  go_wp2_with fail
  refine (of_ok 1 1 0 0 0 _ M1.out).mono ?_
  rintro e w1 ⟨rfl, hb1⟩
  have HB1 := Lib.hid hb1
  clear hb1
  go_wp2_with fail
  refine (of_bad 0 0 0 0 0 _ M2.out).mono ?_
  rintro e w2 ⟨rfl, hb2⟩
  obtain ⟨c2_0, f2_0, l2_0⟩ := bblock (b := w1.heap.size) hb2 (by first | assumption | (simp; done) | (simp; omega) | omega)
  have HB2 := Lib.hid hb2
  clear hb2
  go_wp2_with fail
  refine (For_ok _ _ _ _ _ _ 2 _ 1 _ 0 9 2 _ M3.out).mono ?_
  rintro e w3 ⟨rfl, hb3⟩
  obtain ⟨c3_0, f3_0, l3_0⟩ := bblock (b := w1.heap.size) hb3 (by first | assumption | (simp; done) | (simp; omega) | omega)
  have HB3 := Lib.hid hb3
  clear hb3
  go_wp2_with fail
  refine (Init_many 1 1 0 0 0 0 1 2 3 4 8 8 12 _ 0 2 2 [7, 8] _ (by omega) (by omega) (by omega) (by omega) (by omega) (fun _ => by simp) ?hi (by omega)).mono ?_
  case hi =>
    intro i hi
    have hi2 : i = 0 ∨ i = 1 := by omega
    rcases hi2 with rfl | rfl <;> simp
  rintro e w4 ⟨v4, rfl, ho4, hb4⟩
  obtain ⟨c4_0, f4_0, l4_0⟩ := bblock (b := w1.heap.size) hb4 (by first | assumption | (simp; done) | (simp; omega) | omega)
  obtain ⟨c4_1, f4_1, l4_1⟩ := bblock (b := w3.heap.size) hb4 (by first | assumption | (simp; done) | (simp; omega) | omega)
  have HB4 := Lib.hid hb4
  clear hb4
  obtain ⟨g4, cap4, rfl, _, _, _, _⟩ := ownsRow_some ho4 (by omega)
  clear ho4
  go_wp2_with fail
  refine (Right_any 1 1 0 0 0 0 1 2 3 4 8 8 12 _).mono ?_
  rintro e w5 ⟨rfl, hb5⟩
  obtain ⟨c5_0, f5_0, l5_0⟩ := bblock (b := w1.heap.size) hb5 (by first | assumption | (simp; done) | (simp; omega) | omega)
  obtain ⟨c5_1, f5_1, l5_1⟩ := bblock (b := w3.heap.size) hb5 (by first | assumption | (simp; done) | (simp; omega) | omega)
  have HB5 := Lib.hid hb5
  clear hb5
  rw [M4.out]
  go_wp2_with fail
  refine (Right_any 0 0 0 0 0 0 0 0 0 0 0 0 0 _).mono ?_
  rintro e w6 ⟨rfl, hb6⟩
  obtain ⟨c6_0, f6_0, l6_0⟩ := bblock (b := w1.heap.size) hb6 (by first | assumption | (simp; done) | (simp; omega) | omega)
  obtain ⟨c6_1, f6_1, l6_1⟩ := bblock (b := w3.heap.size) hb6 (by first | assumption | (simp; done) | (simp; omega) | omega)
  have HB6 := Lib.hid hb6
  clear hb6
  rw [M5.out]
  go_wp2_with fail
  refine (Karma_any 1 1 0 0 0 0 1 2 3 4 8 8 12 0 _ (by omega) (by omega) (by omega)).mono ?_
  rintro e w7 ⟨rfl, hb7⟩
  obtain ⟨c7_0, f7_0, l7_0⟩ := bblock (b := w1.heap.size) hb7 (by first | assumption | (simp; done) | (simp; omega) | omega)
  obtain ⟨c7_1, f7_1, l7_1⟩ := bblock (b := w3.heap.size) hb7 (by first | assumption | (simp; done) | (simp; omega) | omega)
  have HB7 := Lib.hid hb7
  clear hb7
  rw [placeV_in (by omega) (by omega)]
  go_wp2_with fail
  refine (Waiters_any 1 1 0 0 0 0 1 2 3 4 8 8 12 0 _ (by omega) (by omega) (by omega)).mono ?_
  rintro e w8 ⟨rfl, hb8⟩
  obtain ⟨c8_0, f8_0, l8_0⟩ := bblock (b := w1.heap.size) hb8 (by first | assumption | (simp; done) | (simp; omega) | omega)
  obtain ⟨c8_1, f8_1, l8_1⟩ := bblock (b := w3.heap.size) hb8 (by first | assumption | (simp; done) | (simp; omega) | omega)
  have HB8 := Lib.hid hb8
  clear hb8
  rw [placeV_in (by omega) (by omega)]
  go_wp2_with fail
  refine (Word_any 1 1 0 0 0 0 1 2 3 4 8 8 12 1 _ (by omega) (by omega) (by omega)).mono ?_
  rintro e w9 ⟨rfl, hb9⟩
  obtain ⟨c9_0, f9_0, l9_0⟩ := bblock (b := w1.heap.size) hb9 (by first | assumption | (simp; done) | (simp; omega) | omega)
  obtain ⟨c9_1, f9_1, l9_1⟩ := bblock (b := w3.heap.size) hb9 (by first | assumption | (simp; done) | (simp; omega) | omega)
  have HB9 := Lib.hid hb9
  clear hb9
  rw [placeV_out (by omega)]
  go_wp2
  go_ret
  refine ⟨rfl, ?_⟩
  have b1 := HB1.out
  have b2 := HB2.out
  have b3 := HB3.out
  have b4 := HB4.out
  have b5 := HB5.out
  have b6 := HB6.out
  have b7 := HB7.out
  have b8 := HB8.out
  have b9 := HB9.out
  repeat (first | with_reducible exact Below.refl _ _ | with_reducible refine Below.drew ?_ | with_reducible refine below_alloc ?_ _ | with_reducible refine below_set ?_ (by simp) _ | with_reducible refine below_of ?_ b1 | with_reducible refine below_of ?_ b2 | with_reducible refine below_of ?_ b3 | with_reducible refine below_of ?_ b4 | with_reducible refine below_of ?_ b5 | with_reducible refine below_of ?_ b6 | with_reducible refine below_of ?_ b7 | with_reducible refine below_of ?_ b8 | with_reducible refine below_of ?_ b9)
end Go.Proofs.Ytbnbljeegghgiaa
