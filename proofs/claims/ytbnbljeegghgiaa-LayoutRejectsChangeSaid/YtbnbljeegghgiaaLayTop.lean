/- Contracts of layout.Right, layout.For, layout.Init. -/
import Derived.Test.YtbnbljeegghgiaaLayCells
namespace Go.Proofs.Ytbnbljeegghgiaa
open Go.RowKit

/-- A layout is the one of its configuration. -/
def rightB (a0 a1 a2 a3 a4 a5 a6 a7 a8 a9 a10 a11 a12 : Int) : Bool := mayB a0 a1 a2 a3 a4 && decide (a5 = 0 ∧ a6 = 1 ∧ a7 = 2 ∧ a8 = 3 ∧ a9 = 4 ∧ a10 = 4 + 4 * a0 ∧ a11 = 4 + 4 * a0 + a2 ∧ a12 = 4 + 4 * a0 + a2 + 4 * a1)

set_option maxHeartbeats 2000000 in
theorem Right_any (a0 a1 a2 a3 a4 a5 a6 a7 a8 a9 a10 a11 a12 : Int) (w : World) :
    Calls Try.prog 17 #[.agg #[.int .i64 a0, .int .i64 a1, .int .i64 a2, .int .i64 a3, .int .i64 a4, .int .i64 a5, .int .i64 a6, .int .i64 a7, .int .i64 a8, .int .i64 a9, .int .i64 a10, .int .i64 a11, .int .i64 a12]] w fun e w' => e = .returned (.bool (rightB a0 a1 a2 a3 a4 a5 a6 a7 a8 a9 a10 a11 a12)) ∧ Below w.heap.size w w' := by
  generalize hv : rightB a0 a1 a2 a3 a4 a5 a6 a7 a8 a9 a10 a11 a12 = v
  have HV := Lib.hid hv
  clear hv
  cases h : mayB a0 a1 a2 a3 a4
  · have H := Lib.hid h
    clear h
    go_enter Try.func17, Try.ntmps17
    go_wp2_with fail
    refine (of_bad _ _ _ _ _ _ H.out).mono ?_
    rintro e w1 ⟨rfl, hb⟩
    obtain ⟨hc, hf, hl⟩ := bcell hb
    have HB := Lib.hid hb
    clear hb
    go_wp2
    go_ret
    refine ⟨ret_bool (by rw [← HV.out]; simp [rightB, H.out]), ?_⟩
    have hb := HB.out
    repeat (first | with_reducible exact Below.refl _ _ | with_reducible refine Below.drew ?_ | with_reducible refine below_alloc ?_ _ | with_reducible refine below_set ?_ (by simp) _ | with_reducible refine below_of ?_ hb)
  · have H := Lib.hid h
    clear h
    go_enter Try.func17, Try.ntmps17
    go_wp2_with fail
    refine (of_ok _ _ _ _ _ _ H.out).mono ?_
    rintro e w1 ⟨rfl, hb⟩
    obtain ⟨hc, hf, hl⟩ := bcell hb
    have HB := Lib.hid hb
    clear hb
    go_wp2
    all_goals go_ret
    all_goals
      refine ⟨ret_bool (by rw [← HV.out, Bool.eq_iff_iff]; simp [rightB, H.out]; omega), ?_⟩
      have hb := HB.out
      repeat (first | with_reducible exact Below.refl _ _ | with_reducible refine Below.drew ?_ | with_reducible refine below_alloc ?_ _ | with_reducible refine below_set ?_ (by simp) _ | with_reducible refine below_of ?_ hb)

set_option maxHeartbeats 2000000 in
theorem For_ok (v0 v2 v4 v5 : Value) (p q : Option Addr) (n nc m mc : Nat) (k s g : Int) (w : World) (h : mayB n m k s g = true) :
    Calls Try.prog 18 #[.agg #[v0, .slice p n nc, v2, .slice q m mc, v4, v5, .int .i64 k], .int .i64 s, .int .i64 g] w fun e w' =>
      e = .returned (.tuple #[.agg #[.int .i64 n, .int .i64 m, .int .i64 k, .int .i64 s, .int .i64 g], .int .i64 0]) ∧ Below w.heap.size w w' := by
  have hm := fun w => may_any n m k s g w
  rw [h] at hm
  have HM := Lib.hid hm
  clear hm h
  go_enter Try.func18, Try.ntmps18
  go_wp2_with fail
  refine (HM.out _).mono ?_
  rintro e w1 ⟨rfl, hb⟩
  obtain ⟨hc, hf, hl⟩ := bcell hb
  have HB := Lib.hid hb
  clear hb HM
  go_wp2
  refine bodyPost_ret (v := .tuple #[.agg #[.int .i64 n, .int .i64 m, .int .i64 k, .int .i64 s, .int .i64 g], .int .i64 0]) (by simp [results, Try.results18, go_sem, hc]) rfl ⟨rfl, ?_⟩
  have hb := HB.out
  repeat (first | with_reducible exact Below.refl _ _ | with_reducible refine Below.drew ?_ | with_reducible refine below_alloc ?_ _ | with_reducible refine below_set ?_ (by simp) _ | with_reducible refine below_of ?_ hb)

set_option maxHeartbeats 2000000 in
theorem For_bad (v0 v2 v4 v5 : Value) (p q : Option Addr) (n nc m mc : Nat) (k s g : Int) (w : World) (h : mayB n m k s g = false) :
    Calls Try.prog 18 #[.agg #[v0, .slice p n nc, v2, .slice q m mc, v4, v5, .int .i64 k], .int .i64 s, .int .i64 g] w fun e w' =>
      e = .returned (.tuple #[.agg #[.int .i64 0, .int .i64 0, .int .i64 0, .int .i64 0, .int .i64 0], .int .i64 1]) ∧ Below w.heap.size w w' := by
  have hm := fun w => may_any n m k s g w
  rw [h] at hm
  have HM := Lib.hid hm
  clear hm h
  go_enter Try.func18, Try.ntmps18
  go_wp2_with fail
  refine (HM.out _).mono ?_
  rintro e w1 ⟨rfl, hb⟩
  obtain ⟨hc, hf, hl⟩ := bcell hb
  have HB := Lib.hid hb
  clear hb HM
  go_wp2
  refine bodyPost_ret (v := .tuple #[.agg #[.int .i64 0, .int .i64 0, .int .i64 0, .int .i64 0, .int .i64 0], .int .i64 1]) (by simp [results, Try.results18, go_sem, hc]) rfl ⟨rfl, ?_⟩
  have hb := HB.out
  repeat (first | with_reducible exact Below.refl _ _ | with_reducible refine Below.drew ?_ | with_reducible refine below_alloc ?_ _ | with_reducible refine below_set ?_ (by simp) _ | with_reducible refine below_of ?_ hb)

theorem Try.info51 : (Try.prog.info? 51).map (fun i => (i.zero, i.size, i.bytes)) = some (some (.agg #[.int .i64 0, .int .i64 0, .int .i64 0, .int .i64 0, .string ⟨#[]⟩]), 5, 48) := by kernel_rfl

/-- The cells of the initializing accesses: 1 into Stamps, then the first n initial values. -/
def initRow (st loc locs : Int) (xs : List Int) : Nat → List Value
  | 0 => [.int .i64 2, .int .i64 st, .int .i64 0, .int .i64 1, .string ⟨#[]⟩]
  | n + 1 => initRow st loc locs xs n ++ [.int .i64 2, .int .i64 (placeV loc locs n 4 1), .int .i64 0, .int .i64 (xs[n]?.getD 0), .string ⟨#[]⟩]

/-- What Init leaves: a slice of its own, whose cells are these. -/
def InitPost (w : World) (xs : List Value) (n : Nat) (e : Ending) (w' : World) : Prop := ∃ v, e = .returned v ∧ w'.ownsRow w.heap.size 51 5 v n xs ∧ Below w.heap.size w w'

set_option maxHeartbeats 4000000 in
theorem Init_few (a0 : Int) (k1 : Nat) (a2 a3 a4 a5 a6 a7 a8 a9 a10 a11 a12 : Int) (b off len cap : Nat) (xs : List Int) (w : World) (hk : len ≤ 1000) (hkc : len ≤ cap) (h1 : 0 ≤ a11) (h2 : a11 ≤ 1000) (h4 : k1 ≤ 1000) (hb0 : 0 < len → b < w.heap.size)
    (hcell : ∀ i, i < len → w.cell? ⟨b, off + i, none⟩ = some (.int .i64 (xs[i]?.getD 0))) (hlk : len ≤ k1) :
    Calls Try.prog 29 #[.agg #[.int .i64 a0, .int .i64 k1, .int .i64 a2, .int .i64 a3, .int .i64 a4, .int .i64 a5, .int .i64 a6, .int .i64 a7, .int .i64 a8, .int .i64 a9, .int .i64 a10, .int .i64 a11, .int .i64 a12], .slice (some ⟨b, off, none⟩) len cap] w (InitPost w (initRow a6 a11 k1 xs len) (len + 1)) := by
  obtain ⟨i0, hi, hz0, hz1, hz2⟩ := info_parts Try.info51
  have hlk' : ¬ k1 < len := by omega
  have hn0 : (0 : Int) ≤ (len : Int) := by omega
  have hnc : (len : Int) ≤ (cap : Int) := by omega
  have HC := Lib.hid hcell
  clear hcell
  go_enter Try.func29, Try.ntmps29
  go_wp2_with fail
  go_loopw [5, 21] (fun v i wr => ∃ j : Nat, j ≤ len ∧ i = .int .i64 j ∧ wr.ownsRow (w.heap.size + 1) 51 5 v (j + 1) (initRow a6 a11 k1 xs j) ∧ Below (w.heap.size + 1) (w.alloc (.cells #[.int .i64 a0, .int .i64 k1, .int .i64 a2, .int .i64 a3, .int .i64 a4, .int .i64 a5, .int .i64 a6, .int .i64 a7, .int .i64 a8, .int .i64 a9, .int .i64 a10, .int .i64 a11, .int .i64 a12] 26)) wr) (fun _ i _ => len - (intOf i).toNat)
  case atStart =>
    exact ⟨0, by omega, rfl, own_lit _ #[.int .i64 2, .int .i64 a6, .int .i64 0, .int .i64 1, .string ⟨#[]⟩] 51 5 1 _ (by simp) (by omega) rfl, (Below.refl _ _).alloc (by simp) _⟩
  case round =>
    obtain ⟨j, hj, rfl, hown, hbl⟩ := hrel
    have hbl' : Below (w.alloc (.cells #[.int .i64 a0, .int .i64 k1, .int .i64 a2, .int .i64 a3, .int .i64 a4, .int .i64 a5, .int .i64 a6, .int .i64 a7, .int .i64 a8, .int .i64 a9, .int .i64 a10, .int .i64 a11, .int .i64 a12] 26)).heap.size (w.alloc (.cells #[.int .i64 a0, .int .i64 k1, .int .i64 a2, .int .i64 a3, .int .i64 a4, .int .i64 a5, .int .i64 a6, .int .i64 a7, .int .i64 a8, .int .i64 a9, .int .i64 a10, .int .i64 a11, .int .i64 a12] 26)) wr := by simpa using hbl
    obtain ⟨hc, hf, hl⟩ := bcell hbl'
    have hsz : w.heap.size + 1 ≤ wr.heap.size := by have := hbl'.size; simp at this; omega
    clear hbl'
    have HBL := Lib.hid hbl
    clear hbl
    by_cases hlt : j < len
    · have hb := hb0 (by omega)
      have he : w.cell? ⟨b, off + j, none⟩ = some (.int .i64 (xs[j]?.getD 0)) := HC.out j (by omega)
      go_wp2_with fail
      refine (Val_any _ _ _ _ _ _ _ _ _ _ _ _ _ _ _ h1 h2 (by omega)).mono ?_
      rintro e w2 ⟨rfl, hb2⟩
      have hown2 := ownsRow_below hown hb2
      have HB2 := Lib.hid hb2
      have hsz2 : w.heap.size + 1 ≤ w2.heap.size := Nat.le_trans hsz hb2.size
      clear hb2 hc hf hl he
      go_wp2_with (at_builtin; refine wpList_append_own _ rfl (.tmp 26) (.tmp 32) 44 rfl (w.heap.size + 1) 51 i0 _ 5 48 Try.underlying44 hi hz0 hz1 hz2 rfl (by decide) _ _ _ rfl (hown2.alloc _) ⟨w2.heap.size, 0, none⟩ 1 1 [.int .i64 2, .int .i64 (placeV a11 k1 j 4 1), .int .i64 0, .int .i64 (xs[j]?.getD 0), .string ⟨#[]⟩] rfl rfl ?c1 ?c2 ?c3 ?c4 ?c5 ?_)
      case c1 => exact World.news_of_block (cs := #[.int .i64 2, .int .i64 (placeV a11 k1 j 4 1), .int .i64 0, .int .i64 (xs[j]?.getD 0), .string ⟨#[]⟩]) (t := 51) (fr := (0, 0)) (heap_alloc_new w2 _)
      case c2 => simp [Value.oneCell']
      case c3 => unfold maxLen; omega
      case c4 => omega
      case c5 => simp; omega
      intro v' w3 hown3 hgrow _
      go_wp2
      go_roundw
      case rel => exact ⟨j + 1, by omega, by go_num, hown3, ((HBL.out.trans (HB2.out.mono hsz)).alloc hsz2 _).grown hgrow (by simp; omega) (fun k hk => ((hown2.lt k hk).1))⟩
      case measure => simp [intOf]; omega
    · have : j = len := by omega
      subst this
      go_wp2
      go_ret
      refine ⟨_, rfl, hown.mono (by omega), ?_⟩
      exact ((Below.refl w.heap.size w).alloc (Nat.le_refl _) _).trans (HBL.out.mono (by omega))

set_option maxHeartbeats 4000000 in
theorem Init_many (a0 : Int) (k1 : Nat) (a2 a3 a4 a5 a6 a7 a8 a9 a10 a11 a12 : Int) (b off len cap : Nat) (xs : List Int) (w : World) (hk : len ≤ 1000) (hkc : len ≤ cap) (h1 : 0 ≤ a11) (h2 : a11 ≤ 1000) (h4 : k1 ≤ 1000) (hb0 : 0 < len → b < w.heap.size)
    (hcell : ∀ i, i < len → w.cell? ⟨b, off + i, none⟩ = some (.int .i64 (xs[i]?.getD 0))) (hlk : k1 < len) :
    Calls Try.prog 29 #[.agg #[.int .i64 a0, .int .i64 k1, .int .i64 a2, .int .i64 a3, .int .i64 a4, .int .i64 a5, .int .i64 a6, .int .i64 a7, .int .i64 a8, .int .i64 a9, .int .i64 a10, .int .i64 a11, .int .i64 a12], .slice (some ⟨b, off, none⟩) len cap] w (InitPost w (initRow a6 a11 k1 xs k1) (k1 + 1)) := by
  obtain ⟨i0, hi, hz0, hz1, hz2⟩ := info_parts Try.info51
  have hlk' : (k1 : Int) < (len : Int) := by omega
  have hn0 : (0 : Int) ≤ (k1 : Int) := by omega
  have hnc : (k1 : Int) ≤ (cap : Int) := by omega
  have HC := Lib.hid hcell
  clear hcell
  go_enter Try.func29, Try.ntmps29
  go_wp2_with fail
  go_loopw [5, 21] (fun v i wr => ∃ j : Nat, j ≤ k1 ∧ i = .int .i64 j ∧ wr.ownsRow (w.heap.size + 1) 51 5 v (j + 1) (initRow a6 a11 k1 xs j) ∧ Below (w.heap.size + 1) (w.alloc (.cells #[.int .i64 a0, .int .i64 k1, .int .i64 a2, .int .i64 a3, .int .i64 a4, .int .i64 a5, .int .i64 a6, .int .i64 a7, .int .i64 a8, .int .i64 a9, .int .i64 a10, .int .i64 a11, .int .i64 a12] 26)) wr) (fun _ i _ => k1 - (intOf i).toNat)
  case atStart =>
    exact ⟨0, by omega, rfl, own_lit _ #[.int .i64 2, .int .i64 a6, .int .i64 0, .int .i64 1, .string ⟨#[]⟩] 51 5 1 _ (by simp) (by omega) rfl, (Below.refl _ _).alloc (by simp) _⟩
  case round =>
    obtain ⟨j, hj, rfl, hown, hbl⟩ := hrel
    have hbl' : Below (w.alloc (.cells #[.int .i64 a0, .int .i64 k1, .int .i64 a2, .int .i64 a3, .int .i64 a4, .int .i64 a5, .int .i64 a6, .int .i64 a7, .int .i64 a8, .int .i64 a9, .int .i64 a10, .int .i64 a11, .int .i64 a12] 26)).heap.size (w.alloc (.cells #[.int .i64 a0, .int .i64 k1, .int .i64 a2, .int .i64 a3, .int .i64 a4, .int .i64 a5, .int .i64 a6, .int .i64 a7, .int .i64 a8, .int .i64 a9, .int .i64 a10, .int .i64 a11, .int .i64 a12] 26)) wr := by simpa using hbl
    obtain ⟨hc, hf, hl⟩ := bcell hbl'
    have hsz : w.heap.size + 1 ≤ wr.heap.size := by have := hbl'.size; simp at this; omega
    clear hbl'
    have HBL := Lib.hid hbl
    clear hbl
    by_cases hlt : j < k1
    · have hb := hb0 (by omega)
      have he : w.cell? ⟨b, off + j, none⟩ = some (.int .i64 (xs[j]?.getD 0)) := HC.out j (by omega)
      go_wp2_with fail
      refine (Val_any _ _ _ _ _ _ _ _ _ _ _ _ _ _ _ h1 h2 (by omega)).mono ?_
      rintro e w2 ⟨rfl, hb2⟩
      have hown2 := ownsRow_below hown hb2
      have HB2 := Lib.hid hb2
      have hsz2 : w.heap.size + 1 ≤ w2.heap.size := Nat.le_trans hsz hb2.size
      clear hb2 hc hf hl he
      go_wp2_with (at_builtin; refine wpList_append_own _ rfl (.tmp 26) (.tmp 32) 44 rfl (w.heap.size + 1) 51 i0 _ 5 48 Try.underlying44 hi hz0 hz1 hz2 rfl (by decide) _ _ _ rfl (hown2.alloc _) ⟨w2.heap.size, 0, none⟩ 1 1 [.int .i64 2, .int .i64 (placeV a11 k1 j 4 1), .int .i64 0, .int .i64 (xs[j]?.getD 0), .string ⟨#[]⟩] rfl rfl ?c1 ?c2 ?c3 ?c4 ?c5 ?_)
      case c1 => exact World.news_of_block (cs := #[.int .i64 2, .int .i64 (placeV a11 k1 j 4 1), .int .i64 0, .int .i64 (xs[j]?.getD 0), .string ⟨#[]⟩]) (t := 51) (fr := (0, 0)) (heap_alloc_new w2 _)
      case c2 => simp [Value.oneCell']
      case c3 => unfold maxLen; omega
      case c4 => omega
      case c5 => simp; omega
      intro v' w3 hown3 hgrow _
      go_wp2
      go_roundw
      case rel => exact ⟨j + 1, by omega, by go_num, hown3, ((HBL.out.trans (HB2.out.mono hsz)).alloc hsz2 _).grown hgrow (by simp; omega) (fun k hk => ((hown2.lt k hk).1))⟩
      case measure => simp [intOf]; omega
    · have : j = k1 := by omega
      subst this
      go_wp2
      go_ret
      refine ⟨_, rfl, hown.mono (by omega), ?_⟩
      exact ((Below.refl w.heap.size w).alloc (Nat.le_refl _) _).trans (HBL.out.mono (by omega))

set_option maxHeartbeats 4000000 in
theorem Init_nil (a0 : Int) (k1 : Nat) (a2 a3 a4 a5 a6 a7 a8 a9 a10 a11 a12 : Int) (w : World) :
    Calls Try.prog 29 #[.agg #[.int .i64 a0, .int .i64 k1, .int .i64 a2, .int .i64 a3, .int .i64 a4, .int .i64 a5, .int .i64 a6, .int .i64 a7, .int .i64 a8, .int .i64 a9, .int .i64 a10, .int .i64 a11, .int .i64 a12], .slice none 0 0] w (InitPost w (initRow a6 a11 k1 [] 0) 1) := by
  have hk : ¬ (k1 : Int) < 0 := by omega
  go_enter Try.func29, Try.ntmps29
  go_wp2_with fail
  refine wp_loop_rounds 1 ?_
  rw [rounds_succ]
  go_wp2
  go_ret
  refine ⟨_, rfl, (own_lit _ #[.int .i64 2, .int .i64 a6, .int .i64 0, .int .i64 1, .string ⟨#[]⟩] 51 5 1 _ (by simp) (by omega) rfl).mono (by omega), ?_⟩
  exact below_alloc (below_alloc (Below.refl _ _) _) _
end Go.Proofs.Ytbnbljeegghgiaa
