/- Small lemmas for the walks of this family: what a call that only makes memory leaves as it was ('Below'), the inequalities between block numbers that the walk's simp asks for. No program in sight. -/
import Derived.Test.YtbnbljeegghgiaaProg
import Derived.WalkKit
import Derived.WalkSpells
import Derived.WalkLawsBesides
import Derived.Lib.Hide
import Derived.IntWalk
import Derived.Deep.AppendLies
import Derived.Deep.Onto
namespace Go.Proofs.Ytbnbljeegghgiaa
open Go.RowKit

/-- What is known of every older block behind a call that only made memory: three rules that the walk uses by itself. -/
theorem bcell {W w1 : World} (hb : Below W.heap.size W w1) : (∀ b o, b < W.heap.size → w1.cell? ⟨b, o, none⟩ = W.cell? ⟨b, o, none⟩) ∧ (∀ b o, b < W.heap.size → w1.frozen? ⟨b, o, none⟩ = W.frozen? ⟨b, o, none⟩) ∧ (∀ b, b < W.heap.size → b < w1.heap.size) :=
  ⟨fun b o h => hb.cell (p := ⟨b, o, none⟩) h, fun b o h => hb.frozen (p := ⟨b, o, none⟩) h, fun _ h => Nat.lt_of_lt_of_le h hb.size⟩
@[go_sem] theorem lt_2 (n : Nat) : n < n + 1 + 1 := by omega
@[go_sem] theorem lt_3 (n : Nat) : n < n + 1 + 1 + 1 := by omega
@[go_sem] theorem lt_4 (n : Nat) : n < n + 1 + 1 + 1 + 1 := by omega
@[go_sem] theorem lt_5 (n : Nat) : n < n + 1 + 1 + 1 + 1 + 1 := by omega
@[go_sem] theorem lt_6 (n : Nat) : n < n + 1 + 1 + 1 + 1 + 1 + 1 := by omega
@[go_sem] theorem lt_7 (n : Nat) : n < n + 1 + 1 + 1 + 1 + 1 + 1 + 1 := by omega
@[go_sem] theorem lt_8 (n : Nat) : n < n + 1 + 1 + 1 + 1 + 1 + 1 + 1 + 1 := by omega
@[go_sem] theorem lt_up {a b : Nat} (h : a < b) : a < b + 1 := by omega

/-! Closing 'Below w.heap.size w (..)': one step for each operation of the world's spelling. -/
theorem below_alloc {a w : World} (h : Below a.heap.size a w) (o : Obj) : Below a.heap.size a (w.alloc o) := h.alloc h.size o
theorem below_of {w W w1 : World} (h : Below w.heap.size w W) (hb : Below W.heap.size W w1) : Below w.heap.size w w1 := h.trans (hb.mono h.size)
theorem below_set {a w : World} (h : Below a.heap.size a w) {p : Addr} (hp : a.heap.size ≤ p.block) (u : Value) : Below a.heap.size a (w.setCell p u) := h.setCell hp u
theorem below_size {w W w1 : World} (h : Below w.heap.size w W) (hb : Below W.heap.size W w1) : w.heap.size ≤ w1.heap.size := Nat.le_trans h.size hb.size

theorem ret_bool {a b : Bool} (h : a = b) : Ending.returned (.bool a) = .returned (.bool b) := by rw [h]
theorem ret_int {k : IntKind} {a b : Int} (h : a = b) : Ending.returned (.int k a) = .returned (.int k b) := by rw [h]

/-- A row of the call's own is still there behind a call that only made memory. -/
theorem ownsRow_below {W w1 : World} {base : Nat} {e : TypeId} {size : Nat} {v : Value} {n : Nat} {xs : List Value} (h : W.ownsRow base e size v n xs) (hb : Below W.heap.size W w1) : w1.ownsRow base e size v n xs := by
  refine ⟨h.1, ?_⟩
  rcases h.2 with h2 | ⟨g, cap, cur, hv, hg, hh, r⟩
  · exact .inl h2
  · refine .inr ⟨g, cap, cur, hv, hg, ?_, r⟩
    rw [hb.block g (Array.getElem?_eq_some_iff.1 hh).1]; exact hh
/-- A slice literal of n elements: its block is a row of the call's own. -/
theorem own_lit (W : World) (cs : Array Value) (e : TypeId) (size n B : Nat) (hB : W.heap.size = B) (hn : n ≤ 1000000) (h : cs.size = n * size) : (W.alloc (.cells cs e)).ownsRow B e size (.slice (some ⟨B, 0, none⟩) n n) n cs.toList := by
  subst hB
  exact World.ownsRow_lit W cs n (Nat.le_refl _) (by unfold maxLen; omega) h
theorem ownsRow_some {w : World} {base : Nat} {e : TypeId} {size : Nat} {v : Value} {n : Nat} {xs : List Value} (h : w.ownsRow base e size v n xs) (hn : 0 < n) :
    ∃ g cap, v = .slice (some ⟨g, 0, none⟩) n cap ∧ base ≤ g ∧ g < w.heap.size ∧ n ≤ cap ∧ cap ≤ maxLen := by
  rcases h.2 with ⟨_, h0⟩ | ⟨g, cap, cur, hv, hg, hh, h1, h2, _⟩
  · omega
  · exact ⟨g, cap, hv, hg, (Array.getElem?_eq_some_iff.1 hh).1, h1, h2⟩
/-- Behind an append: what stands below the call's own blocks is as it was. -/
theorem below_grown {a w w' : World} {base : Nat} {e : TypeId} {size : Nat} {v : Value} {n : Nat} {xs : List Value} (h : Below a.heap.size a w) (hg : w.grownBy w' v.ownBlock) (ho : w.ownsRow base e size v n xs) (hb : a.heap.size ≤ base) : Below a.heap.size a w' :=
  h.grown hg h.size (fun k hk => by have := (ho.lt k hk).1; omega)
end Go.Proofs.Ytbnbljeegghgiaa
