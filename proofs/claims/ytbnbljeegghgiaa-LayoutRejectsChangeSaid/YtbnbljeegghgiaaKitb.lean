/- One older block behind a call that only made memory: three facts that the walk uses by itself. -/
import Derived.Test.YtbnbljeegghgiaaKit
namespace Go.Proofs.Ytbnbljeegghgiaa
open Go.RowKit
theorem bblock {W w1 : World} {b : Nat} (hb : Below W.heap.size W w1) (h : b < W.heap.size) : (∀ o, w1.cell? ⟨b, o, none⟩ = W.cell? ⟨b, o, none⟩) ∧ (∀ o, w1.frozen? ⟨b, o, none⟩ = W.frozen? ⟨b, o, none⟩) ∧ b < w1.heap.size :=
  ⟨fun o => hb.cell (p := ⟨b, o, none⟩) h, fun o => hb.frozen (p := ⟨b, o, none⟩) h, Nat.lt_of_lt_of_le h hb.size⟩
@[go_sem] theorem lt_up2 {a b : Nat} (h : a < b) : a < b + 1 + 1 := by omega
@[go_sem] theorem lt_up3 {a b : Nat} (h : a < b) : a < b + 1 + 1 + 1 := by omega
@[go_sem] theorem lt_up4 {a b : Nat} (h : a < b) : a < b + 1 + 1 + 1 + 1 := by omega
end Go.Proofs.Ytbnbljeegghgiaa
