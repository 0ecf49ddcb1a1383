/- The layout of a configuration, as data. No program in sight. -/
import Derived.Test.YtolphdchkbcoeaaBd
namespace Go.Proofs.Ytolphdchkbcoeaa
/-- Whether a configuration is valid; its layout. -/
def mayM (t l k s m : Int) : Bool := decide (1 ≤ t ∧ t ≤ 4 ∧ 0 ≤ l ∧ l ≤ 32 ∧ 0 ≤ k ∧ k ≤ 8 ∧ 0 ≤ s ∧ s ≤ 512 ∧ 0 ≤ m ∧ m ≤ 3)
def layOfE (t l k s m : Int) : List DV := if mayM t l k s m = true then [.int t, .int l, .int k, .int s, .int m, .int 0, .int 1, .int 2, .int 3, .int 4, .int (4 + 4 * t), .int (4 + 4 * t + k), .int (4 + 4 * t + k + 4 * l), .int 0]
  else [.int 0, .int 0, .int 0, .int 0, .int 0, .int 0, .int 0, .int 0, .int 0, .int 0, .int 0, .int 0, .int 0, .int 1]
end Go.Proofs.Ytolphdchkbcoeaa
