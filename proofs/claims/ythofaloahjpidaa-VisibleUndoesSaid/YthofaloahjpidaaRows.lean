/-
  No cell of these rows narrows 'for every input' (looked for: loops, veiled, ifaces, maps, wideKeys, modest, calm, conditions, laid).
  DERIVED. THE GIVEN ROWS OF THIS SEAT. 9 by the template 'for every input the law returns true; each argument reads behind the call as it read before'; 0 by the template 'total and deterministic' (their statements: YthofaloahjpidaaTotals.lean).
  GIVEN WITH THE SEED: the statements are not yours to turn. If you find one false, say at which input.
  Laid BY PROGRAM, IN A SANDBOX (cutbox-rows.mjs): the forced cells as the released guide's own fill.sh prints them over the translation 3e42a4cafa35d057… (all of the seat's roots in one cut). By AI agents, Wed Nov 11 2026. No macro, syntax, notation, axiom, sorry.
-/
import Derived.Test.YthofaloahjpidaaChecked
import GoSem.Claim
import GoSem.ClaimJoined
import GoSem.ClaimMapViews
import Derived.JoinedTies
import Derived.KernelRfl
namespace Go.Proofs.Ythofaloahjpidaa
/- THE CELL 'sum', in the pinned program and in every row, IS THE sha256 OF THE DUMP (.gsa) THAT YthofaloahjpidaaProg.lean LOADS. Nothing in Lean hashes anything: it is a label: what it is worth is what the hold of that sum in a sandbox is worth. -/
noncomputable def Try.pinned : Pinned := { name := "ythofaloahjpidaa", sum := "3e42a4cafa35d057ac43eaad87168378075d72d5723a98fab1004d83e448c893", checked := Try.checked }
namespace Rows
def none {H : Type} : Left H := { results := [], args := [] }

/-- 'hallmootlaw16.LockNext': WHATEVER THE INPUT: true; the input reads as it did. -/
def lockNextSpec : ChangeSpec := { name := "lockNext", fn := fun _ => fun
  | [d1, d2, d3] => { results := [.lit (.bool true)], args := [d1, d2, d3] }
  | _ => none }
def lockNextRow : OpenClaim := { program := "ythofaloahjpidaa", sum := "3e42a4cafa35d057ac43eaad87168378075d72d5723a98fab1004d83e448c893", func := "hallmoot/hallmootlaw16.LockNext", spec := "lockNext", unfollowed := true, recurses := true, apart := false }
def LockNextSaid : Prop := lockNextRow.holds Try.pinned (OpenSpec.ofChange lockNextSpec)

/-- ITS FALSE NEIGHBOUR: 'it returns false'. Refute it at one input. -/
def lockNextWrong : ChangeSpec := { name := "lockNext", fn := fun _ => fun
  | [d1, d2, d3] => { results := [.lit (.bool false)], args := [d1, d2, d3] }
  | _ => none }
def LockNextWrongFalsely : Prop := lockNextRow.holds Try.pinned (OpenSpec.ofChange lockNextWrong)

/-- 'hallmootlaw16.LockExclusive': WHATEVER THE INPUT: true; the input reads as it did. -/
def lockExclusiveSpec : ChangeSpec := { name := "lockExclusive", fn := fun _ => fun
  | [d] => { results := [.lit (.bool true)], args := [d] }
  | _ => none }
def lockExclusiveRow : OpenClaim := { program := "ythofaloahjpidaa", sum := "3e42a4cafa35d057ac43eaad87168378075d72d5723a98fab1004d83e448c893", func := "hallmoot/hallmootlaw16.LockExclusive", spec := "lockExclusive", unfollowed := true, recurses := true, apart := false }
def LockExclusiveSaid : Prop := lockExclusiveRow.holds Try.pinned (OpenSpec.ofChange lockExclusiveSpec)

/-- ITS FALSE NEIGHBOUR: 'it returns false'. Refute it at one input. -/
def lockExclusiveWrong : ChangeSpec := { name := "lockExclusive", fn := fun _ => fun
  | [d] => { results := [.lit (.bool false)], args := [d] }
  | _ => none }
def LockExclusiveWrongFalsely : Prop := lockExclusiveRow.holds Try.pinned (OpenSpec.ofChange lockExclusiveWrong)

/-- 'hallmootlaw16.LockRead': WHATEVER THE INPUT: true; the input reads as it did. -/
def lockReadSpec : ChangeSpec := { name := "lockRead", fn := fun _ => fun
  | [d] => { results := [.lit (.bool true)], args := [d] }
  | _ => none }
def lockReadRow : OpenClaim := { program := "ythofaloahjpidaa", sum := "3e42a4cafa35d057ac43eaad87168378075d72d5723a98fab1004d83e448c893", func := "hallmoot/hallmootlaw16.LockRead", spec := "lockRead", unfollowed := true, recurses := true, apart := false }
def LockReadSaid : Prop := lockReadRow.holds Try.pinned (OpenSpec.ofChange lockReadSpec)

/-- ITS FALSE NEIGHBOUR: 'it returns false'. Refute it at one input. -/
def lockReadWrong : ChangeSpec := { name := "lockRead", fn := fun _ => fun
  | [d] => { results := [.lit (.bool false)], args := [d] }
  | _ => none }
def LockReadWrongFalsely : Prop := lockReadRow.holds Try.pinned (OpenSpec.ofChange lockReadWrong)

/-- 'hallmootlaw16.LockValidate': WHATEVER THE INPUT: true; the input reads as it did. -/
def lockValidateSpec : ChangeSpec := { name := "lockValidate", fn := fun _ => fun
  | [d1, d2, d3, d4, d5] => { results := [.lit (.bool true)], args := [d1, d2, d3, d4, d5] }
  | _ => none }
def lockValidateRow : OpenClaim := { program := "ythofaloahjpidaa", sum := "3e42a4cafa35d057ac43eaad87168378075d72d5723a98fab1004d83e448c893", func := "hallmoot/hallmootlaw16.LockValidate", spec := "lockValidate", unfollowed := true, recurses := true, apart := false }
def LockValidateSaid : Prop := lockValidateRow.holds Try.pinned (OpenSpec.ofChange lockValidateSpec)

/-- ITS FALSE NEIGHBOUR: 'it returns false'. Refute it at one input. -/
def lockValidateWrong : ChangeSpec := { name := "lockValidate", fn := fun _ => fun
  | [d1, d2, d3, d4, d5] => { results := [.lit (.bool false)], args := [d1, d2, d3, d4, d5] }
  | _ => none }
def LockValidateWrongFalsely : Prop := lockValidateRow.holds Try.pinned (OpenSpec.ofChange lockValidateWrong)

/-- 'hallmootlaw16.LockAlone': WHATEVER THE INPUT: true; the input reads as it did. -/
def lockAloneSpec : ChangeSpec := { name := "lockAlone", fn := fun _ => fun
  | [d1, d2, d3, d4] => { results := [.lit (.bool true)], args := [d1, d2, d3, d4] }
  | _ => none }
def lockAloneRow : OpenClaim := { program := "ythofaloahjpidaa", sum := "3e42a4cafa35d057ac43eaad87168378075d72d5723a98fab1004d83e448c893", func := "hallmoot/hallmootlaw16.LockAlone", spec := "lockAlone", unfollowed := true, recurses := true, apart := false }
def LockAloneSaid : Prop := lockAloneRow.holds Try.pinned (OpenSpec.ofChange lockAloneSpec)

/-- ITS FALSE NEIGHBOUR: 'it returns false'. Refute it at one input. -/
def lockAloneWrong : ChangeSpec := { name := "lockAlone", fn := fun _ => fun
  | [d1, d2, d3, d4] => { results := [.lit (.bool false)], args := [d1, d2, d3, d4] }
  | _ => none }
def LockAloneWrongFalsely : Prop := lockAloneRow.holds Try.pinned (OpenSpec.ofChange lockAloneWrong)

/-- 'hallmootlaw18.VisibleMatchesSpec': WHATEVER THE INPUT: true; the input reads as it did. -/
def visibleMatchesSpecSpec : ChangeSpec := { name := "visibleMatchesSpec", fn := fun _ => fun
  | [d] => { results := [.lit (.bool true)], args := [d] }
  | _ => none }
def visibleMatchesSpecRow : OpenClaim := { program := "ythofaloahjpidaa", sum := "3e42a4cafa35d057ac43eaad87168378075d72d5723a98fab1004d83e448c893", func := "hallmoot/hallmootlaw18.VisibleMatchesSpec", spec := "visibleMatchesSpec", unfollowed := true, recurses := true, apart := false }
def VisibleMatchesSpecSaid : Prop := visibleMatchesSpecRow.holds Try.pinned (OpenSpec.ofChange visibleMatchesSpecSpec)

/-- ITS FALSE NEIGHBOUR: 'it returns false'. Refute it at one input. -/
def visibleMatchesSpecWrong : ChangeSpec := { name := "visibleMatchesSpec", fn := fun _ => fun
  | [d] => { results := [.lit (.bool false)], args := [d] }
  | _ => none }
def VisibleMatchesSpecWrongFalsely : Prop := visibleMatchesSpecRow.holds Try.pinned (OpenSpec.ofChange visibleMatchesSpecWrong)

/-- 'hallmootlaw18.VisibleKeepsBits': WHATEVER THE INPUT: true; the input reads as it did. -/
def visibleKeepsBitsSpec : ChangeSpec := { name := "visibleKeepsBits", fn := fun _ => fun
  | [d1, d2] => { results := [.lit (.bool true)], args := [d1, d2] }
  | _ => none }
def visibleKeepsBitsRow : OpenClaim := { program := "ythofaloahjpidaa", sum := "3e42a4cafa35d057ac43eaad87168378075d72d5723a98fab1004d83e448c893", func := "hallmoot/hallmootlaw18.VisibleKeepsBits", spec := "visibleKeepsBits", unfollowed := true, recurses := true, apart := false }
def VisibleKeepsBitsSaid : Prop := visibleKeepsBitsRow.holds Try.pinned (OpenSpec.ofChange visibleKeepsBitsSpec)

/-- ITS FALSE NEIGHBOUR: 'it returns false'. Refute it at one input. -/
def visibleKeepsBitsWrong : ChangeSpec := { name := "visibleKeepsBits", fn := fun _ => fun
  | [d1, d2] => { results := [.lit (.bool false)], args := [d1, d2] }
  | _ => none }
def VisibleKeepsBitsWrongFalsely : Prop := visibleKeepsBitsRow.holds Try.pinned (OpenSpec.ofChange visibleKeepsBitsWrong)

/-- 'hallmootlaw18.VisibleAlone': WHATEVER THE INPUT: true; the input reads as it did. -/
def visibleAloneSpec : ChangeSpec := { name := "visibleAlone", fn := fun _ => fun
  | [d1, d2, d3] => { results := [.lit (.bool true)], args := [d1, d2, d3] }
  | _ => none }
def visibleAloneRow : OpenClaim := { program := "ythofaloahjpidaa", sum := "3e42a4cafa35d057ac43eaad87168378075d72d5723a98fab1004d83e448c893", func := "hallmoot/hallmootlaw18.VisibleAlone", spec := "visibleAlone", unfollowed := true, recurses := true, apart := false }
def VisibleAloneSaid : Prop := visibleAloneRow.holds Try.pinned (OpenSpec.ofChange visibleAloneSpec)

/-- ITS FALSE NEIGHBOUR: 'it returns false'. Refute it at one input. -/
def visibleAloneWrong : ChangeSpec := { name := "visibleAlone", fn := fun _ => fun
  | [d1, d2, d3] => { results := [.lit (.bool false)], args := [d1, d2, d3] }
  | _ => none }
def VisibleAloneWrongFalsely : Prop := visibleAloneRow.holds Try.pinned (OpenSpec.ofChange visibleAloneWrong)

/-- 'hallmootlaw18.VisibleUndoes': WHATEVER THE INPUT: true; the input reads as it did. -/
def visibleUndoesSpec : ChangeSpec := { name := "visibleUndoes", fn := fun _ => fun
  | [d] => { results := [.lit (.bool true)], args := [d] }
  | _ => none }
def visibleUndoesRow : OpenClaim := { program := "ythofaloahjpidaa", sum := "3e42a4cafa35d057ac43eaad87168378075d72d5723a98fab1004d83e448c893", func := "hallmoot/hallmootlaw18.VisibleUndoes", spec := "visibleUndoes", unfollowed := true, recurses := true, apart := false }
def VisibleUndoesSaid : Prop := visibleUndoesRow.holds Try.pinned (OpenSpec.ofChange visibleUndoesSpec)

/-- ITS FALSE NEIGHBOUR: 'it returns false'. Refute it at one input. -/
def visibleUndoesWrong : ChangeSpec := { name := "visibleUndoes", fn := fun _ => fun
  | [d] => { results := [.lit (.bool false)], args := [d] }
  | _ => none }
def VisibleUndoesWrongFalsely : Prop := visibleUndoesRow.holds Try.pinned (OpenSpec.ofChange visibleUndoesWrong)

/- THE SECOND FORM. 'bulk': how many values and letters a reading holds, each counted each time it is reached (what is shared counts as often as it is met; a slice's spare places count too). A statement '..UptoSaid' is the law's where the arguments, and the package variables that the reading takes, are together of bulk at most 1048576: NARROWER than '..Said'. Prove '..Said' where nothing that the law and all that it calls make is longer than what came in: it says more and counts as full. Else prove '..UptoSaid'. A law counts once. -/
mutual
def uptoBulk {H : Type} : DataW H → Nat
  | .lit (.string bytes) => bytes.length + 1
  | .lit _ => 1
  | .nil => 1
  | .ptr d => uptoBulk d + 1
  | .slice elems spare => uptoBulkAll elems + uptoBulkAll spare + 1
  | .agg parts => uptoBulkAll parts + 1
  | .iface _ d => uptoBulk d + 1
  | .map entries => uptoBulkEntries entries + 1
  | .held _ => 1
def uptoBulkAll {H : Type} : List (DataW H) → Nat
  | [] => 0
  | d :: r => uptoBulk d + uptoBulkAll r
def uptoBulkEntries {H : Type} : List (Lit × DataW H) → Nat
  | [] => 0
  | x :: r => uptoBulkEntry x + uptoBulkEntries r
def uptoBulkEntry {H : Type} : Lit × DataW H → Nat
  | (.string bytes, d) => bytes.length + uptoBulk d + 1
  | (_, d) => uptoBulk d + 1
 end
def uptoSmall : (H : Type) → List (DataW H) → Bool := fun _ ds => decide (uptoBulkAll ds ≤ 1048576)
def OpenSpec.upto (s : _root_.Go.ChangeSpec) : _root_.Go.OpenSpec := { _root_.Go.OpenSpec.ofChange s with cond := some uptoSmall }

/-- 'hallmootlaw16.LockNext', WHERE WHAT IT READS IS OF BULK AT MOST 1048576: true; the input reads as it did. -/
def lockNextUptoRow : OpenClaim := { program := "ythofaloahjpidaa", sum := "3e42a4cafa35d057ac43eaad87168378075d72d5723a98fab1004d83e448c893", func := "hallmoot/hallmootlaw16.LockNext", spec := "lockNext", unfollowed := true, recurses := true, apart := false, narrowed := true }
def LockNextUptoSaid : Prop := lockNextUptoRow.holds Try.pinned (OpenSpec.upto lockNextSpec)

/-- 'hallmootlaw16.LockExclusive', WHERE WHAT IT READS IS OF BULK AT MOST 1048576: true; the input reads as it did. -/
def lockExclusiveUptoRow : OpenClaim := { program := "ythofaloahjpidaa", sum := "3e42a4cafa35d057ac43eaad87168378075d72d5723a98fab1004d83e448c893", func := "hallmoot/hallmootlaw16.LockExclusive", spec := "lockExclusive", unfollowed := true, recurses := true, apart := false, narrowed := true }
def LockExclusiveUptoSaid : Prop := lockExclusiveUptoRow.holds Try.pinned (OpenSpec.upto lockExclusiveSpec)

/-- 'hallmootlaw16.LockRead', WHERE WHAT IT READS IS OF BULK AT MOST 1048576: true; the input reads as it did. -/
def lockReadUptoRow : OpenClaim := { program := "ythofaloahjpidaa", sum := "3e42a4cafa35d057ac43eaad87168378075d72d5723a98fab1004d83e448c893", func := "hallmoot/hallmootlaw16.LockRead", spec := "lockRead", unfollowed := true, recurses := true, apart := false, narrowed := true }
def LockReadUptoSaid : Prop := lockReadUptoRow.holds Try.pinned (OpenSpec.upto lockReadSpec)

/-- 'hallmootlaw16.LockValidate', WHERE WHAT IT READS IS OF BULK AT MOST 1048576: true; the input reads as it did. -/
def lockValidateUptoRow : OpenClaim := { program := "ythofaloahjpidaa", sum := "3e42a4cafa35d057ac43eaad87168378075d72d5723a98fab1004d83e448c893", func := "hallmoot/hallmootlaw16.LockValidate", spec := "lockValidate", unfollowed := true, recurses := true, apart := false, narrowed := true }
def LockValidateUptoSaid : Prop := lockValidateUptoRow.holds Try.pinned (OpenSpec.upto lockValidateSpec)

/-- 'hallmootlaw16.LockAlone', WHERE WHAT IT READS IS OF BULK AT MOST 1048576: true; the input reads as it did. -/
def lockAloneUptoRow : OpenClaim := { program := "ythofaloahjpidaa", sum := "3e42a4cafa35d057ac43eaad87168378075d72d5723a98fab1004d83e448c893", func := "hallmoot/hallmootlaw16.LockAlone", spec := "lockAlone", unfollowed := true, recurses := true, apart := false, narrowed := true }
def LockAloneUptoSaid : Prop := lockAloneUptoRow.holds Try.pinned (OpenSpec.upto lockAloneSpec)

/-- 'hallmootlaw18.VisibleMatchesSpec', WHERE WHAT IT READS IS OF BULK AT MOST 1048576: true; the input reads as it did. -/
def visibleMatchesSpecUptoRow : OpenClaim := { program := "ythofaloahjpidaa", sum := "3e42a4cafa35d057ac43eaad87168378075d72d5723a98fab1004d83e448c893", func := "hallmoot/hallmootlaw18.VisibleMatchesSpec", spec := "visibleMatchesSpec", unfollowed := true, recurses := true, apart := false, narrowed := true }
def VisibleMatchesSpecUptoSaid : Prop := visibleMatchesSpecUptoRow.holds Try.pinned (OpenSpec.upto visibleMatchesSpecSpec)

/-- 'hallmootlaw18.VisibleKeepsBits', WHERE WHAT IT READS IS OF BULK AT MOST 1048576: true; the input reads as it did. -/
def visibleKeepsBitsUptoRow : OpenClaim := { program := "ythofaloahjpidaa", sum := "3e42a4cafa35d057ac43eaad87168378075d72d5723a98fab1004d83e448c893", func := "hallmoot/hallmootlaw18.VisibleKeepsBits", spec := "visibleKeepsBits", unfollowed := true, recurses := true, apart := false, narrowed := true }
def VisibleKeepsBitsUptoSaid : Prop := visibleKeepsBitsUptoRow.holds Try.pinned (OpenSpec.upto visibleKeepsBitsSpec)

/-- 'hallmootlaw18.VisibleAlone', WHERE WHAT IT READS IS OF BULK AT MOST 1048576: true; the input reads as it did. -/
def visibleAloneUptoRow : OpenClaim := { program := "ythofaloahjpidaa", sum := "3e42a4cafa35d057ac43eaad87168378075d72d5723a98fab1004d83e448c893", func := "hallmoot/hallmootlaw18.VisibleAlone", spec := "visibleAlone", unfollowed := true, recurses := true, apart := false, narrowed := true }
def VisibleAloneUptoSaid : Prop := visibleAloneUptoRow.holds Try.pinned (OpenSpec.upto visibleAloneSpec)

/-- 'hallmootlaw18.VisibleUndoes', WHERE WHAT IT READS IS OF BULK AT MOST 1048576: true; the input reads as it did. -/
def visibleUndoesUptoRow : OpenClaim := { program := "ythofaloahjpidaa", sum := "3e42a4cafa35d057ac43eaad87168378075d72d5723a98fab1004d83e448c893", func := "hallmoot/hallmootlaw18.VisibleUndoes", spec := "visibleUndoes", unfollowed := true, recurses := true, apart := false, narrowed := true }
def VisibleUndoesUptoSaid : Prop := visibleUndoesUptoRow.holds Try.pinned (OpenSpec.upto visibleUndoesSpec)

end Rows
end Go.Proofs.Ythofaloahjpidaa
