/-
  NARROWER THAN 'FOR EVERY INPUT', by the rows' own cells (each row's printed sentence says how): LayoutForFits: loops.
  DERIVED. THE GIVEN ROWS OF THIS SEAT. 12 by the template 'for every input the law returns true; each argument reads behind the call as it read before'; 0 by the template 'total and deterministic' (their statements: YtbnbljeegghgiaaTotals.lean).
  GIVEN WITH THE SEED: the statements are not yours to turn. If you find one false, say at which input.
  Laid BY PROGRAM, IN A SANDBOX (cutbox-rows.mjs): the forced cells as the released guide's own fill.sh prints them over the translation 999fd802a442a4fc… (all of the seat's roots in one cut). By AI agents, Wed Nov 11 2026. No macro, syntax, notation, axiom, sorry.
-/
import Derived.Test.YtbnbljeegghgiaaChecked
import GoSem.Claim
import GoSem.ClaimJoined
import GoSem.ClaimMapViews
import Derived.JoinedTies
import Derived.KernelRfl
namespace Go.Proofs.Ytbnbljeegghgiaa
/- THE CELL 'sum', in the pinned program and in every row, IS THE sha256 OF THE DUMP (.gsa) THAT YtbnbljeegghgiaaProg.lean LOADS. Nothing in Lean hashes anything: it is a label: what it is worth is what the hold of that sum in a sandbox is worth. -/
noncomputable def Try.pinned : Pinned := { name := "ytbnbljeegghgiaa", sum := "999fd802a442a4fcbd6311ed6eb0125746e3ef94e0498be7af0cc8eb989ad649", checked := Try.checked }
namespace Rows
def none {H : Type} : Left H := { results := [], args := [] }

/-- 'hallmootlaw15.LayoutRejectsChange': WHATEVER THE INPUT: true; the input reads as it did. -/
def layoutRejectsChangeSpec : ChangeSpec := { name := "layoutRejectsChange", fn := fun _ => fun
  | [d1, d2, d3] => { results := [.lit (.bool true)], args := [d1, d2, d3] }
  | _ => none }
def layoutRejectsChangeRow : OpenClaim := { program := "ytbnbljeegghgiaa", sum := "999fd802a442a4fcbd6311ed6eb0125746e3ef94e0498be7af0cc8eb989ad649", func := "hallmoot/hallmootlaw15.LayoutRejectsChange", spec := "layoutRejectsChange", unfollowed := true, recurses := true, apart := false }
def LayoutRejectsChangeSaid : Prop := layoutRejectsChangeRow.holds Try.pinned (OpenSpec.ofChange layoutRejectsChangeSpec)

/-- ITS FALSE NEIGHBOUR: 'it returns false'. Refute it at one input. -/
def layoutRejectsChangeWrong : ChangeSpec := { name := "layoutRejectsChange", fn := fun _ => fun
  | [d1, d2, d3] => { results := [.lit (.bool false)], args := [d1, d2, d3] }
  | _ => none }
def LayoutRejectsChangeWrongFalsely : Prop := layoutRejectsChangeRow.holds Try.pinned (OpenSpec.ofChange layoutRejectsChangeWrong)

/-- 'hallmootlaw15.LayoutForFits': WHATEVER THE INPUT: true; the input reads as it did. -/
def layoutForFitsSpec : ChangeSpec := { name := "layoutForFits", fn := fun _ => fun
  | [d1, d2, d3] => { results := [.lit (.bool true)], args := [d1, d2, d3] }
  | _ => none }
def layoutForFitsRow : OpenClaim := { program := "ytbnbljeegghgiaa", sum := "999fd802a442a4fcbd6311ed6eb0125746e3ef94e0498be7af0cc8eb989ad649", func := "hallmoot/hallmootlaw15.LayoutForFits", spec := "layoutForFits", unfollowed := true, recurses := true, loops := true, apart := false }
def LayoutForFitsSaid : Prop := layoutForFitsRow.holds Try.pinned (OpenSpec.ofChange layoutForFitsSpec)

/-- ITS FALSE NEIGHBOUR: 'it returns false'. Refute it at one input. -/
def layoutForFitsWrong : ChangeSpec := { name := "layoutForFits", fn := fun _ => fun
  | [d1, d2, d3] => { results := [.lit (.bool false)], args := [d1, d2, d3] }
  | _ => none }
def LayoutForFitsWrongFalsely : Prop := layoutForFitsRow.holds Try.pinned (OpenSpec.ofChange layoutForFitsWrong)

/-- 'hallmootlaw15.LayoutMatchesSpec': WHATEVER THE INPUT: true; the input reads as it did. -/
def layoutMatchesSpecSpec : ChangeSpec := { name := "layoutMatchesSpec", fn := fun _ => fun
  | [d1, d2, d3] => { results := [.lit (.bool true)], args := [d1, d2, d3] }
  | _ => none }
def layoutMatchesSpecRow : OpenClaim := { program := "ytbnbljeegghgiaa", sum := "999fd802a442a4fcbd6311ed6eb0125746e3ef94e0498be7af0cc8eb989ad649", func := "hallmoot/hallmootlaw15.LayoutMatchesSpec", spec := "layoutMatchesSpec", unfollowed := true, recurses := true, apart := false }
def LayoutMatchesSpecSaid : Prop := layoutMatchesSpecRow.holds Try.pinned (OpenSpec.ofChange layoutMatchesSpecSpec)

/-- ITS FALSE NEIGHBOUR: 'it returns false'. Refute it at one input. -/
def layoutMatchesSpecWrong : ChangeSpec := { name := "layoutMatchesSpec", fn := fun _ => fun
  | [d1, d2, d3] => { results := [.lit (.bool false)], args := [d1, d2, d3] }
  | _ => none }
def LayoutMatchesSpecWrongFalsely : Prop := layoutMatchesSpecRow.holds Try.pinned (OpenSpec.ofChange layoutMatchesSpecWrong)

/-- 'hallmootlaw15.LayoutPartitions': WHATEVER THE INPUT: true; the input reads as it did. -/
def layoutPartitionsSpec : ChangeSpec := { name := "layoutPartitions", fn := fun _ => fun
  | [d] => { results := [.lit (.bool true)], args := [d] }
  | _ => none }
def layoutPartitionsRow : OpenClaim := { program := "ytbnbljeegghgiaa", sum := "999fd802a442a4fcbd6311ed6eb0125746e3ef94e0498be7af0cc8eb989ad649", func := "hallmoot/hallmootlaw15.LayoutPartitions", spec := "layoutPartitions", unfollowed := true, recurses := true, apart := false }
def LayoutPartitionsSaid : Prop := layoutPartitionsRow.holds Try.pinned (OpenSpec.ofChange layoutPartitionsSpec)

/-- ITS FALSE NEIGHBOUR: 'it returns false'. Refute it at one input. -/
def layoutPartitionsWrong : ChangeSpec := { name := "layoutPartitions", fn := fun _ => fun
  | [d] => { results := [.lit (.bool false)], args := [d] }
  | _ => none }
def LayoutPartitionsWrongFalsely : Prop := layoutPartitionsRow.holds Try.pinned (OpenSpec.ofChange layoutPartitionsWrong)

/-- 'hallmootlaw02.MemMatchesSpec': WHATEVER THE INPUT: true; the input reads as it did. -/
def memMatchesSpecSpec : ChangeSpec := { name := "memMatchesSpec", fn := fun _ => fun
  | [d1, d2, d3] => { results := [.lit (.bool true)], args := [d1, d2, d3] }
  | _ => none }
def memMatchesSpecRow : OpenClaim := { program := "ytbnbljeegghgiaa", sum := "999fd802a442a4fcbd6311ed6eb0125746e3ef94e0498be7af0cc8eb989ad649", func := "hallmoot/hallmootlaw02.MemMatchesSpec", spec := "memMatchesSpec", apart := false }
def MemMatchesSpecSaid : Prop := memMatchesSpecRow.holds Try.pinned (OpenSpec.ofChange memMatchesSpecSpec)

/-- ITS FALSE NEIGHBOUR: 'it returns false'. Refute it at one input. -/
def memMatchesSpecWrong : ChangeSpec := { name := "memMatchesSpec", fn := fun _ => fun
  | [d1, d2, d3] => { results := [.lit (.bool false)], args := [d1, d2, d3] }
  | _ => none }
def MemMatchesSpecWrongFalsely : Prop := memMatchesSpecRow.holds Try.pinned (OpenSpec.ofChange memMatchesSpecWrong)

/-- 'hallmootlaw02.MemAllMatchesSpec': WHATEVER THE INPUT: true; the input reads as it did. -/
def memAllMatchesSpecSpec : ChangeSpec := { name := "memAllMatchesSpec", fn := fun _ => fun
  | [d1, d2] => { results := [.lit (.bool true)], args := [d1, d2] }
  | _ => none }
def memAllMatchesSpecRow : OpenClaim := { program := "ytbnbljeegghgiaa", sum := "999fd802a442a4fcbd6311ed6eb0125746e3ef94e0498be7af0cc8eb989ad649", func := "hallmoot/hallmootlaw02.MemAllMatchesSpec", spec := "memAllMatchesSpec", apart := false }
def MemAllMatchesSpecSaid : Prop := memAllMatchesSpecRow.holds Try.pinned (OpenSpec.ofChange memAllMatchesSpecSpec)

/-- ITS FALSE NEIGHBOUR: 'it returns false'. Refute it at one input. -/
def memAllMatchesSpecWrong : ChangeSpec := { name := "memAllMatchesSpec", fn := fun _ => fun
  | [d1, d2] => { results := [.lit (.bool false)], args := [d1, d2] }
  | _ => none }
def MemAllMatchesSpecWrongFalsely : Prop := memAllMatchesSpecRow.holds Try.pinned (OpenSpec.ofChange memAllMatchesSpecWrong)

/-- 'hallmootlaw02.MemCommutes': WHATEVER THE INPUT: true; the input reads as it did. -/
def memCommutesSpec : ChangeSpec := { name := "memCommutes", fn := fun _ => fun
  | [d1, d2, d3] => { results := [.lit (.bool true)], args := [d1, d2, d3] }
  | _ => none }
def memCommutesRow : OpenClaim := { program := "ytbnbljeegghgiaa", sum := "999fd802a442a4fcbd6311ed6eb0125746e3ef94e0498be7af0cc8eb989ad649", func := "hallmoot/hallmootlaw02.MemCommutes", spec := "memCommutes", apart := false }
def MemCommutesSaid : Prop := memCommutesRow.holds Try.pinned (OpenSpec.ofChange memCommutesSpec)

/-- ITS FALSE NEIGHBOUR: 'it returns false'. Refute it at one input. -/
def memCommutesWrong : ChangeSpec := { name := "memCommutes", fn := fun _ => fun
  | [d1, d2, d3] => { results := [.lit (.bool false)], args := [d1, d2, d3] }
  | _ => none }
def MemCommutesWrongFalsely : Prop := memCommutesRow.holds Try.pinned (OpenSpec.ofChange memCommutesWrong)

/-- 'hallmootlaw02.MemChangesOneCell': WHATEVER THE INPUT: true; the input reads as it did. -/
def memChangesOneCellSpec : ChangeSpec := { name := "memChangesOneCell", fn := fun _ => fun
  | [d1, d2] => { results := [.lit (.bool true)], args := [d1, d2] }
  | _ => none }
def memChangesOneCellRow : OpenClaim := { program := "ytbnbljeegghgiaa", sum := "999fd802a442a4fcbd6311ed6eb0125746e3ef94e0498be7af0cc8eb989ad649", func := "hallmoot/hallmootlaw02.MemChangesOneCell", spec := "memChangesOneCell", apart := false }
def MemChangesOneCellSaid : Prop := memChangesOneCellRow.holds Try.pinned (OpenSpec.ofChange memChangesOneCellSpec)

/-- ITS FALSE NEIGHBOUR: 'it returns false'. Refute it at one input. -/
def memChangesOneCellWrong : ChangeSpec := { name := "memChangesOneCell", fn := fun _ => fun
  | [d1, d2] => { results := [.lit (.bool false)], args := [d1, d2] }
  | _ => none }
def MemChangesOneCellWrongFalsely : Prop := memChangesOneCellRow.holds Try.pinned (OpenSpec.ofChange memChangesOneCellWrong)

/-- 'hallmootlaw02.MemAllSplits': WHATEVER THE INPUT: true; the input reads as it did. -/
def memAllSplitsSpec : ChangeSpec := { name := "memAllSplits", fn := fun _ => fun
  | [d1, d2, d3] => { results := [.lit (.bool true)], args := [d1, d2, d3] }
  | _ => none }
def memAllSplitsRow : OpenClaim := { program := "ytbnbljeegghgiaa", sum := "999fd802a442a4fcbd6311ed6eb0125746e3ef94e0498be7af0cc8eb989ad649", func := "hallmoot/hallmootlaw02.MemAllSplits", spec := "memAllSplits", apart := false }
def MemAllSplitsSaid : Prop := memAllSplitsRow.holds Try.pinned (OpenSpec.ofChange memAllSplitsSpec)

/-- ITS FALSE NEIGHBOUR: 'it returns false'. Refute it at one input. -/
def memAllSplitsWrong : ChangeSpec := { name := "memAllSplits", fn := fun _ => fun
  | [d1, d2, d3] => { results := [.lit (.bool false)], args := [d1, d2, d3] }
  | _ => none }
def MemAllSplitsWrongFalsely : Prop := memAllSplitsRow.holds Try.pinned (OpenSpec.ofChange memAllSplitsWrong)

/-- 'hallmootlaw02.MemAddsSum': WHATEVER THE INPUT: true; the input reads as it did. -/
def memAddsSumSpec : ChangeSpec := { name := "memAddsSum", fn := fun _ => fun
  | [d1, d2] => { results := [.lit (.bool true)], args := [d1, d2] }
  | _ => none }
def memAddsSumRow : OpenClaim := { program := "ytbnbljeegghgiaa", sum := "999fd802a442a4fcbd6311ed6eb0125746e3ef94e0498be7af0cc8eb989ad649", func := "hallmoot/hallmootlaw02.MemAddsSum", spec := "memAddsSum", apart := false }
def MemAddsSumSaid : Prop := memAddsSumRow.holds Try.pinned (OpenSpec.ofChange memAddsSumSpec)

/-- ITS FALSE NEIGHBOUR: 'it returns false'. Refute it at one input. -/
def memAddsSumWrong : ChangeSpec := { name := "memAddsSum", fn := fun _ => fun
  | [d1, d2] => { results := [.lit (.bool false)], args := [d1, d2] }
  | _ => none }
def MemAddsSumWrongFalsely : Prop := memAddsSumRow.holds Try.pinned (OpenSpec.ofChange memAddsSumWrong)

/-- 'hallmootlaw02.MemCasOnce': WHATEVER THE INPUT: true; the input reads as it did. -/
def memCasOnceSpec : ChangeSpec := { name := "memCasOnce", fn := fun _ => fun
  | [d1, d2] => { results := [.lit (.bool true)], args := [d1, d2] }
  | _ => none }
def memCasOnceRow : OpenClaim := { program := "ytbnbljeegghgiaa", sum := "999fd802a442a4fcbd6311ed6eb0125746e3ef94e0498be7af0cc8eb989ad649", func := "hallmoot/hallmootlaw02.MemCasOnce", spec := "memCasOnce", apart := false }
def MemCasOnceSaid : Prop := memCasOnceRow.holds Try.pinned (OpenSpec.ofChange memCasOnceSpec)

/-- ITS FALSE NEIGHBOUR: 'it returns false'. Refute it at one input. -/
def memCasOnceWrong : ChangeSpec := { name := "memCasOnce", fn := fun _ => fun
  | [d1, d2] => { results := [.lit (.bool false)], args := [d1, d2] }
  | _ => none }
def MemCasOnceWrongFalsely : Prop := memCasOnceRow.holds Try.pinned (OpenSpec.ofChange memCasOnceWrong)

/-- 'hallmootlaw15.LayoutInitStores': WHATEVER THE INPUT: true; the input reads as it did. -/
def layoutInitStoresSpec : ChangeSpec := { name := "layoutInitStores", fn := fun _ => fun
  | [d1, d2] => { results := [.lit (.bool true)], args := [d1, d2] }
  | _ => none }
def layoutInitStoresRow : OpenClaim := { program := "ytbnbljeegghgiaa", sum := "999fd802a442a4fcbd6311ed6eb0125746e3ef94e0498be7af0cc8eb989ad649", func := "hallmoot/hallmootlaw15.LayoutInitStores", spec := "layoutInitStores", unfollowed := true, recurses := true, apart := false }
def LayoutInitStoresSaid : Prop := layoutInitStoresRow.holds Try.pinned (OpenSpec.ofChange layoutInitStoresSpec)

/-- ITS FALSE NEIGHBOUR: 'it returns false'. Refute it at one input. -/
def layoutInitStoresWrong : ChangeSpec := { name := "layoutInitStores", fn := fun _ => fun
  | [d1, d2] => { results := [.lit (.bool false)], args := [d1, d2] }
  | _ => none }
def LayoutInitStoresWrongFalsely : Prop := layoutInitStoresRow.holds Try.pinned (OpenSpec.ofChange layoutInitStoresWrong)

/- THE SECOND FORM. 'bulk': how many values and letters a reading holds, each counted each time it is reached (what is shared counts as often as it is met; a slice's spare places count too). A statement '..UptoSaid' is the law's where the arguments, and the package variables that the reading takes, are together of bulk at most 1048576: NARROWER than '..Said'. Prove '..Said' where nothing that the law and all that it calls make is longer than what came in: it says more and counts as full. Else prove '..UptoSaid'. A law counts once. -/
mutual
def uptoBulk {H : Type} : DataW H → Nat
  | .lit (.string bytes) => bytes.length + 1
  | .lit _ => 1
  | .nil => 1
  | .ptr d => uptoBulk d + 1
  | .slice elems spare => uptoBulkAll elems + uptoBulkAll spare + 1
  | .agg parts => uptoBulkAll parts + 1
  | .iface _ d => uptoBulk d + 1
  | .map entries => uptoBulkEntries entries + 1
  | .held _ => 1
def uptoBulkAll {H : Type} : List (DataW H) → Nat
  | [] => 0
  | d :: r => uptoBulk d + uptoBulkAll r
def uptoBulkEntries {H : Type} : List (Lit × DataW H) → Nat
  | [] => 0
  | x :: r => uptoBulkEntry x + uptoBulkEntries r
def uptoBulkEntry {H : Type} : Lit × DataW H → Nat
  | (.string bytes, d) => bytes.length + uptoBulk d + 1
  | (_, d) => uptoBulk d + 1
 end
def uptoSmall : (H : Type) → List (DataW H) → Bool := fun _ ds => decide (uptoBulkAll ds ≤ 1048576)
def OpenSpec.upto (s : _root_.Go.ChangeSpec) : _root_.Go.OpenSpec := { _root_.Go.OpenSpec.ofChange s with cond := some uptoSmall }

/-- 'hallmootlaw15.LayoutRejectsChange', WHERE WHAT IT READS IS OF BULK AT MOST 1048576: true; the input reads as it did. -/
def layoutRejectsChangeUptoRow : OpenClaim := { program := "ytbnbljeegghgiaa", sum := "999fd802a442a4fcbd6311ed6eb0125746e3ef94e0498be7af0cc8eb989ad649", func := "hallmoot/hallmootlaw15.LayoutRejectsChange", spec := "layoutRejectsChange", unfollowed := true, recurses := true, apart := false, narrowed := true }
def LayoutRejectsChangeUptoSaid : Prop := layoutRejectsChangeUptoRow.holds Try.pinned (OpenSpec.upto layoutRejectsChangeSpec)

/-- 'hallmootlaw15.LayoutForFits', WHERE WHAT IT READS IS OF BULK AT MOST 1048576: true; the input reads as it did. -/
def layoutForFitsUptoRow : OpenClaim := { program := "ytbnbljeegghgiaa", sum := "999fd802a442a4fcbd6311ed6eb0125746e3ef94e0498be7af0cc8eb989ad649", func := "hallmoot/hallmootlaw15.LayoutForFits", spec := "layoutForFits", unfollowed := true, recurses := true, loops := true, apart := false, narrowed := true }
def LayoutForFitsUptoSaid : Prop := layoutForFitsUptoRow.holds Try.pinned (OpenSpec.upto layoutForFitsSpec)

/-- 'hallmootlaw15.LayoutMatchesSpec', WHERE WHAT IT READS IS OF BULK AT MOST 1048576: true; the input reads as it did. -/
def layoutMatchesSpecUptoRow : OpenClaim := { program := "ytbnbljeegghgiaa", sum := "999fd802a442a4fcbd6311ed6eb0125746e3ef94e0498be7af0cc8eb989ad649", func := "hallmoot/hallmootlaw15.LayoutMatchesSpec", spec := "layoutMatchesSpec", unfollowed := true, recurses := true, apart := false, narrowed := true }
def LayoutMatchesSpecUptoSaid : Prop := layoutMatchesSpecUptoRow.holds Try.pinned (OpenSpec.upto layoutMatchesSpecSpec)

/-- 'hallmootlaw15.LayoutPartitions', WHERE WHAT IT READS IS OF BULK AT MOST 1048576: true; the input reads as it did. -/
def layoutPartitionsUptoRow : OpenClaim := { program := "ytbnbljeegghgiaa", sum := "999fd802a442a4fcbd6311ed6eb0125746e3ef94e0498be7af0cc8eb989ad649", func := "hallmoot/hallmootlaw15.LayoutPartitions", spec := "layoutPartitions", unfollowed := true, recurses := true, apart := false, narrowed := true }
def LayoutPartitionsUptoSaid : Prop := layoutPartitionsUptoRow.holds Try.pinned (OpenSpec.upto layoutPartitionsSpec)

/-- 'hallmootlaw02.MemMatchesSpec', WHERE WHAT IT READS IS OF BULK AT MOST 1048576: true; the input reads as it did. -/
def memMatchesSpecUptoRow : OpenClaim := { program := "ytbnbljeegghgiaa", sum := "999fd802a442a4fcbd6311ed6eb0125746e3ef94e0498be7af0cc8eb989ad649", func := "hallmoot/hallmootlaw02.MemMatchesSpec", spec := "memMatchesSpec", apart := false, narrowed := true }
def MemMatchesSpecUptoSaid : Prop := memMatchesSpecUptoRow.holds Try.pinned (OpenSpec.upto memMatchesSpecSpec)

/-- 'hallmootlaw02.MemAllMatchesSpec', WHERE WHAT IT READS IS OF BULK AT MOST 1048576: true; the input reads as it did. -/
def memAllMatchesSpecUptoRow : OpenClaim := { program := "ytbnbljeegghgiaa", sum := "999fd802a442a4fcbd6311ed6eb0125746e3ef94e0498be7af0cc8eb989ad649", func := "hallmoot/hallmootlaw02.MemAllMatchesSpec", spec := "memAllMatchesSpec", apart := false, narrowed := true }
def MemAllMatchesSpecUptoSaid : Prop := memAllMatchesSpecUptoRow.holds Try.pinned (OpenSpec.upto memAllMatchesSpecSpec)

/-- 'hallmootlaw02.MemCommutes', WHERE WHAT IT READS IS OF BULK AT MOST 1048576: true; the input reads as it did. -/
def memCommutesUptoRow : OpenClaim := { program := "ytbnbljeegghgiaa", sum := "999fd802a442a4fcbd6311ed6eb0125746e3ef94e0498be7af0cc8eb989ad649", func := "hallmoot/hallmootlaw02.MemCommutes", spec := "memCommutes", apart := false, narrowed := true }
def MemCommutesUptoSaid : Prop := memCommutesUptoRow.holds Try.pinned (OpenSpec.upto memCommutesSpec)

/-- 'hallmootlaw02.MemChangesOneCell', WHERE WHAT IT READS IS OF BULK AT MOST 1048576: true; the input reads as it did. -/
def memChangesOneCellUptoRow : OpenClaim := { program := "ytbnbljeegghgiaa", sum := "999fd802a442a4fcbd6311ed6eb0125746e3ef94e0498be7af0cc8eb989ad649", func := "hallmoot/hallmootlaw02.MemChangesOneCell", spec := "memChangesOneCell", apart := false, narrowed := true }
def MemChangesOneCellUptoSaid : Prop := memChangesOneCellUptoRow.holds Try.pinned (OpenSpec.upto memChangesOneCellSpec)

/-- 'hallmootlaw02.MemAllSplits', WHERE WHAT IT READS IS OF BULK AT MOST 1048576: true; the input reads as it did. -/
def memAllSplitsUptoRow : OpenClaim := { program := "ytbnbljeegghgiaa", sum := "999fd802a442a4fcbd6311ed6eb0125746e3ef94e0498be7af0cc8eb989ad649", func := "hallmoot/hallmootlaw02.MemAllSplits", spec := "memAllSplits", apart := false, narrowed := true }
def MemAllSplitsUptoSaid : Prop := memAllSplitsUptoRow.holds Try.pinned (OpenSpec.upto memAllSplitsSpec)

/-- 'hallmootlaw02.MemAddsSum', WHERE WHAT IT READS IS OF BULK AT MOST 1048576: true; the input reads as it did. -/
def memAddsSumUptoRow : OpenClaim := { program := "ytbnbljeegghgiaa", sum := "999fd802a442a4fcbd6311ed6eb0125746e3ef94e0498be7af0cc8eb989ad649", func := "hallmoot/hallmootlaw02.MemAddsSum", spec := "memAddsSum", apart := false, narrowed := true }
def MemAddsSumUptoSaid : Prop := memAddsSumUptoRow.holds Try.pinned (OpenSpec.upto memAddsSumSpec)

/-- 'hallmootlaw02.MemCasOnce', WHERE WHAT IT READS IS OF BULK AT MOST 1048576: true; the input reads as it did. -/
def memCasOnceUptoRow : OpenClaim := { program := "ytbnbljeegghgiaa", sum := "999fd802a442a4fcbd6311ed6eb0125746e3ef94e0498be7af0cc8eb989ad649", func := "hallmoot/hallmootlaw02.MemCasOnce", spec := "memCasOnce", apart := false, narrowed := true }
def MemCasOnceUptoSaid : Prop := memCasOnceUptoRow.holds Try.pinned (OpenSpec.upto memCasOnceSpec)

/-- 'hallmootlaw15.LayoutInitStores', WHERE WHAT IT READS IS OF BULK AT MOST 1048576: true; the input reads as it did. -/
def layoutInitStoresUptoRow : OpenClaim := { program := "ytbnbljeegghgiaa", sum := "999fd802a442a4fcbd6311ed6eb0125746e3ef94e0498be7af0cc8eb989ad649", func := "hallmoot/hallmootlaw15.LayoutInitStores", spec := "layoutInitStores", unfollowed := true, recurses := true, apart := false, narrowed := true }
def LayoutInitStoresUptoSaid : Prop := layoutInitStoresUptoRow.holds Try.pinned (OpenSpec.upto layoutInitStoresSpec)

end Rows
end Go.Proofs.Ytbnbljeegghgiaa
