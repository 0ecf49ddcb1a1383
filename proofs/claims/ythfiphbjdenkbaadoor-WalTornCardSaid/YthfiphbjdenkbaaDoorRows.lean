/-
  NARROWER THAN 'FOR EVERY INPUT', by the rows' own cells (each row's printed sentence says how): WalRecord: laid · WalParse: laid · WalRoundTrip: laid · WalCanonical: laid · WalTorn: laid · WalRecover: laid.
  DERIVED. THE GIVEN ROWS OF THIS SEAT. 6 by the template 'for every input the law returns true; each argument reads behind the call as it read before'; 0 by the template 'total and deterministic' (their statements: YthfiphbjdenkbaaDoorTotals.lean).
  GIVEN WITH THE SEED: the statements are not yours to turn. If you find one false, say at which input.
  Laid BY PROGRAM, IN A SANDBOX (cutbox-rows.mjs): the forced cells as the released guide's own fill.sh prints them over the translation 828246e6c19994b3… (all of the seat's roots in one cut). By AI agents, Wed Nov 11 2026. No macro, syntax, notation, axiom, sorry.
-/
import Derived.Test.YthfiphbjdenkbaaDoorChecked
import GoSem.PinnedTables
import GoSem.Claim
import GoSem.ClaimJoined
import GoSem.ClaimMapViews
import Derived.JoinedTies
import Derived.KernelRfl
namespace Go.Proofs.YthfiphbjdenkbaaDoor
/- THE CELL 'sum', in the pinned program and in every row, IS THE sha256 OF THE DUMP (.gsa) THAT YthfiphbjdenkbaaDoorProg.lean LOADS. Nothing in Lean hashes anything: it is a label: what it is worth is what the hold of that sum in a sandbox is worth. -/
noncomputable def Tryd.pinned : Pinned := { name := "ythfiphbjdenkbaadoor", sum := "828246e6c19994b353f75a03a25bdd528def5e0f59f76bfa10e202556d3bf0e2", checked := Tryd.checked }
namespace Rows
def none {H : Type} : Left H := { results := [], args := [] }

/- WHAT THE LISTED PACKAGE-LEVEL VARIABLES READ AS WHEN THE CALL BEGINS. Each datum BY PROGRAM (the guide's laid-datum.mjs) off the statement by which the dump's own 'gosem.cut.vars' lays the variable. In a bare row this is a premise. The card (YthfiphbjdenkbaaDoorCards.lean) ties it to the program's text. -/
def laid_unicode_utf8_acceptRanges {H : Type} : DataW H := .agg [.agg [.lit (.int .u8 128), .lit (.int .u8 191)], .agg [.lit (.int .u8 160), .lit (.int .u8 191)], .agg [.lit (.int .u8 128), .lit (.int .u8 159)], .agg [.lit (.int .u8 144), .lit (.int .u8 191)], .agg [.lit (.int .u8 128), .lit (.int .u8 143)], .agg [.lit (.int .u8 0), .lit (.int .u8 0)], .agg [.lit (.int .u8 0), .lit (.int .u8 0)], .agg [.lit (.int .u8 0), .lit (.int .u8 0)], .agg [.lit (.int .u8 0), .lit (.int .u8 0)], .agg [.lit (.int .u8 0), .lit (.int .u8 0)], .agg [.lit (.int .u8 0), .lit (.int .u8 0)], .agg [.lit (.int .u8 0), .lit (.int .u8 0)], .agg [.lit (.int .u8 0), .lit (.int .u8 0)], .agg [.lit (.int .u8 0), .lit (.int .u8 0)], .agg [.lit (.int .u8 0), .lit (.int .u8 0)], .agg [.lit (.int .u8 0), .lit (.int .u8 0)]]
/-- One of Go's own tables, pinned by name: the form's constant. -/
def laid_unicode_utf8_first : DataW Unit := Go.Pinned.utf8First

/-- 'hallmootlaw23.WalRecord': WHATEVER THE INPUT: true; the input reads as it did. -/
def walRecordSpec : ChangeSpec := { name := "walRecord", fn := fun _ => fun
  | [d1, d2] => { results := [.lit (.bool true)], args := [d1, d2] }
  | _ => none }
def walRecordRow : OpenClaim := { program := "ythfiphbjdenkbaadoor", sum := "828246e6c19994b353f75a03a25bdd528def5e0f59f76bfa10e202556d3bf0e2", func := "hallmoot/hallmootlaw23.WalRecord", spec := "walRecord", inPlace := ["internal/abi.NoEscape", "internal/bytealg.MakeNoZero", "internal/bytealg.IndexByteString", "internal/bytealg.IndexString"], unfollowed := true, recurses := true, named := ["unicode/utf8.first", "unicode/utf8.acceptRanges", "internal/bytealg.MaxLen"], apart := false, laid := [("unicode/utf8.acceptRanges", laid_unicode_utf8_acceptRanges), ("unicode/utf8.first", laid_unicode_utf8_first)] }
def WalRecordSaid : Prop := walRecordRow.holds Tryd.pinned (OpenSpec.ofChange walRecordSpec)

/-- ITS FALSE NEIGHBOUR: 'it returns false'. Refute it at one input. -/
def walRecordWrong : ChangeSpec := { name := "walRecord", fn := fun _ => fun
  | [d1, d2] => { results := [.lit (.bool false)], args := [d1, d2] }
  | _ => none }
def WalRecordWrongFalsely : Prop := walRecordRow.holds Tryd.pinned (OpenSpec.ofChange walRecordWrong)

/-- 'hallmootlaw23.WalParse': WHATEVER THE INPUT: true; the input reads as it did. -/
def walParseSpec : ChangeSpec := { name := "walParse", fn := fun _ => fun
  | [d1, d2] => { results := [.lit (.bool true)], args := [d1, d2] }
  | _ => none }
def walParseRow : OpenClaim := { program := "ythfiphbjdenkbaadoor", sum := "828246e6c19994b353f75a03a25bdd528def5e0f59f76bfa10e202556d3bf0e2", func := "hallmoot/hallmootlaw23.WalParse", spec := "walParse", inPlace := ["internal/abi.NoEscape", "internal/bytealg.MakeNoZero", "internal/bytealg.IndexByteString", "internal/bytealg.IndexString"], unfollowed := true, recurses := true, named := ["unicode/utf8.first", "unicode/utf8.acceptRanges", "internal/bytealg.MaxLen"], apart := false, laid := [("unicode/utf8.acceptRanges", laid_unicode_utf8_acceptRanges), ("unicode/utf8.first", laid_unicode_utf8_first)] }
def WalParseSaid : Prop := walParseRow.holds Tryd.pinned (OpenSpec.ofChange walParseSpec)

/-- ITS FALSE NEIGHBOUR: 'it returns false'. Refute it at one input. -/
def walParseWrong : ChangeSpec := { name := "walParse", fn := fun _ => fun
  | [d1, d2] => { results := [.lit (.bool false)], args := [d1, d2] }
  | _ => none }
def WalParseWrongFalsely : Prop := walParseRow.holds Tryd.pinned (OpenSpec.ofChange walParseWrong)

/-- 'hallmootlaw23.WalRoundTrip': WHATEVER THE INPUT: true; the input reads as it did. -/
def walRoundTripSpec : ChangeSpec := { name := "walRoundTrip", fn := fun _ => fun
  | [d1, d2, d3] => { results := [.lit (.bool true)], args := [d1, d2, d3] }
  | _ => none }
def walRoundTripRow : OpenClaim := { program := "ythfiphbjdenkbaadoor", sum := "828246e6c19994b353f75a03a25bdd528def5e0f59f76bfa10e202556d3bf0e2", func := "hallmoot/hallmootlaw23.WalRoundTrip", spec := "walRoundTrip", inPlace := ["internal/abi.NoEscape", "internal/bytealg.MakeNoZero", "internal/bytealg.IndexByteString", "internal/bytealg.IndexString"], unfollowed := true, recurses := true, named := ["unicode/utf8.first", "unicode/utf8.acceptRanges", "internal/bytealg.MaxLen"], apart := false, laid := [("unicode/utf8.acceptRanges", laid_unicode_utf8_acceptRanges), ("unicode/utf8.first", laid_unicode_utf8_first)] }
def WalRoundTripSaid : Prop := walRoundTripRow.holds Tryd.pinned (OpenSpec.ofChange walRoundTripSpec)

/-- ITS FALSE NEIGHBOUR: 'it returns false'. Refute it at one input. -/
def walRoundTripWrong : ChangeSpec := { name := "walRoundTrip", fn := fun _ => fun
  | [d1, d2, d3] => { results := [.lit (.bool false)], args := [d1, d2, d3] }
  | _ => none }
def WalRoundTripWrongFalsely : Prop := walRoundTripRow.holds Tryd.pinned (OpenSpec.ofChange walRoundTripWrong)

/-- 'hallmootlaw23.WalCanonical': WHATEVER THE INPUT: true; the input reads as it did. -/
def walCanonicalSpec : ChangeSpec := { name := "walCanonical", fn := fun _ => fun
  | [d1, d2] => { results := [.lit (.bool true)], args := [d1, d2] }
  | _ => none }
def walCanonicalRow : OpenClaim := { program := "ythfiphbjdenkbaadoor", sum := "828246e6c19994b353f75a03a25bdd528def5e0f59f76bfa10e202556d3bf0e2", func := "hallmoot/hallmootlaw23.WalCanonical", spec := "walCanonical", inPlace := ["internal/abi.NoEscape", "internal/bytealg.MakeNoZero", "internal/bytealg.IndexByteString", "internal/bytealg.IndexString"], unfollowed := true, recurses := true, named := ["unicode/utf8.first", "unicode/utf8.acceptRanges", "internal/bytealg.MaxLen"], apart := false, laid := [("unicode/utf8.acceptRanges", laid_unicode_utf8_acceptRanges), ("unicode/utf8.first", laid_unicode_utf8_first)] }
def WalCanonicalSaid : Prop := walCanonicalRow.holds Tryd.pinned (OpenSpec.ofChange walCanonicalSpec)

/-- ITS FALSE NEIGHBOUR: 'it returns false'. Refute it at one input. -/
def walCanonicalWrong : ChangeSpec := { name := "walCanonical", fn := fun _ => fun
  | [d1, d2] => { results := [.lit (.bool false)], args := [d1, d2] }
  | _ => none }
def WalCanonicalWrongFalsely : Prop := walCanonicalRow.holds Tryd.pinned (OpenSpec.ofChange walCanonicalWrong)

/-- 'hallmootlaw23.WalTorn': WHATEVER THE INPUT: true; the input reads as it did. -/
def walTornSpec : ChangeSpec := { name := "walTorn", fn := fun _ => fun
  | [d1, d2] => { results := [.lit (.bool true)], args := [d1, d2] }
  | _ => none }
def walTornRow : OpenClaim := { program := "ythfiphbjdenkbaadoor", sum := "828246e6c19994b353f75a03a25bdd528def5e0f59f76bfa10e202556d3bf0e2", func := "hallmoot/hallmootlaw23.WalTorn", spec := "walTorn", inPlace := ["internal/abi.NoEscape", "internal/bytealg.MakeNoZero", "internal/bytealg.IndexByteString", "internal/bytealg.IndexString"], unfollowed := true, recurses := true, named := ["unicode/utf8.first", "unicode/utf8.acceptRanges", "internal/bytealg.MaxLen"], apart := false, laid := [("unicode/utf8.acceptRanges", laid_unicode_utf8_acceptRanges), ("unicode/utf8.first", laid_unicode_utf8_first)] }
def WalTornSaid : Prop := walTornRow.holds Tryd.pinned (OpenSpec.ofChange walTornSpec)

/-- ITS FALSE NEIGHBOUR: 'it returns false'. Refute it at one input. -/
def walTornWrong : ChangeSpec := { name := "walTorn", fn := fun _ => fun
  | [d1, d2] => { results := [.lit (.bool false)], args := [d1, d2] }
  | _ => none }
def WalTornWrongFalsely : Prop := walTornRow.holds Tryd.pinned (OpenSpec.ofChange walTornWrong)

/-- 'hallmootlaw23.WalRecover': WHATEVER THE INPUT: true; the input reads as it did. -/
def walRecoverSpec : ChangeSpec := { name := "walRecover", fn := fun _ => fun
  | [d1, d2, d3, d4] => { results := [.lit (.bool true)], args := [d1, d2, d3, d4] }
  | _ => none }
def walRecoverRow : OpenClaim := { program := "ythfiphbjdenkbaadoor", sum := "828246e6c19994b353f75a03a25bdd528def5e0f59f76bfa10e202556d3bf0e2", func := "hallmoot/hallmootlaw23.WalRecover", spec := "walRecover", inPlace := ["internal/abi.NoEscape", "internal/bytealg.MakeNoZero", "internal/bytealg.IndexByteString", "internal/bytealg.IndexString"], unfollowed := true, recurses := true, named := ["unicode/utf8.first", "unicode/utf8.acceptRanges", "internal/bytealg.MaxLen"], apart := false, laid := [("unicode/utf8.acceptRanges", laid_unicode_utf8_acceptRanges), ("unicode/utf8.first", laid_unicode_utf8_first)] }
def WalRecoverSaid : Prop := walRecoverRow.holds Tryd.pinned (OpenSpec.ofChange walRecoverSpec)

/-- ITS FALSE NEIGHBOUR: 'it returns false'. Refute it at one input. -/
def walRecoverWrong : ChangeSpec := { name := "walRecover", fn := fun _ => fun
  | [d1, d2, d3, d4] => { results := [.lit (.bool false)], args := [d1, d2, d3, d4] }
  | _ => none }
def WalRecoverWrongFalsely : Prop := walRecoverRow.holds Tryd.pinned (OpenSpec.ofChange walRecoverWrong)

/- THE SECOND FORM. 'bulk': how many values and letters a reading holds, each counted each time it is reached (what is shared counts as often as it is met; a slice's spare places count too). A statement '..UptoSaid' is the law's where the arguments, and the package variables that the reading takes, are together of bulk at most 1048576: NARROWER than '..Said'. Prove '..Said' where nothing that the law and all that it calls make is longer than what came in: it says more and counts as full. Else prove '..UptoSaid'. A law counts once. -/
mutual
def uptoBulk {H : Type} : DataW H → Nat
  | .lit (.string bytes) => bytes.length + 1
  | .lit _ => 1
  | .nil => 1
  | .ptr d => uptoBulk d + 1
  | .slice elems spare => uptoBulkAll elems + uptoBulkAll spare + 1
  | .agg parts => uptoBulkAll parts + 1
  | .iface _ d => uptoBulk d + 1
  | .map entries => uptoBulkEntries entries + 1
  | .held _ => 1
def uptoBulkAll {H : Type} : List (DataW H) → Nat
  | [] => 0
  | d :: r => uptoBulk d + uptoBulkAll r
def uptoBulkEntries {H : Type} : List (Lit × DataW H) → Nat
  | [] => 0
  | x :: r => uptoBulkEntry x + uptoBulkEntries r
def uptoBulkEntry {H : Type} : Lit × DataW H → Nat
  | (.string bytes, d) => bytes.length + uptoBulk d + 1
  | (_, d) => uptoBulk d + 1
 end
def uptoSmall : (H : Type) → List (DataW H) → Bool := fun _ ds => decide (uptoBulkAll ds ≤ 1048576)
def OpenSpec.upto (s : _root_.Go.ChangeSpec) : _root_.Go.OpenSpec := { _root_.Go.OpenSpec.ofChange s with cond := some uptoSmall }

/-- 'hallmootlaw23.WalRecord', WHERE WHAT IT READS IS OF BULK AT MOST 1048576: true; the input reads as it did. -/
def walRecordUptoRow : OpenClaim := { program := "ythfiphbjdenkbaadoor", sum := "828246e6c19994b353f75a03a25bdd528def5e0f59f76bfa10e202556d3bf0e2", func := "hallmoot/hallmootlaw23.WalRecord", spec := "walRecord", inPlace := ["internal/abi.NoEscape", "internal/bytealg.MakeNoZero", "internal/bytealg.IndexByteString", "internal/bytealg.IndexString"], unfollowed := true, recurses := true, named := ["unicode/utf8.first", "unicode/utf8.acceptRanges", "internal/bytealg.MaxLen"], apart := false, laid := [("unicode/utf8.acceptRanges", laid_unicode_utf8_acceptRanges), ("unicode/utf8.first", laid_unicode_utf8_first)], narrowed := true }
def WalRecordUptoSaid : Prop := walRecordUptoRow.holds Tryd.pinned (OpenSpec.upto walRecordSpec)

/-- 'hallmootlaw23.WalParse', WHERE WHAT IT READS IS OF BULK AT MOST 1048576: true; the input reads as it did. -/
def walParseUptoRow : OpenClaim := { program := "ythfiphbjdenkbaadoor", sum := "828246e6c19994b353f75a03a25bdd528def5e0f59f76bfa10e202556d3bf0e2", func := "hallmoot/hallmootlaw23.WalParse", spec := "walParse", inPlace := ["internal/abi.NoEscape", "internal/bytealg.MakeNoZero", "internal/bytealg.IndexByteString", "internal/bytealg.IndexString"], unfollowed := true, recurses := true, named := ["unicode/utf8.first", "unicode/utf8.acceptRanges", "internal/bytealg.MaxLen"], apart := false, laid := [("unicode/utf8.acceptRanges", laid_unicode_utf8_acceptRanges), ("unicode/utf8.first", laid_unicode_utf8_first)], narrowed := true }
def WalParseUptoSaid : Prop := walParseUptoRow.holds Tryd.pinned (OpenSpec.upto walParseSpec)

/-- 'hallmootlaw23.WalRoundTrip', WHERE WHAT IT READS IS OF BULK AT MOST 1048576: true; the input reads as it did. -/
def walRoundTripUptoRow : OpenClaim := { program := "ythfiphbjdenkbaadoor", sum := "828246e6c19994b353f75a03a25bdd528def5e0f59f76bfa10e202556d3bf0e2", func := "hallmoot/hallmootlaw23.WalRoundTrip", spec := "walRoundTrip", inPlace := ["internal/abi.NoEscape", "internal/bytealg.MakeNoZero", "internal/bytealg.IndexByteString", "internal/bytealg.IndexString"], unfollowed := true, recurses := true, named := ["unicode/utf8.first", "unicode/utf8.acceptRanges", "internal/bytealg.MaxLen"], apart := false, laid := [("unicode/utf8.acceptRanges", laid_unicode_utf8_acceptRanges), ("unicode/utf8.first", laid_unicode_utf8_first)], narrowed := true }
def WalRoundTripUptoSaid : Prop := walRoundTripUptoRow.holds Tryd.pinned (OpenSpec.upto walRoundTripSpec)

/-- 'hallmootlaw23.WalCanonical', WHERE WHAT IT READS IS OF BULK AT MOST 1048576: true; the input reads as it did. -/
def walCanonicalUptoRow : OpenClaim := { program := "ythfiphbjdenkbaadoor", sum := "828246e6c19994b353f75a03a25bdd528def5e0f59f76bfa10e202556d3bf0e2", func := "hallmoot/hallmootlaw23.WalCanonical", spec := "walCanonical", inPlace := ["internal/abi.NoEscape", "internal/bytealg.MakeNoZero", "internal/bytealg.IndexByteString", "internal/bytealg.IndexString"], unfollowed := true, recurses := true, named := ["unicode/utf8.first", "unicode/utf8.acceptRanges", "internal/bytealg.MaxLen"], apart := false, laid := [("unicode/utf8.acceptRanges", laid_unicode_utf8_acceptRanges), ("unicode/utf8.first", laid_unicode_utf8_first)], narrowed := true }
def WalCanonicalUptoSaid : Prop := walCanonicalUptoRow.holds Tryd.pinned (OpenSpec.upto walCanonicalSpec)

/-- 'hallmootlaw23.WalTorn', WHERE WHAT IT READS IS OF BULK AT MOST 1048576: true; the input reads as it did. -/
def walTornUptoRow : OpenClaim := { program := "ythfiphbjdenkbaadoor", sum := "828246e6c19994b353f75a03a25bdd528def5e0f59f76bfa10e202556d3bf0e2", func := "hallmoot/hallmootlaw23.WalTorn", spec := "walTorn", inPlace := ["internal/abi.NoEscape", "internal/bytealg.MakeNoZero", "internal/bytealg.IndexByteString", "internal/bytealg.IndexString"], unfollowed := true, recurses := true, named := ["unicode/utf8.first", "unicode/utf8.acceptRanges", "internal/bytealg.MaxLen"], apart := false, laid := [("unicode/utf8.acceptRanges", laid_unicode_utf8_acceptRanges), ("unicode/utf8.first", laid_unicode_utf8_first)], narrowed := true }
def WalTornUptoSaid : Prop := walTornUptoRow.holds Tryd.pinned (OpenSpec.upto walTornSpec)

/-- 'hallmootlaw23.WalRecover', WHERE WHAT IT READS IS OF BULK AT MOST 1048576: true; the input reads as it did. -/
def walRecoverUptoRow : OpenClaim := { program := "ythfiphbjdenkbaadoor", sum := "828246e6c19994b353f75a03a25bdd528def5e0f59f76bfa10e202556d3bf0e2", func := "hallmoot/hallmootlaw23.WalRecover", spec := "walRecover", inPlace := ["internal/abi.NoEscape", "internal/bytealg.MakeNoZero", "internal/bytealg.IndexByteString", "internal/bytealg.IndexString"], unfollowed := true, recurses := true, named := ["unicode/utf8.first", "unicode/utf8.acceptRanges", "internal/bytealg.MaxLen"], apart := false, laid := [("unicode/utf8.acceptRanges", laid_unicode_utf8_acceptRanges), ("unicode/utf8.first", laid_unicode_utf8_first)], narrowed := true }
def WalRecoverUptoSaid : Prop := walRecoverUptoRow.holds Tryd.pinned (OpenSpec.upto walRecoverSpec)

end Rows
end Go.Proofs.YthfiphbjdenkbaaDoor
