/-
  NARROWER THAN 'FOR EVERY INPUT', by the rows' own cells (each row's printed sentence says how): WalParse: laid · WalRecover: laid · DurableBootMatchesSpec: laid · DurableBootAppends: laid · DurableSurvivesCrash: laid.
  DERIVED. THE GIVEN ROWS OF THIS SEAT. 5 by the template 'for every input the law returns true; each argument reads behind the call as it read before'; 0 by the template 'total and deterministic' (their statements: YtkfjgggiopegbaaDoorTotals.lean).
  GIVEN WITH THE SEED: the statements are not yours to turn. If you find one false, say at which input.
  Laid BY PROGRAM, IN A SANDBOX (cutbox-rows.mjs): the forced cells as the released guide's own fill.sh prints them over the translation b3fe23fcc53a76e1… (all of the seat's roots in one cut). By AI agents, Wed Nov 11 2026. No macro, syntax, notation, axiom, sorry.
-/
import Derived.Test.YtkfjgggiopegbaaDoorChecked
import GoSem.PinnedTables
import GoSem.Claim
import GoSem.ClaimJoined
import GoSem.ClaimMapViews
import Derived.JoinedTies
import Derived.KernelRfl
namespace Go.Proofs.YtkfjgggiopegbaaDoor
/- THE CELL 'sum', in the pinned program and in every row, IS THE sha256 OF THE DUMP (.gsa) THAT YtkfjgggiopegbaaDoorProg.lean LOADS. Nothing in Lean hashes anything: it is a label: what it is worth is what the hold of that sum in a sandbox is worth. -/
noncomputable def Tryd.pinned : Pinned := { name := "ytkfjgggiopegbaadoor", sum := "b3fe23fcc53a76e13794b877100cd976868b5fc082771e9b4abd04b8e16b72e9", checked := Tryd.checked }
namespace Rows
def none {H : Type} : Left H := { results := [], args := [] }

/- WHAT THE LISTED PACKAGE-LEVEL VARIABLES READ AS WHEN THE CALL BEGINS. Each datum BY PROGRAM (the guide's laid-datum.mjs) off the statement by which the dump's own 'gosem.cut.vars' lays the variable. In a bare row this is a premise. The card (YtkfjgggiopegbaaDoorCards.lean) ties it to the program's text. -/
def laid_unicode_utf8_acceptRanges {H : Type} : DataW H := .agg [.agg [.lit (.int .u8 128), .lit (.int .u8 191)], .agg [.lit (.int .u8 160), .lit (.int .u8 191)], .agg [.lit (.int .u8 128), .lit (.int .u8 159)], .agg [.lit (.int .u8 144), .lit (.int .u8 191)], .agg [.lit (.int .u8 128), .lit (.int .u8 143)], .agg [.lit (.int .u8 0), .lit (.int .u8 0)], .agg [.lit (.int .u8 0), .lit (.int .u8 0)], .agg [.lit (.int .u8 0), .lit (.int .u8 0)], .agg [.lit (.int .u8 0), .lit (.int .u8 0)], .agg [.lit (.int .u8 0), .lit (.int .u8 0)], .agg [.lit (.int .u8 0), .lit (.int .u8 0)], .agg [.lit (.int .u8 0), .lit (.int .u8 0)], .agg [.lit (.int .u8 0), .lit (.int .u8 0)], .agg [.lit (.int .u8 0), .lit (.int .u8 0)], .agg [.lit (.int .u8 0), .lit (.int .u8 0)], .agg [.lit (.int .u8 0), .lit (.int .u8 0)]]
/-- One of Go's own tables, pinned by name: the form's constant. -/
def laid_unicode_utf8_first : DataW Unit := Go.Pinned.utf8First

/-- 'hallmootlaw23.WalParse': WHATEVER THE INPUT: true; the input reads as it did. -/
def walParseSpec : ChangeSpec := { name := "walParse", fn := fun _ => fun
  | [d1, d2] => { results := [.lit (.bool true)], args := [d1, d2] }
  | _ => none }
def walParseRow : OpenClaim := { program := "ytkfjgggiopegbaadoor", sum := "b3fe23fcc53a76e13794b877100cd976868b5fc082771e9b4abd04b8e16b72e9", func := "hallmoot/hallmootlaw23.WalParse", spec := "walParse", inPlace := ["internal/abi.NoEscape", "internal/bytealg.MakeNoZero", "internal/bytealg.IndexByteString", "internal/bytealg.IndexString"], unfollowed := true, recurses := true, named := ["unicode/utf8.first", "unicode/utf8.acceptRanges", "internal/bytealg.MaxLen"], apart := false, laid := [("unicode/utf8.acceptRanges", laid_unicode_utf8_acceptRanges), ("unicode/utf8.first", laid_unicode_utf8_first)] }
def WalParseSaid : Prop := walParseRow.holds Tryd.pinned (OpenSpec.ofChange walParseSpec)

/-- ITS FALSE NEIGHBOUR: 'it returns false'. Refute it at one input. -/
def walParseWrong : ChangeSpec := { name := "walParse", fn := fun _ => fun
  | [d1, d2] => { results := [.lit (.bool false)], args := [d1, d2] }
  | _ => none }
def WalParseWrongFalsely : Prop := walParseRow.holds Tryd.pinned (OpenSpec.ofChange walParseWrong)

/-- 'hallmootlaw23.WalRecover': WHATEVER THE INPUT: true; the input reads as it did. -/
def walRecoverSpec : ChangeSpec := { name := "walRecover", fn := fun _ => fun
  | [d1, d2, d3, d4] => { results := [.lit (.bool true)], args := [d1, d2, d3, d4] }
  | _ => none }
def walRecoverRow : OpenClaim := { program := "ytkfjgggiopegbaadoor", sum := "b3fe23fcc53a76e13794b877100cd976868b5fc082771e9b4abd04b8e16b72e9", func := "hallmoot/hallmootlaw23.WalRecover", spec := "walRecover", inPlace := ["internal/abi.NoEscape", "internal/bytealg.MakeNoZero", "internal/bytealg.IndexByteString", "internal/bytealg.IndexString"], unfollowed := true, recurses := true, named := ["unicode/utf8.first", "unicode/utf8.acceptRanges", "internal/bytealg.MaxLen"], apart := false, laid := [("unicode/utf8.acceptRanges", laid_unicode_utf8_acceptRanges), ("unicode/utf8.first", laid_unicode_utf8_first)] }
def WalRecoverSaid : Prop := walRecoverRow.holds Tryd.pinned (OpenSpec.ofChange walRecoverSpec)

/-- ITS FALSE NEIGHBOUR: 'it returns false'. Refute it at one input. -/
def walRecoverWrong : ChangeSpec := { name := "walRecover", fn := fun _ => fun
  | [d1, d2, d3, d4] => { results := [.lit (.bool false)], args := [d1, d2, d3, d4] }
  | _ => none }
def WalRecoverWrongFalsely : Prop := walRecoverRow.holds Tryd.pinned (OpenSpec.ofChange walRecoverWrong)

/-- 'hallmootlaw25.DurableBootMatchesSpec': WHATEVER THE INPUT: true; the input reads as it did. -/
def durableBootMatchesSpecSpec : ChangeSpec := { name := "durableBootMatchesSpec", fn := fun _ => fun
  | [d] => { results := [.lit (.bool true)], args := [d] }
  | _ => none }
def durableBootMatchesSpecRow : OpenClaim := { program := "ytkfjgggiopegbaadoor", sum := "b3fe23fcc53a76e13794b877100cd976868b5fc082771e9b4abd04b8e16b72e9", func := "hallmoot/hallmootlaw25.DurableBootMatchesSpec", spec := "durableBootMatchesSpec", inPlace := ["internal/bytealg.IndexByteString", "internal/bytealg.IndexString"], unfollowed := true, recurses := true, named := ["unicode/utf8.first", "unicode/utf8.acceptRanges", "internal/bytealg.MaxLen"], apart := false, laid := [("unicode/utf8.acceptRanges", laid_unicode_utf8_acceptRanges), ("unicode/utf8.first", laid_unicode_utf8_first)] }
def DurableBootMatchesSpecSaid : Prop := durableBootMatchesSpecRow.holds Tryd.pinned (OpenSpec.ofChange durableBootMatchesSpecSpec)

/-- ITS FALSE NEIGHBOUR: 'it returns false'. Refute it at one input. -/
def durableBootMatchesSpecWrong : ChangeSpec := { name := "durableBootMatchesSpec", fn := fun _ => fun
  | [d] => { results := [.lit (.bool false)], args := [d] }
  | _ => none }
def DurableBootMatchesSpecWrongFalsely : Prop := durableBootMatchesSpecRow.holds Tryd.pinned (OpenSpec.ofChange durableBootMatchesSpecWrong)

/-- 'hallmootlaw25.DurableBootAppends': WHATEVER THE INPUT: true; the input reads as it did. -/
def durableBootAppendsSpec : ChangeSpec := { name := "durableBootAppends", fn := fun _ => fun
  | [d1, d2] => { results := [.lit (.bool true)], args := [d1, d2] }
  | _ => none }
def durableBootAppendsRow : OpenClaim := { program := "ytkfjgggiopegbaadoor", sum := "b3fe23fcc53a76e13794b877100cd976868b5fc082771e9b4abd04b8e16b72e9", func := "hallmoot/hallmootlaw25.DurableBootAppends", spec := "durableBootAppends", inPlace := ["internal/bytealg.IndexByteString", "internal/bytealg.IndexString"], unfollowed := true, recurses := true, named := ["unicode/utf8.first", "unicode/utf8.acceptRanges", "internal/bytealg.MaxLen"], apart := false, laid := [("unicode/utf8.acceptRanges", laid_unicode_utf8_acceptRanges), ("unicode/utf8.first", laid_unicode_utf8_first)] }
def DurableBootAppendsSaid : Prop := durableBootAppendsRow.holds Tryd.pinned (OpenSpec.ofChange durableBootAppendsSpec)

/-- ITS FALSE NEIGHBOUR: 'it returns false'. Refute it at one input. -/
def durableBootAppendsWrong : ChangeSpec := { name := "durableBootAppends", fn := fun _ => fun
  | [d1, d2] => { results := [.lit (.bool false)], args := [d1, d2] }
  | _ => none }
def DurableBootAppendsWrongFalsely : Prop := durableBootAppendsRow.holds Tryd.pinned (OpenSpec.ofChange durableBootAppendsWrong)

/-- 'hallmootlaw25.DurableSurvivesCrash': WHATEVER THE INPUT: true; the input reads as it did. -/
def durableSurvivesCrashSpec : ChangeSpec := { name := "durableSurvivesCrash", fn := fun _ => fun
  | [d1, d2, d3] => { results := [.lit (.bool true)], args := [d1, d2, d3] }
  | _ => none }
def durableSurvivesCrashRow : OpenClaim := { program := "ytkfjgggiopegbaadoor", sum := "b3fe23fcc53a76e13794b877100cd976868b5fc082771e9b4abd04b8e16b72e9", func := "hallmoot/hallmootlaw25.DurableSurvivesCrash", spec := "durableSurvivesCrash", inPlace := ["internal/bytealg.IndexByteString", "internal/bytealg.IndexString"], unfollowed := true, recurses := true, named := ["unicode/utf8.first", "unicode/utf8.acceptRanges", "internal/bytealg.MaxLen"], apart := false, laid := [("unicode/utf8.acceptRanges", laid_unicode_utf8_acceptRanges), ("unicode/utf8.first", laid_unicode_utf8_first)] }
def DurableSurvivesCrashSaid : Prop := durableSurvivesCrashRow.holds Tryd.pinned (OpenSpec.ofChange durableSurvivesCrashSpec)

/-- ITS FALSE NEIGHBOUR: 'it returns false'. Refute it at one input. -/
def durableSurvivesCrashWrong : ChangeSpec := { name := "durableSurvivesCrash", fn := fun _ => fun
  | [d1, d2, d3] => { results := [.lit (.bool false)], args := [d1, d2, d3] }
  | _ => none }
def DurableSurvivesCrashWrongFalsely : Prop := durableSurvivesCrashRow.holds Tryd.pinned (OpenSpec.ofChange durableSurvivesCrashWrong)

/- THE SECOND FORM. 'bulk': how many values and letters a reading holds, each counted each time it is reached (what is shared counts as often as it is met; a slice's spare places count too). A statement '..UptoSaid' is the law's where the arguments, and the package variables that the reading takes, are together of bulk at most 1048576: NARROWER than '..Said'. Prove '..Said' where nothing that the law and all that it calls make is longer than what came in: it says more and counts as full. Else prove '..UptoSaid'. A law counts once. -/
mutual
def uptoBulk {H : Type} : DataW H → Nat
  | .lit (.string bytes) => bytes.length + 1
  | .lit _ => 1
  | .nil => 1
  | .ptr d => uptoBulk d + 1
  | .slice elems spare => uptoBulkAll elems + uptoBulkAll spare + 1
  | .agg parts => uptoBulkAll parts + 1
  | .iface _ d => uptoBulk d + 1
  | .map entries => uptoBulkEntries entries + 1
  | .held _ => 1
def uptoBulkAll {H : Type} : List (DataW H) → Nat
  | [] => 0
  | d :: r => uptoBulk d + uptoBulkAll r
def uptoBulkEntries {H : Type} : List (Lit × DataW H) → Nat
  | [] => 0
  | x :: r => uptoBulkEntry x + uptoBulkEntries r
def uptoBulkEntry {H : Type} : Lit × DataW H → Nat
  | (.string bytes, d) => bytes.length + uptoBulk d + 1
  | (_, d) => uptoBulk d + 1
 end
def uptoSmall : (H : Type) → List (DataW H) → Bool := fun _ ds => decide (uptoBulkAll ds ≤ 1048576)
def OpenSpec.upto (s : _root_.Go.ChangeSpec) : _root_.Go.OpenSpec := { _root_.Go.OpenSpec.ofChange s with cond := some uptoSmall }

/-- 'hallmootlaw23.WalParse', WHERE WHAT IT READS IS OF BULK AT MOST 1048576: true; the input reads as it did. -/
def walParseUptoRow : OpenClaim := { program := "ytkfjgggiopegbaadoor", sum := "b3fe23fcc53a76e13794b877100cd976868b5fc082771e9b4abd04b8e16b72e9", func := "hallmoot/hallmootlaw23.WalParse", spec := "walParse", inPlace := ["internal/abi.NoEscape", "internal/bytealg.MakeNoZero", "internal/bytealg.IndexByteString", "internal/bytealg.IndexString"], unfollowed := true, recurses := true, named := ["unicode/utf8.first", "unicode/utf8.acceptRanges", "internal/bytealg.MaxLen"], apart := false, laid := [("unicode/utf8.acceptRanges", laid_unicode_utf8_acceptRanges), ("unicode/utf8.first", laid_unicode_utf8_first)], narrowed := true }
def WalParseUptoSaid : Prop := walParseUptoRow.holds Tryd.pinned (OpenSpec.upto walParseSpec)

/-- 'hallmootlaw23.WalRecover', WHERE WHAT IT READS IS OF BULK AT MOST 1048576: true; the input reads as it did. -/
def walRecoverUptoRow : OpenClaim := { program := "ytkfjgggiopegbaadoor", sum := "b3fe23fcc53a76e13794b877100cd976868b5fc082771e9b4abd04b8e16b72e9", func := "hallmoot/hallmootlaw23.WalRecover", spec := "walRecover", inPlace := ["internal/abi.NoEscape", "internal/bytealg.MakeNoZero", "internal/bytealg.IndexByteString", "internal/bytealg.IndexString"], unfollowed := true, recurses := true, named := ["unicode/utf8.first", "unicode/utf8.acceptRanges", "internal/bytealg.MaxLen"], apart := false, laid := [("unicode/utf8.acceptRanges", laid_unicode_utf8_acceptRanges), ("unicode/utf8.first", laid_unicode_utf8_first)], narrowed := true }
def WalRecoverUptoSaid : Prop := walRecoverUptoRow.holds Tryd.pinned (OpenSpec.upto walRecoverSpec)

/-- 'hallmootlaw25.DurableBootMatchesSpec', WHERE WHAT IT READS IS OF BULK AT MOST 1048576: true; the input reads as it did. -/
def durableBootMatchesSpecUptoRow : OpenClaim := { program := "ytkfjgggiopegbaadoor", sum := "b3fe23fcc53a76e13794b877100cd976868b5fc082771e9b4abd04b8e16b72e9", func := "hallmoot/hallmootlaw25.DurableBootMatchesSpec", spec := "durableBootMatchesSpec", inPlace := ["internal/bytealg.IndexByteString", "internal/bytealg.IndexString"], unfollowed := true, recurses := true, named := ["unicode/utf8.first", "unicode/utf8.acceptRanges", "internal/bytealg.MaxLen"], apart := false, laid := [("unicode/utf8.acceptRanges", laid_unicode_utf8_acceptRanges), ("unicode/utf8.first", laid_unicode_utf8_first)], narrowed := true }
def DurableBootMatchesSpecUptoSaid : Prop := durableBootMatchesSpecUptoRow.holds Tryd.pinned (OpenSpec.upto durableBootMatchesSpecSpec)

/-- 'hallmootlaw25.DurableBootAppends', WHERE WHAT IT READS IS OF BULK AT MOST 1048576: true; the input reads as it did. -/
def durableBootAppendsUptoRow : OpenClaim := { program := "ytkfjgggiopegbaadoor", sum := "b3fe23fcc53a76e13794b877100cd976868b5fc082771e9b4abd04b8e16b72e9", func := "hallmoot/hallmootlaw25.DurableBootAppends", spec := "durableBootAppends", inPlace := ["internal/bytealg.IndexByteString", "internal/bytealg.IndexString"], unfollowed := true, recurses := true, named := ["unicode/utf8.first", "unicode/utf8.acceptRanges", "internal/bytealg.MaxLen"], apart := false, laid := [("unicode/utf8.acceptRanges", laid_unicode_utf8_acceptRanges), ("unicode/utf8.first", laid_unicode_utf8_first)], narrowed := true }
def DurableBootAppendsUptoSaid : Prop := durableBootAppendsUptoRow.holds Tryd.pinned (OpenSpec.upto durableBootAppendsSpec)

/-- 'hallmootlaw25.DurableSurvivesCrash', WHERE WHAT IT READS IS OF BULK AT MOST 1048576: true; the input reads as it did. -/
def durableSurvivesCrashUptoRow : OpenClaim := { program := "ytkfjgggiopegbaadoor", sum := "b3fe23fcc53a76e13794b877100cd976868b5fc082771e9b4abd04b8e16b72e9", func := "hallmoot/hallmootlaw25.DurableSurvivesCrash", spec := "durableSurvivesCrash", inPlace := ["internal/bytealg.IndexByteString", "internal/bytealg.IndexString"], unfollowed := true, recurses := true, named := ["unicode/utf8.first", "unicode/utf8.acceptRanges", "internal/bytealg.MaxLen"], apart := false, laid := [("unicode/utf8.acceptRanges", laid_unicode_utf8_acceptRanges), ("unicode/utf8.first", laid_unicode_utf8_first)], narrowed := true }
def DurableSurvivesCrashUptoSaid : Prop := durableSurvivesCrashUptoRow.holds Tryd.pinned (OpenSpec.upto durableSurvivesCrashSpec)

end Rows
end Go.Proofs.YtkfjgggiopegbaaDoor
