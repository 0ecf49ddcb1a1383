/-
  DERIVED. GIVEN WITH THE SEED: THE CARDS: each row of YthfiphbjdenkbaaDoorRows.lean that lists a variable, with what it lists TIED to the program's text (the seventh form; the later family's looks); each row that meets fmt, with fmt's text TOLD by the authors' own Lean function (tested against real Go, not proved from fmt's source: count such statements apart). THE CARD IS WHAT COUNTS. Prove the row's statement (the work); the ties are given (YthfiphbjdenkbaaDoorTie.lean); close each card by the builder's one call (the guide's Derived/Test/ToyasCard.lean, 'card_holds'). Laid BY PROGRAM, IN A SANDBOX (cutbox-door.mjs). By AI agents, Wed Nov 11 2026. No macro, syntax, notation, axiom, sorry.
-/
import Derived.Test.YthfiphbjdenkbaaDoorRows
import GoSem.ClaimSeven
namespace Go.Proofs.YthfiphbjdenkbaaDoor
namespace Rows

/-- THE TIED CARD OF 'hallmootlaw23.WalRecord'. -/
def walRecordCard : Claim7 := { stood := { row := walRecordRow, standIns := [], harness := (true, "81cd061d88143e8a381d4b42f5ccb64a265bfb483298f2fa36093e25ac567d85"), looks := false }, kinds := [], alts := [], laidByText := true, laidKinds := [.data, .pinned], laidTests := true, laidLooks := .later }
def WalRecordCardSaid : Prop := Claim7.holds Tryd.pinned (.plain (OpenSpec.ofChange walRecordSpec)) walRecordCard

/-- THE TIED CARD OF 'hallmootlaw23.WalParse'. -/
def walParseCard : Claim7 := { stood := { row := walParseRow, standIns := [], harness := (true, "81cd061d88143e8a381d4b42f5ccb64a265bfb483298f2fa36093e25ac567d85"), looks := false }, kinds := [], alts := [], laidByText := true, laidKinds := [.data, .pinned], laidTests := true, laidLooks := .later }
def WalParseCardSaid : Prop := Claim7.holds Tryd.pinned (.plain (OpenSpec.ofChange walParseSpec)) walParseCard

/-- THE TIED CARD OF 'hallmootlaw23.WalRoundTrip'. -/
def walRoundTripCard : Claim7 := { stood := { row := walRoundTripRow, standIns := [], harness := (true, "81cd061d88143e8a381d4b42f5ccb64a265bfb483298f2fa36093e25ac567d85"), looks := false }, kinds := [], alts := [], laidByText := true, laidKinds := [.data, .pinned], laidTests := true, laidLooks := .later }
def WalRoundTripCardSaid : Prop := Claim7.holds Tryd.pinned (.plain (OpenSpec.ofChange walRoundTripSpec)) walRoundTripCard

/-- THE TIED CARD OF 'hallmootlaw23.WalCanonical'. -/
def walCanonicalCard : Claim7 := { stood := { row := walCanonicalRow, standIns := [], harness := (true, "81cd061d88143e8a381d4b42f5ccb64a265bfb483298f2fa36093e25ac567d85"), looks := false }, kinds := [], alts := [], laidByText := true, laidKinds := [.data, .pinned], laidTests := true, laidLooks := .later }
def WalCanonicalCardSaid : Prop := Claim7.holds Tryd.pinned (.plain (OpenSpec.ofChange walCanonicalSpec)) walCanonicalCard

/-- THE TIED CARD OF 'hallmootlaw23.WalTorn'. -/
def walTornCard : Claim7 := { stood := { row := walTornRow, standIns := [], harness := (true, "81cd061d88143e8a381d4b42f5ccb64a265bfb483298f2fa36093e25ac567d85"), looks := false }, kinds := [], alts := [], laidByText := true, laidKinds := [.data, .pinned], laidTests := true, laidLooks := .later }
def WalTornCardSaid : Prop := Claim7.holds Tryd.pinned (.plain (OpenSpec.ofChange walTornSpec)) walTornCard

/-- THE TIED CARD OF 'hallmootlaw23.WalRecover'. -/
def walRecoverCard : Claim7 := { stood := { row := walRecoverRow, standIns := [], harness := (true, "81cd061d88143e8a381d4b42f5ccb64a265bfb483298f2fa36093e25ac567d85"), looks := false }, kinds := [], alts := [], laidByText := true, laidKinds := [.data, .pinned], laidTests := true, laidLooks := .later }
def WalRecoverCardSaid : Prop := Claim7.holds Tryd.pinned (.plain (OpenSpec.ofChange walRecoverSpec)) walRecoverCard

/-- THE SECOND FORM's CARD OF 'hallmootlaw23.WalRecord'. -/
def walRecordUptoCard : Claim7 := { stood := { row := walRecordUptoRow, standIns := [], harness := (true, "81cd061d88143e8a381d4b42f5ccb64a265bfb483298f2fa36093e25ac567d85"), looks := false }, kinds := [], alts := [], laidByText := true, laidKinds := [.data, .pinned], laidTests := true, laidLooks := .later }
def WalRecordUptoCardSaid : Prop := Claim7.holds Tryd.pinned (.plain (OpenSpec.upto walRecordSpec)) walRecordUptoCard

/-- THE SECOND FORM's CARD OF 'hallmootlaw23.WalParse'. -/
def walParseUptoCard : Claim7 := { stood := { row := walParseUptoRow, standIns := [], harness := (true, "81cd061d88143e8a381d4b42f5ccb64a265bfb483298f2fa36093e25ac567d85"), looks := false }, kinds := [], alts := [], laidByText := true, laidKinds := [.data, .pinned], laidTests := true, laidLooks := .later }
def WalParseUptoCardSaid : Prop := Claim7.holds Tryd.pinned (.plain (OpenSpec.upto walParseSpec)) walParseUptoCard

/-- THE SECOND FORM's CARD OF 'hallmootlaw23.WalRoundTrip'. -/
def walRoundTripUptoCard : Claim7 := { stood := { row := walRoundTripUptoRow, standIns := [], harness := (true, "81cd061d88143e8a381d4b42f5ccb64a265bfb483298f2fa36093e25ac567d85"), looks := false }, kinds := [], alts := [], laidByText := true, laidKinds := [.data, .pinned], laidTests := true, laidLooks := .later }
def WalRoundTripUptoCardSaid : Prop := Claim7.holds Tryd.pinned (.plain (OpenSpec.upto walRoundTripSpec)) walRoundTripUptoCard

/-- THE SECOND FORM's CARD OF 'hallmootlaw23.WalCanonical'. -/
def walCanonicalUptoCard : Claim7 := { stood := { row := walCanonicalUptoRow, standIns := [], harness := (true, "81cd061d88143e8a381d4b42f5ccb64a265bfb483298f2fa36093e25ac567d85"), looks := false }, kinds := [], alts := [], laidByText := true, laidKinds := [.data, .pinned], laidTests := true, laidLooks := .later }
def WalCanonicalUptoCardSaid : Prop := Claim7.holds Tryd.pinned (.plain (OpenSpec.upto walCanonicalSpec)) walCanonicalUptoCard

/-- THE SECOND FORM's CARD OF 'hallmootlaw23.WalTorn'. -/
def walTornUptoCard : Claim7 := { stood := { row := walTornUptoRow, standIns := [], harness := (true, "81cd061d88143e8a381d4b42f5ccb64a265bfb483298f2fa36093e25ac567d85"), looks := false }, kinds := [], alts := [], laidByText := true, laidKinds := [.data, .pinned], laidTests := true, laidLooks := .later }
def WalTornUptoCardSaid : Prop := Claim7.holds Tryd.pinned (.plain (OpenSpec.upto walTornSpec)) walTornUptoCard

/-- THE SECOND FORM's CARD OF 'hallmootlaw23.WalRecover'. -/
def walRecoverUptoCard : Claim7 := { stood := { row := walRecoverUptoRow, standIns := [], harness := (true, "81cd061d88143e8a381d4b42f5ccb64a265bfb483298f2fa36093e25ac567d85"), looks := false }, kinds := [], alts := [], laidByText := true, laidKinds := [.data, .pinned], laidTests := true, laidLooks := .later }
def WalRecoverUptoCardSaid : Prop := Claim7.holds Tryd.pinned (.plain (OpenSpec.upto walRecoverSpec)) walRecoverUptoCard
end Rows
end Go.Proofs.YthfiphbjdenkbaaDoor
