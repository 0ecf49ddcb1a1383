/-
  DERIVED. GIVEN WITH THE SEED: THE CARDS: each row of YtkfjgggiopegbaaDoorRows.lean that lists a variable, with what it lists TIED to the program's text (the seventh form; the later family's looks); each row that meets fmt, with fmt's text TOLD by the authors' own Lean function (tested against real Go, not proved from fmt's source: count such statements apart). THE CARD IS WHAT COUNTS. Prove the row's statement (the work); the ties are given (YtkfjgggiopegbaaDoorTie.lean); close each card by the builder's one call (the guide's Derived/Test/ToyasCard.lean, 'card_holds'). Laid BY PROGRAM, IN A SANDBOX (cutbox-door.mjs). By AI agents, Wed Nov 11 2026. No macro, syntax, notation, axiom, sorry.
-/
import Derived.Test.YtkfjgggiopegbaaDoorRows
import GoSem.ClaimSeven
namespace Go.Proofs.YtkfjgggiopegbaaDoor
namespace Rows

/-- THE TIED CARD OF 'hallmootlaw23.WalParse'. -/
def walParseCard : Claim7 := { stood := { row := walParseRow, standIns := [], harness := (true, "35345365f27a1988a798bb8a3f8d710e8c52dd522f95547cd3af9daeb9447527"), looks := false }, kinds := [], alts := [], laidByText := true, laidKinds := [.data, .pinned], laidTests := true, laidLooks := .later }
def WalParseCardSaid : Prop := Claim7.holds Tryd.pinned (.plain (OpenSpec.ofChange walParseSpec)) walParseCard

/-- THE TIED CARD OF 'hallmootlaw23.WalRecover'. -/
def walRecoverCard : Claim7 := { stood := { row := walRecoverRow, standIns := [], harness := (true, "35345365f27a1988a798bb8a3f8d710e8c52dd522f95547cd3af9daeb9447527"), looks := false }, kinds := [], alts := [], laidByText := true, laidKinds := [.data, .pinned], laidTests := true, laidLooks := .later }
def WalRecoverCardSaid : Prop := Claim7.holds Tryd.pinned (.plain (OpenSpec.ofChange walRecoverSpec)) walRecoverCard

/-- THE TIED CARD OF 'hallmootlaw25.DurableBootMatchesSpec'. -/
def durableBootMatchesSpecCard : Claim7 := { stood := { row := durableBootMatchesSpecRow, standIns := [], harness := (true, "35345365f27a1988a798bb8a3f8d710e8c52dd522f95547cd3af9daeb9447527"), looks := false }, kinds := [], alts := [], laidByText := true, laidKinds := [.data, .pinned], laidTests := true, laidLooks := .later }
def DurableBootMatchesSpecCardSaid : Prop := Claim7.holds Tryd.pinned (.plain (OpenSpec.ofChange durableBootMatchesSpecSpec)) durableBootMatchesSpecCard

/-- THE TIED CARD OF 'hallmootlaw25.DurableBootAppends'. -/
def durableBootAppendsCard : Claim7 := { stood := { row := durableBootAppendsRow, standIns := [], harness := (true, "35345365f27a1988a798bb8a3f8d710e8c52dd522f95547cd3af9daeb9447527"), looks := false }, kinds := [], alts := [], laidByText := true, laidKinds := [.data, .pinned], laidTests := true, laidLooks := .later }
def DurableBootAppendsCardSaid : Prop := Claim7.holds Tryd.pinned (.plain (OpenSpec.ofChange durableBootAppendsSpec)) durableBootAppendsCard

/-- THE TIED CARD OF 'hallmootlaw25.DurableSurvivesCrash'. -/
def durableSurvivesCrashCard : Claim7 := { stood := { row := durableSurvivesCrashRow, standIns := [], harness := (true, "35345365f27a1988a798bb8a3f8d710e8c52dd522f95547cd3af9daeb9447527"), looks := false }, kinds := [], alts := [], laidByText := true, laidKinds := [.data, .pinned], laidTests := true, laidLooks := .later }
def DurableSurvivesCrashCardSaid : Prop := Claim7.holds Tryd.pinned (.plain (OpenSpec.ofChange durableSurvivesCrashSpec)) durableSurvivesCrashCard

/-- THE SECOND FORM's CARD OF 'hallmootlaw23.WalParse'. -/
def walParseUptoCard : Claim7 := { stood := { row := walParseUptoRow, standIns := [], harness := (true, "35345365f27a1988a798bb8a3f8d710e8c52dd522f95547cd3af9daeb9447527"), looks := false }, kinds := [], alts := [], laidByText := true, laidKinds := [.data, .pinned], laidTests := true, laidLooks := .later }
def WalParseUptoCardSaid : Prop := Claim7.holds Tryd.pinned (.plain (OpenSpec.upto walParseSpec)) walParseUptoCard

/-- THE SECOND FORM's CARD OF 'hallmootlaw23.WalRecover'. -/
def walRecoverUptoCard : Claim7 := { stood := { row := walRecoverUptoRow, standIns := [], harness := (true, "35345365f27a1988a798bb8a3f8d710e8c52dd522f95547cd3af9daeb9447527"), looks := false }, kinds := [], alts := [], laidByText := true, laidKinds := [.data, .pinned], laidTests := true, laidLooks := .later }
def WalRecoverUptoCardSaid : Prop := Claim7.holds Tryd.pinned (.plain (OpenSpec.upto walRecoverSpec)) walRecoverUptoCard

/-- THE SECOND FORM's CARD OF 'hallmootlaw25.DurableBootMatchesSpec'. -/
def durableBootMatchesSpecUptoCard : Claim7 := { stood := { row := durableBootMatchesSpecUptoRow, standIns := [], harness := (true, "35345365f27a1988a798bb8a3f8d710e8c52dd522f95547cd3af9daeb9447527"), looks := false }, kinds := [], alts := [], laidByText := true, laidKinds := [.data, .pinned], laidTests := true, laidLooks := .later }
def DurableBootMatchesSpecUptoCardSaid : Prop := Claim7.holds Tryd.pinned (.plain (OpenSpec.upto durableBootMatchesSpecSpec)) durableBootMatchesSpecUptoCard

/-- THE SECOND FORM's CARD OF 'hallmootlaw25.DurableBootAppends'. -/
def durableBootAppendsUptoCard : Claim7 := { stood := { row := durableBootAppendsUptoRow, standIns := [], harness := (true, "35345365f27a1988a798bb8a3f8d710e8c52dd522f95547cd3af9daeb9447527"), looks := false }, kinds := [], alts := [], laidByText := true, laidKinds := [.data, .pinned], laidTests := true, laidLooks := .later }
def DurableBootAppendsUptoCardSaid : Prop := Claim7.holds Tryd.pinned (.plain (OpenSpec.upto durableBootAppendsSpec)) durableBootAppendsUptoCard

/-- THE SECOND FORM's CARD OF 'hallmootlaw25.DurableSurvivesCrash'. -/
def durableSurvivesCrashUptoCard : Claim7 := { stood := { row := durableSurvivesCrashUptoRow, standIns := [], harness := (true, "35345365f27a1988a798bb8a3f8d710e8c52dd522f95547cd3af9daeb9447527"), looks := false }, kinds := [], alts := [], laidByText := true, laidKinds := [.data, .pinned], laidTests := true, laidLooks := .later }
def DurableSurvivesCrashUptoCardSaid : Prop := Claim7.holds Tryd.pinned (.plain (OpenSpec.upto durableSurvivesCrashSpec)) durableSurvivesCrashUptoCard
end Rows
end Go.Proofs.YtkfjgggiopegbaaDoor
