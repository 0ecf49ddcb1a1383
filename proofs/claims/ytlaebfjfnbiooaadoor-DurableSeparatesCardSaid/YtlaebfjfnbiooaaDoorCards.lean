/-
  DERIVED. GIVEN WITH THE SEED: THE CARDS: each row of YtlaebfjfnbiooaaDoorRows.lean that lists a variable, with what it lists TIED to the program's text (the seventh form; the later family's looks); each row that meets fmt, with fmt's text TOLD by the authors' own Lean function (tested against real Go, not proved from fmt's source: count such statements apart). THE CARD IS WHAT COUNTS. Prove the row's statement (the work); the ties are given (YtlaebfjfnbiooaaDoorTie.lean); close each card by the builder's one call (the guide's Derived/Test/ToyasCard.lean, 'card_holds'). Laid BY PROGRAM, IN A SANDBOX (cutbox-door.mjs). By AI agents, Wed Nov 11 2026. No macro, syntax, notation, axiom, sorry.
-/
import Derived.Test.YtlaebfjfnbiooaaDoorRows
import GoSem.ClaimSeven
namespace Go.Proofs.YtlaebfjfnbiooaaDoor
namespace Rows

/-- THE TIED CARD OF 'hallmootlaw25.DurableDoMatchesSpec'. -/
def durableDoMatchesSpecCard : Claim7 := { stood := { row := durableDoMatchesSpecRow, standIns := [], harness := (true, "51e3a71e355852e3c90abc4663d0d23d757057c1871448c81f60c456e3038dd0"), looks := false }, kinds := [], alts := [], laidByText := true, laidKinds := [.data, .pinned], laidTests := true, laidLooks := .later }
def DurableDoMatchesSpecCardSaid : Prop := Claim7.holds Tryd.pinned (.plain (OpenSpec.ofChange durableDoMatchesSpecSpec)) durableDoMatchesSpecCard

/-- THE TIED CARD OF 'hallmootlaw25.DurableBootMatchesSpec'. -/
def durableBootMatchesSpecCard : Claim7 := { stood := { row := durableBootMatchesSpecRow, standIns := [], harness := (true, "51e3a71e355852e3c90abc4663d0d23d757057c1871448c81f60c456e3038dd0"), looks := false }, kinds := [], alts := [], laidByText := true, laidKinds := [.data, .pinned], laidTests := true, laidLooks := .later }
def DurableBootMatchesSpecCardSaid : Prop := Claim7.holds Tryd.pinned (.plain (OpenSpec.ofChange durableBootMatchesSpecSpec)) durableBootMatchesSpecCard

/-- THE TIED CARD OF 'hallmootlaw25.DurableSeparates'. -/
def durableSeparatesCard : Claim7 := { stood := { row := durableSeparatesRow, standIns := [], harness := (true, "51e3a71e355852e3c90abc4663d0d23d757057c1871448c81f60c456e3038dd0"), looks := false }, kinds := [], alts := [], laidByText := true, laidKinds := [.data, .pinned], laidTests := true, laidLooks := .later }
def DurableSeparatesCardSaid : Prop := Claim7.holds Tryd.pinned (.plain (OpenSpec.ofChange durableSeparatesSpec)) durableSeparatesCard

/-- THE TIED CARD OF 'hallmootlaw25.DurableBootAppends'. -/
def durableBootAppendsCard : Claim7 := { stood := { row := durableBootAppendsRow, standIns := [], harness := (true, "51e3a71e355852e3c90abc4663d0d23d757057c1871448c81f60c456e3038dd0"), looks := false }, kinds := [], alts := [], laidByText := true, laidKinds := [.data, .pinned], laidTests := true, laidLooks := .later }
def DurableBootAppendsCardSaid : Prop := Claim7.holds Tryd.pinned (.plain (OpenSpec.ofChange durableBootAppendsSpec)) durableBootAppendsCard

/-- THE TIED CARD OF 'hallmootlaw25.DurableSurvivesCrash'. -/
def durableSurvivesCrashCard : Claim7 := { stood := { row := durableSurvivesCrashRow, standIns := [], harness := (true, "51e3a71e355852e3c90abc4663d0d23d757057c1871448c81f60c456e3038dd0"), looks := false }, kinds := [], alts := [], laidByText := true, laidKinds := [.data, .pinned], laidTests := true, laidLooks := .later }
def DurableSurvivesCrashCardSaid : Prop := Claim7.holds Tryd.pinned (.plain (OpenSpec.ofChange durableSurvivesCrashSpec)) durableSurvivesCrashCard

/-- THE SECOND FORM's CARD OF 'hallmootlaw25.DurableDoMatchesSpec'. -/
def durableDoMatchesSpecUptoCard : Claim7 := { stood := { row := durableDoMatchesSpecUptoRow, standIns := [], harness := (true, "51e3a71e355852e3c90abc4663d0d23d757057c1871448c81f60c456e3038dd0"), looks := false }, kinds := [], alts := [], laidByText := true, laidKinds := [.data, .pinned], laidTests := true, laidLooks := .later }
def DurableDoMatchesSpecUptoCardSaid : Prop := Claim7.holds Tryd.pinned (.plain (OpenSpec.upto durableDoMatchesSpecSpec)) durableDoMatchesSpecUptoCard

/-- THE SECOND FORM's CARD OF 'hallmootlaw25.DurableBootMatchesSpec'. -/
def durableBootMatchesSpecUptoCard : Claim7 := { stood := { row := durableBootMatchesSpecUptoRow, standIns := [], harness := (true, "51e3a71e355852e3c90abc4663d0d23d757057c1871448c81f60c456e3038dd0"), looks := false }, kinds := [], alts := [], laidByText := true, laidKinds := [.data, .pinned], laidTests := true, laidLooks := .later }
def DurableBootMatchesSpecUptoCardSaid : Prop := Claim7.holds Tryd.pinned (.plain (OpenSpec.upto durableBootMatchesSpecSpec)) durableBootMatchesSpecUptoCard

/-- THE SECOND FORM's CARD OF 'hallmootlaw25.DurableSeparates'. -/
def durableSeparatesUptoCard : Claim7 := { stood := { row := durableSeparatesUptoRow, standIns := [], harness := (true, "51e3a71e355852e3c90abc4663d0d23d757057c1871448c81f60c456e3038dd0"), looks := false }, kinds := [], alts := [], laidByText := true, laidKinds := [.data, .pinned], laidTests := true, laidLooks := .later }
def DurableSeparatesUptoCardSaid : Prop := Claim7.holds Tryd.pinned (.plain (OpenSpec.upto durableSeparatesSpec)) durableSeparatesUptoCard

/-- THE SECOND FORM's CARD OF 'hallmootlaw25.DurableBootAppends'. -/
def durableBootAppendsUptoCard : Claim7 := { stood := { row := durableBootAppendsUptoRow, standIns := [], harness := (true, "51e3a71e355852e3c90abc4663d0d23d757057c1871448c81f60c456e3038dd0"), looks := false }, kinds := [], alts := [], laidByText := true, laidKinds := [.data, .pinned], laidTests := true, laidLooks := .later }
def DurableBootAppendsUptoCardSaid : Prop := Claim7.holds Tryd.pinned (.plain (OpenSpec.upto durableBootAppendsSpec)) durableBootAppendsUptoCard

/-- THE SECOND FORM's CARD OF 'hallmootlaw25.DurableSurvivesCrash'. -/
def durableSurvivesCrashUptoCard : Claim7 := { stood := { row := durableSurvivesCrashUptoRow, standIns := [], harness := (true, "51e3a71e355852e3c90abc4663d0d23d757057c1871448c81f60c456e3038dd0"), looks := false }, kinds := [], alts := [], laidByText := true, laidKinds := [.data, .pinned], laidTests := true, laidLooks := .later }
def DurableSurvivesCrashUptoCardSaid : Prop := Claim7.holds Tryd.pinned (.plain (OpenSpec.upto durableSurvivesCrashSpec)) durableSurvivesCrashUptoCard
end Rows
end Go.Proofs.YtlaebfjfnbiooaaDoor
