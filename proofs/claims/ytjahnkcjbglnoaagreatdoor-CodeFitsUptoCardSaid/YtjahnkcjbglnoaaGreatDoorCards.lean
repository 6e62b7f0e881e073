/-
  DERIVED. GIVEN WITH THE SEED: THE CARDS: each row of YtjahnkcjbglnoaaGreatDoorRows.lean that lists a variable, with what it lists TIED to the program's text (the seventh form; the later family's looks); each row that meets fmt, with fmt's text TOLD by the authors' own Lean function (tested against real Go, not proved from fmt's source: count such statements apart). THE CARD IS WHAT COUNTS. Prove the row's statement (the work); the ties are given (YtjahnkcjbglnoaaGreatDoorTie.lean); close each card by the builder's one call (the guide's Derived/Test/ToyasCard.lean, 'card_holds'). Laid BY PROGRAM, IN A SANDBOX (cutbox-door.mjs). By AI agents, Wed Nov 11 2026. No macro, syntax, notation, axiom, sorry.
-/
import Derived.Test.YtjahnkcjbglnoaaGreatDoorRows
import GoSem.ClaimSeven
namespace Go.Proofs.YtjahnkcjbglnoaaGreatDoor
namespace Rows

/-- THE TIED CARD OF 'cabotagelaw09.CodeChecks'. -/
def codeChecksCard : Claim7 := { stood := { row := codeChecksRow, standIns := [], harness := (true, "0d3e038a62f72a6c19cd06664f6e2bcd85e739fb81c58bb436e5ee4a62e24b94"), looks := true }, kinds := [], alts := [], laidByText := true, laidKinds := [.data, .data, .data], laidTests := true, laidLooks := .later }
def CodeChecksCardSaid : Prop := Claim7.holds Tryz.pinned (.plain (OpenSpec.ofChange codeChecksSpec)) codeChecksCard

/-- THE TIED CARD OF 'cabotagelaw09.CodeCompiles'. -/
def codeCompilesCard : Claim7 := { stood := { row := codeCompilesRow, standIns := [], harness := (true, "0d3e038a62f72a6c19cd06664f6e2bcd85e739fb81c58bb436e5ee4a62e24b94"), looks := true }, kinds := [], alts := [], laidByText := true, laidKinds := [.data, .data, .data], laidTests := true, laidLooks := .later }
def CodeCompilesCardSaid : Prop := Claim7.holds Tryz.pinned (.plain (OpenSpec.ofChange codeCompilesSpec)) codeCompilesCard

/-- THE TIED CARD OF 'cabotagelaw09.CodeDoes'. -/
def codeDoesCard : Claim7 := { stood := { row := codeDoesRow, standIns := [], harness := (true, "0d3e038a62f72a6c19cd06664f6e2bcd85e739fb81c58bb436e5ee4a62e24b94"), looks := true }, kinds := [], alts := [], laidByText := true, laidKinds := [.data, .data, .data], laidTests := true, laidLooks := .later }
def CodeDoesCardSaid : Prop := Claim7.holds Tryz.pinned (.plain (OpenSpec.ofChange codeDoesSpec)) codeDoesCard

/-- THE TIED CARD OF 'cabotagelaw09.CodeFits'. -/
def codeFitsCard : Claim7 := { stood := { row := codeFitsRow, standIns := [], harness := (true, "0d3e038a62f72a6c19cd06664f6e2bcd85e739fb81c58bb436e5ee4a62e24b94"), looks := true }, kinds := [], alts := [], laidByText := true, laidKinds := [.data, .data, .data], laidTests := true, laidLooks := .later }
def CodeFitsCardSaid : Prop := Claim7.holds Tryz.pinned (.plain (OpenSpec.ofChange codeFitsSpec)) codeFitsCard

/-- THE TIED CARD OF 'cabotagelaw09.CodeSound'. -/
def codeSoundCard : Claim7 := { stood := { row := codeSoundRow, standIns := [], harness := (true, "0d3e038a62f72a6c19cd06664f6e2bcd85e739fb81c58bb436e5ee4a62e24b94"), looks := true }, kinds := [], alts := [], laidByText := true, laidKinds := [.data, .data, .data], laidTests := true, laidLooks := .later }
def CodeSoundCardSaid : Prop := Claim7.holds Tryz.pinned (.plain (OpenSpec.ofChange codeSoundSpec)) codeSoundCard

/-- THE SECOND FORM's CARD OF 'cabotagelaw09.CodeChecks'. -/
def codeChecksUptoCard : Claim7 := { stood := { row := codeChecksUptoRow, standIns := [], harness := (true, "0d3e038a62f72a6c19cd06664f6e2bcd85e739fb81c58bb436e5ee4a62e24b94"), looks := true }, kinds := [], alts := [], laidByText := true, laidKinds := [.data, .data, .data], laidTests := true, laidLooks := .later }
def CodeChecksUptoCardSaid : Prop := Claim7.holds Tryz.pinned (.plain (OpenSpec.upto codeChecksSpec)) codeChecksUptoCard

/-- THE SECOND FORM's CARD OF 'cabotagelaw09.CodeCompiles'. -/
def codeCompilesUptoCard : Claim7 := { stood := { row := codeCompilesUptoRow, standIns := [], harness := (true, "0d3e038a62f72a6c19cd06664f6e2bcd85e739fb81c58bb436e5ee4a62e24b94"), looks := true }, kinds := [], alts := [], laidByText := true, laidKinds := [.data, .data, .data], laidTests := true, laidLooks := .later }
def CodeCompilesUptoCardSaid : Prop := Claim7.holds Tryz.pinned (.plain (OpenSpec.upto codeCompilesSpec)) codeCompilesUptoCard

/-- THE SECOND FORM's CARD OF 'cabotagelaw09.CodeDoes'. -/
def codeDoesUptoCard : Claim7 := { stood := { row := codeDoesUptoRow, standIns := [], harness := (true, "0d3e038a62f72a6c19cd06664f6e2bcd85e739fb81c58bb436e5ee4a62e24b94"), looks := true }, kinds := [], alts := [], laidByText := true, laidKinds := [.data, .data, .data], laidTests := true, laidLooks := .later }
def CodeDoesUptoCardSaid : Prop := Claim7.holds Tryz.pinned (.plain (OpenSpec.upto codeDoesSpec)) codeDoesUptoCard

/-- THE SECOND FORM's CARD OF 'cabotagelaw09.CodeFits'. -/
def codeFitsUptoCard : Claim7 := { stood := { row := codeFitsUptoRow, standIns := [], harness := (true, "0d3e038a62f72a6c19cd06664f6e2bcd85e739fb81c58bb436e5ee4a62e24b94"), looks := true }, kinds := [], alts := [], laidByText := true, laidKinds := [.data, .data, .data], laidTests := true, laidLooks := .later }
def CodeFitsUptoCardSaid : Prop := Claim7.holds Tryz.pinned (.plain (OpenSpec.upto codeFitsSpec)) codeFitsUptoCard

/-- THE SECOND FORM's CARD OF 'cabotagelaw09.CodeSound'. -/
def codeSoundUptoCard : Claim7 := { stood := { row := codeSoundUptoRow, standIns := [], harness := (true, "0d3e038a62f72a6c19cd06664f6e2bcd85e739fb81c58bb436e5ee4a62e24b94"), looks := true }, kinds := [], alts := [], laidByText := true, laidKinds := [.data, .data, .data], laidTests := true, laidLooks := .later }
def CodeSoundUptoCardSaid : Prop := Claim7.holds Tryz.pinned (.plain (OpenSpec.upto codeSoundSpec)) codeSoundUptoCard
end Rows
end Go.Proofs.YtjahnkcjbglnoaaGreatDoor
