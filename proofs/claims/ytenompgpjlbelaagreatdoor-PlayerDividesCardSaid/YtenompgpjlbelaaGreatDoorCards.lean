/-
  DERIVED. GIVEN WITH THE SEED: THE CARDS: each row of YtenompgpjlbelaaGreatDoorRows.lean that lists a variable, with what it lists TIED to the program's text (the seventh form; the later family's looks); each row that meets fmt, with fmt's text TOLD by the authors' own Lean function (tested against real Go, not proved from fmt's source: count such statements apart). THE CARD IS WHAT COUNTS. Prove the row's statement (the work); the ties are given (YtenompgpjlbelaaGreatDoorTie.lean); close each card by the builder's one call (the guide's Derived/Test/ToyasCard.lean, 'card_holds'). Laid BY PROGRAM, IN A SANDBOX (cutbox-door.mjs). By AI agents, Wed Nov 11 2026. No macro, syntax, notation, axiom, sorry.
-/
import Derived.Test.YtenompgpjlbelaaGreatDoorRows
import GoSem.ClaimSeven
namespace Go.Proofs.YtenompgpjlbelaaGreatDoor
namespace Rows

/-- THE TIED CARD OF 'roboticslaw42.PlayerRecords'. -/
def playerRecordsCard : Claim7 := { stood := { row := playerRecordsRow, standIns := [], harness := (true, "1f4aa89fa6f0038451eed673f3d88fdf8589b023f2857bf734080112e295cb9e"), looks := false }, kinds := [], alts := [], laidByText := true, laidKinds := [.data, .data, .data], laidTests := true, laidLooks := .later }
def PlayerRecordsCardSaid : Prop := Claim7.holds Tryz.pinned (.plain (OpenSpec.ofChange playerRecordsSpec)) playerRecordsCard

/-- THE TIED CARD OF 'roboticslaw42.PlayerDiverges'. -/
def playerDivergesCard : Claim7 := { stood := { row := playerDivergesRow, standIns := [], harness := (true, "1f4aa89fa6f0038451eed673f3d88fdf8589b023f2857bf734080112e295cb9e"), looks := false }, kinds := [], alts := [], laidByText := true, laidKinds := [.data, .data, .data], laidTests := true, laidLooks := .later }
def PlayerDivergesCardSaid : Prop := Claim7.holds Tryz.pinned (.plain (OpenSpec.ofChange playerDivergesSpec)) playerDivergesCard

/-- THE TIED CARD OF 'roboticslaw42.PlayerDivides'. -/
def playerDividesCard : Claim7 := { stood := { row := playerDividesRow, standIns := [], harness := (true, "1f4aa89fa6f0038451eed673f3d88fdf8589b023f2857bf734080112e295cb9e"), looks := false }, kinds := [], alts := [], laidByText := true, laidKinds := [.data, .data, .data], laidTests := true, laidLooks := .later }
def PlayerDividesCardSaid : Prop := Claim7.holds Tryz.pinned (.plain (OpenSpec.ofChange playerDividesSpec)) playerDividesCard

/-- THE TIED CARD OF 'roboticslaw42.PlayerSteps'. -/
def playerStepsCard : Claim7 := { stood := { row := playerStepsRow, standIns := [], harness := (true, "1f4aa89fa6f0038451eed673f3d88fdf8589b023f2857bf734080112e295cb9e"), looks := false }, kinds := [], alts := [], laidByText := true, laidKinds := [.data, .data, .data], laidTests := true, laidLooks := .later }
def PlayerStepsCardSaid : Prop := Claim7.holds Tryz.pinned (.plain (OpenSpec.ofChange playerStepsSpec)) playerStepsCard

/-- THE TIED CARD OF 'roboticslaw42.PlayerRejects'. -/
def playerRejectsCard : Claim7 := { stood := { row := playerRejectsRow, standIns := [], harness := (true, "1f4aa89fa6f0038451eed673f3d88fdf8589b023f2857bf734080112e295cb9e"), looks := false }, kinds := [], alts := [], laidByText := true, laidKinds := [.data, .data, .data], laidTests := true, laidLooks := .later }
def PlayerRejectsCardSaid : Prop := Claim7.holds Tryz.pinned (.plain (OpenSpec.ofChange playerRejectsSpec)) playerRejectsCard

/-- THE SECOND FORM's CARD OF 'roboticslaw42.PlayerRecords'. -/
def playerRecordsUptoCard : Claim7 := { stood := { row := playerRecordsUptoRow, standIns := [], harness := (true, "1f4aa89fa6f0038451eed673f3d88fdf8589b023f2857bf734080112e295cb9e"), looks := false }, kinds := [], alts := [], laidByText := true, laidKinds := [.data, .data, .data], laidTests := true, laidLooks := .later }
def PlayerRecordsUptoCardSaid : Prop := Claim7.holds Tryz.pinned (.plain (OpenSpec.upto playerRecordsSpec)) playerRecordsUptoCard

/-- THE SECOND FORM's CARD OF 'roboticslaw42.PlayerDiverges'. -/
def playerDivergesUptoCard : Claim7 := { stood := { row := playerDivergesUptoRow, standIns := [], harness := (true, "1f4aa89fa6f0038451eed673f3d88fdf8589b023f2857bf734080112e295cb9e"), looks := false }, kinds := [], alts := [], laidByText := true, laidKinds := [.data, .data, .data], laidTests := true, laidLooks := .later }
def PlayerDivergesUptoCardSaid : Prop := Claim7.holds Tryz.pinned (.plain (OpenSpec.upto playerDivergesSpec)) playerDivergesUptoCard

/-- THE SECOND FORM's CARD OF 'roboticslaw42.PlayerDivides'. -/
def playerDividesUptoCard : Claim7 := { stood := { row := playerDividesUptoRow, standIns := [], harness := (true, "1f4aa89fa6f0038451eed673f3d88fdf8589b023f2857bf734080112e295cb9e"), looks := false }, kinds := [], alts := [], laidByText := true, laidKinds := [.data, .data, .data], laidTests := true, laidLooks := .later }
def PlayerDividesUptoCardSaid : Prop := Claim7.holds Tryz.pinned (.plain (OpenSpec.upto playerDividesSpec)) playerDividesUptoCard

/-- THE SECOND FORM's CARD OF 'roboticslaw42.PlayerSteps'. -/
def playerStepsUptoCard : Claim7 := { stood := { row := playerStepsUptoRow, standIns := [], harness := (true, "1f4aa89fa6f0038451eed673f3d88fdf8589b023f2857bf734080112e295cb9e"), looks := false }, kinds := [], alts := [], laidByText := true, laidKinds := [.data, .data, .data], laidTests := true, laidLooks := .later }
def PlayerStepsUptoCardSaid : Prop := Claim7.holds Tryz.pinned (.plain (OpenSpec.upto playerStepsSpec)) playerStepsUptoCard

/-- THE SECOND FORM's CARD OF 'roboticslaw42.PlayerRejects'. -/
def playerRejectsUptoCard : Claim7 := { stood := { row := playerRejectsUptoRow, standIns := [], harness := (true, "1f4aa89fa6f0038451eed673f3d88fdf8589b023f2857bf734080112e295cb9e"), looks := false }, kinds := [], alts := [], laidByText := true, laidKinds := [.data, .data, .data], laidTests := true, laidLooks := .later }
def PlayerRejectsUptoCardSaid : Prop := Claim7.holds Tryz.pinned (.plain (OpenSpec.upto playerRejectsSpec)) playerRejectsUptoCard
end Rows
end Go.Proofs.YtenompgpjlbelaaGreatDoor
