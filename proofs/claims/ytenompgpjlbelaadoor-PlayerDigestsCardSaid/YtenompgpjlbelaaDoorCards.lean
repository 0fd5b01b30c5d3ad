/-
  DERIVED. GIVEN WITH THE SEED: THE CARDS: each row of YtenompgpjlbelaaDoorRows.lean that lists a variable, with what it lists TIED to the program's text (the seventh form; the later family's looks); each row that meets fmt, with fmt's text TOLD by the authors' own Lean function (tested against real Go, not proved from fmt's source: count such statements apart). THE CARD IS WHAT COUNTS. Prove the row's statement (the work); the ties are given (YtenompgpjlbelaaDoorTie.lean); close each card by the builder's one call (the guide's Derived/Test/ToyasCard.lean, 'card_holds'). Laid BY PROGRAM, IN A SANDBOX (cutbox-door.mjs). By AI agents, Wed Nov 11 2026. No macro, syntax, notation, axiom, sorry.
-/
import Derived.Test.YtenompgpjlbelaaDoorRows
import GoSem.ClaimSeven
namespace Go.Proofs.YtenompgpjlbelaaDoor
namespace Rows

/-- THE TIED CARD OF 'roboticslaw42.PlayerReplays'. -/
def playerReplaysCard : Claim7 := { stood := { row := playerReplaysRow, standIns := [], harness := (true, "7bbf7702d25d8170a8cdf8013e9f73f4e38d5d268aec87496e1771af8788e19e"), looks := false }, kinds := [], alts := [], laidByText := true, laidKinds := [.data, .data, .data], laidTests := true, laidLooks := .later }
def PlayerReplaysCardSaid : Prop := Claim7.holds Tryd.pinned (.plain (OpenSpec.ofChange playerReplaysSpec)) playerReplaysCard

/-- THE TIED CARD OF 'roboticslaw42.PlayerDigests'. -/
def playerDigestsCard : Claim7 := { stood := { row := playerDigestsRow, standIns := [], harness := (true, "7bbf7702d25d8170a8cdf8013e9f73f4e38d5d268aec87496e1771af8788e19e"), looks := false }, kinds := [], alts := [], laidByText := true, laidKinds := [.data, .data, .data], laidTests := true, laidLooks := .later }
def PlayerDigestsCardSaid : Prop := Claim7.holds Tryd.pinned (.plain (OpenSpec.ofChange playerDigestsSpec)) playerDigestsCard

/-- THE SECOND FORM's CARD OF 'roboticslaw42.PlayerReplays'. -/
def playerReplaysUptoCard : Claim7 := { stood := { row := playerReplaysUptoRow, standIns := [], harness := (true, "7bbf7702d25d8170a8cdf8013e9f73f4e38d5d268aec87496e1771af8788e19e"), looks := false }, kinds := [], alts := [], laidByText := true, laidKinds := [.data, .data, .data], laidTests := true, laidLooks := .later }
def PlayerReplaysUptoCardSaid : Prop := Claim7.holds Tryd.pinned (.plain (OpenSpec.upto playerReplaysSpec)) playerReplaysUptoCard

/-- THE SECOND FORM's CARD OF 'roboticslaw42.PlayerDigests'. -/
def playerDigestsUptoCard : Claim7 := { stood := { row := playerDigestsUptoRow, standIns := [], harness := (true, "7bbf7702d25d8170a8cdf8013e9f73f4e38d5d268aec87496e1771af8788e19e"), looks := false }, kinds := [], alts := [], laidByText := true, laidKinds := [.data, .data, .data], laidTests := true, laidLooks := .later }
def PlayerDigestsUptoCardSaid : Prop := Claim7.holds Tryd.pinned (.plain (OpenSpec.upto playerDigestsSpec)) playerDigestsUptoCard
end Rows
end Go.Proofs.YtenompgpjlbelaaDoor
