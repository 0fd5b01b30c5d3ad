/-
  No cell of these rows narrows 'for every input' (looked for: loops, veiled, ifaces, maps, wideKeys, modest, calm, conditions, laid).
  DERIVED. THE GIVEN ROWS OF THIS SEAT. 3 by the template 'for every input the law returns true; each argument reads behind the call as it read before'; 0 by the template 'total and deterministic' (their statements: YtjaccepmnjkbbaaTotals.lean).
  GIVEN WITH THE SEED: the statements are not yours to turn. If you find one false, say at which input.
  Laid BY PROGRAM, IN A SANDBOX (cutbox-rows.mjs): the forced cells as the released guide's own fill.sh prints them over the translation 6a397983fe596648… (all of the seat's roots in one cut). By AI agents, Wed Nov 11 2026. No macro, syntax, notation, axiom, sorry.
-/
import Derived.Test.YtjaccepmnjkbbaaChecked
import GoSem.Claim
import GoSem.ClaimJoined
import GoSem.ClaimMapViews
import Derived.JoinedTies
import Derived.KernelRfl
namespace Go.Proofs.Ytjaccepmnjkbbaa
/- THE CELL 'sum', in the pinned program and in every row, IS THE sha256 OF THE DUMP (.gsa) THAT YtjaccepmnjkbbaaProg.lean LOADS. Nothing in Lean hashes anything: it is a label: what it is worth is what the hold of that sum in a sandbox is worth. -/
noncomputable def Try.pinned : Pinned := { name := "ytjaccepmnjkbbaa", sum := "6a397983fe59664868537af7a3ea3a1bd55b6d74b98c57f5ea144a2a310eca4e", checked := Try.checked }
namespace Rows
def none {H : Type} : Left H := { results := [], args := [] }

/-- 'roboticslaw50.SeparationSound': WHATEVER THE INPUT: true; the input reads as it did. -/
def separationSoundSpec : ChangeSpec := { name := "separationSound", fn := fun _ => fun
  | [d1, d2, d3] => { results := [.lit (.bool true)], args := [d1, d2, d3] }
  | _ => none }
def separationSoundRow : OpenClaim := { program := "ytjaccepmnjkbbaa", sum := "6a397983fe59664868537af7a3ea3a1bd55b6d74b98c57f5ea144a2a310eca4e", func := "robotics/roboticslaw50.SeparationSound", spec := "separationSound", recurses := true, apart := false }
def SeparationSoundSaid : Prop := separationSoundRow.holds Try.pinned (OpenSpec.ofChange separationSoundSpec)

/-- ITS FALSE NEIGHBOUR: 'it returns false'. Refute it at one input. -/
def separationSoundWrong : ChangeSpec := { name := "separationSound", fn := fun _ => fun
  | [d1, d2, d3] => { results := [.lit (.bool false)], args := [d1, d2, d3] }
  | _ => none }
def SeparationSoundWrongFalsely : Prop := separationSoundRow.holds Try.pinned (OpenSpec.ofChange separationSoundWrong)

/-- 'roboticslaw50.SeparationRefuses': WHATEVER THE INPUT: true; the input reads as it did. -/
def separationRefusesSpec : ChangeSpec := { name := "separationRefuses", fn := fun _ => fun
  | [d1, d2, d3] => { results := [.lit (.bool true)], args := [d1, d2, d3] }
  | _ => none }
def separationRefusesRow : OpenClaim := { program := "ytjaccepmnjkbbaa", sum := "6a397983fe59664868537af7a3ea3a1bd55b6d74b98c57f5ea144a2a310eca4e", func := "robotics/roboticslaw50.SeparationRefuses", spec := "separationRefuses", recurses := true, apart := false }
def SeparationRefusesSaid : Prop := separationRefusesRow.holds Try.pinned (OpenSpec.ofChange separationRefusesSpec)

/-- ITS FALSE NEIGHBOUR: 'it returns false'. Refute it at one input. -/
def separationRefusesWrong : ChangeSpec := { name := "separationRefuses", fn := fun _ => fun
  | [d1, d2, d3] => { results := [.lit (.bool false)], args := [d1, d2, d3] }
  | _ => none }
def SeparationRefusesWrongFalsely : Prop := separationRefusesRow.holds Try.pinned (OpenSpec.ofChange separationRefusesWrong)

/-- 'roboticslaw50.SeparationPlays': WHATEVER THE INPUT: true; the input reads as it did. -/
def separationPlaysSpec : ChangeSpec := { name := "separationPlays", fn := fun _ => fun
  | [d1, d2, d3] => { results := [.lit (.bool true)], args := [d1, d2, d3] }
  | _ => none }
def separationPlaysRow : OpenClaim := { program := "ytjaccepmnjkbbaa", sum := "6a397983fe59664868537af7a3ea3a1bd55b6d74b98c57f5ea144a2a310eca4e", func := "robotics/roboticslaw50.SeparationPlays", spec := "separationPlays", recurses := true, apart := false }
def SeparationPlaysSaid : Prop := separationPlaysRow.holds Try.pinned (OpenSpec.ofChange separationPlaysSpec)

/-- ITS FALSE NEIGHBOUR: 'it returns false'. Refute it at one input. -/
def separationPlaysWrong : ChangeSpec := { name := "separationPlays", fn := fun _ => fun
  | [d1, d2, d3] => { results := [.lit (.bool false)], args := [d1, d2, d3] }
  | _ => none }
def SeparationPlaysWrongFalsely : Prop := separationPlaysRow.holds Try.pinned (OpenSpec.ofChange separationPlaysWrong)

/- THE SECOND FORM. 'bulk': how many values and letters a reading holds, each counted each time it is reached (what is shared counts as often as it is met; a slice's spare places count too). A statement '..UptoSaid' is the law's where the arguments, and the package variables that the reading takes, are together of bulk at most 1048576: NARROWER than '..Said'. Prove '..Said' where nothing that the law and all that it calls make is longer than what came in: it says more and counts as full. Else prove '..UptoSaid'. A law counts once. -/
mutual
def uptoBulk {H : Type} : DataW H → Nat
  | .lit (.string bytes) => bytes.length + 1
  | .lit _ => 1
  | .nil => 1
  | .ptr d => uptoBulk d + 1
  | .slice elems spare => uptoBulkAll elems + uptoBulkAll spare + 1
  | .agg parts => uptoBulkAll parts + 1
  | .iface _ d => uptoBulk d + 1
  | .map entries => uptoBulkEntries entries + 1
  | .held _ => 1
def uptoBulkAll {H : Type} : List (DataW H) → Nat
  | [] => 0
  | d :: r => uptoBulk d + uptoBulkAll r
def uptoBulkEntries {H : Type} : List (Lit × DataW H) → Nat
  | [] => 0
  | x :: r => uptoBulkEntry x + uptoBulkEntries r
def uptoBulkEntry {H : Type} : Lit × DataW H → Nat
  | (.string bytes, d) => bytes.length + uptoBulk d + 1
  | (_, d) => uptoBulk d + 1
 end
def uptoSmall : (H : Type) → List (DataW H) → Bool := fun _ ds => decide (uptoBulkAll ds ≤ 1048576)
def OpenSpec.upto (s : _root_.Go.ChangeSpec) : _root_.Go.OpenSpec := { _root_.Go.OpenSpec.ofChange s with cond := some uptoSmall }

/-- 'roboticslaw50.SeparationSound', WHERE WHAT IT READS IS OF BULK AT MOST 1048576: true; the input reads as it did. -/
def separationSoundUptoRow : OpenClaim := { program := "ytjaccepmnjkbbaa", sum := "6a397983fe59664868537af7a3ea3a1bd55b6d74b98c57f5ea144a2a310eca4e", func := "robotics/roboticslaw50.SeparationSound", spec := "separationSound", recurses := true, apart := false, narrowed := true }
def SeparationSoundUptoSaid : Prop := separationSoundUptoRow.holds Try.pinned (OpenSpec.upto separationSoundSpec)

/-- 'roboticslaw50.SeparationRefuses', WHERE WHAT IT READS IS OF BULK AT MOST 1048576: true; the input reads as it did. -/
def separationRefusesUptoRow : OpenClaim := { program := "ytjaccepmnjkbbaa", sum := "6a397983fe59664868537af7a3ea3a1bd55b6d74b98c57f5ea144a2a310eca4e", func := "robotics/roboticslaw50.SeparationRefuses", spec := "separationRefuses", recurses := true, apart := false, narrowed := true }
def SeparationRefusesUptoSaid : Prop := separationRefusesUptoRow.holds Try.pinned (OpenSpec.upto separationRefusesSpec)

/-- 'roboticslaw50.SeparationPlays', WHERE WHAT IT READS IS OF BULK AT MOST 1048576: true; the input reads as it did. -/
def separationPlaysUptoRow : OpenClaim := { program := "ytjaccepmnjkbbaa", sum := "6a397983fe59664868537af7a3ea3a1bd55b6d74b98c57f5ea144a2a310eca4e", func := "robotics/roboticslaw50.SeparationPlays", spec := "separationPlays", recurses := true, apart := false, narrowed := true }
def SeparationPlaysUptoSaid : Prop := separationPlaysUptoRow.holds Try.pinned (OpenSpec.upto separationPlaysSpec)

end Rows
end Go.Proofs.Ytjaccepmnjkbbaa
