/-
  No cell of these rows narrows 'for every input' (looked for: loops, veiled, ifaces, maps, wideKeys, modest, calm, conditions, laid).
  DERIVED. THE GIVEN ROWS OF THIS SEAT. 7 by the template 'for every input the law returns true; each argument reads behind the call as it read before'; 0 by the template 'total and deterministic' (their statements: YtgaodeffbgppmaaTotals.lean).
  GIVEN WITH THE SEED: the statements are not yours to turn. If you find one false, say at which input.
  Laid BY PROGRAM, IN A SANDBOX (cutbox-rows.mjs): the forced cells as the released guide's own fill.sh prints them over the translation f97629c1573c4546… (all of the seat's roots in one cut). By AI agents, Wed Nov 11 2026. No macro, syntax, notation, axiom, sorry.
-/
import Derived.Test.YtgaodeffbgppmaaChecked
import GoSem.Claim
import GoSem.ClaimJoined
import GoSem.ClaimMapViews
import Derived.JoinedTies
import Derived.KernelRfl
namespace Go.Proofs.Ytgaodeffbgppmaa
/- THE CELL 'sum', in the pinned program and in every row, IS THE sha256 OF THE DUMP (.gsa) THAT YtgaodeffbgppmaaProg.lean LOADS. Nothing in Lean hashes anything: it is a label: what it is worth is what the hold of that sum in a sandbox is worth. -/
noncomputable def Try.pinned : Pinned := { name := "ytgaodeffbgppmaa", sum := "f97629c1573c45460bac2f0b33aa0f1ee3de8f9a7e71b808d4fd563bbd72bdda", checked := Try.checked }
namespace Rows
def none {H : Type} : Left H := { results := [], args := [] }

/-- 'roboticslaw15.PacketGathers': WHATEVER THE INPUT: true; the input reads as it did. -/
def packetGathersSpec : ChangeSpec := { name := "packetGathers", fn := fun _ => fun
  | [d1, d2] => { results := [.lit (.bool true)], args := [d1, d2] }
  | _ => none }
def packetGathersRow : OpenClaim := { program := "ytgaodeffbgppmaa", sum := "f97629c1573c45460bac2f0b33aa0f1ee3de8f9a7e71b808d4fd563bbd72bdda", func := "robotics/roboticslaw15.PacketGathers", spec := "packetGathers", unfollowed := true, recurses := true, apart := false }
def PacketGathersSaid : Prop := packetGathersRow.holds Try.pinned (OpenSpec.ofChange packetGathersSpec)

/-- ITS FALSE NEIGHBOUR: 'it returns false'. Refute it at one input. -/
def packetGathersWrong : ChangeSpec := { name := "packetGathers", fn := fun _ => fun
  | [d1, d2] => { results := [.lit (.bool false)], args := [d1, d2] }
  | _ => none }
def PacketGathersWrongFalsely : Prop := packetGathersRow.holds Try.pinned (OpenSpec.ofChange packetGathersWrong)

/-- 'roboticslaw15.PacketAssembles': WHATEVER THE INPUT: true; the input reads as it did. -/
def packetAssemblesSpec : ChangeSpec := { name := "packetAssembles", fn := fun _ => fun
  | [d1, d2, d3] => { results := [.lit (.bool true)], args := [d1, d2, d3] }
  | _ => none }
def packetAssemblesRow : OpenClaim := { program := "ytgaodeffbgppmaa", sum := "f97629c1573c45460bac2f0b33aa0f1ee3de8f9a7e71b808d4fd563bbd72bdda", func := "robotics/roboticslaw15.PacketAssembles", spec := "packetAssembles", unfollowed := true, recurses := true, apart := false }
def PacketAssemblesSaid : Prop := packetAssemblesRow.holds Try.pinned (OpenSpec.ofChange packetAssemblesSpec)

/-- ITS FALSE NEIGHBOUR: 'it returns false'. Refute it at one input. -/
def packetAssemblesWrong : ChangeSpec := { name := "packetAssembles", fn := fun _ => fun
  | [d1, d2, d3] => { results := [.lit (.bool false)], args := [d1, d2, d3] }
  | _ => none }
def PacketAssemblesWrongFalsely : Prop := packetAssemblesRow.holds Try.pinned (OpenSpec.ofChange packetAssemblesWrong)

/-- 'roboticslaw15.PacketCodes': WHATEVER THE INPUT: true; the input reads as it did. -/
def packetCodesSpec : ChangeSpec := { name := "packetCodes", fn := fun _ => fun
  | [d1, d2] => { results := [.lit (.bool true)], args := [d1, d2] }
  | _ => none }
def packetCodesRow : OpenClaim := { program := "ytgaodeffbgppmaa", sum := "f97629c1573c45460bac2f0b33aa0f1ee3de8f9a7e71b808d4fd563bbd72bdda", func := "robotics/roboticslaw15.PacketCodes", spec := "packetCodes", unfollowed := true, recurses := true, apart := false }
def PacketCodesSaid : Prop := packetCodesRow.holds Try.pinned (OpenSpec.ofChange packetCodesSpec)

/-- ITS FALSE NEIGHBOUR: 'it returns false'. Refute it at one input. -/
def packetCodesWrong : ChangeSpec := { name := "packetCodes", fn := fun _ => fun
  | [d1, d2] => { results := [.lit (.bool false)], args := [d1, d2] }
  | _ => none }
def PacketCodesWrongFalsely : Prop := packetCodesRow.holds Try.pinned (OpenSpec.ofChange packetCodesWrong)

/-- 'roboticslaw15.PacketUnframes': WHATEVER THE INPUT: true; the input reads as it did. -/
def packetUnframesSpec : ChangeSpec := { name := "packetUnframes", fn := fun _ => fun
  | [d1, d2] => { results := [.lit (.bool true)], args := [d1, d2] }
  | _ => none }
def packetUnframesRow : OpenClaim := { program := "ytgaodeffbgppmaa", sum := "f97629c1573c45460bac2f0b33aa0f1ee3de8f9a7e71b808d4fd563bbd72bdda", func := "robotics/roboticslaw15.PacketUnframes", spec := "packetUnframes", unfollowed := true, recurses := true, apart := false }
def PacketUnframesSaid : Prop := packetUnframesRow.holds Try.pinned (OpenSpec.ofChange packetUnframesSpec)

/-- ITS FALSE NEIGHBOUR: 'it returns false'. Refute it at one input. -/
def packetUnframesWrong : ChangeSpec := { name := "packetUnframes", fn := fun _ => fun
  | [d1, d2] => { results := [.lit (.bool false)], args := [d1, d2] }
  | _ => none }
def PacketUnframesWrongFalsely : Prop := packetUnframesRow.holds Try.pinned (OpenSpec.ofChange packetUnframesWrong)

/-- 'roboticslaw15.PacketSplits': WHATEVER THE INPUT: true; the input reads as it did. -/
def packetSplitsSpec : ChangeSpec := { name := "packetSplits", fn := fun _ => fun
  | [d1, d2, d3] => { results := [.lit (.bool true)], args := [d1, d2, d3] }
  | _ => none }
def packetSplitsRow : OpenClaim := { program := "ytgaodeffbgppmaa", sum := "f97629c1573c45460bac2f0b33aa0f1ee3de8f9a7e71b808d4fd563bbd72bdda", func := "robotics/roboticslaw15.PacketSplits", spec := "packetSplits", unfollowed := true, recurses := true, apart := false }
def PacketSplitsSaid : Prop := packetSplitsRow.holds Try.pinned (OpenSpec.ofChange packetSplitsSpec)

/-- ITS FALSE NEIGHBOUR: 'it returns false'. Refute it at one input. -/
def packetSplitsWrong : ChangeSpec := { name := "packetSplits", fn := fun _ => fun
  | [d1, d2, d3] => { results := [.lit (.bool false)], args := [d1, d2, d3] }
  | _ => none }
def PacketSplitsWrongFalsely : Prop := packetSplitsRow.holds Try.pinned (OpenSpec.ofChange packetSplitsWrong)

/-- 'roboticslaw15.PacketOnly': WHATEVER THE INPUT: true; the input reads as it did. -/
def packetOnlySpec : ChangeSpec := { name := "packetOnly", fn := fun _ => fun
  | [d] => { results := [.lit (.bool true)], args := [d] }
  | _ => none }
def packetOnlyRow : OpenClaim := { program := "ytgaodeffbgppmaa", sum := "f97629c1573c45460bac2f0b33aa0f1ee3de8f9a7e71b808d4fd563bbd72bdda", func := "robotics/roboticslaw15.PacketOnly", spec := "packetOnly", unfollowed := true, recurses := true, apart := false }
def PacketOnlySaid : Prop := packetOnlyRow.holds Try.pinned (OpenSpec.ofChange packetOnlySpec)

/-- ITS FALSE NEIGHBOUR: 'it returns false'. Refute it at one input. -/
def packetOnlyWrong : ChangeSpec := { name := "packetOnly", fn := fun _ => fun
  | [d] => { results := [.lit (.bool false)], args := [d] }
  | _ => none }
def PacketOnlyWrongFalsely : Prop := packetOnlyRow.holds Try.pinned (OpenSpec.ofChange packetOnlyWrong)

/-- 'roboticslaw15.PacketTravels': WHATEVER THE INPUT: true; the input reads as it did. -/
def packetTravelsSpec : ChangeSpec := { name := "packetTravels", fn := fun _ => fun
  | [d1, d2, d3] => { results := [.lit (.bool true)], args := [d1, d2, d3] }
  | _ => none }
def packetTravelsRow : OpenClaim := { program := "ytgaodeffbgppmaa", sum := "f97629c1573c45460bac2f0b33aa0f1ee3de8f9a7e71b808d4fd563bbd72bdda", func := "robotics/roboticslaw15.PacketTravels", spec := "packetTravels", unfollowed := true, recurses := true, apart := false }
def PacketTravelsSaid : Prop := packetTravelsRow.holds Try.pinned (OpenSpec.ofChange packetTravelsSpec)

/-- ITS FALSE NEIGHBOUR: 'it returns false'. Refute it at one input. -/
def packetTravelsWrong : ChangeSpec := { name := "packetTravels", fn := fun _ => fun
  | [d1, d2, d3] => { results := [.lit (.bool false)], args := [d1, d2, d3] }
  | _ => none }
def PacketTravelsWrongFalsely : Prop := packetTravelsRow.holds Try.pinned (OpenSpec.ofChange packetTravelsWrong)

/- THE SECOND FORM. 'bulk': how many values and letters a reading holds, each counted each time it is reached (what is shared counts as often as it is met; a slice's spare places count too). A statement '..UptoSaid' is the law's where the arguments, and the package variables that the reading takes, are together of bulk at most 1048576: NARROWER than '..Said'. Prove '..Said' where nothing that the law and all that it calls make is longer than what came in: it says more and counts as full. Else prove '..UptoSaid'. A law counts once. -/
mutual
def uptoBulk {H : Type} : DataW H → Nat
  | .lit (.string bytes) => bytes.length + 1
  | .lit _ => 1
  | .nil => 1
  | .ptr d => uptoBulk d + 1
  | .slice elems spare => uptoBulkAll elems + uptoBulkAll spare + 1
  | .agg parts => uptoBulkAll parts + 1
  | .iface _ d => uptoBulk d + 1
  | .map entries => uptoBulkEntries entries + 1
  | .held _ => 1
def uptoBulkAll {H : Type} : List (DataW H) → Nat
  | [] => 0
  | d :: r => uptoBulk d + uptoBulkAll r
def uptoBulkEntries {H : Type} : List (Lit × DataW H) → Nat
  | [] => 0
  | x :: r => uptoBulkEntry x + uptoBulkEntries r
def uptoBulkEntry {H : Type} : Lit × DataW H → Nat
  | (.string bytes, d) => bytes.length + uptoBulk d + 1
  | (_, d) => uptoBulk d + 1
 end
def uptoSmall : (H : Type) → List (DataW H) → Bool := fun _ ds => decide (uptoBulkAll ds ≤ 1048576)
def OpenSpec.upto (s : _root_.Go.ChangeSpec) : _root_.Go.OpenSpec := { _root_.Go.OpenSpec.ofChange s with cond := some uptoSmall }

/-- 'roboticslaw15.PacketGathers', WHERE WHAT IT READS IS OF BULK AT MOST 1048576: true; the input reads as it did. -/
def packetGathersUptoRow : OpenClaim := { program := "ytgaodeffbgppmaa", sum := "f97629c1573c45460bac2f0b33aa0f1ee3de8f9a7e71b808d4fd563bbd72bdda", func := "robotics/roboticslaw15.PacketGathers", spec := "packetGathers", unfollowed := true, recurses := true, apart := false, narrowed := true }
def PacketGathersUptoSaid : Prop := packetGathersUptoRow.holds Try.pinned (OpenSpec.upto packetGathersSpec)

/-- 'roboticslaw15.PacketAssembles', WHERE WHAT IT READS IS OF BULK AT MOST 1048576: true; the input reads as it did. -/
def packetAssemblesUptoRow : OpenClaim := { program := "ytgaodeffbgppmaa", sum := "f97629c1573c45460bac2f0b33aa0f1ee3de8f9a7e71b808d4fd563bbd72bdda", func := "robotics/roboticslaw15.PacketAssembles", spec := "packetAssembles", unfollowed := true, recurses := true, apart := false, narrowed := true }
def PacketAssemblesUptoSaid : Prop := packetAssemblesUptoRow.holds Try.pinned (OpenSpec.upto packetAssemblesSpec)

/-- 'roboticslaw15.PacketCodes', WHERE WHAT IT READS IS OF BULK AT MOST 1048576: true; the input reads as it did. -/
def packetCodesUptoRow : OpenClaim := { program := "ytgaodeffbgppmaa", sum := "f97629c1573c45460bac2f0b33aa0f1ee3de8f9a7e71b808d4fd563bbd72bdda", func := "robotics/roboticslaw15.PacketCodes", spec := "packetCodes", unfollowed := true, recurses := true, apart := false, narrowed := true }
def PacketCodesUptoSaid : Prop := packetCodesUptoRow.holds Try.pinned (OpenSpec.upto packetCodesSpec)

/-- 'roboticslaw15.PacketUnframes', WHERE WHAT IT READS IS OF BULK AT MOST 1048576: true; the input reads as it did. -/
def packetUnframesUptoRow : OpenClaim := { program := "ytgaodeffbgppmaa", sum := "f97629c1573c45460bac2f0b33aa0f1ee3de8f9a7e71b808d4fd563bbd72bdda", func := "robotics/roboticslaw15.PacketUnframes", spec := "packetUnframes", unfollowed := true, recurses := true, apart := false, narrowed := true }
def PacketUnframesUptoSaid : Prop := packetUnframesUptoRow.holds Try.pinned (OpenSpec.upto packetUnframesSpec)

/-- 'roboticslaw15.PacketSplits', WHERE WHAT IT READS IS OF BULK AT MOST 1048576: true; the input reads as it did. -/
def packetSplitsUptoRow : OpenClaim := { program := "ytgaodeffbgppmaa", sum := "f97629c1573c45460bac2f0b33aa0f1ee3de8f9a7e71b808d4fd563bbd72bdda", func := "robotics/roboticslaw15.PacketSplits", spec := "packetSplits", unfollowed := true, recurses := true, apart := false, narrowed := true }
def PacketSplitsUptoSaid : Prop := packetSplitsUptoRow.holds Try.pinned (OpenSpec.upto packetSplitsSpec)

/-- 'roboticslaw15.PacketOnly', WHERE WHAT IT READS IS OF BULK AT MOST 1048576: true; the input reads as it did. -/
def packetOnlyUptoRow : OpenClaim := { program := "ytgaodeffbgppmaa", sum := "f97629c1573c45460bac2f0b33aa0f1ee3de8f9a7e71b808d4fd563bbd72bdda", func := "robotics/roboticslaw15.PacketOnly", spec := "packetOnly", unfollowed := true, recurses := true, apart := false, narrowed := true }
def PacketOnlyUptoSaid : Prop := packetOnlyUptoRow.holds Try.pinned (OpenSpec.upto packetOnlySpec)

/-- 'roboticslaw15.PacketTravels', WHERE WHAT IT READS IS OF BULK AT MOST 1048576: true; the input reads as it did. -/
def packetTravelsUptoRow : OpenClaim := { program := "ytgaodeffbgppmaa", sum := "f97629c1573c45460bac2f0b33aa0f1ee3de8f9a7e71b808d4fd563bbd72bdda", func := "robotics/roboticslaw15.PacketTravels", spec := "packetTravels", unfollowed := true, recurses := true, apart := false, narrowed := true }
def PacketTravelsUptoSaid : Prop := packetTravelsUptoRow.holds Try.pinned (OpenSpec.upto packetTravelsSpec)

end Rows
end Go.Proofs.Ytgaodeffbgppmaa
