/-
  No cell of these rows narrows 'for every input' (looked for: loops, veiled, ifaces, maps, wideKeys, modest, calm, conditions, laid).
  DERIVED. THE GIVEN ROWS OF THIS SEAT. 6 by the template 'for every input the law returns true; each argument reads behind the call as it read before'; 0 by the template 'total and deterministic' (their statements: YtkjkbpnhocjenaaTotals.lean).
  GIVEN WITH THE SEED: the statements are not yours to turn. If you find one false, say at which input.
  Laid BY PROGRAM, IN A SANDBOX (cutbox-rows.mjs): the forced cells as the released guide's own fill.sh prints them over the translation 0c8011179743019b… (all of the seat's roots in one cut). By AI agents, Wed Nov 11 2026. No macro, syntax, notation, axiom, sorry.
-/
import Derived.Test.YtkjkbpnhocjenaaChecked
import GoSem.Claim
import GoSem.ClaimJoined
import GoSem.ClaimMapViews
import Derived.JoinedTies
import Derived.KernelRfl
namespace Go.Proofs.Ytkjkbpnhocjenaa
/- THE CELL 'sum', in the pinned program and in every row, IS THE sha256 OF THE DUMP (.gsa) THAT YtkjkbpnhocjenaaProg.lean LOADS. Nothing in Lean hashes anything: it is a label: what it is worth is what the hold of that sum in a sandbox is worth. -/
noncomputable def Try.pinned : Pinned := { name := "ytkjkbpnhocjenaa", sum := "0c8011179743019b2931e2b6ca3a15d4691b32d00360f4c5fca8368666fbbad6", checked := Try.checked }
namespace Rows
def none {H : Type} : Left H := { results := [], args := [] }

/-- 'roboticslaw41.BagWrites': WHATEVER THE INPUT: true; the input reads as it did. -/
def bagWritesSpec : ChangeSpec := { name := "bagWrites", fn := fun _ => fun
  | [d1, d2] => { results := [.lit (.bool true)], args := [d1, d2] }
  | _ => none }
def bagWritesRow : OpenClaim := { program := "ytkjkbpnhocjenaa", sum := "0c8011179743019b2931e2b6ca3a15d4691b32d00360f4c5fca8368666fbbad6", func := "robotics/roboticslaw41.BagWrites", spec := "bagWrites", unfollowed := true, recurses := true, apart := false }
def BagWritesSaid : Prop := bagWritesRow.holds Try.pinned (OpenSpec.ofChange bagWritesSpec)

/-- ITS FALSE NEIGHBOUR: 'it returns false'. Refute it at one input. -/
def bagWritesWrong : ChangeSpec := { name := "bagWrites", fn := fun _ => fun
  | [d1, d2] => { results := [.lit (.bool false)], args := [d1, d2] }
  | _ => none }
def BagWritesWrongFalsely : Prop := bagWritesRow.holds Try.pinned (OpenSpec.ofChange bagWritesWrong)

/-- 'roboticslaw41.BagCounts': WHATEVER THE INPUT: true; the input reads as it did. -/
def bagCountsSpec : ChangeSpec := { name := "bagCounts", fn := fun _ => fun
  | [d1, d2] => { results := [.lit (.bool true)], args := [d1, d2] }
  | _ => none }
def bagCountsRow : OpenClaim := { program := "ytkjkbpnhocjenaa", sum := "0c8011179743019b2931e2b6ca3a15d4691b32d00360f4c5fca8368666fbbad6", func := "robotics/roboticslaw41.BagCounts", spec := "bagCounts", unfollowed := true, recurses := true, apart := false }
def BagCountsSaid : Prop := bagCountsRow.holds Try.pinned (OpenSpec.ofChange bagCountsSpec)

/-- ITS FALSE NEIGHBOUR: 'it returns false'. Refute it at one input. -/
def bagCountsWrong : ChangeSpec := { name := "bagCounts", fn := fun _ => fun
  | [d1, d2] => { results := [.lit (.bool false)], args := [d1, d2] }
  | _ => none }
def BagCountsWrongFalsely : Prop := bagCountsRow.holds Try.pinned (OpenSpec.ofChange bagCountsWrong)

/-- 'roboticslaw41.BagOpens': WHATEVER THE INPUT: true; the input reads as it did. -/
def bagOpensSpec : ChangeSpec := { name := "bagOpens", fn := fun _ => fun
  | [d1, d2, d3, d4] => { results := [.lit (.bool true)], args := [d1, d2, d3, d4] }
  | _ => none }
def bagOpensRow : OpenClaim := { program := "ytkjkbpnhocjenaa", sum := "0c8011179743019b2931e2b6ca3a15d4691b32d00360f4c5fca8368666fbbad6", func := "robotics/roboticslaw41.BagOpens", spec := "bagOpens", unfollowed := true, recurses := true, apart := false }
def BagOpensSaid : Prop := bagOpensRow.holds Try.pinned (OpenSpec.ofChange bagOpensSpec)

/-- ITS FALSE NEIGHBOUR: 'it returns false'. Refute it at one input. -/
def bagOpensWrong : ChangeSpec := { name := "bagOpens", fn := fun _ => fun
  | [d1, d2, d3, d4] => { results := [.lit (.bool false)], args := [d1, d2, d3, d4] }
  | _ => none }
def BagOpensWrongFalsely : Prop := bagOpensRow.holds Try.pinned (OpenSpec.ofChange bagOpensWrong)

/-- 'roboticslaw41.BagReads': WHATEVER THE INPUT: true; the input reads as it did. -/
def bagReadsSpec : ChangeSpec := { name := "bagReads", fn := fun _ => fun
  | [d1, d2, d3, d4, d5] => { results := [.lit (.bool true)], args := [d1, d2, d3, d4, d5] }
  | _ => none }
def bagReadsRow : OpenClaim := { program := "ytkjkbpnhocjenaa", sum := "0c8011179743019b2931e2b6ca3a15d4691b32d00360f4c5fca8368666fbbad6", func := "robotics/roboticslaw41.BagReads", spec := "bagReads", unfollowed := true, recurses := true, apart := false }
def BagReadsSaid : Prop := bagReadsRow.holds Try.pinned (OpenSpec.ofChange bagReadsSpec)

/-- ITS FALSE NEIGHBOUR: 'it returns false'. Refute it at one input. -/
def bagReadsWrong : ChangeSpec := { name := "bagReads", fn := fun _ => fun
  | [d1, d2, d3, d4, d5] => { results := [.lit (.bool false)], args := [d1, d2, d3, d4, d5] }
  | _ => none }
def BagReadsWrongFalsely : Prop := bagReadsRow.holds Try.pinned (OpenSpec.ofChange bagReadsWrong)

/-- 'roboticslaw41.BagNobody': WHATEVER THE INPUT: true; the input reads as it did. -/
def bagNobodySpec : ChangeSpec := { name := "bagNobody", fn := fun _ => fun
  | [d1, d2, d3] => { results := [.lit (.bool true)], args := [d1, d2, d3] }
  | _ => none }
def bagNobodyRow : OpenClaim := { program := "ytkjkbpnhocjenaa", sum := "0c8011179743019b2931e2b6ca3a15d4691b32d00360f4c5fca8368666fbbad6", func := "robotics/roboticslaw41.BagNobody", spec := "bagNobody", unfollowed := true, recurses := true, apart := false }
def BagNobodySaid : Prop := bagNobodyRow.holds Try.pinned (OpenSpec.ofChange bagNobodySpec)

/-- ITS FALSE NEIGHBOUR: 'it returns false'. Refute it at one input. -/
def bagNobodyWrong : ChangeSpec := { name := "bagNobody", fn := fun _ => fun
  | [d1, d2, d3] => { results := [.lit (.bool false)], args := [d1, d2, d3] }
  | _ => none }
def BagNobodyWrongFalsely : Prop := bagNobodyRow.holds Try.pinned (OpenSpec.ofChange bagNobodyWrong)

/-- 'roboticslaw41.BagRepairs': WHATEVER THE INPUT: true; the input reads as it did. -/
def bagRepairsSpec : ChangeSpec := { name := "bagRepairs", fn := fun _ => fun
  | [d] => { results := [.lit (.bool true)], args := [d] }
  | _ => none }
def bagRepairsRow : OpenClaim := { program := "ytkjkbpnhocjenaa", sum := "0c8011179743019b2931e2b6ca3a15d4691b32d00360f4c5fca8368666fbbad6", func := "robotics/roboticslaw41.BagRepairs", spec := "bagRepairs", unfollowed := true, recurses := true, apart := false }
def BagRepairsSaid : Prop := bagRepairsRow.holds Try.pinned (OpenSpec.ofChange bagRepairsSpec)

/-- ITS FALSE NEIGHBOUR: 'it returns false'. Refute it at one input. -/
def bagRepairsWrong : ChangeSpec := { name := "bagRepairs", fn := fun _ => fun
  | [d] => { results := [.lit (.bool false)], args := [d] }
  | _ => none }
def BagRepairsWrongFalsely : Prop := bagRepairsRow.holds Try.pinned (OpenSpec.ofChange bagRepairsWrong)

/- THE SECOND FORM. 'bulk': how many values and letters a reading holds, each counted each time it is reached (what is shared counts as often as it is met; a slice's spare places count too). A statement '..UptoSaid' is the law's where the arguments, and the package variables that the reading takes, are together of bulk at most 1048576: NARROWER than '..Said'. Prove '..Said' where nothing that the law and all that it calls make is longer than what came in: it says more and counts as full. Else prove '..UptoSaid'. A law counts once. -/
mutual
def uptoBulk {H : Type} : DataW H → Nat
  | .lit (.string bytes) => bytes.length + 1
  | .lit _ => 1
  | .nil => 1
  | .ptr d => uptoBulk d + 1
  | .slice elems spare => uptoBulkAll elems + uptoBulkAll spare + 1
  | .agg parts => uptoBulkAll parts + 1
  | .iface _ d => uptoBulk d + 1
  | .map entries => uptoBulkEntries entries + 1
  | .held _ => 1
def uptoBulkAll {H : Type} : List (DataW H) → Nat
  | [] => 0
  | d :: r => uptoBulk d + uptoBulkAll r
def uptoBulkEntries {H : Type} : List (Lit × DataW H) → Nat
  | [] => 0
  | x :: r => uptoBulkEntry x + uptoBulkEntries r
def uptoBulkEntry {H : Type} : Lit × DataW H → Nat
  | (.string bytes, d) => bytes.length + uptoBulk d + 1
  | (_, d) => uptoBulk d + 1
 end
def uptoSmall : (H : Type) → List (DataW H) → Bool := fun _ ds => decide (uptoBulkAll ds ≤ 1048576)
def OpenSpec.upto (s : _root_.Go.ChangeSpec) : _root_.Go.OpenSpec := { _root_.Go.OpenSpec.ofChange s with cond := some uptoSmall }

/-- 'roboticslaw41.BagWrites', WHERE WHAT IT READS IS OF BULK AT MOST 1048576: true; the input reads as it did. -/
def bagWritesUptoRow : OpenClaim := { program := "ytkjkbpnhocjenaa", sum := "0c8011179743019b2931e2b6ca3a15d4691b32d00360f4c5fca8368666fbbad6", func := "robotics/roboticslaw41.BagWrites", spec := "bagWrites", unfollowed := true, recurses := true, apart := false, narrowed := true }
def BagWritesUptoSaid : Prop := bagWritesUptoRow.holds Try.pinned (OpenSpec.upto bagWritesSpec)

/-- 'roboticslaw41.BagCounts', WHERE WHAT IT READS IS OF BULK AT MOST 1048576: true; the input reads as it did. -/
def bagCountsUptoRow : OpenClaim := { program := "ytkjkbpnhocjenaa", sum := "0c8011179743019b2931e2b6ca3a15d4691b32d00360f4c5fca8368666fbbad6", func := "robotics/roboticslaw41.BagCounts", spec := "bagCounts", unfollowed := true, recurses := true, apart := false, narrowed := true }
def BagCountsUptoSaid : Prop := bagCountsUptoRow.holds Try.pinned (OpenSpec.upto bagCountsSpec)

/-- 'roboticslaw41.BagOpens', WHERE WHAT IT READS IS OF BULK AT MOST 1048576: true; the input reads as it did. -/
def bagOpensUptoRow : OpenClaim := { program := "ytkjkbpnhocjenaa", sum := "0c8011179743019b2931e2b6ca3a15d4691b32d00360f4c5fca8368666fbbad6", func := "robotics/roboticslaw41.BagOpens", spec := "bagOpens", unfollowed := true, recurses := true, apart := false, narrowed := true }
def BagOpensUptoSaid : Prop := bagOpensUptoRow.holds Try.pinned (OpenSpec.upto bagOpensSpec)

/-- 'roboticslaw41.BagReads', WHERE WHAT IT READS IS OF BULK AT MOST 1048576: true; the input reads as it did. -/
def bagReadsUptoRow : OpenClaim := { program := "ytkjkbpnhocjenaa", sum := "0c8011179743019b2931e2b6ca3a15d4691b32d00360f4c5fca8368666fbbad6", func := "robotics/roboticslaw41.BagReads", spec := "bagReads", unfollowed := true, recurses := true, apart := false, narrowed := true }
def BagReadsUptoSaid : Prop := bagReadsUptoRow.holds Try.pinned (OpenSpec.upto bagReadsSpec)

/-- 'roboticslaw41.BagNobody', WHERE WHAT IT READS IS OF BULK AT MOST 1048576: true; the input reads as it did. -/
def bagNobodyUptoRow : OpenClaim := { program := "ytkjkbpnhocjenaa", sum := "0c8011179743019b2931e2b6ca3a15d4691b32d00360f4c5fca8368666fbbad6", func := "robotics/roboticslaw41.BagNobody", spec := "bagNobody", unfollowed := true, recurses := true, apart := false, narrowed := true }
def BagNobodyUptoSaid : Prop := bagNobodyUptoRow.holds Try.pinned (OpenSpec.upto bagNobodySpec)

/-- 'roboticslaw41.BagRepairs', WHERE WHAT IT READS IS OF BULK AT MOST 1048576: true; the input reads as it did. -/
def bagRepairsUptoRow : OpenClaim := { program := "ytkjkbpnhocjenaa", sum := "0c8011179743019b2931e2b6ca3a15d4691b32d00360f4c5fca8368666fbbad6", func := "robotics/roboticslaw41.BagRepairs", spec := "bagRepairs", unfollowed := true, recurses := true, apart := false, narrowed := true }
def BagRepairsUptoSaid : Prop := bagRepairsUptoRow.holds Try.pinned (OpenSpec.upto bagRepairsSpec)

end Rows
end Go.Proofs.Ytkjkbpnhocjenaa
