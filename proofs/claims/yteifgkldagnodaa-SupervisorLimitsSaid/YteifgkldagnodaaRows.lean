/-
  No cell of these rows narrows 'for every input' (looked for: loops, veiled, ifaces, maps, wideKeys, modest, calm, conditions, laid).
  DERIVED. THE GIVEN ROWS OF THIS SEAT. 3 by the template 'for every input the law returns true; each argument reads behind the call as it read before'; 0 by the template 'total and deterministic' (their statements: YteifgkldagnodaaTotals.lean).
  GIVEN WITH THE SEED: the statements are not yours to turn. If you find one false, say at which input.
  Laid BY PROGRAM, IN A SANDBOX (cutbox-rows.mjs): the forced cells as the released guide's own fill.sh prints them over the translation b2054518561e1c15… (all of the seat's roots in one cut). By AI agents, Wed Nov 11 2026. No macro, syntax, notation, axiom, sorry.
-/
import Derived.Test.YteifgkldagnodaaChecked
import GoSem.Claim
import GoSem.ClaimJoined
import GoSem.ClaimMapViews
import Derived.JoinedTies
import Derived.KernelRfl
namespace Go.Proofs.Yteifgkldagnodaa
/- THE CELL 'sum', in the pinned program and in every row, IS THE sha256 OF THE DUMP (.gsa) THAT YteifgkldagnodaaProg.lean LOADS. Nothing in Lean hashes anything: it is a label: what it is worth is what the hold of that sum in a sandbox is worth. -/
noncomputable def Try.pinned : Pinned := { name := "yteifgkldagnodaa", sum := "b2054518561e1c1591fd9f2d093b58be36d9fdfa6f6d6382b5ea71f452ae0576", checked := Try.checked }
namespace Rows
def none {H : Type} : Left H := { results := [], args := [] }

/-- 'roboticslaw51.SupervisorLimits': WHATEVER THE INPUT: true; the input reads as it did. -/
def supervisorLimitsSpec : ChangeSpec := { name := "supervisorLimits", fn := fun _ => fun
  | [d1, d2, d3] => { results := [.lit (.bool true)], args := [d1, d2, d3] }
  | _ => none }
def supervisorLimitsRow : OpenClaim := { program := "yteifgkldagnodaa", sum := "b2054518561e1c1591fd9f2d093b58be36d9fdfa6f6d6382b5ea71f452ae0576", func := "robotics/roboticslaw51.SupervisorLimits", spec := "supervisorLimits", unfollowed := true, recurses := true, apart := false }
def SupervisorLimitsSaid : Prop := supervisorLimitsRow.holds Try.pinned (OpenSpec.ofChange supervisorLimitsSpec)

/-- ITS FALSE NEIGHBOUR: 'it returns false'. Refute it at one input. -/
def supervisorLimitsWrong : ChangeSpec := { name := "supervisorLimits", fn := fun _ => fun
  | [d1, d2, d3] => { results := [.lit (.bool false)], args := [d1, d2, d3] }
  | _ => none }
def SupervisorLimitsWrongFalsely : Prop := supervisorLimitsRow.holds Try.pinned (OpenSpec.ofChange supervisorLimitsWrong)

/-- 'roboticslaw51.SupervisorSilent': WHATEVER THE INPUT: true; the input reads as it did. -/
def supervisorSilentSpec : ChangeSpec := { name := "supervisorSilent", fn := fun _ => fun
  | [d1, d2] => { results := [.lit (.bool true)], args := [d1, d2] }
  | _ => none }
def supervisorSilentRow : OpenClaim := { program := "yteifgkldagnodaa", sum := "b2054518561e1c1591fd9f2d093b58be36d9fdfa6f6d6382b5ea71f452ae0576", func := "robotics/roboticslaw51.SupervisorSilent", spec := "supervisorSilent", unfollowed := true, recurses := true, apart := false }
def SupervisorSilentSaid : Prop := supervisorSilentRow.holds Try.pinned (OpenSpec.ofChange supervisorSilentSpec)

/-- ITS FALSE NEIGHBOUR: 'it returns false'. Refute it at one input. -/
def supervisorSilentWrong : ChangeSpec := { name := "supervisorSilent", fn := fun _ => fun
  | [d1, d2] => { results := [.lit (.bool false)], args := [d1, d2] }
  | _ => none }
def SupervisorSilentWrongFalsely : Prop := supervisorSilentRow.holds Try.pinned (OpenSpec.ofChange supervisorSilentWrong)

/-- 'roboticslaw51.SupervisorNil': WHATEVER THE INPUT: true; the input reads as it did. -/
def supervisorNilSpec : ChangeSpec := { name := "supervisorNil", fn := fun _ => fun
  | [d1, d2, d3] => { results := [.lit (.bool true)], args := [d1, d2, d3] }
  | _ => none }
def supervisorNilRow : OpenClaim := { program := "yteifgkldagnodaa", sum := "b2054518561e1c1591fd9f2d093b58be36d9fdfa6f6d6382b5ea71f452ae0576", func := "robotics/roboticslaw51.SupervisorNil", spec := "supervisorNil", unfollowed := true, recurses := true, apart := false }
def SupervisorNilSaid : Prop := supervisorNilRow.holds Try.pinned (OpenSpec.ofChange supervisorNilSpec)

/-- ITS FALSE NEIGHBOUR: 'it returns false'. Refute it at one input. -/
def supervisorNilWrong : ChangeSpec := { name := "supervisorNil", fn := fun _ => fun
  | [d1, d2, d3] => { results := [.lit (.bool false)], args := [d1, d2, d3] }
  | _ => none }
def SupervisorNilWrongFalsely : Prop := supervisorNilRow.holds Try.pinned (OpenSpec.ofChange supervisorNilWrong)

/- THE SECOND FORM. 'bulk': how many values and letters a reading holds, each counted each time it is reached (what is shared counts as often as it is met; a slice's spare places count too). A statement '..UptoSaid' is the law's where the arguments, and the package variables that the reading takes, are together of bulk at most 1048576: NARROWER than '..Said'. Prove '..Said' where nothing that the law and all that it calls make is longer than what came in: it says more and counts as full. Else prove '..UptoSaid'. A law counts once. -/
mutual
def uptoBulk {H : Type} : DataW H → Nat
  | .lit (.string bytes) => bytes.length + 1
  | .lit _ => 1
  | .nil => 1
  | .ptr d => uptoBulk d + 1
  | .slice elems spare => uptoBulkAll elems + uptoBulkAll spare + 1
  | .agg parts => uptoBulkAll parts + 1
  | .iface _ d => uptoBulk d + 1
  | .map entries => uptoBulkEntries entries + 1
  | .held _ => 1
def uptoBulkAll {H : Type} : List (DataW H) → Nat
  | [] => 0
  | d :: r => uptoBulk d + uptoBulkAll r
def uptoBulkEntries {H : Type} : List (Lit × DataW H) → Nat
  | [] => 0
  | x :: r => uptoBulkEntry x + uptoBulkEntries r
def uptoBulkEntry {H : Type} : Lit × DataW H → Nat
  | (.string bytes, d) => bytes.length + uptoBulk d + 1
  | (_, d) => uptoBulk d + 1
 end
def uptoSmall : (H : Type) → List (DataW H) → Bool := fun _ ds => decide (uptoBulkAll ds ≤ 1048576)
def OpenSpec.upto (s : _root_.Go.ChangeSpec) : _root_.Go.OpenSpec := { _root_.Go.OpenSpec.ofChange s with cond := some uptoSmall }

/-- 'roboticslaw51.SupervisorLimits', WHERE WHAT IT READS IS OF BULK AT MOST 1048576: true; the input reads as it did. -/
def supervisorLimitsUptoRow : OpenClaim := { program := "yteifgkldagnodaa", sum := "b2054518561e1c1591fd9f2d093b58be36d9fdfa6f6d6382b5ea71f452ae0576", func := "robotics/roboticslaw51.SupervisorLimits", spec := "supervisorLimits", unfollowed := true, recurses := true, apart := false, narrowed := true }
def SupervisorLimitsUptoSaid : Prop := supervisorLimitsUptoRow.holds Try.pinned (OpenSpec.upto supervisorLimitsSpec)

/-- 'roboticslaw51.SupervisorSilent', WHERE WHAT IT READS IS OF BULK AT MOST 1048576: true; the input reads as it did. -/
def supervisorSilentUptoRow : OpenClaim := { program := "yteifgkldagnodaa", sum := "b2054518561e1c1591fd9f2d093b58be36d9fdfa6f6d6382b5ea71f452ae0576", func := "robotics/roboticslaw51.SupervisorSilent", spec := "supervisorSilent", unfollowed := true, recurses := true, apart := false, narrowed := true }
def SupervisorSilentUptoSaid : Prop := supervisorSilentUptoRow.holds Try.pinned (OpenSpec.upto supervisorSilentSpec)

/-- 'roboticslaw51.SupervisorNil', WHERE WHAT IT READS IS OF BULK AT MOST 1048576: true; the input reads as it did. -/
def supervisorNilUptoRow : OpenClaim := { program := "yteifgkldagnodaa", sum := "b2054518561e1c1591fd9f2d093b58be36d9fdfa6f6d6382b5ea71f452ae0576", func := "robotics/roboticslaw51.SupervisorNil", spec := "supervisorNil", unfollowed := true, recurses := true, apart := false, narrowed := true }
def SupervisorNilUptoSaid : Prop := supervisorNilUptoRow.holds Try.pinned (OpenSpec.upto supervisorNilSpec)

end Rows
end Go.Proofs.Yteifgkldagnodaa
