/-
  No cell of these rows narrows 'for every input' (looked for: loops, veiled, ifaces, maps, wideKeys, modest, calm, conditions, laid).
  DERIVED. THE GIVEN ROWS OF THIS SEAT. 7 by the template 'for every input the law returns true; each argument reads behind the call as it read before'; 0 by the template 'total and deterministic' (their statements: YtgcofipbdidhmaaTotals.lean).
  GIVEN WITH THE SEED: the statements are not yours to turn. If you find one false, say at which input.
  Laid BY PROGRAM, IN A SANDBOX (cutbox-rows.mjs): the forced cells as the released guide's own fill.sh prints them over the translation bb05206c9c397352… (all of the seat's roots in one cut). By AI agents, Wed Nov 11 2026. No macro, syntax, notation, axiom, sorry.
-/
import Derived.Test.YtgcofipbdidhmaaChecked
import GoSem.Claim
import GoSem.ClaimJoined
import GoSem.ClaimMapViews
import Derived.JoinedTies
import Derived.KernelRfl
namespace Go.Proofs.Ytgcofipbdidhmaa
/- THE CELL 'sum', in the pinned program and in every row, IS THE sha256 OF THE DUMP (.gsa) THAT YtgcofipbdidhmaaProg.lean LOADS. Nothing in Lean hashes anything: it is a label: what it is worth is what the hold of that sum in a sandbox is worth. -/
noncomputable def Try.pinned : Pinned := { name := "ytgcofipbdidhmaa", sum := "bb05206c9c397352ecd7bc745753c56c6d6883528aaf0bfd5bdc8e022b95231a", checked := Try.checked }
namespace Rows
def none {H : Type} : Left H := { results := [], args := [] }

/-- 'roboticslaw19.ReaderOrders': WHATEVER THE INPUT: true; the input reads as it did. -/
def readerOrdersSpec : ChangeSpec := { name := "readerOrders", fn := fun _ => fun
  | [d] => { results := [.lit (.bool true)], args := [d] }
  | _ => none }
def readerOrdersRow : OpenClaim := { program := "ytgcofipbdidhmaa", sum := "bb05206c9c397352ecd7bc745753c56c6d6883528aaf0bfd5bdc8e022b95231a", func := "robotics/roboticslaw19.ReaderOrders", spec := "readerOrders", unfollowed := true, recurses := true, apart := false }
def ReaderOrdersSaid : Prop := readerOrdersRow.holds Try.pinned (OpenSpec.ofChange readerOrdersSpec)

/-- ITS FALSE NEIGHBOUR: 'it returns false'. Refute it at one input. -/
def readerOrdersWrong : ChangeSpec := { name := "readerOrders", fn := fun _ => fun
  | [d] => { results := [.lit (.bool false)], args := [d] }
  | _ => none }
def ReaderOrdersWrongFalsely : Prop := readerOrdersRow.holds Try.pinned (OpenSpec.ofChange readerOrdersWrong)

/-- 'roboticslaw19.ReaderCompletes': WHATEVER THE INPUT: true; the input reads as it did. -/
def readerCompletesSpec : ChangeSpec := { name := "readerCompletes", fn := fun _ => fun
  | [d1, d2] => { results := [.lit (.bool true)], args := [d1, d2] }
  | _ => none }
def readerCompletesRow : OpenClaim := { program := "ytgcofipbdidhmaa", sum := "bb05206c9c397352ecd7bc745753c56c6d6883528aaf0bfd5bdc8e022b95231a", func := "robotics/roboticslaw19.ReaderCompletes", spec := "readerCompletes", unfollowed := true, recurses := true, apart := false }
def ReaderCompletesSaid : Prop := readerCompletesRow.holds Try.pinned (OpenSpec.ofChange readerCompletesSpec)

/-- ITS FALSE NEIGHBOUR: 'it returns false'. Refute it at one input. -/
def readerCompletesWrong : ChangeSpec := { name := "readerCompletes", fn := fun _ => fun
  | [d1, d2] => { results := [.lit (.bool false)], args := [d1, d2] }
  | _ => none }
def ReaderCompletesWrongFalsely : Prop := readerCompletesRow.holds Try.pinned (OpenSpec.ofChange readerCompletesWrong)

/-- 'roboticslaw19.ReaderAsks': WHATEVER THE INPUT: true; the input reads as it did. -/
def readerAsksSpec : ChangeSpec := { name := "readerAsks", fn := fun _ => fun
  | [d1, d2] => { results := [.lit (.bool true)], args := [d1, d2] }
  | _ => none }
def readerAsksRow : OpenClaim := { program := "ytgcofipbdidhmaa", sum := "bb05206c9c397352ecd7bc745753c56c6d6883528aaf0bfd5bdc8e022b95231a", func := "robotics/roboticslaw19.ReaderAsks", spec := "readerAsks", unfollowed := true, recurses := true, apart := false }
def ReaderAsksSaid : Prop := readerAsksRow.holds Try.pinned (OpenSpec.ofChange readerAsksSpec)

/-- ITS FALSE NEIGHBOUR: 'it returns false'. Refute it at one input. -/
def readerAsksWrong : ChangeSpec := { name := "readerAsks", fn := fun _ => fun
  | [d1, d2] => { results := [.lit (.bool false)], args := [d1, d2] }
  | _ => none }
def ReaderAsksWrongFalsely : Prop := readerAsksRow.holds Try.pinned (OpenSpec.ofChange readerAsksWrong)

/-- 'roboticslaw19.ReaderBest': WHATEVER THE INPUT: true; the input reads as it did. -/
def readerBestSpec : ChangeSpec := { name := "readerBest", fn := fun _ => fun
  | [d] => { results := [.lit (.bool true)], args := [d] }
  | _ => none }
def readerBestRow : OpenClaim := { program := "ytgcofipbdidhmaa", sum := "bb05206c9c397352ecd7bc745753c56c6d6883528aaf0bfd5bdc8e022b95231a", func := "robotics/roboticslaw19.ReaderBest", spec := "readerBest", unfollowed := true, recurses := true, apart := false }
def ReaderBestSaid : Prop := readerBestRow.holds Try.pinned (OpenSpec.ofChange readerBestSpec)

/-- ITS FALSE NEIGHBOUR: 'it returns false'. Refute it at one input. -/
def readerBestWrong : ChangeSpec := { name := "readerBest", fn := fun _ => fun
  | [d] => { results := [.lit (.bool false)], args := [d] }
  | _ => none }
def ReaderBestWrongFalsely : Prop := readerBestRow.holds Try.pinned (OpenSpec.ofChange readerBestWrong)

/-- 'roboticslaw19.ReaderApart': WHATEVER THE INPUT: true; the input reads as it did. -/
def readerApartSpec : ChangeSpec := { name := "readerApart", fn := fun _ => fun
  | [d] => { results := [.lit (.bool true)], args := [d] }
  | _ => none }
def readerApartRow : OpenClaim := { program := "ytgcofipbdidhmaa", sum := "bb05206c9c397352ecd7bc745753c56c6d6883528aaf0bfd5bdc8e022b95231a", func := "robotics/roboticslaw19.ReaderApart", spec := "readerApart", unfollowed := true, recurses := true, apart := false }
def ReaderApartSaid : Prop := readerApartRow.holds Try.pinned (OpenSpec.ofChange readerApartSpec)

/-- ITS FALSE NEIGHBOUR: 'it returns false'. Refute it at one input. -/
def readerApartWrong : ChangeSpec := { name := "readerApart", fn := fun _ => fun
  | [d] => { results := [.lit (.bool false)], args := [d] }
  | _ => none }
def ReaderApartWrongFalsely : Prop := readerApartRow.holds Try.pinned (OpenSpec.ofChange readerApartWrong)

/-- 'roboticslaw19.ReaderPlays': WHATEVER THE INPUT: true; the input reads as it did. -/
def readerPlaysSpec : ChangeSpec := { name := "readerPlays", fn := fun _ => fun
  | [d1, d2, d3] => { results := [.lit (.bool true)], args := [d1, d2, d3] }
  | _ => none }
def readerPlaysRow : OpenClaim := { program := "ytgcofipbdidhmaa", sum := "bb05206c9c397352ecd7bc745753c56c6d6883528aaf0bfd5bdc8e022b95231a", func := "robotics/roboticslaw19.ReaderPlays", spec := "readerPlays", unfollowed := true, recurses := true, apart := false }
def ReaderPlaysSaid : Prop := readerPlaysRow.holds Try.pinned (OpenSpec.ofChange readerPlaysSpec)

/-- ITS FALSE NEIGHBOUR: 'it returns false'. Refute it at one input. -/
def readerPlaysWrong : ChangeSpec := { name := "readerPlays", fn := fun _ => fun
  | [d1, d2, d3] => { results := [.lit (.bool false)], args := [d1, d2, d3] }
  | _ => none }
def ReaderPlaysWrongFalsely : Prop := readerPlaysRow.holds Try.pinned (OpenSpec.ofChange readerPlaysWrong)

/-- 'roboticslaw19.ReaderNobody': WHATEVER THE INPUT: true; the input reads as it did. -/
def readerNobodySpec : ChangeSpec := { name := "readerNobody", fn := fun _ => fun
  | [d] => { results := [.lit (.bool true)], args := [d] }
  | _ => none }
def readerNobodyRow : OpenClaim := { program := "ytgcofipbdidhmaa", sum := "bb05206c9c397352ecd7bc745753c56c6d6883528aaf0bfd5bdc8e022b95231a", func := "robotics/roboticslaw19.ReaderNobody", spec := "readerNobody", unfollowed := true, recurses := true, apart := false }
def ReaderNobodySaid : Prop := readerNobodyRow.holds Try.pinned (OpenSpec.ofChange readerNobodySpec)

/-- ITS FALSE NEIGHBOUR: 'it returns false'. Refute it at one input. -/
def readerNobodyWrong : ChangeSpec := { name := "readerNobody", fn := fun _ => fun
  | [d] => { results := [.lit (.bool false)], args := [d] }
  | _ => none }
def ReaderNobodyWrongFalsely : Prop := readerNobodyRow.holds Try.pinned (OpenSpec.ofChange readerNobodyWrong)

/- THE SECOND FORM. 'bulk': how many values and letters a reading holds, each counted each time it is reached (what is shared counts as often as it is met; a slice's spare places count too). A statement '..UptoSaid' is the law's where the arguments, and the package variables that the reading takes, are together of bulk at most 1048576: NARROWER than '..Said'. Prove '..Said' where nothing that the law and all that it calls make is longer than what came in: it says more and counts as full. Else prove '..UptoSaid'. A law counts once. -/
mutual
def uptoBulk {H : Type} : DataW H → Nat
  | .lit (.string bytes) => bytes.length + 1
  | .lit _ => 1
  | .nil => 1
  | .ptr d => uptoBulk d + 1
  | .slice elems spare => uptoBulkAll elems + uptoBulkAll spare + 1
  | .agg parts => uptoBulkAll parts + 1
  | .iface _ d => uptoBulk d + 1
  | .map entries => uptoBulkEntries entries + 1
  | .held _ => 1
def uptoBulkAll {H : Type} : List (DataW H) → Nat
  | [] => 0
  | d :: r => uptoBulk d + uptoBulkAll r
def uptoBulkEntries {H : Type} : List (Lit × DataW H) → Nat
  | [] => 0
  | x :: r => uptoBulkEntry x + uptoBulkEntries r
def uptoBulkEntry {H : Type} : Lit × DataW H → Nat
  | (.string bytes, d) => bytes.length + uptoBulk d + 1
  | (_, d) => uptoBulk d + 1
 end
def uptoSmall : (H : Type) → List (DataW H) → Bool := fun _ ds => decide (uptoBulkAll ds ≤ 1048576)
def OpenSpec.upto (s : _root_.Go.ChangeSpec) : _root_.Go.OpenSpec := { _root_.Go.OpenSpec.ofChange s with cond := some uptoSmall }

/-- 'roboticslaw19.ReaderOrders', WHERE WHAT IT READS IS OF BULK AT MOST 1048576: true; the input reads as it did. -/
def readerOrdersUptoRow : OpenClaim := { program := "ytgcofipbdidhmaa", sum := "bb05206c9c397352ecd7bc745753c56c6d6883528aaf0bfd5bdc8e022b95231a", func := "robotics/roboticslaw19.ReaderOrders", spec := "readerOrders", unfollowed := true, recurses := true, apart := false, narrowed := true }
def ReaderOrdersUptoSaid : Prop := readerOrdersUptoRow.holds Try.pinned (OpenSpec.upto readerOrdersSpec)

/-- 'roboticslaw19.ReaderCompletes', WHERE WHAT IT READS IS OF BULK AT MOST 1048576: true; the input reads as it did. -/
def readerCompletesUptoRow : OpenClaim := { program := "ytgcofipbdidhmaa", sum := "bb05206c9c397352ecd7bc745753c56c6d6883528aaf0bfd5bdc8e022b95231a", func := "robotics/roboticslaw19.ReaderCompletes", spec := "readerCompletes", unfollowed := true, recurses := true, apart := false, narrowed := true }
def ReaderCompletesUptoSaid : Prop := readerCompletesUptoRow.holds Try.pinned (OpenSpec.upto readerCompletesSpec)

/-- 'roboticslaw19.ReaderAsks', WHERE WHAT IT READS IS OF BULK AT MOST 1048576: true; the input reads as it did. -/
def readerAsksUptoRow : OpenClaim := { program := "ytgcofipbdidhmaa", sum := "bb05206c9c397352ecd7bc745753c56c6d6883528aaf0bfd5bdc8e022b95231a", func := "robotics/roboticslaw19.ReaderAsks", spec := "readerAsks", unfollowed := true, recurses := true, apart := false, narrowed := true }
def ReaderAsksUptoSaid : Prop := readerAsksUptoRow.holds Try.pinned (OpenSpec.upto readerAsksSpec)

/-- 'roboticslaw19.ReaderBest', WHERE WHAT IT READS IS OF BULK AT MOST 1048576: true; the input reads as it did. -/
def readerBestUptoRow : OpenClaim := { program := "ytgcofipbdidhmaa", sum := "bb05206c9c397352ecd7bc745753c56c6d6883528aaf0bfd5bdc8e022b95231a", func := "robotics/roboticslaw19.ReaderBest", spec := "readerBest", unfollowed := true, recurses := true, apart := false, narrowed := true }
def ReaderBestUptoSaid : Prop := readerBestUptoRow.holds Try.pinned (OpenSpec.upto readerBestSpec)

/-- 'roboticslaw19.ReaderApart', WHERE WHAT IT READS IS OF BULK AT MOST 1048576: true; the input reads as it did. -/
def readerApartUptoRow : OpenClaim := { program := "ytgcofipbdidhmaa", sum := "bb05206c9c397352ecd7bc745753c56c6d6883528aaf0bfd5bdc8e022b95231a", func := "robotics/roboticslaw19.ReaderApart", spec := "readerApart", unfollowed := true, recurses := true, apart := false, narrowed := true }
def ReaderApartUptoSaid : Prop := readerApartUptoRow.holds Try.pinned (OpenSpec.upto readerApartSpec)

/-- 'roboticslaw19.ReaderPlays', WHERE WHAT IT READS IS OF BULK AT MOST 1048576: true; the input reads as it did. -/
def readerPlaysUptoRow : OpenClaim := { program := "ytgcofipbdidhmaa", sum := "bb05206c9c397352ecd7bc745753c56c6d6883528aaf0bfd5bdc8e022b95231a", func := "robotics/roboticslaw19.ReaderPlays", spec := "readerPlays", unfollowed := true, recurses := true, apart := false, narrowed := true }
def ReaderPlaysUptoSaid : Prop := readerPlaysUptoRow.holds Try.pinned (OpenSpec.upto readerPlaysSpec)

/-- 'roboticslaw19.ReaderNobody', WHERE WHAT IT READS IS OF BULK AT MOST 1048576: true; the input reads as it did. -/
def readerNobodyUptoRow : OpenClaim := { program := "ytgcofipbdidhmaa", sum := "bb05206c9c397352ecd7bc745753c56c6d6883528aaf0bfd5bdc8e022b95231a", func := "robotics/roboticslaw19.ReaderNobody", spec := "readerNobody", unfollowed := true, recurses := true, apart := false, narrowed := true }
def ReaderNobodyUptoSaid : Prop := readerNobodyUptoRow.holds Try.pinned (OpenSpec.upto readerNobodySpec)

end Rows
end Go.Proofs.Ytgcofipbdidhmaa
