/-
  No cell of these rows narrows 'for every input' (looked for: loops, veiled, ifaces, maps, wideKeys, modest, calm, conditions, laid).
  DERIVED. THE GIVEN ROWS OF THIS SEAT. 11 by the template 'for every input the law returns true; each argument reads behind the call as it read before'; 0 by the template 'total and deterministic' (their statements: YtjfopbpkophoeaaTotals.lean).
  GIVEN WITH THE SEED: the statements are not yours to turn. If you find one false, say at which input.
  Laid BY PROGRAM, IN A SANDBOX (cutbox-rows.mjs): the forced cells as the released guide's own fill.sh prints them over the translation 1f2a57f554ec2ffc… (all of the seat's roots in one cut). By AI agents, Wed Nov 11 2026. No macro, syntax, notation, axiom, sorry.
-/
import Derived.Test.YtjfopbpkophoeaaChecked
import GoSem.Claim
import GoSem.ClaimJoined
import GoSem.ClaimMapViews
import Derived.JoinedTies
import Derived.KernelRfl
namespace Go.Proofs.Ytjfopbpkophoeaa
/- THE CELL 'sum', in the pinned program and in every row, IS THE sha256 OF THE DUMP (.gsa) THAT YtjfopbpkophoeaaProg.lean LOADS. Nothing in Lean hashes anything: it is a label: what it is worth is what the hold of that sum in a sandbox is worth. -/
noncomputable def Try.pinned : Pinned := { name := "ytjfopbpkophoeaa", sum := "1f2a57f554ec2ffc9b93c943be8a057670e30d42d37d3e8839296b18ec7ca50e", checked := Try.checked }
namespace Rows
def none {H : Type} : Left H := { results := [], args := [] }

/-- 'girouettelaw06.ShiftsTrips': WHATEVER THE INPUT: true; the input reads as it did. -/
def shiftsTripsSpec : ChangeSpec := { name := "shiftsTrips", fn := fun _ => fun
  | [d1, d2] => { results := [.lit (.bool true)], args := [d1, d2] }
  | _ => none }
def shiftsTripsRow : OpenClaim := { program := "ytjfopbpkophoeaa", sum := "1f2a57f554ec2ffc9b93c943be8a057670e30d42d37d3e8839296b18ec7ca50e", func := "girouette/girouettelaw06.ShiftsTrips", spec := "shiftsTrips", unfollowed := true, recurses := true, apart := false }
def ShiftsTripsSaid : Prop := shiftsTripsRow.holds Try.pinned (OpenSpec.ofChange shiftsTripsSpec)

/-- ITS FALSE NEIGHBOUR: 'it returns false'. Refute it at one input. -/
def shiftsTripsWrong : ChangeSpec := { name := "shiftsTrips", fn := fun _ => fun
  | [d1, d2] => { results := [.lit (.bool false)], args := [d1, d2] }
  | _ => none }
def ShiftsTripsWrongFalsely : Prop := shiftsTripsRow.holds Try.pinned (OpenSpec.ofChange shiftsTripsWrong)

/-- 'girouettelaw06.ShiftsTells': WHATEVER THE INPUT: true; the input reads as it did. -/
def shiftsTellsSpec : ChangeSpec := { name := "shiftsTells", fn := fun _ => fun
  | [d] => { results := [.lit (.bool true)], args := [d] }
  | _ => none }
def shiftsTellsRow : OpenClaim := { program := "ytjfopbpkophoeaa", sum := "1f2a57f554ec2ffc9b93c943be8a057670e30d42d37d3e8839296b18ec7ca50e", func := "girouette/girouettelaw06.ShiftsTells", spec := "shiftsTells", unfollowed := true, recurses := true, apart := false }
def ShiftsTellsSaid : Prop := shiftsTellsRow.holds Try.pinned (OpenSpec.ofChange shiftsTellsSpec)

/-- ITS FALSE NEIGHBOUR: 'it returns false'. Refute it at one input. -/
def shiftsTellsWrong : ChangeSpec := { name := "shiftsTells", fn := fun _ => fun
  | [d] => { results := [.lit (.bool false)], args := [d] }
  | _ => none }
def ShiftsTellsWrongFalsely : Prop := shiftsTellsRow.holds Try.pinned (OpenSpec.ofChange shiftsTellsWrong)

/-- 'girouettelaw06.ShiftsNewton': WHATEVER THE INPUT: true; the input reads as it did. -/
def shiftsNewtonSpec : ChangeSpec := { name := "shiftsNewton", fn := fun _ => fun
  | [d] => { results := [.lit (.bool true)], args := [d] }
  | _ => none }
def shiftsNewtonRow : OpenClaim := { program := "ytjfopbpkophoeaa", sum := "1f2a57f554ec2ffc9b93c943be8a057670e30d42d37d3e8839296b18ec7ca50e", func := "girouette/girouettelaw06.ShiftsNewton", spec := "shiftsNewton", unfollowed := true, recurses := true, apart := false }
def ShiftsNewtonSaid : Prop := shiftsNewtonRow.holds Try.pinned (OpenSpec.ofChange shiftsNewtonSpec)

/-- ITS FALSE NEIGHBOUR: 'it returns false'. Refute it at one input. -/
def shiftsNewtonWrong : ChangeSpec := { name := "shiftsNewton", fn := fun _ => fun
  | [d] => { results := [.lit (.bool false)], args := [d] }
  | _ => none }
def ShiftsNewtonWrongFalsely : Prop := shiftsNewtonRow.holds Try.pinned (OpenSpec.ofChange shiftsNewtonWrong)

/-- 'girouettelaw06.ShiftsMixes': WHATEVER THE INPUT: true; the input reads as it did. -/
def shiftsMixesSpec : ChangeSpec := { name := "shiftsMixes", fn := fun _ => fun
  | [d] => { results := [.lit (.bool true)], args := [d] }
  | _ => none }
def shiftsMixesRow : OpenClaim := { program := "ytjfopbpkophoeaa", sum := "1f2a57f554ec2ffc9b93c943be8a057670e30d42d37d3e8839296b18ec7ca50e", func := "girouette/girouettelaw06.ShiftsMixes", spec := "shiftsMixes", unfollowed := true, recurses := true, apart := false }
def ShiftsMixesSaid : Prop := shiftsMixesRow.holds Try.pinned (OpenSpec.ofChange shiftsMixesSpec)

/-- ITS FALSE NEIGHBOUR: 'it returns false'. Refute it at one input. -/
def shiftsMixesWrong : ChangeSpec := { name := "shiftsMixes", fn := fun _ => fun
  | [d] => { results := [.lit (.bool false)], args := [d] }
  | _ => none }
def ShiftsMixesWrongFalsely : Prop := shiftsMixesRow.holds Try.pinned (OpenSpec.ofChange shiftsMixesWrong)

/-- 'girouettelaw06.ShiftsWays': WHATEVER THE INPUT: true; the input reads as it did. -/
def shiftsWaysSpec : ChangeSpec := { name := "shiftsWays", fn := fun _ => fun
  | [d1, d2] => { results := [.lit (.bool true)], args := [d1, d2] }
  | _ => none }
def shiftsWaysRow : OpenClaim := { program := "ytjfopbpkophoeaa", sum := "1f2a57f554ec2ffc9b93c943be8a057670e30d42d37d3e8839296b18ec7ca50e", func := "girouette/girouettelaw06.ShiftsWays", spec := "shiftsWays", unfollowed := true, recurses := true, apart := false }
def ShiftsWaysSaid : Prop := shiftsWaysRow.holds Try.pinned (OpenSpec.ofChange shiftsWaysSpec)

/-- ITS FALSE NEIGHBOUR: 'it returns false'. Refute it at one input. -/
def shiftsWaysWrong : ChangeSpec := { name := "shiftsWays", fn := fun _ => fun
  | [d1, d2] => { results := [.lit (.bool false)], args := [d1, d2] }
  | _ => none }
def ShiftsWaysWrongFalsely : Prop := shiftsWaysRow.holds Try.pinned (OpenSpec.ofChange shiftsWaysWrong)

/-- 'girouettelaw06.ShiftsSplits': WHATEVER THE INPUT: true; the input reads as it did. -/
def shiftsSplitsSpec : ChangeSpec := { name := "shiftsSplits", fn := fun _ => fun
  | [d1, d2, d3] => { results := [.lit (.bool true)], args := [d1, d2, d3] }
  | _ => none }
def shiftsSplitsRow : OpenClaim := { program := "ytjfopbpkophoeaa", sum := "1f2a57f554ec2ffc9b93c943be8a057670e30d42d37d3e8839296b18ec7ca50e", func := "girouette/girouettelaw06.ShiftsSplits", spec := "shiftsSplits", unfollowed := true, recurses := true, apart := false }
def ShiftsSplitsSaid : Prop := shiftsSplitsRow.holds Try.pinned (OpenSpec.ofChange shiftsSplitsSpec)

/-- ITS FALSE NEIGHBOUR: 'it returns false'. Refute it at one input. -/
def shiftsSplitsWrong : ChangeSpec := { name := "shiftsSplits", fn := fun _ => fun
  | [d1, d2, d3] => { results := [.lit (.bool false)], args := [d1, d2, d3] }
  | _ => none }
def ShiftsSplitsWrongFalsely : Prop := shiftsSplitsRow.holds Try.pinned (OpenSpec.ofChange shiftsSplitsWrong)

/-- 'girouettelaw06.ShiftsWielandt': WHATEVER THE INPUT: true; the input reads as it did. -/
def shiftsWielandtSpec : ChangeSpec := { name := "shiftsWielandt", fn := fun _ => fun
  | [d] => { results := [.lit (.bool true)], args := [d] }
  | _ => none }
def shiftsWielandtRow : OpenClaim := { program := "ytjfopbpkophoeaa", sum := "1f2a57f554ec2ffc9b93c943be8a057670e30d42d37d3e8839296b18ec7ca50e", func := "girouette/girouettelaw06.ShiftsWielandt", spec := "shiftsWielandt", unfollowed := true, recurses := true, apart := false }
def ShiftsWielandtSaid : Prop := shiftsWielandtRow.holds Try.pinned (OpenSpec.ofChange shiftsWielandtSpec)

/-- ITS FALSE NEIGHBOUR: 'it returns false'. Refute it at one input. -/
def shiftsWielandtWrong : ChangeSpec := { name := "shiftsWielandt", fn := fun _ => fun
  | [d] => { results := [.lit (.bool false)], args := [d] }
  | _ => none }
def ShiftsWielandtWrongFalsely : Prop := shiftsWielandtRow.holds Try.pinned (OpenSpec.ofChange shiftsWielandtWrong)

/-- 'girouettelaw06.ShiftsMerges': WHATEVER THE INPUT: true; the input reads as it did. -/
def shiftsMergesSpec : ChangeSpec := { name := "shiftsMerges", fn := fun _ => fun
  | [d1, d2, d3] => { results := [.lit (.bool true)], args := [d1, d2, d3] }
  | _ => none }
def shiftsMergesRow : OpenClaim := { program := "ytjfopbpkophoeaa", sum := "1f2a57f554ec2ffc9b93c943be8a057670e30d42d37d3e8839296b18ec7ca50e", func := "girouette/girouettelaw06.ShiftsMerges", spec := "shiftsMerges", unfollowed := true, recurses := true, apart := false }
def ShiftsMergesSaid : Prop := shiftsMergesRow.holds Try.pinned (OpenSpec.ofChange shiftsMergesSpec)

/-- ITS FALSE NEIGHBOUR: 'it returns false'. Refute it at one input. -/
def shiftsMergesWrong : ChangeSpec := { name := "shiftsMerges", fn := fun _ => fun
  | [d1, d2, d3] => { results := [.lit (.bool false)], args := [d1, d2, d3] }
  | _ => none }
def ShiftsMergesWrongFalsely : Prop := shiftsMergesRow.holds Try.pinned (OpenSpec.ofChange shiftsMergesWrong)

/-- 'girouettelaw06.ShiftsBoth': WHATEVER THE INPUT: true; the input reads as it did. -/
def shiftsBothSpec : ChangeSpec := { name := "shiftsBoth", fn := fun _ => fun
  | [d1, d2] => { results := [.lit (.bool true)], args := [d1, d2] }
  | _ => none }
def shiftsBothRow : OpenClaim := { program := "ytjfopbpkophoeaa", sum := "1f2a57f554ec2ffc9b93c943be8a057670e30d42d37d3e8839296b18ec7ca50e", func := "girouette/girouettelaw06.ShiftsBoth", spec := "shiftsBoth", unfollowed := true, recurses := true, apart := false }
def ShiftsBothSaid : Prop := shiftsBothRow.holds Try.pinned (OpenSpec.ofChange shiftsBothSpec)

/-- ITS FALSE NEIGHBOUR: 'it returns false'. Refute it at one input. -/
def shiftsBothWrong : ChangeSpec := { name := "shiftsBoth", fn := fun _ => fun
  | [d1, d2] => { results := [.lit (.bool false)], args := [d1, d2] }
  | _ => none }
def ShiftsBothWrongFalsely : Prop := shiftsBothRow.holds Try.pinned (OpenSpec.ofChange shiftsBothWrong)

/-- 'girouettelaw06.ShiftsChecks': WHATEVER THE INPUT: true; the input reads as it did. -/
def shiftsChecksSpec : ChangeSpec := { name := "shiftsChecks", fn := fun _ => fun
  | [d] => { results := [.lit (.bool true)], args := [d] }
  | _ => none }
def shiftsChecksRow : OpenClaim := { program := "ytjfopbpkophoeaa", sum := "1f2a57f554ec2ffc9b93c943be8a057670e30d42d37d3e8839296b18ec7ca50e", func := "girouette/girouettelaw06.ShiftsChecks", spec := "shiftsChecks", unfollowed := true, recurses := true, apart := false }
def ShiftsChecksSaid : Prop := shiftsChecksRow.holds Try.pinned (OpenSpec.ofChange shiftsChecksSpec)

/-- ITS FALSE NEIGHBOUR: 'it returns false'. Refute it at one input. -/
def shiftsChecksWrong : ChangeSpec := { name := "shiftsChecks", fn := fun _ => fun
  | [d] => { results := [.lit (.bool false)], args := [d] }
  | _ => none }
def ShiftsChecksWrongFalsely : Prop := shiftsChecksRow.holds Try.pinned (OpenSpec.ofChange shiftsChecksWrong)

/-- 'girouettelaw06.ShiftsWilliams': WHATEVER THE INPUT: true; the input reads as it did. -/
def shiftsWilliamsSpec : ChangeSpec := { name := "shiftsWilliams", fn := fun _ => fun
  | [d1, d2, d3] => { results := [.lit (.bool true)], args := [d1, d2, d3] }
  | _ => none }
def shiftsWilliamsRow : OpenClaim := { program := "ytjfopbpkophoeaa", sum := "1f2a57f554ec2ffc9b93c943be8a057670e30d42d37d3e8839296b18ec7ca50e", func := "girouette/girouettelaw06.ShiftsWilliams", spec := "shiftsWilliams", unfollowed := true, recurses := true, apart := false }
def ShiftsWilliamsSaid : Prop := shiftsWilliamsRow.holds Try.pinned (OpenSpec.ofChange shiftsWilliamsSpec)

/-- ITS FALSE NEIGHBOUR: 'it returns false'. Refute it at one input. -/
def shiftsWilliamsWrong : ChangeSpec := { name := "shiftsWilliams", fn := fun _ => fun
  | [d1, d2, d3] => { results := [.lit (.bool false)], args := [d1, d2, d3] }
  | _ => none }
def ShiftsWilliamsWrongFalsely : Prop := shiftsWilliamsRow.holds Try.pinned (OpenSpec.ofChange shiftsWilliamsWrong)

/- THE SECOND FORM. 'bulk': how many values and letters a reading holds, each counted each time it is reached (what is shared counts as often as it is met; a slice's spare places count too). A statement '..UptoSaid' is the law's where the arguments, and the package variables that the reading takes, are together of bulk at most 1048576: NARROWER than '..Said'. Prove '..Said' where nothing that the law and all that it calls make is longer than what came in: it says more and counts as full. Else prove '..UptoSaid'. A law counts once. -/
mutual
def uptoBulk {H : Type} : DataW H → Nat
  | .lit (.string bytes) => bytes.length + 1
  | .lit _ => 1
  | .nil => 1
  | .ptr d => uptoBulk d + 1
  | .slice elems spare => uptoBulkAll elems + uptoBulkAll spare + 1
  | .agg parts => uptoBulkAll parts + 1
  | .iface _ d => uptoBulk d + 1
  | .map entries => uptoBulkEntries entries + 1
  | .held _ => 1
def uptoBulkAll {H : Type} : List (DataW H) → Nat
  | [] => 0
  | d :: r => uptoBulk d + uptoBulkAll r
def uptoBulkEntries {H : Type} : List (Lit × DataW H) → Nat
  | [] => 0
  | x :: r => uptoBulkEntry x + uptoBulkEntries r
def uptoBulkEntry {H : Type} : Lit × DataW H → Nat
  | (.string bytes, d) => bytes.length + uptoBulk d + 1
  | (_, d) => uptoBulk d + 1
 end
def uptoSmall : (H : Type) → List (DataW H) → Bool := fun _ ds => decide (uptoBulkAll ds ≤ 1048576)
def OpenSpec.upto (s : _root_.Go.ChangeSpec) : _root_.Go.OpenSpec := { _root_.Go.OpenSpec.ofChange s with cond := some uptoSmall }

/-- 'girouettelaw06.ShiftsTrips', WHERE WHAT IT READS IS OF BULK AT MOST 1048576: true; the input reads as it did. -/
def shiftsTripsUptoRow : OpenClaim := { program := "ytjfopbpkophoeaa", sum := "1f2a57f554ec2ffc9b93c943be8a057670e30d42d37d3e8839296b18ec7ca50e", func := "girouette/girouettelaw06.ShiftsTrips", spec := "shiftsTrips", unfollowed := true, recurses := true, apart := false, narrowed := true }
def ShiftsTripsUptoSaid : Prop := shiftsTripsUptoRow.holds Try.pinned (OpenSpec.upto shiftsTripsSpec)

/-- 'girouettelaw06.ShiftsTells', WHERE WHAT IT READS IS OF BULK AT MOST 1048576: true; the input reads as it did. -/
def shiftsTellsUptoRow : OpenClaim := { program := "ytjfopbpkophoeaa", sum := "1f2a57f554ec2ffc9b93c943be8a057670e30d42d37d3e8839296b18ec7ca50e", func := "girouette/girouettelaw06.ShiftsTells", spec := "shiftsTells", unfollowed := true, recurses := true, apart := false, narrowed := true }
def ShiftsTellsUptoSaid : Prop := shiftsTellsUptoRow.holds Try.pinned (OpenSpec.upto shiftsTellsSpec)

/-- 'girouettelaw06.ShiftsNewton', WHERE WHAT IT READS IS OF BULK AT MOST 1048576: true; the input reads as it did. -/
def shiftsNewtonUptoRow : OpenClaim := { program := "ytjfopbpkophoeaa", sum := "1f2a57f554ec2ffc9b93c943be8a057670e30d42d37d3e8839296b18ec7ca50e", func := "girouette/girouettelaw06.ShiftsNewton", spec := "shiftsNewton", unfollowed := true, recurses := true, apart := false, narrowed := true }
def ShiftsNewtonUptoSaid : Prop := shiftsNewtonUptoRow.holds Try.pinned (OpenSpec.upto shiftsNewtonSpec)

/-- 'girouettelaw06.ShiftsMixes', WHERE WHAT IT READS IS OF BULK AT MOST 1048576: true; the input reads as it did. -/
def shiftsMixesUptoRow : OpenClaim := { program := "ytjfopbpkophoeaa", sum := "1f2a57f554ec2ffc9b93c943be8a057670e30d42d37d3e8839296b18ec7ca50e", func := "girouette/girouettelaw06.ShiftsMixes", spec := "shiftsMixes", unfollowed := true, recurses := true, apart := false, narrowed := true }
def ShiftsMixesUptoSaid : Prop := shiftsMixesUptoRow.holds Try.pinned (OpenSpec.upto shiftsMixesSpec)

/-- 'girouettelaw06.ShiftsWays', WHERE WHAT IT READS IS OF BULK AT MOST 1048576: true; the input reads as it did. -/
def shiftsWaysUptoRow : OpenClaim := { program := "ytjfopbpkophoeaa", sum := "1f2a57f554ec2ffc9b93c943be8a057670e30d42d37d3e8839296b18ec7ca50e", func := "girouette/girouettelaw06.ShiftsWays", spec := "shiftsWays", unfollowed := true, recurses := true, apart := false, narrowed := true }
def ShiftsWaysUptoSaid : Prop := shiftsWaysUptoRow.holds Try.pinned (OpenSpec.upto shiftsWaysSpec)

/-- 'girouettelaw06.ShiftsSplits', WHERE WHAT IT READS IS OF BULK AT MOST 1048576: true; the input reads as it did. -/
def shiftsSplitsUptoRow : OpenClaim := { program := "ytjfopbpkophoeaa", sum := "1f2a57f554ec2ffc9b93c943be8a057670e30d42d37d3e8839296b18ec7ca50e", func := "girouette/girouettelaw06.ShiftsSplits", spec := "shiftsSplits", unfollowed := true, recurses := true, apart := false, narrowed := true }
def ShiftsSplitsUptoSaid : Prop := shiftsSplitsUptoRow.holds Try.pinned (OpenSpec.upto shiftsSplitsSpec)

/-- 'girouettelaw06.ShiftsWielandt', WHERE WHAT IT READS IS OF BULK AT MOST 1048576: true; the input reads as it did. -/
def shiftsWielandtUptoRow : OpenClaim := { program := "ytjfopbpkophoeaa", sum := "1f2a57f554ec2ffc9b93c943be8a057670e30d42d37d3e8839296b18ec7ca50e", func := "girouette/girouettelaw06.ShiftsWielandt", spec := "shiftsWielandt", unfollowed := true, recurses := true, apart := false, narrowed := true }
def ShiftsWielandtUptoSaid : Prop := shiftsWielandtUptoRow.holds Try.pinned (OpenSpec.upto shiftsWielandtSpec)

/-- 'girouettelaw06.ShiftsMerges', WHERE WHAT IT READS IS OF BULK AT MOST 1048576: true; the input reads as it did. -/
def shiftsMergesUptoRow : OpenClaim := { program := "ytjfopbpkophoeaa", sum := "1f2a57f554ec2ffc9b93c943be8a057670e30d42d37d3e8839296b18ec7ca50e", func := "girouette/girouettelaw06.ShiftsMerges", spec := "shiftsMerges", unfollowed := true, recurses := true, apart := false, narrowed := true }
def ShiftsMergesUptoSaid : Prop := shiftsMergesUptoRow.holds Try.pinned (OpenSpec.upto shiftsMergesSpec)

/-- 'girouettelaw06.ShiftsBoth', WHERE WHAT IT READS IS OF BULK AT MOST 1048576: true; the input reads as it did. -/
def shiftsBothUptoRow : OpenClaim := { program := "ytjfopbpkophoeaa", sum := "1f2a57f554ec2ffc9b93c943be8a057670e30d42d37d3e8839296b18ec7ca50e", func := "girouette/girouettelaw06.ShiftsBoth", spec := "shiftsBoth", unfollowed := true, recurses := true, apart := false, narrowed := true }
def ShiftsBothUptoSaid : Prop := shiftsBothUptoRow.holds Try.pinned (OpenSpec.upto shiftsBothSpec)

/-- 'girouettelaw06.ShiftsChecks', WHERE WHAT IT READS IS OF BULK AT MOST 1048576: true; the input reads as it did. -/
def shiftsChecksUptoRow : OpenClaim := { program := "ytjfopbpkophoeaa", sum := "1f2a57f554ec2ffc9b93c943be8a057670e30d42d37d3e8839296b18ec7ca50e", func := "girouette/girouettelaw06.ShiftsChecks", spec := "shiftsChecks", unfollowed := true, recurses := true, apart := false, narrowed := true }
def ShiftsChecksUptoSaid : Prop := shiftsChecksUptoRow.holds Try.pinned (OpenSpec.upto shiftsChecksSpec)

/-- 'girouettelaw06.ShiftsWilliams', WHERE WHAT IT READS IS OF BULK AT MOST 1048576: true; the input reads as it did. -/
def shiftsWilliamsUptoRow : OpenClaim := { program := "ytjfopbpkophoeaa", sum := "1f2a57f554ec2ffc9b93c943be8a057670e30d42d37d3e8839296b18ec7ca50e", func := "girouette/girouettelaw06.ShiftsWilliams", spec := "shiftsWilliams", unfollowed := true, recurses := true, apart := false, narrowed := true }
def ShiftsWilliamsUptoSaid : Prop := shiftsWilliamsUptoRow.holds Try.pinned (OpenSpec.upto shiftsWilliamsSpec)

end Rows
end Go.Proofs.Ytjfopbpkophoeaa
