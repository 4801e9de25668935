/-
  No cell of these rows narrows 'for every input' (looked for: loops, veiled, ifaces, maps, wideKeys, modest, calm, conditions, laid).
  DERIVED. THE GIVEN ROWS OF THIS SEAT. 10 by the template 'for every input the law returns true; each argument reads behind the call as it read before'; 0 by the template 'total and deterministic' (their statements: YtigijjinlalnaaaTotals.lean).
  GIVEN WITH THE SEED: the statements are not yours to turn. If you find one false, say at which input.
  Laid BY PROGRAM, IN A SANDBOX (cutbox-rows.mjs): the forced cells as the released guide's own fill.sh prints them over the translation 9cfae1e47089a355… (all of the seat's roots in one cut). By AI agents, Wed Nov 11 2026. No macro, syntax, notation, axiom, sorry.
-/
import Derived.Test.YtigijjinlalnaaaChecked
import GoSem.Claim
import GoSem.ClaimJoined
import GoSem.ClaimMapViews
import Derived.JoinedTies
import Derived.KernelRfl
namespace Go.Proofs.Ytigijjinlalnaaa
/- THE CELL 'sum', in the pinned program and in every row, IS THE sha256 OF THE DUMP (.gsa) THAT YtigijjinlalnaaaProg.lean LOADS. Nothing in Lean hashes anything: it is a label: what it is worth is what the hold of that sum in a sandbox is worth. -/
noncomputable def Try.pinned : Pinned := { name := "ytigijjinlalnaaa", sum := "9cfae1e47089a3552050e9cff83dbffa5647bf2dca05a710577537f3c2f679f0", checked := Try.checked }
namespace Rows
def none {H : Type} : Left H := { results := [], args := [] }

/-- 'girouettelaw04.RoundsRings': WHATEVER THE INPUT: true; the input reads as it did. -/
def roundsRingsSpec : ChangeSpec := { name := "roundsRings", fn := fun _ => fun
  | [d1, d2, d3] => { results := [.lit (.bool true)], args := [d1, d2, d3] }
  | _ => none }
def roundsRingsRow : OpenClaim := { program := "ytigijjinlalnaaa", sum := "9cfae1e47089a3552050e9cff83dbffa5647bf2dca05a710577537f3c2f679f0", func := "girouette/girouettelaw04.RoundsRings", spec := "roundsRings", unfollowed := true, recurses := true, plainKeys := false, apart := false }
def RoundsRingsSaid : Prop := roundsRingsRow.holds Try.pinned (OpenSpec.ofChange roundsRingsSpec)

/-- ITS FALSE NEIGHBOUR: 'it returns false'. Refute it at one input. -/
def roundsRingsWrong : ChangeSpec := { name := "roundsRings", fn := fun _ => fun
  | [d1, d2, d3] => { results := [.lit (.bool false)], args := [d1, d2, d3] }
  | _ => none }
def RoundsRingsWrongFalsely : Prop := roundsRingsRow.holds Try.pinned (OpenSpec.ofChange roundsRingsWrong)

/-- 'girouettelaw04.RoundsCompletes': WHATEVER THE INPUT: true; the input reads as it did. -/
def roundsCompletesSpec : ChangeSpec := { name := "roundsCompletes", fn := fun _ => fun
  | [d1, d2, d3] => { results := [.lit (.bool true)], args := [d1, d2, d3] }
  | _ => none }
def roundsCompletesRow : OpenClaim := { program := "ytigijjinlalnaaa", sum := "9cfae1e47089a3552050e9cff83dbffa5647bf2dca05a710577537f3c2f679f0", func := "girouette/girouettelaw04.RoundsCompletes", spec := "roundsCompletes", unfollowed := true, recurses := true, plainKeys := false, apart := false }
def RoundsCompletesSaid : Prop := roundsCompletesRow.holds Try.pinned (OpenSpec.ofChange roundsCompletesSpec)

/-- ITS FALSE NEIGHBOUR: 'it returns false'. Refute it at one input. -/
def roundsCompletesWrong : ChangeSpec := { name := "roundsCompletes", fn := fun _ => fun
  | [d1, d2, d3] => { results := [.lit (.bool false)], args := [d1, d2, d3] }
  | _ => none }
def RoundsCompletesWrongFalsely : Prop := roundsCompletesRow.holds Try.pinned (OpenSpec.ofChange roundsCompletesWrong)

/-- 'girouettelaw04.RoundsBegins': WHATEVER THE INPUT: true; the input reads as it did. -/
def roundsBeginsSpec : ChangeSpec := { name := "roundsBegins", fn := fun _ => fun
  | [d1, d2, d3] => { results := [.lit (.bool true)], args := [d1, d2, d3] }
  | _ => none }
def roundsBeginsRow : OpenClaim := { program := "ytigijjinlalnaaa", sum := "9cfae1e47089a3552050e9cff83dbffa5647bf2dca05a710577537f3c2f679f0", func := "girouette/girouettelaw04.RoundsBegins", spec := "roundsBegins", unfollowed := true, recurses := true, plainKeys := false, apart := false }
def RoundsBeginsSaid : Prop := roundsBeginsRow.holds Try.pinned (OpenSpec.ofChange roundsBeginsSpec)

/-- ITS FALSE NEIGHBOUR: 'it returns false'. Refute it at one input. -/
def roundsBeginsWrong : ChangeSpec := { name := "roundsBegins", fn := fun _ => fun
  | [d1, d2, d3] => { results := [.lit (.bool false)], args := [d1, d2, d3] }
  | _ => none }
def RoundsBeginsWrongFalsely : Prop := roundsBeginsRow.holds Try.pinned (OpenSpec.ofChange roundsBeginsWrong)

/-- 'girouettelaw04.RoundsLeast': WHATEVER THE INPUT: true; the input reads as it did. -/
def roundsLeastSpec : ChangeSpec := { name := "roundsLeast", fn := fun _ => fun
  | [d1, d2] => { results := [.lit (.bool true)], args := [d1, d2] }
  | _ => none }
def roundsLeastRow : OpenClaim := { program := "ytigijjinlalnaaa", sum := "9cfae1e47089a3552050e9cff83dbffa5647bf2dca05a710577537f3c2f679f0", func := "girouette/girouettelaw04.RoundsLeast", spec := "roundsLeast", unfollowed := true, recurses := true, plainKeys := false, apart := false }
def RoundsLeastSaid : Prop := roundsLeastRow.holds Try.pinned (OpenSpec.ofChange roundsLeastSpec)

/-- ITS FALSE NEIGHBOUR: 'it returns false'. Refute it at one input. -/
def roundsLeastWrong : ChangeSpec := { name := "roundsLeast", fn := fun _ => fun
  | [d1, d2] => { results := [.lit (.bool false)], args := [d1, d2] }
  | _ => none }
def RoundsLeastWrongFalsely : Prop := roundsLeastRow.holds Try.pinned (OpenSpec.ofChange roundsLeastWrong)

/-- 'girouettelaw04.RoundsWerra': WHATEVER THE INPUT: true; the input reads as it did. -/
def roundsWerraSpec : ChangeSpec := { name := "roundsWerra", fn := fun _ => fun
  | [d1, d2] => { results := [.lit (.bool true)], args := [d1, d2] }
  | _ => none }
def roundsWerraRow : OpenClaim := { program := "ytigijjinlalnaaa", sum := "9cfae1e47089a3552050e9cff83dbffa5647bf2dca05a710577537f3c2f679f0", func := "girouette/girouettelaw04.RoundsWerra", spec := "roundsWerra", unfollowed := true, recurses := true, plainKeys := false, apart := false }
def RoundsWerraSaid : Prop := roundsWerraRow.holds Try.pinned (OpenSpec.ofChange roundsWerraSpec)

/-- ITS FALSE NEIGHBOUR: 'it returns false'. Refute it at one input. -/
def roundsWerraWrong : ChangeSpec := { name := "roundsWerra", fn := fun _ => fun
  | [d1, d2] => { results := [.lit (.bool false)], args := [d1, d2] }
  | _ => none }
def RoundsWerraWrongFalsely : Prop := roundsWerraRow.holds Try.pinned (OpenSpec.ofChange roundsWerraWrong)

/-- 'girouettelaw04.RoundsHomes': WHATEVER THE INPUT: true; the input reads as it did. -/
def roundsHomesSpec : ChangeSpec := { name := "roundsHomes", fn := fun _ => fun
  | [d1, d2, d3] => { results := [.lit (.bool true)], args := [d1, d2, d3] }
  | _ => none }
def roundsHomesRow : OpenClaim := { program := "ytigijjinlalnaaa", sum := "9cfae1e47089a3552050e9cff83dbffa5647bf2dca05a710577537f3c2f679f0", func := "girouette/girouettelaw04.RoundsHomes", spec := "roundsHomes", unfollowed := true, recurses := true, plainKeys := false, apart := false }
def RoundsHomesSaid : Prop := roundsHomesRow.holds Try.pinned (OpenSpec.ofChange roundsHomesSpec)

/-- ITS FALSE NEIGHBOUR: 'it returns false'. Refute it at one input. -/
def roundsHomesWrong : ChangeSpec := { name := "roundsHomes", fn := fun _ => fun
  | [d1, d2, d3] => { results := [.lit (.bool false)], args := [d1, d2, d3] }
  | _ => none }
def RoundsHomesWrongFalsely : Prop := roundsHomesRow.holds Try.pinned (OpenSpec.ofChange roundsHomesWrong)

/-- 'girouettelaw04.RoundsMakes': WHATEVER THE INPUT: true; the input reads as it did. -/
def roundsMakesSpec : ChangeSpec := { name := "roundsMakes", fn := fun _ => fun
  | [d] => { results := [.lit (.bool true)], args := [d] }
  | _ => none }
def roundsMakesRow : OpenClaim := { program := "ytigijjinlalnaaa", sum := "9cfae1e47089a3552050e9cff83dbffa5647bf2dca05a710577537f3c2f679f0", func := "girouette/girouettelaw04.RoundsMakes", spec := "roundsMakes", unfollowed := true, recurses := true, plainKeys := false, apart := false }
def RoundsMakesSaid : Prop := roundsMakesRow.holds Try.pinned (OpenSpec.ofChange roundsMakesSpec)

/-- ITS FALSE NEIGHBOUR: 'it returns false'. Refute it at one input. -/
def roundsMakesWrong : ChangeSpec := { name := "roundsMakes", fn := fun _ => fun
  | [d] => { results := [.lit (.bool false)], args := [d] }
  | _ => none }
def RoundsMakesWrongFalsely : Prop := roundsMakesRow.holds Try.pinned (OpenSpec.ofChange roundsMakesWrong)

/-- 'girouettelaw04.RoundsSums': WHATEVER THE INPUT: true; the input reads as it did. -/
def roundsSumsSpec : ChangeSpec := { name := "roundsSums", fn := fun _ => fun
  | [d1, d2, d3] => { results := [.lit (.bool true)], args := [d1, d2, d3] }
  | _ => none }
def roundsSumsRow : OpenClaim := { program := "ytigijjinlalnaaa", sum := "9cfae1e47089a3552050e9cff83dbffa5647bf2dca05a710577537f3c2f679f0", func := "girouette/girouettelaw04.RoundsSums", spec := "roundsSums", unfollowed := true, recurses := true, plainKeys := false, apart := false }
def RoundsSumsSaid : Prop := roundsSumsRow.holds Try.pinned (OpenSpec.ofChange roundsSumsSpec)

/-- ITS FALSE NEIGHBOUR: 'it returns false'. Refute it at one input. -/
def roundsSumsWrong : ChangeSpec := { name := "roundsSums", fn := fun _ => fun
  | [d1, d2, d3] => { results := [.lit (.bool false)], args := [d1, d2, d3] }
  | _ => none }
def RoundsSumsWrongFalsely : Prop := roundsSumsRow.holds Try.pinned (OpenSpec.ofChange roundsSumsWrong)

/-- 'girouettelaw04.RoundsFollows': WHATEVER THE INPUT: true; the input reads as it did. -/
def roundsFollowsSpec : ChangeSpec := { name := "roundsFollows", fn := fun _ => fun
  | [d1, d2] => { results := [.lit (.bool true)], args := [d1, d2] }
  | _ => none }
def roundsFollowsRow : OpenClaim := { program := "ytigijjinlalnaaa", sum := "9cfae1e47089a3552050e9cff83dbffa5647bf2dca05a710577537f3c2f679f0", func := "girouette/girouettelaw04.RoundsFollows", spec := "roundsFollows", unfollowed := true, recurses := true, plainKeys := false, apart := false }
def RoundsFollowsSaid : Prop := roundsFollowsRow.holds Try.pinned (OpenSpec.ofChange roundsFollowsSpec)

/-- ITS FALSE NEIGHBOUR: 'it returns false'. Refute it at one input. -/
def roundsFollowsWrong : ChangeSpec := { name := "roundsFollows", fn := fun _ => fun
  | [d1, d2] => { results := [.lit (.bool false)], args := [d1, d2] }
  | _ => none }
def RoundsFollowsWrongFalsely : Prop := roundsFollowsRow.holds Try.pinned (OpenSpec.ofChange roundsFollowsWrong)

/-- 'girouettelaw04.RoundsChecks': WHATEVER THE INPUT: true; the input reads as it did. -/
def roundsChecksSpec : ChangeSpec := { name := "roundsChecks", fn := fun _ => fun
  | [d1, d2] => { results := [.lit (.bool true)], args := [d1, d2] }
  | _ => none }
def roundsChecksRow : OpenClaim := { program := "ytigijjinlalnaaa", sum := "9cfae1e47089a3552050e9cff83dbffa5647bf2dca05a710577537f3c2f679f0", func := "girouette/girouettelaw04.RoundsChecks", spec := "roundsChecks", unfollowed := true, recurses := true, plainKeys := false, apart := false }
def RoundsChecksSaid : Prop := roundsChecksRow.holds Try.pinned (OpenSpec.ofChange roundsChecksSpec)

/-- ITS FALSE NEIGHBOUR: 'it returns false'. Refute it at one input. -/
def roundsChecksWrong : ChangeSpec := { name := "roundsChecks", fn := fun _ => fun
  | [d1, d2] => { results := [.lit (.bool false)], args := [d1, d2] }
  | _ => none }
def RoundsChecksWrongFalsely : Prop := roundsChecksRow.holds Try.pinned (OpenSpec.ofChange roundsChecksWrong)

/- THE SECOND FORM. 'bulk': how many values and letters a reading holds, each counted each time it is reached (what is shared counts as often as it is met; a slice's spare places count too). A statement '..UptoSaid' is the law's where the arguments, and the package variables that the reading takes, are together of bulk at most 1048576: NARROWER than '..Said'. Prove '..Said' where nothing that the law and all that it calls make is longer than what came in: it says more and counts as full. Else prove '..UptoSaid'. A law counts once. -/
mutual
def uptoBulk {H : Type} : DataW H → Nat
  | .lit (.string bytes) => bytes.length + 1
  | .lit _ => 1
  | .nil => 1
  | .ptr d => uptoBulk d + 1
  | .slice elems spare => uptoBulkAll elems + uptoBulkAll spare + 1
  | .agg parts => uptoBulkAll parts + 1
  | .iface _ d => uptoBulk d + 1
  | .map entries => uptoBulkEntries entries + 1
  | .held _ => 1
def uptoBulkAll {H : Type} : List (DataW H) → Nat
  | [] => 0
  | d :: r => uptoBulk d + uptoBulkAll r
def uptoBulkEntries {H : Type} : List (Lit × DataW H) → Nat
  | [] => 0
  | x :: r => uptoBulkEntry x + uptoBulkEntries r
def uptoBulkEntry {H : Type} : Lit × DataW H → Nat
  | (.string bytes, d) => bytes.length + uptoBulk d + 1
  | (_, d) => uptoBulk d + 1
 end
def uptoSmall : (H : Type) → List (DataW H) → Bool := fun _ ds => decide (uptoBulkAll ds ≤ 1048576)
def OpenSpec.upto (s : _root_.Go.ChangeSpec) : _root_.Go.OpenSpec := { _root_.Go.OpenSpec.ofChange s with cond := some uptoSmall }

/-- 'girouettelaw04.RoundsRings', WHERE WHAT IT READS IS OF BULK AT MOST 1048576: true; the input reads as it did. -/
def roundsRingsUptoRow : OpenClaim := { program := "ytigijjinlalnaaa", sum := "9cfae1e47089a3552050e9cff83dbffa5647bf2dca05a710577537f3c2f679f0", func := "girouette/girouettelaw04.RoundsRings", spec := "roundsRings", unfollowed := true, recurses := true, plainKeys := false, apart := false, narrowed := true }
def RoundsRingsUptoSaid : Prop := roundsRingsUptoRow.holds Try.pinned (OpenSpec.upto roundsRingsSpec)

/-- 'girouettelaw04.RoundsCompletes', WHERE WHAT IT READS IS OF BULK AT MOST 1048576: true; the input reads as it did. -/
def roundsCompletesUptoRow : OpenClaim := { program := "ytigijjinlalnaaa", sum := "9cfae1e47089a3552050e9cff83dbffa5647bf2dca05a710577537f3c2f679f0", func := "girouette/girouettelaw04.RoundsCompletes", spec := "roundsCompletes", unfollowed := true, recurses := true, plainKeys := false, apart := false, narrowed := true }
def RoundsCompletesUptoSaid : Prop := roundsCompletesUptoRow.holds Try.pinned (OpenSpec.upto roundsCompletesSpec)

/-- 'girouettelaw04.RoundsBegins', WHERE WHAT IT READS IS OF BULK AT MOST 1048576: true; the input reads as it did. -/
def roundsBeginsUptoRow : OpenClaim := { program := "ytigijjinlalnaaa", sum := "9cfae1e47089a3552050e9cff83dbffa5647bf2dca05a710577537f3c2f679f0", func := "girouette/girouettelaw04.RoundsBegins", spec := "roundsBegins", unfollowed := true, recurses := true, plainKeys := false, apart := false, narrowed := true }
def RoundsBeginsUptoSaid : Prop := roundsBeginsUptoRow.holds Try.pinned (OpenSpec.upto roundsBeginsSpec)

/-- 'girouettelaw04.RoundsLeast', WHERE WHAT IT READS IS OF BULK AT MOST 1048576: true; the input reads as it did. -/
def roundsLeastUptoRow : OpenClaim := { program := "ytigijjinlalnaaa", sum := "9cfae1e47089a3552050e9cff83dbffa5647bf2dca05a710577537f3c2f679f0", func := "girouette/girouettelaw04.RoundsLeast", spec := "roundsLeast", unfollowed := true, recurses := true, plainKeys := false, apart := false, narrowed := true }
def RoundsLeastUptoSaid : Prop := roundsLeastUptoRow.holds Try.pinned (OpenSpec.upto roundsLeastSpec)

/-- 'girouettelaw04.RoundsWerra', WHERE WHAT IT READS IS OF BULK AT MOST 1048576: true; the input reads as it did. -/
def roundsWerraUptoRow : OpenClaim := { program := "ytigijjinlalnaaa", sum := "9cfae1e47089a3552050e9cff83dbffa5647bf2dca05a710577537f3c2f679f0", func := "girouette/girouettelaw04.RoundsWerra", spec := "roundsWerra", unfollowed := true, recurses := true, plainKeys := false, apart := false, narrowed := true }
def RoundsWerraUptoSaid : Prop := roundsWerraUptoRow.holds Try.pinned (OpenSpec.upto roundsWerraSpec)

/-- 'girouettelaw04.RoundsHomes', WHERE WHAT IT READS IS OF BULK AT MOST 1048576: true; the input reads as it did. -/
def roundsHomesUptoRow : OpenClaim := { program := "ytigijjinlalnaaa", sum := "9cfae1e47089a3552050e9cff83dbffa5647bf2dca05a710577537f3c2f679f0", func := "girouette/girouettelaw04.RoundsHomes", spec := "roundsHomes", unfollowed := true, recurses := true, plainKeys := false, apart := false, narrowed := true }
def RoundsHomesUptoSaid : Prop := roundsHomesUptoRow.holds Try.pinned (OpenSpec.upto roundsHomesSpec)

/-- 'girouettelaw04.RoundsMakes', WHERE WHAT IT READS IS OF BULK AT MOST 1048576: true; the input reads as it did. -/
def roundsMakesUptoRow : OpenClaim := { program := "ytigijjinlalnaaa", sum := "9cfae1e47089a3552050e9cff83dbffa5647bf2dca05a710577537f3c2f679f0", func := "girouette/girouettelaw04.RoundsMakes", spec := "roundsMakes", unfollowed := true, recurses := true, plainKeys := false, apart := false, narrowed := true }
def RoundsMakesUptoSaid : Prop := roundsMakesUptoRow.holds Try.pinned (OpenSpec.upto roundsMakesSpec)

/-- 'girouettelaw04.RoundsSums', WHERE WHAT IT READS IS OF BULK AT MOST 1048576: true; the input reads as it did. -/
def roundsSumsUptoRow : OpenClaim := { program := "ytigijjinlalnaaa", sum := "9cfae1e47089a3552050e9cff83dbffa5647bf2dca05a710577537f3c2f679f0", func := "girouette/girouettelaw04.RoundsSums", spec := "roundsSums", unfollowed := true, recurses := true, plainKeys := false, apart := false, narrowed := true }
def RoundsSumsUptoSaid : Prop := roundsSumsUptoRow.holds Try.pinned (OpenSpec.upto roundsSumsSpec)

/-- 'girouettelaw04.RoundsFollows', WHERE WHAT IT READS IS OF BULK AT MOST 1048576: true; the input reads as it did. -/
def roundsFollowsUptoRow : OpenClaim := { program := "ytigijjinlalnaaa", sum := "9cfae1e47089a3552050e9cff83dbffa5647bf2dca05a710577537f3c2f679f0", func := "girouette/girouettelaw04.RoundsFollows", spec := "roundsFollows", unfollowed := true, recurses := true, plainKeys := false, apart := false, narrowed := true }
def RoundsFollowsUptoSaid : Prop := roundsFollowsUptoRow.holds Try.pinned (OpenSpec.upto roundsFollowsSpec)

/-- 'girouettelaw04.RoundsChecks', WHERE WHAT IT READS IS OF BULK AT MOST 1048576: true; the input reads as it did. -/
def roundsChecksUptoRow : OpenClaim := { program := "ytigijjinlalnaaa", sum := "9cfae1e47089a3552050e9cff83dbffa5647bf2dca05a710577537f3c2f679f0", func := "girouette/girouettelaw04.RoundsChecks", spec := "roundsChecks", unfollowed := true, recurses := true, plainKeys := false, apart := false, narrowed := true }
def RoundsChecksUptoSaid : Prop := roundsChecksUptoRow.holds Try.pinned (OpenSpec.upto roundsChecksSpec)

end Rows
end Go.Proofs.Ytigijjinlalnaaa
