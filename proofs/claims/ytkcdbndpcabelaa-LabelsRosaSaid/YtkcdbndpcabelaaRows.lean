/-
  No cell of these rows narrows 'for every input' (looked for: loops, veiled, ifaces, maps, wideKeys, modest, calm, conditions, laid).
  DERIVED. THE GIVEN ROWS OF THIS SEAT. 10 by the template 'for every input the law returns true; each argument reads behind the call as it read before'; 0 by the template 'total and deterministic' (their statements: YtkcdbndpcabelaaTotals.lean).
  GIVEN WITH THE SEED: the statements are not yours to turn. If you find one false, say at which input.
  Laid BY PROGRAM, IN A SANDBOX (cutbox-rows.mjs): the forced cells as the released guide's own fill.sh prints them over the translation 7b8a01bfcd92c6fe… (all of the seat's roots in one cut). By AI agents, Wed Nov 11 2026. No macro, syntax, notation, axiom, sorry.
-/
import Derived.Test.YtkcdbndpcabelaaChecked
import GoSem.Claim
import GoSem.ClaimJoined
import GoSem.ClaimMapViews
import Derived.JoinedTies
import Derived.KernelRfl
namespace Go.Proofs.Ytkcdbndpcabelaa
/- THE CELL 'sum', in the pinned program and in every row, IS THE sha256 OF THE DUMP (.gsa) THAT YtkcdbndpcabelaaProg.lean LOADS. Nothing in Lean hashes anything: it is a label: what it is worth is what the hold of that sum in a sandbox is worth. -/
noncomputable def Try.pinned : Pinned := { name := "ytkcdbndpcabelaa", sum := "7b8a01bfcd92c6fe0e70e123cbaa71c54b52e8dda4b9da08ac95ce2ec7ddc596", checked := Try.checked }
namespace Rows
def none {H : Type} : Left H := { results := [], args := [] }

/-- 'girouettelaw02.LabelsCopies': WHATEVER THE INPUT: true; the input reads as it did. -/
def labelsCopiesSpec : ChangeSpec := { name := "labelsCopies", fn := fun _ => fun
  | [d1, d2, d3] => { results := [.lit (.bool true)], args := [d1, d2, d3] }
  | _ => none }
def labelsCopiesRow : OpenClaim := { program := "ytkcdbndpcabelaa", sum := "7b8a01bfcd92c6fe0e70e123cbaa71c54b52e8dda4b9da08ac95ce2ec7ddc596", func := "girouette/girouettelaw02.LabelsCopies", spec := "labelsCopies", unfollowed := true, recurses := true, plainKeys := false, apart := false }
def LabelsCopiesSaid : Prop := labelsCopiesRow.holds Try.pinned (OpenSpec.ofChange labelsCopiesSpec)

/-- ITS FALSE NEIGHBOUR: 'it returns false'. Refute it at one input. -/
def labelsCopiesWrong : ChangeSpec := { name := "labelsCopies", fn := fun _ => fun
  | [d1, d2, d3] => { results := [.lit (.bool false)], args := [d1, d2, d3] }
  | _ => none }
def LabelsCopiesWrongFalsely : Prop := labelsCopiesRow.holds Try.pinned (OpenSpec.ofChange labelsCopiesWrong)

/-- 'girouettelaw02.LabelsRuler': WHATEVER THE INPUT: true; the input reads as it did. -/
def labelsRulerSpec : ChangeSpec := { name := "labelsRuler", fn := fun _ => fun
  | [d] => { results := [.lit (.bool true)], args := [d] }
  | _ => none }
def labelsRulerRow : OpenClaim := { program := "ytkcdbndpcabelaa", sum := "7b8a01bfcd92c6fe0e70e123cbaa71c54b52e8dda4b9da08ac95ce2ec7ddc596", func := "girouette/girouettelaw02.LabelsRuler", spec := "labelsRuler", unfollowed := true, recurses := true, plainKeys := false, apart := false }
def LabelsRulerSaid : Prop := labelsRulerRow.holds Try.pinned (OpenSpec.ofChange labelsRulerSpec)

/-- ITS FALSE NEIGHBOUR: 'it returns false'. Refute it at one input. -/
def labelsRulerWrong : ChangeSpec := { name := "labelsRuler", fn := fun _ => fun
  | [d] => { results := [.lit (.bool false)], args := [d] }
  | _ => none }
def LabelsRulerWrongFalsely : Prop := labelsRulerRow.holds Try.pinned (OpenSpec.ofChange labelsRulerWrong)

/-- 'girouettelaw02.LabelsRulers': WHATEVER THE INPUT: true; the input reads as it did. -/
def labelsRulersSpec : ChangeSpec := { name := "labelsRulers", fn := fun _ => fun
  | [d1, d2] => { results := [.lit (.bool true)], args := [d1, d2] }
  | _ => none }
def labelsRulersRow : OpenClaim := { program := "ytkcdbndpcabelaa", sum := "7b8a01bfcd92c6fe0e70e123cbaa71c54b52e8dda4b9da08ac95ce2ec7ddc596", func := "girouette/girouettelaw02.LabelsRulers", spec := "labelsRulers", unfollowed := true, recurses := true, plainKeys := false, apart := false }
def LabelsRulersSaid : Prop := labelsRulersRow.holds Try.pinned (OpenSpec.ofChange labelsRulersSpec)

/-- ITS FALSE NEIGHBOUR: 'it returns false'. Refute it at one input. -/
def labelsRulersWrong : ChangeSpec := { name := "labelsRulers", fn := fun _ => fun
  | [d1, d2] => { results := [.lit (.bool false)], args := [d1, d2] }
  | _ => none }
def LabelsRulersWrongFalsely : Prop := labelsRulersRow.holds Try.pinned (OpenSpec.ofChange labelsRulersWrong)

/-- 'girouettelaw02.LabelsFirst': WHATEVER THE INPUT: true; the input reads as it did. -/
def labelsFirstSpec : ChangeSpec := { name := "labelsFirst", fn := fun _ => fun
  | [d1, d2] => { results := [.lit (.bool true)], args := [d1, d2] }
  | _ => none }
def labelsFirstRow : OpenClaim := { program := "ytkcdbndpcabelaa", sum := "7b8a01bfcd92c6fe0e70e123cbaa71c54b52e8dda4b9da08ac95ce2ec7ddc596", func := "girouette/girouettelaw02.LabelsFirst", spec := "labelsFirst", unfollowed := true, recurses := true, plainKeys := false, apart := false }
def LabelsFirstSaid : Prop := labelsFirstRow.holds Try.pinned (OpenSpec.ofChange labelsFirstSpec)

/-- ITS FALSE NEIGHBOUR: 'it returns false'. Refute it at one input. -/
def labelsFirstWrong : ChangeSpec := { name := "labelsFirst", fn := fun _ => fun
  | [d1, d2] => { results := [.lit (.bool false)], args := [d1, d2] }
  | _ => none }
def LabelsFirstWrongFalsely : Prop := labelsFirstRow.holds Try.pinned (OpenSpec.ofChange labelsFirstWrong)

/-- 'girouettelaw02.LabelsCovers': WHATEVER THE INPUT: true; the input reads as it did. -/
def labelsCoversSpec : ChangeSpec := { name := "labelsCovers", fn := fun _ => fun
  | [d1, d2, d3] => { results := [.lit (.bool true)], args := [d1, d2, d3] }
  | _ => none }
def labelsCoversRow : OpenClaim := { program := "ytkcdbndpcabelaa", sum := "7b8a01bfcd92c6fe0e70e123cbaa71c54b52e8dda4b9da08ac95ce2ec7ddc596", func := "girouette/girouettelaw02.LabelsCovers", spec := "labelsCovers", unfollowed := true, recurses := true, plainKeys := false, apart := false }
def LabelsCoversSaid : Prop := labelsCoversRow.holds Try.pinned (OpenSpec.ofChange labelsCoversSpec)

/-- ITS FALSE NEIGHBOUR: 'it returns false'. Refute it at one input. -/
def labelsCoversWrong : ChangeSpec := { name := "labelsCovers", fn := fun _ => fun
  | [d1, d2, d3] => { results := [.lit (.bool false)], args := [d1, d2, d3] }
  | _ => none }
def LabelsCoversWrongFalsely : Prop := labelsCoversRow.holds Try.pinned (OpenSpec.ofChange labelsCoversWrong)

/-- 'girouettelaw02.LabelsParity': WHATEVER THE INPUT: true; the input reads as it did. -/
def labelsParitySpec : ChangeSpec := { name := "labelsParity", fn := fun _ => fun
  | [d1, d2] => { results := [.lit (.bool true)], args := [d1, d2] }
  | _ => none }
def labelsParityRow : OpenClaim := { program := "ytkcdbndpcabelaa", sum := "7b8a01bfcd92c6fe0e70e123cbaa71c54b52e8dda4b9da08ac95ce2ec7ddc596", func := "girouette/girouettelaw02.LabelsParity", spec := "labelsParity", unfollowed := true, recurses := true, plainKeys := false, apart := false }
def LabelsParitySaid : Prop := labelsParityRow.holds Try.pinned (OpenSpec.ofChange labelsParitySpec)

/-- ITS FALSE NEIGHBOUR: 'it returns false'. Refute it at one input. -/
def labelsParityWrong : ChangeSpec := { name := "labelsParity", fn := fun _ => fun
  | [d1, d2] => { results := [.lit (.bool false)], args := [d1, d2] }
  | _ => none }
def LabelsParityWrongFalsely : Prop := labelsParityRow.holds Try.pinned (OpenSpec.ofChange labelsParityWrong)

/-- 'girouettelaw02.LabelsTells': WHATEVER THE INPUT: true; the input reads as it did. -/
def labelsTellsSpec : ChangeSpec := { name := "labelsTells", fn := fun _ => fun
  | [d1, d2, d3] => { results := [.lit (.bool true)], args := [d1, d2, d3] }
  | _ => none }
def labelsTellsRow : OpenClaim := { program := "ytkcdbndpcabelaa", sum := "7b8a01bfcd92c6fe0e70e123cbaa71c54b52e8dda4b9da08ac95ce2ec7ddc596", func := "girouette/girouettelaw02.LabelsTells", spec := "labelsTells", unfollowed := true, recurses := true, plainKeys := false, apart := false }
def LabelsTellsSaid : Prop := labelsTellsRow.holds Try.pinned (OpenSpec.ofChange labelsTellsSpec)

/-- ITS FALSE NEIGHBOUR: 'it returns false'. Refute it at one input. -/
def labelsTellsWrong : ChangeSpec := { name := "labelsTells", fn := fun _ => fun
  | [d1, d2, d3] => { results := [.lit (.bool false)], args := [d1, d2, d3] }
  | _ => none }
def LabelsTellsWrongFalsely : Prop := labelsTellsRow.holds Try.pinned (OpenSpec.ofChange labelsTellsWrong)

/-- 'girouettelaw02.LabelsRosa': WHATEVER THE INPUT: true; the input reads as it did. -/
def labelsRosaSpec : ChangeSpec := { name := "labelsRosa", fn := fun _ => fun
  | [d1, d2] => { results := [.lit (.bool true)], args := [d1, d2] }
  | _ => none }
def labelsRosaRow : OpenClaim := { program := "ytkcdbndpcabelaa", sum := "7b8a01bfcd92c6fe0e70e123cbaa71c54b52e8dda4b9da08ac95ce2ec7ddc596", func := "girouette/girouettelaw02.LabelsRosa", spec := "labelsRosa", unfollowed := true, recurses := true, plainKeys := false, apart := false }
def LabelsRosaSaid : Prop := labelsRosaRow.holds Try.pinned (OpenSpec.ofChange labelsRosaSpec)

/-- ITS FALSE NEIGHBOUR: 'it returns false'. Refute it at one input. -/
def labelsRosaWrong : ChangeSpec := { name := "labelsRosa", fn := fun _ => fun
  | [d1, d2] => { results := [.lit (.bool false)], args := [d1, d2] }
  | _ => none }
def LabelsRosaWrongFalsely : Prop := labelsRosaRow.holds Try.pinned (OpenSpec.ofChange labelsRosaWrong)

/-- 'girouettelaw02.LabelsCrawls': WHATEVER THE INPUT: true; the input reads as it did. -/
def labelsCrawlsSpec : ChangeSpec := { name := "labelsCrawls", fn := fun _ => fun
  | [d1, d2] => { results := [.lit (.bool true)], args := [d1, d2] }
  | _ => none }
def labelsCrawlsRow : OpenClaim := { program := "ytkcdbndpcabelaa", sum := "7b8a01bfcd92c6fe0e70e123cbaa71c54b52e8dda4b9da08ac95ce2ec7ddc596", func := "girouette/girouettelaw02.LabelsCrawls", spec := "labelsCrawls", unfollowed := true, recurses := true, plainKeys := false, apart := false }
def LabelsCrawlsSaid : Prop := labelsCrawlsRow.holds Try.pinned (OpenSpec.ofChange labelsCrawlsSpec)

/-- ITS FALSE NEIGHBOUR: 'it returns false'. Refute it at one input. -/
def labelsCrawlsWrong : ChangeSpec := { name := "labelsCrawls", fn := fun _ => fun
  | [d1, d2] => { results := [.lit (.bool false)], args := [d1, d2] }
  | _ => none }
def LabelsCrawlsWrongFalsely : Prop := labelsCrawlsRow.holds Try.pinned (OpenSpec.ofChange labelsCrawlsWrong)

/-- 'girouettelaw02.LabelsChecks': WHATEVER THE INPUT: true; the input reads as it did. -/
def labelsChecksSpec : ChangeSpec := { name := "labelsChecks", fn := fun _ => fun
  | [d1, d2, d3] => { results := [.lit (.bool true)], args := [d1, d2, d3] }
  | _ => none }
def labelsChecksRow : OpenClaim := { program := "ytkcdbndpcabelaa", sum := "7b8a01bfcd92c6fe0e70e123cbaa71c54b52e8dda4b9da08ac95ce2ec7ddc596", func := "girouette/girouettelaw02.LabelsChecks", spec := "labelsChecks", unfollowed := true, recurses := true, plainKeys := false, apart := false }
def LabelsChecksSaid : Prop := labelsChecksRow.holds Try.pinned (OpenSpec.ofChange labelsChecksSpec)

/-- ITS FALSE NEIGHBOUR: 'it returns false'. Refute it at one input. -/
def labelsChecksWrong : ChangeSpec := { name := "labelsChecks", fn := fun _ => fun
  | [d1, d2, d3] => { results := [.lit (.bool false)], args := [d1, d2, d3] }
  | _ => none }
def LabelsChecksWrongFalsely : Prop := labelsChecksRow.holds Try.pinned (OpenSpec.ofChange labelsChecksWrong)

/- THE SECOND FORM. 'bulk': how many values and letters a reading holds, each counted each time it is reached (what is shared counts as often as it is met; a slice's spare places count too). A statement '..UptoSaid' is the law's where the arguments, and the package variables that the reading takes, are together of bulk at most 1048576: NARROWER than '..Said'. Prove '..Said' where nothing that the law and all that it calls make is longer than what came in: it says more and counts as full. Else prove '..UptoSaid'. A law counts once. -/
mutual
def uptoBulk {H : Type} : DataW H → Nat
  | .lit (.string bytes) => bytes.length + 1
  | .lit _ => 1
  | .nil => 1
  | .ptr d => uptoBulk d + 1
  | .slice elems spare => uptoBulkAll elems + uptoBulkAll spare + 1
  | .agg parts => uptoBulkAll parts + 1
  | .iface _ d => uptoBulk d + 1
  | .map entries => uptoBulkEntries entries + 1
  | .held _ => 1
def uptoBulkAll {H : Type} : List (DataW H) → Nat
  | [] => 0
  | d :: r => uptoBulk d + uptoBulkAll r
def uptoBulkEntries {H : Type} : List (Lit × DataW H) → Nat
  | [] => 0
  | x :: r => uptoBulkEntry x + uptoBulkEntries r
def uptoBulkEntry {H : Type} : Lit × DataW H → Nat
  | (.string bytes, d) => bytes.length + uptoBulk d + 1
  | (_, d) => uptoBulk d + 1
 end
def uptoSmall : (H : Type) → List (DataW H) → Bool := fun _ ds => decide (uptoBulkAll ds ≤ 1048576)
def OpenSpec.upto (s : _root_.Go.ChangeSpec) : _root_.Go.OpenSpec := { _root_.Go.OpenSpec.ofChange s with cond := some uptoSmall }

/-- 'girouettelaw02.LabelsCopies', WHERE WHAT IT READS IS OF BULK AT MOST 1048576: true; the input reads as it did. -/
def labelsCopiesUptoRow : OpenClaim := { program := "ytkcdbndpcabelaa", sum := "7b8a01bfcd92c6fe0e70e123cbaa71c54b52e8dda4b9da08ac95ce2ec7ddc596", func := "girouette/girouettelaw02.LabelsCopies", spec := "labelsCopies", unfollowed := true, recurses := true, plainKeys := false, apart := false, narrowed := true }
def LabelsCopiesUptoSaid : Prop := labelsCopiesUptoRow.holds Try.pinned (OpenSpec.upto labelsCopiesSpec)

/-- 'girouettelaw02.LabelsRuler', WHERE WHAT IT READS IS OF BULK AT MOST 1048576: true; the input reads as it did. -/
def labelsRulerUptoRow : OpenClaim := { program := "ytkcdbndpcabelaa", sum := "7b8a01bfcd92c6fe0e70e123cbaa71c54b52e8dda4b9da08ac95ce2ec7ddc596", func := "girouette/girouettelaw02.LabelsRuler", spec := "labelsRuler", unfollowed := true, recurses := true, plainKeys := false, apart := false, narrowed := true }
def LabelsRulerUptoSaid : Prop := labelsRulerUptoRow.holds Try.pinned (OpenSpec.upto labelsRulerSpec)

/-- 'girouettelaw02.LabelsRulers', WHERE WHAT IT READS IS OF BULK AT MOST 1048576: true; the input reads as it did. -/
def labelsRulersUptoRow : OpenClaim := { program := "ytkcdbndpcabelaa", sum := "7b8a01bfcd92c6fe0e70e123cbaa71c54b52e8dda4b9da08ac95ce2ec7ddc596", func := "girouette/girouettelaw02.LabelsRulers", spec := "labelsRulers", unfollowed := true, recurses := true, plainKeys := false, apart := false, narrowed := true }
def LabelsRulersUptoSaid : Prop := labelsRulersUptoRow.holds Try.pinned (OpenSpec.upto labelsRulersSpec)

/-- 'girouettelaw02.LabelsFirst', WHERE WHAT IT READS IS OF BULK AT MOST 1048576: true; the input reads as it did. -/
def labelsFirstUptoRow : OpenClaim := { program := "ytkcdbndpcabelaa", sum := "7b8a01bfcd92c6fe0e70e123cbaa71c54b52e8dda4b9da08ac95ce2ec7ddc596", func := "girouette/girouettelaw02.LabelsFirst", spec := "labelsFirst", unfollowed := true, recurses := true, plainKeys := false, apart := false, narrowed := true }
def LabelsFirstUptoSaid : Prop := labelsFirstUptoRow.holds Try.pinned (OpenSpec.upto labelsFirstSpec)

/-- 'girouettelaw02.LabelsCovers', WHERE WHAT IT READS IS OF BULK AT MOST 1048576: true; the input reads as it did. -/
def labelsCoversUptoRow : OpenClaim := { program := "ytkcdbndpcabelaa", sum := "7b8a01bfcd92c6fe0e70e123cbaa71c54b52e8dda4b9da08ac95ce2ec7ddc596", func := "girouette/girouettelaw02.LabelsCovers", spec := "labelsCovers", unfollowed := true, recurses := true, plainKeys := false, apart := false, narrowed := true }
def LabelsCoversUptoSaid : Prop := labelsCoversUptoRow.holds Try.pinned (OpenSpec.upto labelsCoversSpec)

/-- 'girouettelaw02.LabelsParity', WHERE WHAT IT READS IS OF BULK AT MOST 1048576: true; the input reads as it did. -/
def labelsParityUptoRow : OpenClaim := { program := "ytkcdbndpcabelaa", sum := "7b8a01bfcd92c6fe0e70e123cbaa71c54b52e8dda4b9da08ac95ce2ec7ddc596", func := "girouette/girouettelaw02.LabelsParity", spec := "labelsParity", unfollowed := true, recurses := true, plainKeys := false, apart := false, narrowed := true }
def LabelsParityUptoSaid : Prop := labelsParityUptoRow.holds Try.pinned (OpenSpec.upto labelsParitySpec)

/-- 'girouettelaw02.LabelsTells', WHERE WHAT IT READS IS OF BULK AT MOST 1048576: true; the input reads as it did. -/
def labelsTellsUptoRow : OpenClaim := { program := "ytkcdbndpcabelaa", sum := "7b8a01bfcd92c6fe0e70e123cbaa71c54b52e8dda4b9da08ac95ce2ec7ddc596", func := "girouette/girouettelaw02.LabelsTells", spec := "labelsTells", unfollowed := true, recurses := true, plainKeys := false, apart := false, narrowed := true }
def LabelsTellsUptoSaid : Prop := labelsTellsUptoRow.holds Try.pinned (OpenSpec.upto labelsTellsSpec)

/-- 'girouettelaw02.LabelsRosa', WHERE WHAT IT READS IS OF BULK AT MOST 1048576: true; the input reads as it did. -/
def labelsRosaUptoRow : OpenClaim := { program := "ytkcdbndpcabelaa", sum := "7b8a01bfcd92c6fe0e70e123cbaa71c54b52e8dda4b9da08ac95ce2ec7ddc596", func := "girouette/girouettelaw02.LabelsRosa", spec := "labelsRosa", unfollowed := true, recurses := true, plainKeys := false, apart := false, narrowed := true }
def LabelsRosaUptoSaid : Prop := labelsRosaUptoRow.holds Try.pinned (OpenSpec.upto labelsRosaSpec)

/-- 'girouettelaw02.LabelsCrawls', WHERE WHAT IT READS IS OF BULK AT MOST 1048576: true; the input reads as it did. -/
def labelsCrawlsUptoRow : OpenClaim := { program := "ytkcdbndpcabelaa", sum := "7b8a01bfcd92c6fe0e70e123cbaa71c54b52e8dda4b9da08ac95ce2ec7ddc596", func := "girouette/girouettelaw02.LabelsCrawls", spec := "labelsCrawls", unfollowed := true, recurses := true, plainKeys := false, apart := false, narrowed := true }
def LabelsCrawlsUptoSaid : Prop := labelsCrawlsUptoRow.holds Try.pinned (OpenSpec.upto labelsCrawlsSpec)

/-- 'girouettelaw02.LabelsChecks', WHERE WHAT IT READS IS OF BULK AT MOST 1048576: true; the input reads as it did. -/
def labelsChecksUptoRow : OpenClaim := { program := "ytkcdbndpcabelaa", sum := "7b8a01bfcd92c6fe0e70e123cbaa71c54b52e8dda4b9da08ac95ce2ec7ddc596", func := "girouette/girouettelaw02.LabelsChecks", spec := "labelsChecks", unfollowed := true, recurses := true, plainKeys := false, apart := false, narrowed := true }
def LabelsChecksUptoSaid : Prop := labelsChecksUptoRow.holds Try.pinned (OpenSpec.upto labelsChecksSpec)

end Rows
end Go.Proofs.Ytkcdbndpcabelaa
