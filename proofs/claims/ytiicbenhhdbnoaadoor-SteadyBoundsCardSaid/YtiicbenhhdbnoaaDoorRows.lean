/-
  NARROWER THAN 'FOR EVERY INPUT', by the rows' own cells (each row's printed sentence says how): SteadyTables: laid · SteadyBounds: laid · SteadyRouth: laid · SteadyKharitonov: laid · SteadyWeaves: laid · SteadyTimes: laid · SteadyTells: laid · SteadyChecks: laid · SteadyProducts: laid.
  DERIVED. THE GIVEN ROWS OF THIS SEAT. 9 by the template 'for every input the law returns true; each argument reads behind the call as it read before'; 0 by the template 'total and deterministic' (their statements: YtiicbenhhdbnoaaDoorTotals.lean).
  GIVEN WITH THE SEED: the statements are not yours to turn. If you find one false, say at which input.
  Laid BY PROGRAM, IN A SANDBOX (cutbox-rows.mjs): the forced cells as the released guide's own fill.sh prints them over the translation e6cfc563a943c2a1… (all of the seat's roots in one cut). By AI agents, Wed Nov 11 2026. No macro, syntax, notation, axiom, sorry.
-/
import Derived.Test.YtiicbenhhdbnoaaDoorChecked
import GoSem.Claim
import GoSem.ClaimJoined
import GoSem.ClaimMapViews
import Derived.JoinedTies
import Derived.KernelRfl
namespace Go.Proofs.YtiicbenhhdbnoaaDoor
/- THE CELL 'sum', in the pinned program and in every row, IS THE sha256 OF THE DUMP (.gsa) THAT YtiicbenhhdbnoaaDoorProg.lean LOADS. Nothing in Lean hashes anything: it is a label: what it is worth is what the hold of that sum in a sandbox is worth. -/
noncomputable def Tryd.pinned : Pinned := { name := "ytiicbenhhdbnoaadoor", sum := "e6cfc563a943c2a1c22c99531ca19d3e8c6afb1645efcc6c6010f4004a9b746d", checked := Tryd.checked }
namespace Rows
def none {H : Type} : Left H := { results := [], args := [] }

/- WHAT THE LISTED PACKAGE-LEVEL VARIABLES READ AS WHEN THE CALL BEGINS. Each datum BY PROGRAM (the guide's laid-datum.mjs) off the statement by which the dump's own 'gosem.cut.vars' lays the variable. In a bare row this is a premise. The card (YtiicbenhhdbnoaaDoorCards.lean) ties it to the program's text. -/
def laid_girouette_steady_zero {H : Type} : DataW H := .agg [.lit (.int .i64 0), .lit (.int .i64 1)]
def laid_girouette_steady_patterns {H : Type} : DataW H := .agg [.lit (.string [108, 108, 104, 104, 108, 108]), .lit (.string [104, 104, 108, 108, 104, 104]), .lit (.string [108, 104, 104, 108, 108, 104]), .lit (.string [104, 108, 108, 104, 104, 108])]

/-- 'girouettelaw09.SteadyTables': WHATEVER THE INPUT: true; the input reads as it did. -/
def steadyTablesSpec : ChangeSpec := { name := "steadyTables", fn := fun _ => fun
  | [d] => { results := [.lit (.bool true)], args := [d] }
  | _ => none }
def steadyTablesRow : OpenClaim := { program := "ytiicbenhhdbnoaadoor", sum := "e6cfc563a943c2a1c22c99531ca19d3e8c6afb1645efcc6c6010f4004a9b746d", func := "girouette/girouettelaw09.SteadyTables", spec := "steadyTables", unfollowed := true, recurses := true, named := ["girouette/steady.zero", "girouette/steady.patterns"], apart := false, laid := [("girouette/steady.zero", laid_girouette_steady_zero), ("girouette/steady.patterns", laid_girouette_steady_patterns)] }
def SteadyTablesSaid : Prop := steadyTablesRow.holds Tryd.pinned (OpenSpec.ofChange steadyTablesSpec)

/-- ITS FALSE NEIGHBOUR: 'it returns false'. Refute it at one input. -/
def steadyTablesWrong : ChangeSpec := { name := "steadyTables", fn := fun _ => fun
  | [d] => { results := [.lit (.bool false)], args := [d] }
  | _ => none }
def SteadyTablesWrongFalsely : Prop := steadyTablesRow.holds Tryd.pinned (OpenSpec.ofChange steadyTablesWrong)

/-- 'girouettelaw09.SteadyBounds': WHATEVER THE INPUT: true; the input reads as it did. -/
def steadyBoundsSpec : ChangeSpec := { name := "steadyBounds", fn := fun _ => fun
  | [d1, d2] => { results := [.lit (.bool true)], args := [d1, d2] }
  | _ => none }
def steadyBoundsRow : OpenClaim := { program := "ytiicbenhhdbnoaadoor", sum := "e6cfc563a943c2a1c22c99531ca19d3e8c6afb1645efcc6c6010f4004a9b746d", func := "girouette/girouettelaw09.SteadyBounds", spec := "steadyBounds", unfollowed := true, recurses := true, named := ["girouette/steady.patterns", "girouette/steady.zero"], apart := false, laid := [("girouette/steady.zero", laid_girouette_steady_zero), ("girouette/steady.patterns", laid_girouette_steady_patterns)] }
def SteadyBoundsSaid : Prop := steadyBoundsRow.holds Tryd.pinned (OpenSpec.ofChange steadyBoundsSpec)

/-- ITS FALSE NEIGHBOUR: 'it returns false'. Refute it at one input. -/
def steadyBoundsWrong : ChangeSpec := { name := "steadyBounds", fn := fun _ => fun
  | [d1, d2] => { results := [.lit (.bool false)], args := [d1, d2] }
  | _ => none }
def SteadyBoundsWrongFalsely : Prop := steadyBoundsRow.holds Tryd.pinned (OpenSpec.ofChange steadyBoundsWrong)

/-- 'girouettelaw09.SteadyRouth': WHATEVER THE INPUT: true; the input reads as it did. -/
def steadyRouthSpec : ChangeSpec := { name := "steadyRouth", fn := fun _ => fun
  | [d] => { results := [.lit (.bool true)], args := [d] }
  | _ => none }
def steadyRouthRow : OpenClaim := { program := "ytiicbenhhdbnoaadoor", sum := "e6cfc563a943c2a1c22c99531ca19d3e8c6afb1645efcc6c6010f4004a9b746d", func := "girouette/girouettelaw09.SteadyRouth", spec := "steadyRouth", unfollowed := true, recurses := true, named := ["girouette/steady.zero", "girouette/steady.patterns"], apart := false, laid := [("girouette/steady.zero", laid_girouette_steady_zero), ("girouette/steady.patterns", laid_girouette_steady_patterns)] }
def SteadyRouthSaid : Prop := steadyRouthRow.holds Tryd.pinned (OpenSpec.ofChange steadyRouthSpec)

/-- ITS FALSE NEIGHBOUR: 'it returns false'. Refute it at one input. -/
def steadyRouthWrong : ChangeSpec := { name := "steadyRouth", fn := fun _ => fun
  | [d] => { results := [.lit (.bool false)], args := [d] }
  | _ => none }
def SteadyRouthWrongFalsely : Prop := steadyRouthRow.holds Tryd.pinned (OpenSpec.ofChange steadyRouthWrong)

/-- 'girouettelaw09.SteadyKharitonov': WHATEVER THE INPUT: true; the input reads as it did. -/
def steadyKharitonovSpec : ChangeSpec := { name := "steadyKharitonov", fn := fun _ => fun
  | [d1, d2, d3] => { results := [.lit (.bool true)], args := [d1, d2, d3] }
  | _ => none }
def steadyKharitonovRow : OpenClaim := { program := "ytiicbenhhdbnoaadoor", sum := "e6cfc563a943c2a1c22c99531ca19d3e8c6afb1645efcc6c6010f4004a9b746d", func := "girouette/girouettelaw09.SteadyKharitonov", spec := "steadyKharitonov", unfollowed := true, recurses := true, named := ["girouette/steady.patterns", "girouette/steady.zero"], apart := false, laid := [("girouette/steady.zero", laid_girouette_steady_zero), ("girouette/steady.patterns", laid_girouette_steady_patterns)] }
def SteadyKharitonovSaid : Prop := steadyKharitonovRow.holds Tryd.pinned (OpenSpec.ofChange steadyKharitonovSpec)

/-- ITS FALSE NEIGHBOUR: 'it returns false'. Refute it at one input. -/
def steadyKharitonovWrong : ChangeSpec := { name := "steadyKharitonov", fn := fun _ => fun
  | [d1, d2, d3] => { results := [.lit (.bool false)], args := [d1, d2, d3] }
  | _ => none }
def SteadyKharitonovWrongFalsely : Prop := steadyKharitonovRow.holds Tryd.pinned (OpenSpec.ofChange steadyKharitonovWrong)

/-- 'girouettelaw09.SteadyWeaves': WHATEVER THE INPUT: true; the input reads as it did. -/
def steadyWeavesSpec : ChangeSpec := { name := "steadyWeaves", fn := fun _ => fun
  | [d1, d2, d3] => { results := [.lit (.bool true)], args := [d1, d2, d3] }
  | _ => none }
def steadyWeavesRow : OpenClaim := { program := "ytiicbenhhdbnoaadoor", sum := "e6cfc563a943c2a1c22c99531ca19d3e8c6afb1645efcc6c6010f4004a9b746d", func := "girouette/girouettelaw09.SteadyWeaves", spec := "steadyWeaves", unfollowed := true, recurses := true, named := ["girouette/steady.zero", "girouette/steady.patterns"], apart := false, laid := [("girouette/steady.zero", laid_girouette_steady_zero), ("girouette/steady.patterns", laid_girouette_steady_patterns)] }
def SteadyWeavesSaid : Prop := steadyWeavesRow.holds Tryd.pinned (OpenSpec.ofChange steadyWeavesSpec)

/-- ITS FALSE NEIGHBOUR: 'it returns false'. Refute it at one input. -/
def steadyWeavesWrong : ChangeSpec := { name := "steadyWeaves", fn := fun _ => fun
  | [d1, d2, d3] => { results := [.lit (.bool false)], args := [d1, d2, d3] }
  | _ => none }
def SteadyWeavesWrongFalsely : Prop := steadyWeavesRow.holds Tryd.pinned (OpenSpec.ofChange steadyWeavesWrong)

/-- 'girouettelaw09.SteadyTimes': WHATEVER THE INPUT: true; the input reads as it did. -/
def steadyTimesSpec : ChangeSpec := { name := "steadyTimes", fn := fun _ => fun
  | [d1, d2] => { results := [.lit (.bool true)], args := [d1, d2] }
  | _ => none }
def steadyTimesRow : OpenClaim := { program := "ytiicbenhhdbnoaadoor", sum := "e6cfc563a943c2a1c22c99531ca19d3e8c6afb1645efcc6c6010f4004a9b746d", func := "girouette/girouettelaw09.SteadyTimes", spec := "steadyTimes", unfollowed := true, recurses := true, named := ["girouette/steady.zero", "girouette/steady.patterns"], apart := false, laid := [("girouette/steady.zero", laid_girouette_steady_zero), ("girouette/steady.patterns", laid_girouette_steady_patterns)] }
def SteadyTimesSaid : Prop := steadyTimesRow.holds Tryd.pinned (OpenSpec.ofChange steadyTimesSpec)

/-- ITS FALSE NEIGHBOUR: 'it returns false'. Refute it at one input. -/
def steadyTimesWrong : ChangeSpec := { name := "steadyTimes", fn := fun _ => fun
  | [d1, d2] => { results := [.lit (.bool false)], args := [d1, d2] }
  | _ => none }
def SteadyTimesWrongFalsely : Prop := steadyTimesRow.holds Tryd.pinned (OpenSpec.ofChange steadyTimesWrong)

/-- 'girouettelaw09.SteadyTells': WHATEVER THE INPUT: true; the input reads as it did. -/
def steadyTellsSpec : ChangeSpec := { name := "steadyTells", fn := fun _ => fun
  | [d] => { results := [.lit (.bool true)], args := [d] }
  | _ => none }
def steadyTellsRow : OpenClaim := { program := "ytiicbenhhdbnoaadoor", sum := "e6cfc563a943c2a1c22c99531ca19d3e8c6afb1645efcc6c6010f4004a9b746d", func := "girouette/girouettelaw09.SteadyTells", spec := "steadyTells", unfollowed := true, recurses := true, named := ["girouette/steady.zero", "girouette/steady.patterns"], apart := false, laid := [("girouette/steady.zero", laid_girouette_steady_zero), ("girouette/steady.patterns", laid_girouette_steady_patterns)] }
def SteadyTellsSaid : Prop := steadyTellsRow.holds Tryd.pinned (OpenSpec.ofChange steadyTellsSpec)

/-- ITS FALSE NEIGHBOUR: 'it returns false'. Refute it at one input. -/
def steadyTellsWrong : ChangeSpec := { name := "steadyTells", fn := fun _ => fun
  | [d] => { results := [.lit (.bool false)], args := [d] }
  | _ => none }
def SteadyTellsWrongFalsely : Prop := steadyTellsRow.holds Tryd.pinned (OpenSpec.ofChange steadyTellsWrong)

/-- 'girouettelaw09.SteadyChecks': WHATEVER THE INPUT: true; the input reads as it did. -/
def steadyChecksSpec : ChangeSpec := { name := "steadyChecks", fn := fun _ => fun
  | [d] => { results := [.lit (.bool true)], args := [d] }
  | _ => none }
def steadyChecksRow : OpenClaim := { program := "ytiicbenhhdbnoaadoor", sum := "e6cfc563a943c2a1c22c99531ca19d3e8c6afb1645efcc6c6010f4004a9b746d", func := "girouette/girouettelaw09.SteadyChecks", spec := "steadyChecks", unfollowed := true, recurses := true, named := ["girouette/steady.zero", "girouette/steady.patterns"], apart := false, laid := [("girouette/steady.zero", laid_girouette_steady_zero), ("girouette/steady.patterns", laid_girouette_steady_patterns)] }
def SteadyChecksSaid : Prop := steadyChecksRow.holds Tryd.pinned (OpenSpec.ofChange steadyChecksSpec)

/-- ITS FALSE NEIGHBOUR: 'it returns false'. Refute it at one input. -/
def steadyChecksWrong : ChangeSpec := { name := "steadyChecks", fn := fun _ => fun
  | [d] => { results := [.lit (.bool false)], args := [d] }
  | _ => none }
def SteadyChecksWrongFalsely : Prop := steadyChecksRow.holds Tryd.pinned (OpenSpec.ofChange steadyChecksWrong)

/-- 'girouettelaw09.SteadyProducts': WHATEVER THE INPUT: true; the input reads as it did. -/
def steadyProductsSpec : ChangeSpec := { name := "steadyProducts", fn := fun _ => fun
  | [d1, d2] => { results := [.lit (.bool true)], args := [d1, d2] }
  | _ => none }
def steadyProductsRow : OpenClaim := { program := "ytiicbenhhdbnoaadoor", sum := "e6cfc563a943c2a1c22c99531ca19d3e8c6afb1645efcc6c6010f4004a9b746d", func := "girouette/girouettelaw09.SteadyProducts", spec := "steadyProducts", unfollowed := true, recurses := true, named := ["girouette/steady.zero", "girouette/steady.patterns"], apart := false, laid := [("girouette/steady.zero", laid_girouette_steady_zero), ("girouette/steady.patterns", laid_girouette_steady_patterns)] }
def SteadyProductsSaid : Prop := steadyProductsRow.holds Tryd.pinned (OpenSpec.ofChange steadyProductsSpec)

/-- ITS FALSE NEIGHBOUR: 'it returns false'. Refute it at one input. -/
def steadyProductsWrong : ChangeSpec := { name := "steadyProducts", fn := fun _ => fun
  | [d1, d2] => { results := [.lit (.bool false)], args := [d1, d2] }
  | _ => none }
def SteadyProductsWrongFalsely : Prop := steadyProductsRow.holds Tryd.pinned (OpenSpec.ofChange steadyProductsWrong)

/- THE SECOND FORM. 'bulk': how many values and letters a reading holds, each counted each time it is reached (what is shared counts as often as it is met; a slice's spare places count too). A statement '..UptoSaid' is the law's where the arguments, and the package variables that the reading takes, are together of bulk at most 1048576: NARROWER than '..Said'. Prove '..Said' where nothing that the law and all that it calls make is longer than what came in: it says more and counts as full. Else prove '..UptoSaid'. A law counts once. -/
mutual
def uptoBulk {H : Type} : DataW H → Nat
  | .lit (.string bytes) => bytes.length + 1
  | .lit _ => 1
  | .nil => 1
  | .ptr d => uptoBulk d + 1
  | .slice elems spare => uptoBulkAll elems + uptoBulkAll spare + 1
  | .agg parts => uptoBulkAll parts + 1
  | .iface _ d => uptoBulk d + 1
  | .map entries => uptoBulkEntries entries + 1
  | .held _ => 1
def uptoBulkAll {H : Type} : List (DataW H) → Nat
  | [] => 0
  | d :: r => uptoBulk d + uptoBulkAll r
def uptoBulkEntries {H : Type} : List (Lit × DataW H) → Nat
  | [] => 0
  | x :: r => uptoBulkEntry x + uptoBulkEntries r
def uptoBulkEntry {H : Type} : Lit × DataW H → Nat
  | (.string bytes, d) => bytes.length + uptoBulk d + 1
  | (_, d) => uptoBulk d + 1
 end
def uptoSmall : (H : Type) → List (DataW H) → Bool := fun _ ds => decide (uptoBulkAll ds ≤ 1048576)
def OpenSpec.upto (s : _root_.Go.ChangeSpec) : _root_.Go.OpenSpec := { _root_.Go.OpenSpec.ofChange s with cond := some uptoSmall }

/-- 'girouettelaw09.SteadyTables', WHERE WHAT IT READS IS OF BULK AT MOST 1048576: true; the input reads as it did. -/
def steadyTablesUptoRow : OpenClaim := { program := "ytiicbenhhdbnoaadoor", sum := "e6cfc563a943c2a1c22c99531ca19d3e8c6afb1645efcc6c6010f4004a9b746d", func := "girouette/girouettelaw09.SteadyTables", spec := "steadyTables", unfollowed := true, recurses := true, named := ["girouette/steady.zero", "girouette/steady.patterns"], apart := false, laid := [("girouette/steady.zero", laid_girouette_steady_zero), ("girouette/steady.patterns", laid_girouette_steady_patterns)], narrowed := true }
def SteadyTablesUptoSaid : Prop := steadyTablesUptoRow.holds Tryd.pinned (OpenSpec.upto steadyTablesSpec)

/-- 'girouettelaw09.SteadyBounds', WHERE WHAT IT READS IS OF BULK AT MOST 1048576: true; the input reads as it did. -/
def steadyBoundsUptoRow : OpenClaim := { program := "ytiicbenhhdbnoaadoor", sum := "e6cfc563a943c2a1c22c99531ca19d3e8c6afb1645efcc6c6010f4004a9b746d", func := "girouette/girouettelaw09.SteadyBounds", spec := "steadyBounds", unfollowed := true, recurses := true, named := ["girouette/steady.patterns", "girouette/steady.zero"], apart := false, laid := [("girouette/steady.zero", laid_girouette_steady_zero), ("girouette/steady.patterns", laid_girouette_steady_patterns)], narrowed := true }
def SteadyBoundsUptoSaid : Prop := steadyBoundsUptoRow.holds Tryd.pinned (OpenSpec.upto steadyBoundsSpec)

/-- 'girouettelaw09.SteadyRouth', WHERE WHAT IT READS IS OF BULK AT MOST 1048576: true; the input reads as it did. -/
def steadyRouthUptoRow : OpenClaim := { program := "ytiicbenhhdbnoaadoor", sum := "e6cfc563a943c2a1c22c99531ca19d3e8c6afb1645efcc6c6010f4004a9b746d", func := "girouette/girouettelaw09.SteadyRouth", spec := "steadyRouth", unfollowed := true, recurses := true, named := ["girouette/steady.zero", "girouette/steady.patterns"], apart := false, laid := [("girouette/steady.zero", laid_girouette_steady_zero), ("girouette/steady.patterns", laid_girouette_steady_patterns)], narrowed := true }
def SteadyRouthUptoSaid : Prop := steadyRouthUptoRow.holds Tryd.pinned (OpenSpec.upto steadyRouthSpec)

/-- 'girouettelaw09.SteadyKharitonov', WHERE WHAT IT READS IS OF BULK AT MOST 1048576: true; the input reads as it did. -/
def steadyKharitonovUptoRow : OpenClaim := { program := "ytiicbenhhdbnoaadoor", sum := "e6cfc563a943c2a1c22c99531ca19d3e8c6afb1645efcc6c6010f4004a9b746d", func := "girouette/girouettelaw09.SteadyKharitonov", spec := "steadyKharitonov", unfollowed := true, recurses := true, named := ["girouette/steady.patterns", "girouette/steady.zero"], apart := false, laid := [("girouette/steady.zero", laid_girouette_steady_zero), ("girouette/steady.patterns", laid_girouette_steady_patterns)], narrowed := true }
def SteadyKharitonovUptoSaid : Prop := steadyKharitonovUptoRow.holds Tryd.pinned (OpenSpec.upto steadyKharitonovSpec)

/-- 'girouettelaw09.SteadyWeaves', WHERE WHAT IT READS IS OF BULK AT MOST 1048576: true; the input reads as it did. -/
def steadyWeavesUptoRow : OpenClaim := { program := "ytiicbenhhdbnoaadoor", sum := "e6cfc563a943c2a1c22c99531ca19d3e8c6afb1645efcc6c6010f4004a9b746d", func := "girouette/girouettelaw09.SteadyWeaves", spec := "steadyWeaves", unfollowed := true, recurses := true, named := ["girouette/steady.zero", "girouette/steady.patterns"], apart := false, laid := [("girouette/steady.zero", laid_girouette_steady_zero), ("girouette/steady.patterns", laid_girouette_steady_patterns)], narrowed := true }
def SteadyWeavesUptoSaid : Prop := steadyWeavesUptoRow.holds Tryd.pinned (OpenSpec.upto steadyWeavesSpec)

/-- 'girouettelaw09.SteadyTimes', WHERE WHAT IT READS IS OF BULK AT MOST 1048576: true; the input reads as it did. -/
def steadyTimesUptoRow : OpenClaim := { program := "ytiicbenhhdbnoaadoor", sum := "e6cfc563a943c2a1c22c99531ca19d3e8c6afb1645efcc6c6010f4004a9b746d", func := "girouette/girouettelaw09.SteadyTimes", spec := "steadyTimes", unfollowed := true, recurses := true, named := ["girouette/steady.zero", "girouette/steady.patterns"], apart := false, laid := [("girouette/steady.zero", laid_girouette_steady_zero), ("girouette/steady.patterns", laid_girouette_steady_patterns)], narrowed := true }
def SteadyTimesUptoSaid : Prop := steadyTimesUptoRow.holds Tryd.pinned (OpenSpec.upto steadyTimesSpec)

/-- 'girouettelaw09.SteadyTells', WHERE WHAT IT READS IS OF BULK AT MOST 1048576: true; the input reads as it did. -/
def steadyTellsUptoRow : OpenClaim := { program := "ytiicbenhhdbnoaadoor", sum := "e6cfc563a943c2a1c22c99531ca19d3e8c6afb1645efcc6c6010f4004a9b746d", func := "girouette/girouettelaw09.SteadyTells", spec := "steadyTells", unfollowed := true, recurses := true, named := ["girouette/steady.zero", "girouette/steady.patterns"], apart := false, laid := [("girouette/steady.zero", laid_girouette_steady_zero), ("girouette/steady.patterns", laid_girouette_steady_patterns)], narrowed := true }
def SteadyTellsUptoSaid : Prop := steadyTellsUptoRow.holds Tryd.pinned (OpenSpec.upto steadyTellsSpec)

/-- 'girouettelaw09.SteadyChecks', WHERE WHAT IT READS IS OF BULK AT MOST 1048576: true; the input reads as it did. -/
def steadyChecksUptoRow : OpenClaim := { program := "ytiicbenhhdbnoaadoor", sum := "e6cfc563a943c2a1c22c99531ca19d3e8c6afb1645efcc6c6010f4004a9b746d", func := "girouette/girouettelaw09.SteadyChecks", spec := "steadyChecks", unfollowed := true, recurses := true, named := ["girouette/steady.zero", "girouette/steady.patterns"], apart := false, laid := [("girouette/steady.zero", laid_girouette_steady_zero), ("girouette/steady.patterns", laid_girouette_steady_patterns)], narrowed := true }
def SteadyChecksUptoSaid : Prop := steadyChecksUptoRow.holds Tryd.pinned (OpenSpec.upto steadyChecksSpec)

/-- 'girouettelaw09.SteadyProducts', WHERE WHAT IT READS IS OF BULK AT MOST 1048576: true; the input reads as it did. -/
def steadyProductsUptoRow : OpenClaim := { program := "ytiicbenhhdbnoaadoor", sum := "e6cfc563a943c2a1c22c99531ca19d3e8c6afb1645efcc6c6010f4004a9b746d", func := "girouette/girouettelaw09.SteadyProducts", spec := "steadyProducts", unfollowed := true, recurses := true, named := ["girouette/steady.zero", "girouette/steady.patterns"], apart := false, laid := [("girouette/steady.zero", laid_girouette_steady_zero), ("girouette/steady.patterns", laid_girouette_steady_patterns)], narrowed := true }
def SteadyProductsUptoSaid : Prop := steadyProductsUptoRow.holds Tryd.pinned (OpenSpec.upto steadyProductsSpec)

end Rows
end Go.Proofs.YtiicbenhhdbnoaaDoor
