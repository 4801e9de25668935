/-
  DERIVED. GIVEN WITH THE SEED: THE CARDS: each row of YtiicbenhhdbnoaaDoorRows.lean that lists a variable, with what it lists TIED to the program's text (the seventh form; the later family's looks); each row that meets fmt, with fmt's text TOLD by the authors' own Lean function (tested against real Go, not proved from fmt's source: count such statements apart). THE CARD IS WHAT COUNTS. Prove the row's statement (the work); the ties are given (YtiicbenhhdbnoaaDoorTie.lean); close each card by the builder's one call (the guide's Derived/Test/ToyasCard.lean, 'card_holds'). Laid BY PROGRAM, IN A SANDBOX (cutbox-door.mjs). By AI agents, Wed Nov 11 2026. No macro, syntax, notation, axiom, sorry.
-/
import Derived.Test.YtiicbenhhdbnoaaDoorRows
import GoSem.ClaimSeven
namespace Go.Proofs.YtiicbenhhdbnoaaDoor
namespace Rows

/-- THE TIED CARD OF 'girouettelaw09.SteadyTables'. -/
def steadyTablesCard : Claim7 := { stood := { row := steadyTablesRow, standIns := [], harness := (true, "e34d19dafe10ffa588467c8e8296d6e41e4122fd18b2edf415e9aff0091469e3"), looks := false }, kinds := [], alts := [], laidByText := true, laidKinds := [.data, .data], laidTests := true, laidLooks := .later }
def SteadyTablesCardSaid : Prop := Claim7.holds Tryd.pinned (.plain (OpenSpec.ofChange steadyTablesSpec)) steadyTablesCard

/-- THE TIED CARD OF 'girouettelaw09.SteadyBounds'. -/
def steadyBoundsCard : Claim7 := { stood := { row := steadyBoundsRow, standIns := [], harness := (true, "e34d19dafe10ffa588467c8e8296d6e41e4122fd18b2edf415e9aff0091469e3"), looks := false }, kinds := [], alts := [], laidByText := true, laidKinds := [.data, .data], laidTests := true, laidLooks := .later }
def SteadyBoundsCardSaid : Prop := Claim7.holds Tryd.pinned (.plain (OpenSpec.ofChange steadyBoundsSpec)) steadyBoundsCard

/-- THE TIED CARD OF 'girouettelaw09.SteadyRouth'. -/
def steadyRouthCard : Claim7 := { stood := { row := steadyRouthRow, standIns := [], harness := (true, "e34d19dafe10ffa588467c8e8296d6e41e4122fd18b2edf415e9aff0091469e3"), looks := false }, kinds := [], alts := [], laidByText := true, laidKinds := [.data, .data], laidTests := true, laidLooks := .later }
def SteadyRouthCardSaid : Prop := Claim7.holds Tryd.pinned (.plain (OpenSpec.ofChange steadyRouthSpec)) steadyRouthCard

/-- THE TIED CARD OF 'girouettelaw09.SteadyKharitonov'. -/
def steadyKharitonovCard : Claim7 := { stood := { row := steadyKharitonovRow, standIns := [], harness := (true, "e34d19dafe10ffa588467c8e8296d6e41e4122fd18b2edf415e9aff0091469e3"), looks := false }, kinds := [], alts := [], laidByText := true, laidKinds := [.data, .data], laidTests := true, laidLooks := .later }
def SteadyKharitonovCardSaid : Prop := Claim7.holds Tryd.pinned (.plain (OpenSpec.ofChange steadyKharitonovSpec)) steadyKharitonovCard

/-- THE TIED CARD OF 'girouettelaw09.SteadyWeaves'. -/
def steadyWeavesCard : Claim7 := { stood := { row := steadyWeavesRow, standIns := [], harness := (true, "e34d19dafe10ffa588467c8e8296d6e41e4122fd18b2edf415e9aff0091469e3"), looks := false }, kinds := [], alts := [], laidByText := true, laidKinds := [.data, .data], laidTests := true, laidLooks := .later }
def SteadyWeavesCardSaid : Prop := Claim7.holds Tryd.pinned (.plain (OpenSpec.ofChange steadyWeavesSpec)) steadyWeavesCard

/-- THE TIED CARD OF 'girouettelaw09.SteadyTimes'. -/
def steadyTimesCard : Claim7 := { stood := { row := steadyTimesRow, standIns := [], harness := (true, "e34d19dafe10ffa588467c8e8296d6e41e4122fd18b2edf415e9aff0091469e3"), looks := false }, kinds := [], alts := [], laidByText := true, laidKinds := [.data, .data], laidTests := true, laidLooks := .later }
def SteadyTimesCardSaid : Prop := Claim7.holds Tryd.pinned (.plain (OpenSpec.ofChange steadyTimesSpec)) steadyTimesCard

/-- THE TIED CARD OF 'girouettelaw09.SteadyTells'. -/
def steadyTellsCard : Claim7 := { stood := { row := steadyTellsRow, standIns := [], harness := (true, "e34d19dafe10ffa588467c8e8296d6e41e4122fd18b2edf415e9aff0091469e3"), looks := false }, kinds := [], alts := [], laidByText := true, laidKinds := [.data, .data], laidTests := true, laidLooks := .later }
def SteadyTellsCardSaid : Prop := Claim7.holds Tryd.pinned (.plain (OpenSpec.ofChange steadyTellsSpec)) steadyTellsCard

/-- THE TIED CARD OF 'girouettelaw09.SteadyChecks'. -/
def steadyChecksCard : Claim7 := { stood := { row := steadyChecksRow, standIns := [], harness := (true, "e34d19dafe10ffa588467c8e8296d6e41e4122fd18b2edf415e9aff0091469e3"), looks := false }, kinds := [], alts := [], laidByText := true, laidKinds := [.data, .data], laidTests := true, laidLooks := .later }
def SteadyChecksCardSaid : Prop := Claim7.holds Tryd.pinned (.plain (OpenSpec.ofChange steadyChecksSpec)) steadyChecksCard

/-- THE TIED CARD OF 'girouettelaw09.SteadyProducts'. -/
def steadyProductsCard : Claim7 := { stood := { row := steadyProductsRow, standIns := [], harness := (true, "e34d19dafe10ffa588467c8e8296d6e41e4122fd18b2edf415e9aff0091469e3"), looks := false }, kinds := [], alts := [], laidByText := true, laidKinds := [.data, .data], laidTests := true, laidLooks := .later }
def SteadyProductsCardSaid : Prop := Claim7.holds Tryd.pinned (.plain (OpenSpec.ofChange steadyProductsSpec)) steadyProductsCard

/-- THE SECOND FORM's CARD OF 'girouettelaw09.SteadyTables'. -/
def steadyTablesUptoCard : Claim7 := { stood := { row := steadyTablesUptoRow, standIns := [], harness := (true, "e34d19dafe10ffa588467c8e8296d6e41e4122fd18b2edf415e9aff0091469e3"), looks := false }, kinds := [], alts := [], laidByText := true, laidKinds := [.data, .data], laidTests := true, laidLooks := .later }
def SteadyTablesUptoCardSaid : Prop := Claim7.holds Tryd.pinned (.plain (OpenSpec.upto steadyTablesSpec)) steadyTablesUptoCard

/-- THE SECOND FORM's CARD OF 'girouettelaw09.SteadyBounds'. -/
def steadyBoundsUptoCard : Claim7 := { stood := { row := steadyBoundsUptoRow, standIns := [], harness := (true, "e34d19dafe10ffa588467c8e8296d6e41e4122fd18b2edf415e9aff0091469e3"), looks := false }, kinds := [], alts := [], laidByText := true, laidKinds := [.data, .data], laidTests := true, laidLooks := .later }
def SteadyBoundsUptoCardSaid : Prop := Claim7.holds Tryd.pinned (.plain (OpenSpec.upto steadyBoundsSpec)) steadyBoundsUptoCard

/-- THE SECOND FORM's CARD OF 'girouettelaw09.SteadyRouth'. -/
def steadyRouthUptoCard : Claim7 := { stood := { row := steadyRouthUptoRow, standIns := [], harness := (true, "e34d19dafe10ffa588467c8e8296d6e41e4122fd18b2edf415e9aff0091469e3"), looks := false }, kinds := [], alts := [], laidByText := true, laidKinds := [.data, .data], laidTests := true, laidLooks := .later }
def SteadyRouthUptoCardSaid : Prop := Claim7.holds Tryd.pinned (.plain (OpenSpec.upto steadyRouthSpec)) steadyRouthUptoCard

/-- THE SECOND FORM's CARD OF 'girouettelaw09.SteadyKharitonov'. -/
def steadyKharitonovUptoCard : Claim7 := { stood := { row := steadyKharitonovUptoRow, standIns := [], harness := (true, "e34d19dafe10ffa588467c8e8296d6e41e4122fd18b2edf415e9aff0091469e3"), looks := false }, kinds := [], alts := [], laidByText := true, laidKinds := [.data, .data], laidTests := true, laidLooks := .later }
def SteadyKharitonovUptoCardSaid : Prop := Claim7.holds Tryd.pinned (.plain (OpenSpec.upto steadyKharitonovSpec)) steadyKharitonovUptoCard

/-- THE SECOND FORM's CARD OF 'girouettelaw09.SteadyWeaves'. -/
def steadyWeavesUptoCard : Claim7 := { stood := { row := steadyWeavesUptoRow, standIns := [], harness := (true, "e34d19dafe10ffa588467c8e8296d6e41e4122fd18b2edf415e9aff0091469e3"), looks := false }, kinds := [], alts := [], laidByText := true, laidKinds := [.data, .data], laidTests := true, laidLooks := .later }
def SteadyWeavesUptoCardSaid : Prop := Claim7.holds Tryd.pinned (.plain (OpenSpec.upto steadyWeavesSpec)) steadyWeavesUptoCard

/-- THE SECOND FORM's CARD OF 'girouettelaw09.SteadyTimes'. -/
def steadyTimesUptoCard : Claim7 := { stood := { row := steadyTimesUptoRow, standIns := [], harness := (true, "e34d19dafe10ffa588467c8e8296d6e41e4122fd18b2edf415e9aff0091469e3"), looks := false }, kinds := [], alts := [], laidByText := true, laidKinds := [.data, .data], laidTests := true, laidLooks := .later }
def SteadyTimesUptoCardSaid : Prop := Claim7.holds Tryd.pinned (.plain (OpenSpec.upto steadyTimesSpec)) steadyTimesUptoCard

/-- THE SECOND FORM's CARD OF 'girouettelaw09.SteadyTells'. -/
def steadyTellsUptoCard : Claim7 := { stood := { row := steadyTellsUptoRow, standIns := [], harness := (true, "e34d19dafe10ffa588467c8e8296d6e41e4122fd18b2edf415e9aff0091469e3"), looks := false }, kinds := [], alts := [], laidByText := true, laidKinds := [.data, .data], laidTests := true, laidLooks := .later }
def SteadyTellsUptoCardSaid : Prop := Claim7.holds Tryd.pinned (.plain (OpenSpec.upto steadyTellsSpec)) steadyTellsUptoCard

/-- THE SECOND FORM's CARD OF 'girouettelaw09.SteadyChecks'. -/
def steadyChecksUptoCard : Claim7 := { stood := { row := steadyChecksUptoRow, standIns := [], harness := (true, "e34d19dafe10ffa588467c8e8296d6e41e4122fd18b2edf415e9aff0091469e3"), looks := false }, kinds := [], alts := [], laidByText := true, laidKinds := [.data, .data], laidTests := true, laidLooks := .later }
def SteadyChecksUptoCardSaid : Prop := Claim7.holds Tryd.pinned (.plain (OpenSpec.upto steadyChecksSpec)) steadyChecksUptoCard

/-- THE SECOND FORM's CARD OF 'girouettelaw09.SteadyProducts'. -/
def steadyProductsUptoCard : Claim7 := { stood := { row := steadyProductsUptoRow, standIns := [], harness := (true, "e34d19dafe10ffa588467c8e8296d6e41e4122fd18b2edf415e9aff0091469e3"), looks := false }, kinds := [], alts := [], laidByText := true, laidKinds := [.data, .data], laidTests := true, laidLooks := .later }
def SteadyProductsUptoCardSaid : Prop := Claim7.holds Tryd.pinned (.plain (OpenSpec.upto steadyProductsSpec)) steadyProductsUptoCard
end Rows
end Go.Proofs.YtiicbenhhdbnoaaDoor
