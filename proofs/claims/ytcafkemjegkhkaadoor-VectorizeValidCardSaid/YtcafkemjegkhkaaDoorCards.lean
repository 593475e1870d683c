/-
  DERIVED. GIVEN WITH THE SEED: THE CARDS: each row of YtcafkemjegkhkaaDoorRows.lean that lists a variable, with what it lists TIED to the program's text (the seventh form; the later family's looks); each row that meets fmt, with fmt's text TOLD by the authors' own Lean function (tested against real Go, not proved from fmt's source: count such statements apart). THE CARD IS WHAT COUNTS. Prove the row's statement (the work); the ties are given (YtcafkemjegkhkaaDoorTie.lean); close each card by the builder's one call (the guide's Derived/Test/ToyasCard.lean, 'card_holds'). Laid BY PROGRAM, IN A SANDBOX (cutbox-door.mjs). By AI agents, Wed Nov 11 2026. No macro, syntax, notation, axiom, sorry.
-/
import Derived.Test.YtcafkemjegkhkaaDoorRows
import GoSem.ClaimSeven
namespace Go.Proofs.YtcafkemjegkhkaaDoor
namespace Rows

/-- THE TIED CARD OF 'arraylanglaw51.VectorizePrograms'. -/
def vectorizeProgramsCard : Claim7 := { stood := { row := vectorizeProgramsRow, standIns := [], harness := (true, "84fc6bda3e0e27a0d47cf4462e9edb694b90010f63d9c80da4ec01a353823844"), looks := false }, kinds := [], alts := [], laidByText := true, laidKinds := [.data, .data, .data], laidTests := true, laidLooks := .later }
def VectorizeProgramsCardSaid : Prop := Claim7.holds Tryd.pinned (.plain (OpenSpec.ofChange vectorizeProgramsSpec)) vectorizeProgramsCard

/-- THE TIED CARD OF 'arraylanglaw51.VectorizeRights'. -/
def vectorizeRightsCard : Claim7 := { stood := { row := vectorizeRightsRow, standIns := [], harness := (true, "84fc6bda3e0e27a0d47cf4462e9edb694b90010f63d9c80da4ec01a353823844"), looks := false }, kinds := [], alts := [], laidByText := true, laidKinds := [.data, .data, .data], laidTests := true, laidLooks := .later }
def VectorizeRightsCardSaid : Prop := Claim7.holds Tryd.pinned (.plain (OpenSpec.ofChange vectorizeRightsSpec)) vectorizeRightsCard

/-- THE TIED CARD OF 'arraylanglaw51.VectorizeShows'. -/
def vectorizeShowsCard : Claim7 := { stood := { row := vectorizeShowsRow, standIns := [], harness := (true, "84fc6bda3e0e27a0d47cf4462e9edb694b90010f63d9c80da4ec01a353823844"), looks := false }, kinds := [], alts := [], laidByText := true, laidKinds := [.data, .data, .data], laidTests := true, laidLooks := .later }
def VectorizeShowsCardSaid : Prop := Claim7.holds Tryd.pinned (.plain (OpenSpec.ofChange vectorizeShowsSpec)) vectorizeShowsCard

/-- THE TIED CARD OF 'arraylanglaw51.VectorizeValid'. -/
def vectorizeValidCard : Claim7 := { stood := { row := vectorizeValidRow, standIns := [], harness := (true, "84fc6bda3e0e27a0d47cf4462e9edb694b90010f63d9c80da4ec01a353823844"), looks := false }, kinds := [], alts := [], laidByText := true, laidKinds := [.data, .data, .data], laidTests := true, laidLooks := .later }
def VectorizeValidCardSaid : Prop := Claim7.holds Tryd.pinned (.plain (OpenSpec.ofChange vectorizeValidSpec)) vectorizeValidCard

/-- THE SECOND FORM's CARD OF 'arraylanglaw51.VectorizePrograms'. -/
def vectorizeProgramsUptoCard : Claim7 := { stood := { row := vectorizeProgramsUptoRow, standIns := [], harness := (true, "84fc6bda3e0e27a0d47cf4462e9edb694b90010f63d9c80da4ec01a353823844"), looks := false }, kinds := [], alts := [], laidByText := true, laidKinds := [.data, .data, .data], laidTests := true, laidLooks := .later }
def VectorizeProgramsUptoCardSaid : Prop := Claim7.holds Tryd.pinned (.plain (OpenSpec.upto vectorizeProgramsSpec)) vectorizeProgramsUptoCard

/-- THE SECOND FORM's CARD OF 'arraylanglaw51.VectorizeRights'. -/
def vectorizeRightsUptoCard : Claim7 := { stood := { row := vectorizeRightsUptoRow, standIns := [], harness := (true, "84fc6bda3e0e27a0d47cf4462e9edb694b90010f63d9c80da4ec01a353823844"), looks := false }, kinds := [], alts := [], laidByText := true, laidKinds := [.data, .data, .data], laidTests := true, laidLooks := .later }
def VectorizeRightsUptoCardSaid : Prop := Claim7.holds Tryd.pinned (.plain (OpenSpec.upto vectorizeRightsSpec)) vectorizeRightsUptoCard

/-- THE SECOND FORM's CARD OF 'arraylanglaw51.VectorizeShows'. -/
def vectorizeShowsUptoCard : Claim7 := { stood := { row := vectorizeShowsUptoRow, standIns := [], harness := (true, "84fc6bda3e0e27a0d47cf4462e9edb694b90010f63d9c80da4ec01a353823844"), looks := false }, kinds := [], alts := [], laidByText := true, laidKinds := [.data, .data, .data], laidTests := true, laidLooks := .later }
def VectorizeShowsUptoCardSaid : Prop := Claim7.holds Tryd.pinned (.plain (OpenSpec.upto vectorizeShowsSpec)) vectorizeShowsUptoCard

/-- THE SECOND FORM's CARD OF 'arraylanglaw51.VectorizeValid'. -/
def vectorizeValidUptoCard : Claim7 := { stood := { row := vectorizeValidUptoRow, standIns := [], harness := (true, "84fc6bda3e0e27a0d47cf4462e9edb694b90010f63d9c80da4ec01a353823844"), looks := false }, kinds := [], alts := [], laidByText := true, laidKinds := [.data, .data, .data], laidTests := true, laidLooks := .later }
def VectorizeValidUptoCardSaid : Prop := Claim7.holds Tryd.pinned (.plain (OpenSpec.upto vectorizeValidSpec)) vectorizeValidUptoCard
end Rows
end Go.Proofs.YtcafkemjegkhkaaDoor
