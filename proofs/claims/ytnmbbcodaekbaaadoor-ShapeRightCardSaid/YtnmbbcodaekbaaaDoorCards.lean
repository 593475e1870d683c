/-
  DERIVED. GIVEN WITH THE SEED: THE CARDS: each row of YtnmbbcodaekbaaaDoorRows.lean that lists a variable, with what it lists TIED to the program's text (the seventh form; the later family's looks); each row that meets fmt, with fmt's text TOLD by the authors' own Lean function (tested against real Go, not proved from fmt's source: count such statements apart). THE CARD IS WHAT COUNTS. Prove the row's statement (the work); the ties are given (YtnmbbcodaekbaaaDoorTie.lean); close each card by the builder's one call (the guide's Derived/Test/ToyasCard.lean, 'card_holds'). Laid BY PROGRAM, IN A SANDBOX (cutbox-door.mjs). By AI agents, Wed Nov 11 2026. No macro, syntax, notation, axiom, sorry.
-/
import Derived.Test.YtnmbbcodaekbaaaDoorRows
import GoSem.ClaimSeven
namespace Go.Proofs.YtnmbbcodaekbaaaDoor
namespace Rows

/-- THE TIED CARD OF 'arraylanglaw02.ShapeOffset'. -/
def shapeOffsetCard : Claim7 := { stood := { row := shapeOffsetRow, standIns := [], harness := (true, "82fff6b51cd8ff465ddc0564e7a3b1533f475bc78841db5411ae81b8a9697faa"), looks := false }, kinds := [], alts := [], laidByText := true, laidKinds := [.data, .data, .data], laidTests := true, laidLooks := .later }
def ShapeOffsetCardSaid : Prop := Claim7.holds Tryd.pinned (.plain (OpenSpec.ofChange shapeOffsetSpec)) shapeOffsetCard

/-- THE TIED CARD OF 'arraylanglaw02.ShapeIndex'. -/
def shapeIndexCard : Claim7 := { stood := { row := shapeIndexRow, standIns := [], harness := (true, "82fff6b51cd8ff465ddc0564e7a3b1533f475bc78841db5411ae81b8a9697faa"), looks := false }, kinds := [], alts := [], laidByText := true, laidKinds := [.data, .data, .data], laidTests := true, laidLooks := .later }
def ShapeIndexCardSaid : Prop := Claim7.holds Tryd.pinned (.plain (OpenSpec.ofChange shapeIndexSpec)) shapeIndexCard

/-- THE TIED CARD OF 'arraylanglaw02.ShapeBack'. -/
def shapeBackCard : Claim7 := { stood := { row := shapeBackRow, standIns := [], harness := (true, "82fff6b51cd8ff465ddc0564e7a3b1533f475bc78841db5411ae81b8a9697faa"), looks := false }, kinds := [], alts := [], laidByText := true, laidKinds := [.data, .data, .data], laidTests := true, laidLooks := .later }
def ShapeBackCardSaid : Prop := Claim7.holds Tryd.pinned (.plain (OpenSpec.ofChange shapeBackSpec)) shapeBackCard

/-- THE TIED CARD OF 'arraylanglaw02.ShapeAgree'. -/
def shapeAgreeCard : Claim7 := { stood := { row := shapeAgreeRow, standIns := [], harness := (true, "82fff6b51cd8ff465ddc0564e7a3b1533f475bc78841db5411ae81b8a9697faa"), looks := false }, kinds := [], alts := [], laidByText := true, laidKinds := [.data, .data, .data], laidTests := true, laidLooks := .later }
def ShapeAgreeCardSaid : Prop := Claim7.holds Tryd.pinned (.plain (OpenSpec.ofChange shapeAgreeSpec)) shapeAgreeCard

/-- THE TIED CARD OF 'arraylanglaw02.ShapeRow'. -/
def shapeRowCard : Claim7 := { stood := { row := shapeRowRow, standIns := [], harness := (true, "82fff6b51cd8ff465ddc0564e7a3b1533f475bc78841db5411ae81b8a9697faa"), looks := false }, kinds := [], alts := [], laidByText := true, laidKinds := [.data, .data, .data], laidTests := true, laidLooks := .later }
def ShapeRowCardSaid : Prop := Claim7.holds Tryd.pinned (.plain (OpenSpec.ofChange shapeRowSpec)) shapeRowCard

/-- THE TIED CARD OF 'arraylanglaw02.ShapeShow'. -/
def shapeShowCard : Claim7 := { stood := { row := shapeShowRow, standIns := [], harness := (true, "82fff6b51cd8ff465ddc0564e7a3b1533f475bc78841db5411ae81b8a9697faa"), looks := false }, kinds := [], alts := [], laidByText := true, laidKinds := [.data, .data, .data], laidTests := true, laidLooks := .later }
def ShapeShowCardSaid : Prop := Claim7.holds Tryd.pinned (.plain (OpenSpec.ofChange shapeShowSpec)) shapeShowCard

/-- THE TIED CARD OF 'arraylanglaw02.ShapeRight'. -/
def shapeRightCard : Claim7 := { stood := { row := shapeRightRow, standIns := [], harness := (true, "82fff6b51cd8ff465ddc0564e7a3b1533f475bc78841db5411ae81b8a9697faa"), looks := false }, kinds := [], alts := [], laidByText := true, laidKinds := [.data, .data, .data], laidTests := true, laidLooks := .later }
def ShapeRightCardSaid : Prop := Claim7.holds Tryd.pinned (.plain (OpenSpec.ofChange shapeRightSpec)) shapeRightCard

/-- THE SECOND FORM's CARD OF 'arraylanglaw02.ShapeOffset'. -/
def shapeOffsetUptoCard : Claim7 := { stood := { row := shapeOffsetUptoRow, standIns := [], harness := (true, "82fff6b51cd8ff465ddc0564e7a3b1533f475bc78841db5411ae81b8a9697faa"), looks := false }, kinds := [], alts := [], laidByText := true, laidKinds := [.data, .data, .data], laidTests := true, laidLooks := .later }
def ShapeOffsetUptoCardSaid : Prop := Claim7.holds Tryd.pinned (.plain (OpenSpec.upto shapeOffsetSpec)) shapeOffsetUptoCard

/-- THE SECOND FORM's CARD OF 'arraylanglaw02.ShapeIndex'. -/
def shapeIndexUptoCard : Claim7 := { stood := { row := shapeIndexUptoRow, standIns := [], harness := (true, "82fff6b51cd8ff465ddc0564e7a3b1533f475bc78841db5411ae81b8a9697faa"), looks := false }, kinds := [], alts := [], laidByText := true, laidKinds := [.data, .data, .data], laidTests := true, laidLooks := .later }
def ShapeIndexUptoCardSaid : Prop := Claim7.holds Tryd.pinned (.plain (OpenSpec.upto shapeIndexSpec)) shapeIndexUptoCard

/-- THE SECOND FORM's CARD OF 'arraylanglaw02.ShapeBack'. -/
def shapeBackUptoCard : Claim7 := { stood := { row := shapeBackUptoRow, standIns := [], harness := (true, "82fff6b51cd8ff465ddc0564e7a3b1533f475bc78841db5411ae81b8a9697faa"), looks := false }, kinds := [], alts := [], laidByText := true, laidKinds := [.data, .data, .data], laidTests := true, laidLooks := .later }
def ShapeBackUptoCardSaid : Prop := Claim7.holds Tryd.pinned (.plain (OpenSpec.upto shapeBackSpec)) shapeBackUptoCard

/-- THE SECOND FORM's CARD OF 'arraylanglaw02.ShapeAgree'. -/
def shapeAgreeUptoCard : Claim7 := { stood := { row := shapeAgreeUptoRow, standIns := [], harness := (true, "82fff6b51cd8ff465ddc0564e7a3b1533f475bc78841db5411ae81b8a9697faa"), looks := false }, kinds := [], alts := [], laidByText := true, laidKinds := [.data, .data, .data], laidTests := true, laidLooks := .later }
def ShapeAgreeUptoCardSaid : Prop := Claim7.holds Tryd.pinned (.plain (OpenSpec.upto shapeAgreeSpec)) shapeAgreeUptoCard

/-- THE SECOND FORM's CARD OF 'arraylanglaw02.ShapeRow'. -/
def shapeRowUptoCard : Claim7 := { stood := { row := shapeRowUptoRow, standIns := [], harness := (true, "82fff6b51cd8ff465ddc0564e7a3b1533f475bc78841db5411ae81b8a9697faa"), looks := false }, kinds := [], alts := [], laidByText := true, laidKinds := [.data, .data, .data], laidTests := true, laidLooks := .later }
def ShapeRowUptoCardSaid : Prop := Claim7.holds Tryd.pinned (.plain (OpenSpec.upto shapeRowSpec)) shapeRowUptoCard

/-- THE SECOND FORM's CARD OF 'arraylanglaw02.ShapeShow'. -/
def shapeShowUptoCard : Claim7 := { stood := { row := shapeShowUptoRow, standIns := [], harness := (true, "82fff6b51cd8ff465ddc0564e7a3b1533f475bc78841db5411ae81b8a9697faa"), looks := false }, kinds := [], alts := [], laidByText := true, laidKinds := [.data, .data, .data], laidTests := true, laidLooks := .later }
def ShapeShowUptoCardSaid : Prop := Claim7.holds Tryd.pinned (.plain (OpenSpec.upto shapeShowSpec)) shapeShowUptoCard

/-- THE SECOND FORM's CARD OF 'arraylanglaw02.ShapeRight'. -/
def shapeRightUptoCard : Claim7 := { stood := { row := shapeRightUptoRow, standIns := [], harness := (true, "82fff6b51cd8ff465ddc0564e7a3b1533f475bc78841db5411ae81b8a9697faa"), looks := false }, kinds := [], alts := [], laidByText := true, laidKinds := [.data, .data, .data], laidTests := true, laidLooks := .later }
def ShapeRightUptoCardSaid : Prop := Claim7.holds Tryd.pinned (.plain (OpenSpec.upto shapeRightSpec)) shapeRightUptoCard
end Rows
end Go.Proofs.YtnmbbcodaekbaaaDoor
