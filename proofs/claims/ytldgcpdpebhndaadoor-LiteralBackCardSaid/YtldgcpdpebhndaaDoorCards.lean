/-
  DERIVED. GIVEN WITH THE SEED: THE CARDS: each row of YtldgcpdpebhndaaDoorRows.lean that lists a variable, with what it lists TIED to the program's text (the seventh form; the later family's looks); each row that meets fmt, with fmt's text TOLD by the authors' own Lean function (tested against real Go, not proved from fmt's source: count such statements apart). THE CARD IS WHAT COUNTS. Prove the row's statement (the work); the ties are given (YtldgcpdpebhndaaDoorTie.lean); close each card by the builder's one call (the guide's Derived/Test/ToyasCard.lean, 'card_holds'). Laid BY PROGRAM, IN A SANDBOX (cutbox-door.mjs). By AI agents, Wed Nov 11 2026. No macro, syntax, notation, axiom, sorry.
-/
import Derived.Test.YtldgcpdpebhndaaDoorRows
import GoSem.ClaimSeven
namespace Go.Proofs.YtldgcpdpebhndaaDoor
namespace Rows

/-- THE TIED CARD OF 'arraylanglaw09.LiteralQuote'. -/
def literalQuoteCard : Claim7 := { stood := { row := literalQuoteRow, standIns := [], harness := (true, "0a86103fbe090723940b1af588582156371ab02962abd523b8d29893359e1134"), looks := false }, kinds := [], alts := [], laidByText := true, laidKinds := [.data, .data, .data, .data, .pinned], laidTests := true, laidLooks := .later }
def LiteralQuoteCardSaid : Prop := Claim7.holds Tryd.pinned (.plain (OpenSpec.ofChange literalQuoteSpec)) literalQuoteCard

/-- THE TIED CARD OF 'arraylanglaw09.LiteralShow'. -/
def literalShowCard : Claim7 := { stood := { row := literalShowRow, standIns := [], harness := (true, "0a86103fbe090723940b1af588582156371ab02962abd523b8d29893359e1134"), looks := false }, kinds := [], alts := [], laidByText := true, laidKinds := [.data, .data, .data, .data, .pinned], laidTests := true, laidLooks := .later }
def LiteralShowCardSaid : Prop := Claim7.holds Tryd.pinned (.plain (OpenSpec.ofChange literalShowSpec)) literalShowCard

/-- THE TIED CARD OF 'arraylanglaw09.LiteralBack'. -/
def literalBackCard : Claim7 := { stood := { row := literalBackRow, standIns := [], harness := (true, "0a86103fbe090723940b1af588582156371ab02962abd523b8d29893359e1134"), looks := false }, kinds := [], alts := [], laidByText := true, laidKinds := [.data, .data, .data, .data, .pinned], laidTests := true, laidLooks := .later }
def LiteralBackCardSaid : Prop := Claim7.holds Tryd.pinned (.plain (OpenSpec.ofChange literalBackSpec)) literalBackCard

/-- THE SECOND FORM's CARD OF 'arraylanglaw09.LiteralQuote'. -/
def literalQuoteUptoCard : Claim7 := { stood := { row := literalQuoteUptoRow, standIns := [], harness := (true, "0a86103fbe090723940b1af588582156371ab02962abd523b8d29893359e1134"), looks := false }, kinds := [], alts := [], laidByText := true, laidKinds := [.data, .data, .data, .data, .pinned], laidTests := true, laidLooks := .later }
def LiteralQuoteUptoCardSaid : Prop := Claim7.holds Tryd.pinned (.plain (OpenSpec.upto literalQuoteSpec)) literalQuoteUptoCard

/-- THE SECOND FORM's CARD OF 'arraylanglaw09.LiteralShow'. -/
def literalShowUptoCard : Claim7 := { stood := { row := literalShowUptoRow, standIns := [], harness := (true, "0a86103fbe090723940b1af588582156371ab02962abd523b8d29893359e1134"), looks := false }, kinds := [], alts := [], laidByText := true, laidKinds := [.data, .data, .data, .data, .pinned], laidTests := true, laidLooks := .later }
def LiteralShowUptoCardSaid : Prop := Claim7.holds Tryd.pinned (.plain (OpenSpec.upto literalShowSpec)) literalShowUptoCard

/-- THE SECOND FORM's CARD OF 'arraylanglaw09.LiteralBack'. -/
def literalBackUptoCard : Claim7 := { stood := { row := literalBackUptoRow, standIns := [], harness := (true, "0a86103fbe090723940b1af588582156371ab02962abd523b8d29893359e1134"), looks := false }, kinds := [], alts := [], laidByText := true, laidKinds := [.data, .data, .data, .data, .pinned], laidTests := true, laidLooks := .later }
def LiteralBackUptoCardSaid : Prop := Claim7.holds Tryd.pinned (.plain (OpenSpec.upto literalBackSpec)) literalBackUptoCard
end Rows
end Go.Proofs.YtldgcpdpebhndaaDoor
