/-
  DERIVED. GIVEN WITH THE SEED: THE CARDS: each row of YtkkkdfhnpamnkaaDoorRows.lean that lists a variable, with what it lists TIED to the program's text (the seventh form; the later family's looks); each row that meets fmt, with fmt's text TOLD by the authors' own Lean function (tested against real Go, not proved from fmt's source: count such statements apart). THE CARD IS WHAT COUNTS. Prove the row's statement (the work); the ties are given (YtkkkdfhnpamnkaaDoorTie.lean); close each card by the builder's one call (the guide's Derived/Test/ToyasCard.lean, 'card_holds'). Laid BY PROGRAM, IN A SANDBOX (cutbox-door.mjs). By AI agents, Wed Nov 11 2026. No macro, syntax, notation, axiom, sorry.
-/
import Derived.Test.YtkkkdfhnpamnkaaDoorRows
import GoSem.ClaimSeven
namespace Go.Proofs.YtkkkdfhnpamnkaaDoor
namespace Rows

/-- THE TIED CARD OF 'arraylanglaw41.TypesOf'. -/
def typesOfCard : Claim7 := { stood := { row := typesOfRow, standIns := [], harness := (true, "9efaf90916a7544f03378206f490880fb898f7fd3b51a67f79500e77106c4535"), looks := false }, kinds := [], alts := [], laidByText := true, laidKinds := [.data, .data, .data], laidTests := true, laidLooks := .later }
def TypesOfCardSaid : Prop := Claim7.holds Tryd.pinned (.plain (OpenSpec.ofChange typesOfSpec)) typesOfCard

/-- THE TIED CARD OF 'arraylanglaw41.TypesSays'. -/
def typesSaysCard : Claim7 := { stood := { row := typesSaysRow, standIns := [], harness := (true, "9efaf90916a7544f03378206f490880fb898f7fd3b51a67f79500e77106c4535"), looks := false }, kinds := [], alts := [], laidByText := true, laidKinds := [.data, .data, .data], laidTests := true, laidLooks := .later }
def TypesSaysCardSaid : Prop := Claim7.holds Tryd.pinned (.plain (OpenSpec.ofChange typesSaysSpec)) typesSaysCard

/-- THE TIED CARD OF 'arraylanglaw41.TypesJoins'. -/
def typesJoinsCard : Claim7 := { stood := { row := typesJoinsRow, standIns := [], harness := (true, "9efaf90916a7544f03378206f490880fb898f7fd3b51a67f79500e77106c4535"), looks := false }, kinds := [], alts := [], laidByText := true, laidKinds := [.data, .data, .data], laidTests := true, laidLooks := .later }
def TypesJoinsCardSaid : Prop := Claim7.holds Tryd.pinned (.plain (OpenSpec.ofChange typesJoinsSpec)) typesJoinsCard

/-- THE TIED CARD OF 'arraylanglaw41.TypesLattice'. -/
def typesLatticeCard : Claim7 := { stood := { row := typesLatticeRow, standIns := [], harness := (true, "9efaf90916a7544f03378206f490880fb898f7fd3b51a67f79500e77106c4535"), looks := false }, kinds := [], alts := [], laidByText := true, laidKinds := [.data, .data, .data], laidTests := true, laidLooks := .later }
def TypesLatticeCardSaid : Prop := Claim7.holds Tryd.pinned (.plain (OpenSpec.ofChange typesLatticeSpec)) typesLatticeCard

/-- THE TIED CARD OF 'arraylanglaw41.TypesMembers'. -/
def typesMembersCard : Claim7 := { stood := { row := typesMembersRow, standIns := [], harness := (true, "9efaf90916a7544f03378206f490880fb898f7fd3b51a67f79500e77106c4535"), looks := false }, kinds := [], alts := [], laidByText := true, laidKinds := [.data, .data, .data], laidTests := true, laidLooks := .later }
def TypesMembersCardSaid : Prop := Claim7.holds Tryd.pinned (.plain (OpenSpec.ofChange typesMembersSpec)) typesMembersCard

/-- THE SECOND FORM's CARD OF 'arraylanglaw41.TypesOf'. -/
def typesOfUptoCard : Claim7 := { stood := { row := typesOfUptoRow, standIns := [], harness := (true, "9efaf90916a7544f03378206f490880fb898f7fd3b51a67f79500e77106c4535"), looks := false }, kinds := [], alts := [], laidByText := true, laidKinds := [.data, .data, .data], laidTests := true, laidLooks := .later }
def TypesOfUptoCardSaid : Prop := Claim7.holds Tryd.pinned (.plain (OpenSpec.upto typesOfSpec)) typesOfUptoCard

/-- THE SECOND FORM's CARD OF 'arraylanglaw41.TypesSays'. -/
def typesSaysUptoCard : Claim7 := { stood := { row := typesSaysUptoRow, standIns := [], harness := (true, "9efaf90916a7544f03378206f490880fb898f7fd3b51a67f79500e77106c4535"), looks := false }, kinds := [], alts := [], laidByText := true, laidKinds := [.data, .data, .data], laidTests := true, laidLooks := .later }
def TypesSaysUptoCardSaid : Prop := Claim7.holds Tryd.pinned (.plain (OpenSpec.upto typesSaysSpec)) typesSaysUptoCard

/-- THE SECOND FORM's CARD OF 'arraylanglaw41.TypesJoins'. -/
def typesJoinsUptoCard : Claim7 := { stood := { row := typesJoinsUptoRow, standIns := [], harness := (true, "9efaf90916a7544f03378206f490880fb898f7fd3b51a67f79500e77106c4535"), looks := false }, kinds := [], alts := [], laidByText := true, laidKinds := [.data, .data, .data], laidTests := true, laidLooks := .later }
def TypesJoinsUptoCardSaid : Prop := Claim7.holds Tryd.pinned (.plain (OpenSpec.upto typesJoinsSpec)) typesJoinsUptoCard

/-- THE SECOND FORM's CARD OF 'arraylanglaw41.TypesLattice'. -/
def typesLatticeUptoCard : Claim7 := { stood := { row := typesLatticeUptoRow, standIns := [], harness := (true, "9efaf90916a7544f03378206f490880fb898f7fd3b51a67f79500e77106c4535"), looks := false }, kinds := [], alts := [], laidByText := true, laidKinds := [.data, .data, .data], laidTests := true, laidLooks := .later }
def TypesLatticeUptoCardSaid : Prop := Claim7.holds Tryd.pinned (.plain (OpenSpec.upto typesLatticeSpec)) typesLatticeUptoCard

/-- THE SECOND FORM's CARD OF 'arraylanglaw41.TypesMembers'. -/
def typesMembersUptoCard : Claim7 := { stood := { row := typesMembersUptoRow, standIns := [], harness := (true, "9efaf90916a7544f03378206f490880fb898f7fd3b51a67f79500e77106c4535"), looks := false }, kinds := [], alts := [], laidByText := true, laidKinds := [.data, .data, .data], laidTests := true, laidLooks := .later }
def TypesMembersUptoCardSaid : Prop := Claim7.holds Tryd.pinned (.plain (OpenSpec.upto typesMembersSpec)) typesMembersUptoCard
end Rows
end Go.Proofs.YtkkkdfhnpamnkaaDoor
