/-
  No cell of these rows narrows 'for every input' (looked for: loops, veiled, ifaces, maps, wideKeys, modest, calm, conditions, laid).
  DERIVED. THE GIVEN ROWS OF THIS SEAT. 5 by the template 'for every input the law returns true; each argument reads behind the call as it read before'; 0 by the template 'total and deterministic' (their statements: YtgjhamfboonloaaRTotals.lean).
  GIVEN WITH THE SEED: the statements are not yours to turn. If you find one false, say at which input.
  Laid BY PROGRAM, IN A SANDBOX (cutbox-rows.mjs): the forced cells as the released guide's own fill.sh prints them over the translation f2659dd824262386… (all of the seat's roots in one cut). By AI agents, Wed Nov 11 2026. No macro, syntax, notation, axiom, sorry.
-/
import Derived.Test.YtgjhamfboonloaaRChecked
import GoSem.Claim
import GoSem.ClaimJoined
import GoSem.ClaimMapViews
import Derived.JoinedTies
import Derived.KernelRfl
namespace Go.Proofs.YtgjhamfboonloaaR
/- THE CELL 'sum', in the pinned program and in every row, IS THE sha256 OF THE DUMP (.gsa) THAT YtgjhamfboonloaaRProg.lean LOADS. Nothing in Lean hashes anything: it is a label: what it is worth is what the hold of that sum in a sandbox is worth. -/
noncomputable def Try.pinned : Pinned := { name := "ytgjhamfboonloaar", sum := "f2659dd82426238624ead1336e090f3cc23e50af381847c83bff16e7bce9bc97", checked := Try.checked }
namespace Rows
def none {H : Type} : Left H := { results := [], args := [] }

/-- 'arraylanglaw49.TempsLive': WHATEVER THE INPUT: true; the input reads as it did. -/
def tempsLiveSpec : ChangeSpec := { name := "tempsLive", fn := fun _ => fun
  | [d] => { results := [.lit (.bool true)], args := [d] }
  | _ => none }
def tempsLiveRow : OpenClaim := { program := "ytgjhamfboonloaar", sum := "f2659dd82426238624ead1336e090f3cc23e50af381847c83bff16e7bce9bc97", func := "arraylang/arraylanglaw49.TempsLive", spec := "tempsLive", unfollowed := true, recurses := true, apart := false }
def TempsLiveSaid : Prop := tempsLiveRow.holds Try.pinned (OpenSpec.ofChange tempsLiveSpec)

/-- ITS FALSE NEIGHBOUR: 'it returns false'. Refute it at one input. -/
def tempsLiveWrong : ChangeSpec := { name := "tempsLive", fn := fun _ => fun
  | [d] => { results := [.lit (.bool false)], args := [d] }
  | _ => none }
def TempsLiveWrongFalsely : Prop := tempsLiveRow.holds Try.pinned (OpenSpec.ofChange tempsLiveWrong)

/-- 'arraylanglaw49.TempsBuffers': WHATEVER THE INPUT: true; the input reads as it did. -/
def tempsBuffersSpec : ChangeSpec := { name := "tempsBuffers", fn := fun _ => fun
  | [d] => { results := [.lit (.bool true)], args := [d] }
  | _ => none }
def tempsBuffersRow : OpenClaim := { program := "ytgjhamfboonloaar", sum := "f2659dd82426238624ead1336e090f3cc23e50af381847c83bff16e7bce9bc97", func := "arraylang/arraylanglaw49.TempsBuffers", spec := "tempsBuffers", unfollowed := true, recurses := true, apart := false }
def TempsBuffersSaid : Prop := tempsBuffersRow.holds Try.pinned (OpenSpec.ofChange tempsBuffersSpec)

/-- ITS FALSE NEIGHBOUR: 'it returns false'. Refute it at one input. -/
def tempsBuffersWrong : ChangeSpec := { name := "tempsBuffers", fn := fun _ => fun
  | [d] => { results := [.lit (.bool false)], args := [d] }
  | _ => none }
def TempsBuffersWrongFalsely : Prop := tempsBuffersRow.holds Try.pinned (OpenSpec.ofChange tempsBuffersWrong)

/-- 'arraylanglaw49.TempsTrims': WHATEVER THE INPUT: true; the input reads as it did. -/
def tempsTrimsSpec : ChangeSpec := { name := "tempsTrims", fn := fun _ => fun
  | [d] => { results := [.lit (.bool true)], args := [d] }
  | _ => none }
def tempsTrimsRow : OpenClaim := { program := "ytgjhamfboonloaar", sum := "f2659dd82426238624ead1336e090f3cc23e50af381847c83bff16e7bce9bc97", func := "arraylang/arraylanglaw49.TempsTrims", spec := "tempsTrims", unfollowed := true, recurses := true, apart := false }
def TempsTrimsSaid : Prop := tempsTrimsRow.holds Try.pinned (OpenSpec.ofChange tempsTrimsSpec)

/-- ITS FALSE NEIGHBOUR: 'it returns false'. Refute it at one input. -/
def tempsTrimsWrong : ChangeSpec := { name := "tempsTrims", fn := fun _ => fun
  | [d] => { results := [.lit (.bool false)], args := [d] }
  | _ => none }
def TempsTrimsWrongFalsely : Prop := tempsTrimsRow.holds Try.pinned (OpenSpec.ofChange tempsTrimsWrong)

/-- 'arraylanglaw49.TempsApart': WHATEVER THE INPUT: true; the input reads as it did. -/
def tempsApartSpec : ChangeSpec := { name := "tempsApart", fn := fun _ => fun
  | [d] => { results := [.lit (.bool true)], args := [d] }
  | _ => none }
def tempsApartRow : OpenClaim := { program := "ytgjhamfboonloaar", sum := "f2659dd82426238624ead1336e090f3cc23e50af381847c83bff16e7bce9bc97", func := "arraylang/arraylanglaw49.TempsApart", spec := "tempsApart", unfollowed := true, recurses := true, apart := false }
def TempsApartSaid : Prop := tempsApartRow.holds Try.pinned (OpenSpec.ofChange tempsApartSpec)

/-- ITS FALSE NEIGHBOUR: 'it returns false'. Refute it at one input. -/
def tempsApartWrong : ChangeSpec := { name := "tempsApart", fn := fun _ => fun
  | [d] => { results := [.lit (.bool false)], args := [d] }
  | _ => none }
def TempsApartWrongFalsely : Prop := tempsApartRow.holds Try.pinned (OpenSpec.ofChange tempsApartWrong)

/-- 'arraylanglaw49.TempsAgain': WHATEVER THE INPUT: true; the input reads as it did. -/
def tempsAgainSpec : ChangeSpec := { name := "tempsAgain", fn := fun _ => fun
  | [d] => { results := [.lit (.bool true)], args := [d] }
  | _ => none }
def tempsAgainRow : OpenClaim := { program := "ytgjhamfboonloaar", sum := "f2659dd82426238624ead1336e090f3cc23e50af381847c83bff16e7bce9bc97", func := "arraylang/arraylanglaw49.TempsAgain", spec := "tempsAgain", unfollowed := true, recurses := true, apart := false }
def TempsAgainSaid : Prop := tempsAgainRow.holds Try.pinned (OpenSpec.ofChange tempsAgainSpec)

/-- ITS FALSE NEIGHBOUR: 'it returns false'. Refute it at one input. -/
def tempsAgainWrong : ChangeSpec := { name := "tempsAgain", fn := fun _ => fun
  | [d] => { results := [.lit (.bool false)], args := [d] }
  | _ => none }
def TempsAgainWrongFalsely : Prop := tempsAgainRow.holds Try.pinned (OpenSpec.ofChange tempsAgainWrong)

/- THE SECOND FORM. 'bulk': how many values and letters a reading holds, each counted each time it is reached (what is shared counts as often as it is met; a slice's spare places count too). A statement '..UptoSaid' is the law's where the arguments, and the package variables that the reading takes, are together of bulk at most 1048576: NARROWER than '..Said'. Prove '..Said' where nothing that the law and all that it calls make is longer than what came in: it says more and counts as full. Else prove '..UptoSaid'. A law counts once. -/
mutual
def uptoBulk {H : Type} : DataW H → Nat
  | .lit (.string bytes) => bytes.length + 1
  | .lit _ => 1
  | .nil => 1
  | .ptr d => uptoBulk d + 1
  | .slice elems spare => uptoBulkAll elems + uptoBulkAll spare + 1
  | .agg parts => uptoBulkAll parts + 1
  | .iface _ d => uptoBulk d + 1
  | .map entries => uptoBulkEntries entries + 1
  | .held _ => 1
def uptoBulkAll {H : Type} : List (DataW H) → Nat
  | [] => 0
  | d :: r => uptoBulk d + uptoBulkAll r
def uptoBulkEntries {H : Type} : List (Lit × DataW H) → Nat
  | [] => 0
  | x :: r => uptoBulkEntry x + uptoBulkEntries r
def uptoBulkEntry {H : Type} : Lit × DataW H → Nat
  | (.string bytes, d) => bytes.length + uptoBulk d + 1
  | (_, d) => uptoBulk d + 1
 end
def uptoSmall : (H : Type) → List (DataW H) → Bool := fun _ ds => decide (uptoBulkAll ds ≤ 1048576)
def OpenSpec.upto (s : _root_.Go.ChangeSpec) : _root_.Go.OpenSpec := { _root_.Go.OpenSpec.ofChange s with cond := some uptoSmall }

/-- 'arraylanglaw49.TempsLive', WHERE WHAT IT READS IS OF BULK AT MOST 1048576: true; the input reads as it did. -/
def tempsLiveUptoRow : OpenClaim := { program := "ytgjhamfboonloaar", sum := "f2659dd82426238624ead1336e090f3cc23e50af381847c83bff16e7bce9bc97", func := "arraylang/arraylanglaw49.TempsLive", spec := "tempsLive", unfollowed := true, recurses := true, apart := false, narrowed := true }
def TempsLiveUptoSaid : Prop := tempsLiveUptoRow.holds Try.pinned (OpenSpec.upto tempsLiveSpec)

/-- 'arraylanglaw49.TempsBuffers', WHERE WHAT IT READS IS OF BULK AT MOST 1048576: true; the input reads as it did. -/
def tempsBuffersUptoRow : OpenClaim := { program := "ytgjhamfboonloaar", sum := "f2659dd82426238624ead1336e090f3cc23e50af381847c83bff16e7bce9bc97", func := "arraylang/arraylanglaw49.TempsBuffers", spec := "tempsBuffers", unfollowed := true, recurses := true, apart := false, narrowed := true }
def TempsBuffersUptoSaid : Prop := tempsBuffersUptoRow.holds Try.pinned (OpenSpec.upto tempsBuffersSpec)

/-- 'arraylanglaw49.TempsTrims', WHERE WHAT IT READS IS OF BULK AT MOST 1048576: true; the input reads as it did. -/
def tempsTrimsUptoRow : OpenClaim := { program := "ytgjhamfboonloaar", sum := "f2659dd82426238624ead1336e090f3cc23e50af381847c83bff16e7bce9bc97", func := "arraylang/arraylanglaw49.TempsTrims", spec := "tempsTrims", unfollowed := true, recurses := true, apart := false, narrowed := true }
def TempsTrimsUptoSaid : Prop := tempsTrimsUptoRow.holds Try.pinned (OpenSpec.upto tempsTrimsSpec)

/-- 'arraylanglaw49.TempsApart', WHERE WHAT IT READS IS OF BULK AT MOST 1048576: true; the input reads as it did. -/
def tempsApartUptoRow : OpenClaim := { program := "ytgjhamfboonloaar", sum := "f2659dd82426238624ead1336e090f3cc23e50af381847c83bff16e7bce9bc97", func := "arraylang/arraylanglaw49.TempsApart", spec := "tempsApart", unfollowed := true, recurses := true, apart := false, narrowed := true }
def TempsApartUptoSaid : Prop := tempsApartUptoRow.holds Try.pinned (OpenSpec.upto tempsApartSpec)

/-- 'arraylanglaw49.TempsAgain', WHERE WHAT IT READS IS OF BULK AT MOST 1048576: true; the input reads as it did. -/
def tempsAgainUptoRow : OpenClaim := { program := "ytgjhamfboonloaar", sum := "f2659dd82426238624ead1336e090f3cc23e50af381847c83bff16e7bce9bc97", func := "arraylang/arraylanglaw49.TempsAgain", spec := "tempsAgain", unfollowed := true, recurses := true, apart := false, narrowed := true }
def TempsAgainUptoSaid : Prop := tempsAgainUptoRow.holds Try.pinned (OpenSpec.upto tempsAgainSpec)

end Rows
end Go.Proofs.YtgjhamfboonloaaR
