/-
  The law BinaryTurned of layer 16 returns true for any function and any two arrays, and changes nothing.
-/
import Derived.Test.YtncglcfhbhbaoaaR
import Derived.Test.YtncglcfhbhbaoaaRows
import Derived.ProofKit
import Derived.OpenShut
import Derived.JoinedCond
set_option linter.unusedSimpArgs false
set_option linter.unusedVariables false
namespace Go.Proofs.Ytncglcfhbhbaoaa.binaryTurned
open Go.Abs Go Go.ChangeShapes Go.WideShapes Go.ChangeAt Go.RowKit

set_option maxRecDepth 100000 in
theorem lifted (os : Os) (started : os.Started) (H : Type) (enc : TypeId × Value → H) :
    ReturnsInHanded {} Try.checked os 5 .any (Rows.binaryTurnedSpec.pre6 enc Try.prog Try.f5 Rows.binaryTurnedRow.domain false) (Rows.binaryTurnedSpec.post enc Try.prog Try.f5 false true false false) := by
  refine returnsInHanded_of_change (C := Try.checked) own started (by kernel_rfl) Try.func5
    (ChangeSpec.witness6 (enc := enc) (C := Try.checked) false ⟨#[], #[.int .i64 0, .agg #[.int .i64 0, .slice none 0 0, .slice none 0 0, .slice none 0 0], .agg #[.int .i64 0, .slice none 0 0, .slice none 0 0, .slice none 0 0]], []⟩ 8 (by kernel_rfl) (by kernel_rfl) (by kernel_rfl) (by kernel_rfl)) ?_
  intro W base args ds gs before hval hW _ _
  exact law_contract (L := Lty) laid Try.func5 (by kernel_rfl) rfl plain (by kernel_rfl) rfl (fun ds hds => by
      match ds, hds with
      | [d0, d1, d2], _ => rfl) rfl Try.underlying4 (fun yss hy => int_arrs law5 yss hy) noTabs hval hW

theorem over : Rows.binaryTurnedRow.holds Try.pinned (OpenSpec.ofChange Rows.binaryTurnedSpec) :=
  OpenClaim.holds_of_wide 5 Try.f5 rfl rfl rfl rfl rfl rfl rfl ⟨rfl, rfl, rfl, rfl, rfl⟩ rfl rfl rfl rfl rfl (by kernel_rfl) Try.func5 (by kernel_rfl)
    (of_decide_eq_true (by kernel_rfl)) (by unfold Func.isWrapper; first | (rw [if_pos (by decide +kernel)]; kernel_rfl) | (rw [if_neg (by decide +kernel)]; exact ⟨rfl, rfl⟩))
    (fun os started H enc _ => lifted os started H enc)

theorem proved : Rows.BinaryTurnedSaid :=
  over
end Go.Proofs.Ytncglcfhbhbaoaa.binaryTurned
