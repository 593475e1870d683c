/-
  The law BinaryExtends of layer 16 returns true for any function and any two arrays, and changes nothing.
-/
import Derived.Test.YtncglcfhbhbaoaaR
import Derived.Test.YtncglcfhbhbaoaaRows
import Derived.ProofKit
import Derived.OpenShut
import Derived.JoinedCond
set_option linter.unusedSimpArgs false
set_option linter.unusedVariables false
namespace Go.Proofs.Ytncglcfhbhbaoaa.binaryExtends
open Go.Abs Go Go.ChangeShapes Go.WideShapes Go.ChangeAt Go.RowKit

set_option maxRecDepth 100000 in
theorem lifted (os : Os) (started : os.Started) (H : Type) (enc : TypeId × Value → H) :
    ReturnsInHanded {} Try.checked os 7 .any (Rows.binaryExtendsSpec.pre6 enc Try.prog Try.f7 Rows.binaryExtendsRow.domain false) (Rows.binaryExtendsSpec.post enc Try.prog Try.f7 false true false false) := by
  refine returnsInHanded_of_change (C := Try.checked) own started (by kernel_rfl) Try.func7
    (ChangeSpec.witness6 (enc := enc) (C := Try.checked) false ⟨#[], #[.int .i64 0, .agg #[.int .i64 0, .slice none 0 0, .slice none 0 0, .slice none 0 0], .agg #[.int .i64 0, .slice none 0 0, .slice none 0 0, .slice none 0 0]], []⟩ 8 (by kernel_rfl) (by kernel_rfl) (by kernel_rfl) (by kernel_rfl)) ?_
  intro W base args ds gs before hval hW _ _
  exact law_contract (L := Lty) laid Try.func7 (by kernel_rfl) rfl plain (by kernel_rfl) rfl (fun ds hds => by
      match ds, hds with
      | [d0, d1, d2], _ => rfl) rfl Try.underlying4 (fun yss hy => int_arrs law7 yss hy) noTabs hval hW

theorem over : Rows.binaryExtendsRow.holds Try.pinned (OpenSpec.ofChange Rows.binaryExtendsSpec) :=
  OpenClaim.holds_of_wide 7 Try.f7 rfl rfl rfl rfl rfl rfl rfl ⟨rfl, rfl, rfl, rfl, rfl⟩ rfl rfl rfl rfl rfl (by kernel_rfl) Try.func7 (by kernel_rfl)
    (of_decide_eq_true (by kernel_rfl)) (by unfold Func.isWrapper; first | (rw [if_pos (by decide +kernel)]; kernel_rfl) | (rw [if_neg (by decide +kernel)]; exact ⟨rfl, rfl⟩))
    (fun os started H enc _ => lifted os started H enc)

theorem proved : Rows.BinaryExtendsSaid :=
  over
end Go.Proofs.Ytncglcfhbhbaoaa.binaryExtends
