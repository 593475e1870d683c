/-
  What the arguments of layer 49 read as.
-/
import Derived.Test.YtgjhamfboonloaaRW21
import Derived.Test.YtgjhamfboonloaaRAbsV
set_option linter.unusedSimpArgs false
set_option linter.unusedVariables false
set_option maxRecDepth 100000
set_option maxHeartbeats 4000000
namespace Go.Proofs.YtgjhamfboonloaaR
open Go.Abs Go

def Lty : List TypeId := [25, 3, 22, 23, 40]
theorem plain : plainSet Try.prog Lty = true := by kernel_rfl

theorem four {α : Type} {l : List α} (h : l.length = 4) : ∃ a b c d, l = [a, b, c, d] := by
  match l, h with
  | [a, b, c, d], _ => exact ⟨a, b, c, d, rfl⟩

theorem typed_op {ys : List DC} (h : Typed Try.prog 40 ys) : ∃ o : KOp, ys = eKOp o := by
  obtain ⟨parts, rfl, hl, hp⟩ := h.st_inv Try.underlying40
  obtain ⟨p0, p1, p2, p3, rfl⟩ := four hl
  obtain ⟨a, rfl, _⟩ := (hp 0 _ _ rfl rfl).int_inv Try.underlying23
  obtain ⟨b, rfl, _⟩ := (hp 1 _ _ rfl rfl).int_inv Try.underlying3
  obtain ⟨c, rfl, _⟩ := (hp 2 _ _ rfl rfl).int_inv Try.underlying3
  obtain ⟨d, rfl, _⟩ := (hp 3 _ _ rfl rfl).int_inv Try.underlying3
  exact ⟨⟨a, b, c, d⟩, rfl⟩

theorem typed_ops : ∀ {xs : List (List DC)}, (∀ x, x ∈ xs → Typed Try.prog 40 x) → ∃ ops : List KOp, xs = ops.map eKOp
  | [], _ => ⟨[], rfl⟩
  | x :: xs, h => by
    obtain ⟨o, rfl⟩ := typed_op (h x (by simp))
    obtain ⟨ops, rfl⟩ := typed_ops fun y hy => h y (List.mem_cons_of_mem _ hy)
    exact ⟨o :: ops, rfl⟩

theorem typed_kernel {ys : List DC} (h : Typed Try.prog 25 ys) : ∃ k : Kernel, ys = eKernel k := by
  obtain ⟨parts, rfl, hl, hp⟩ := h.st_inv Try.underlying25
  obtain ⟨p0, p1, p2, p3, rfl⟩ := four hl
  obtain ⟨a, rfl, _⟩ := (hp 0 _ _ rfl rfl).int_inv Try.underlying3
  obtain ⟨xs, rfl, _, hx⟩ := (hp 1 _ _ rfl rfl).sl_inv Try.underlying22
  obtain ⟨c, rfl, _⟩ := (hp 2 _ _ rfl rfl).int_inv Try.underlying23
  obtain ⟨d, rfl, _⟩ := (hp 3 _ _ rfl rfl).int_inv Try.underlying3
  obtain ⟨ops, rfl⟩ := typed_ops hx
  exact ⟨⟨a, ops, c, d⟩, rfl⟩

theorem own : ownKnob Try.prog.godebug = none := by kernel_rfl
theorem laid : laidOutB Try.prog = true := by kernel_rfl

/-- The one argument of each law. -/
theorem one_kernel {f : Nat} (h : ∀ k : Kernel, Gives Try.prog f [.agg (eKernel k)] (rBool true)) (yss : List (List DC)) (hy : All2 (fun t ys => Typed Try.prog t ys) [25] yss) : Gives Try.prog f (handedAll Try.prog [25] yss) (rBool true) := by
  cases hy with
  | cons h1 h2 =>
    cases h2
    obtain ⟨k, rfl⟩ := typed_kernel h1
    have ha : aggB Try.prog 25 = true := by simp [aggB, Try.underlying25]
    have : handedAll Try.prog [25] [eKernel k] = [.agg (eKernel k)] := by simp [handedAll, handed, ha]
    rw [this]
    exact h k

end Go.Proofs.YtgjhamfboonloaaR
