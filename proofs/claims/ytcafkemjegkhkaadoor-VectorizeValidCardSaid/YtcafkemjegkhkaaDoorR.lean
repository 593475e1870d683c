/-
  What the arguments of layer 51 read as.
-/
import Derived.Test.YtcafkemjegkhkaaDoorW24
import Derived.Test.YtcafkemjegkhkaaDoorAbsW
set_option linter.unusedSimpArgs false
set_option linter.unusedVariables false
set_option maxRecDepth 100000
set_option maxHeartbeats 4000000
namespace Go.Proofs.YtcafkemjegkhkaaDoor
open Go.Abs Go

theorem four {α : Type} {l : List α} (h : l.length = 4) : ∃ a b c d, l = [a, b, c, d] := by
  match l, h with
  | [a, b, c, d], _ => exact ⟨a, b, c, d, rfl⟩
theorem two {α : Type} {l : List α} (h : l.length = 2) : ∃ a b, l = [a, b] := by
  match l, h with
  | [a, b], _ => exact ⟨a, b, rfl⟩
theorem six {α : Type} {l : List α} (h : l.length = 6) : ∃ a b c d e f, l = [a, b, c, d, e, f] := by
  match l, h with
  | [a, b, c, d, e, f], _ => exact ⟨a, b, c, d, e, f, rfl⟩
theorem wf64 {n : Int} (h : (Lit.int .i64 n).wf = true) : okN n := by
  simp [Lit.wf, IntKind.min, IntKind.max, IntKind.signed, IntKind.bits] at h
  unfold okN
  omega

theorem typed_op {ys : List DC} (h : Typed Tryd.prog 50 ys) : ∃ o : KOp, ys = eKOp o := by
  obtain ⟨parts, rfl, hl, hp⟩ := h.st_inv Tryd.underlying50
  obtain ⟨p0, p1, p2, p3, rfl⟩ := four hl
  obtain ⟨a, rfl, _⟩ := (hp 0 _ _ rfl rfl).int_inv Tryd.underlying23
  obtain ⟨b, rfl, _⟩ := (hp 1 _ _ rfl rfl).int_inv Tryd.underlying3
  obtain ⟨c, rfl, _⟩ := (hp 2 _ _ rfl rfl).int_inv Tryd.underlying3
  obtain ⟨d, rfl, _⟩ := (hp 3 _ _ rfl rfl).int_inv Tryd.underlying3
  exact ⟨⟨a, b, c, d⟩, rfl⟩
theorem typed_ops : ∀ {xs : List (List DC)}, (∀ x, x ∈ xs → Typed Tryd.prog 50 x) → ∃ ops : List KOp, xs = ops.map eKOp
  | [], _ => ⟨[], rfl⟩
  | x :: xs, h => by
    obtain ⟨o, rfl⟩ := typed_op (h x (by simp))
    obtain ⟨ops, rfl⟩ := typed_ops fun y hy => h y (List.mem_cons_of_mem _ hy)
    exact ⟨o :: ops, rfl⟩
theorem typed_kernel {ys : List DC} (h : Typed Tryd.prog 25 ys) : ∃ k : Kernel, ys = eKernel k := by
  obtain ⟨parts, rfl, hl, hp⟩ := h.st_inv Tryd.underlying25
  obtain ⟨p0, p1, p2, p3, rfl⟩ := four hl
  obtain ⟨a, rfl, _⟩ := (hp 0 _ _ rfl rfl).int_inv Tryd.underlying3
  obtain ⟨xs, rfl, _, hx⟩ := (hp 1 _ _ rfl rfl).sl_inv Tryd.underlying22
  obtain ⟨c, rfl, _⟩ := (hp 2 _ _ rfl rfl).int_inv Tryd.underlying23
  obtain ⟨d, rfl, _⟩ := (hp 3 _ _ rfl rfl).int_inv Tryd.underlying3
  obtain ⟨ops, rfl⟩ := typed_ops hx
  exact ⟨⟨a, ops, c, d⟩, rfl⟩
theorem typed_lop {ys : List DC} (h : Typed Tryd.prog 41 ys) : ∃ o : LOp, ys = eLOp o ∧ okO o := by
  obtain ⟨parts, rfl, hl, hp⟩ := h.st_inv Tryd.underlying41
  obtain ⟨p0, p1, p2, p3, p4, p5, rfl⟩ := six hl
  obtain ⟨a, rfl, ha⟩ := (hp 0 _ _ rfl rfl).int_inv Tryd.underlying39
  obtain ⟨b, rfl, hb⟩ := (hp 1 _ _ rfl rfl).int_inv Tryd.underlying23
  obtain ⟨c, rfl, hc⟩ := (hp 2 _ _ rfl rfl).int_inv Tryd.underlying3
  obtain ⟨d, rfl, hd⟩ := (hp 3 _ _ rfl rfl).int_inv Tryd.underlying3
  obtain ⟨e, rfl, he⟩ := (hp 4 _ _ rfl rfl).int_inv Tryd.underlying3
  obtain ⟨f, rfl, hf⟩ := (hp 5 _ _ rfl rfl).int_inv Tryd.underlying3
  exact ⟨⟨a, b, c, d, e, f⟩, rfl, wf64 ha, wf64 hb, wf64 hc, wf64 hd, wf64 he, wf64 hf⟩
theorem typed_lops : ∀ {xs : List (List DC)}, (∀ x, x ∈ xs → Typed Tryd.prog 41 x) → ∃ ops : List LOp, xs = ops.map eLOp ∧ ∀ o, o ∈ ops → okO o
  | [], _ => ⟨[], rfl, by simp⟩
  | x :: xs, h => by
    obtain ⟨o, rfl, ho⟩ := typed_lop (h x (by simp))
    obtain ⟨ops, rfl, hops⟩ := typed_lops fun y hy => h y (List.mem_cons_of_mem _ hy)
    refine ⟨o :: ops, rfl, fun y hy => ?_⟩
    simp only [List.mem_cons] at hy
    rcases hy with rfl | hy
    · exact ho
    · exact hops y hy
theorem typed_lanes {ys : List DC} (h : Typed Tryd.prog 30 ys) : ∃ p : Lanes, ys = eLanes p ∧ okL p := by
  obtain ⟨parts, rfl, hl, hp⟩ := h.st_inv Tryd.underlying30
  obtain ⟨p0, p1, rfl⟩ := two hl
  obtain ⟨a, rfl, ha⟩ := (hp 0 _ _ rfl rfl).int_inv Tryd.underlying3
  obtain ⟨xs, rfl, _, hx⟩ := (hp 1 _ _ rfl rfl).sl_inv Tryd.underlying28
  obtain ⟨ops, rfl, hops⟩ := typed_lops hx
  exact ⟨⟨a, ops⟩, rfl, wf64 ha, hops⟩
theorem agg25 : aggB Tryd.prog 25 = true := by simp [aggB, Tryd.underlying25]
theorem agg30 : aggB Tryd.prog 30 = true := by simp [aggB, Tryd.underlying30]

theorem one_kernel {f : Nat} (h : ∀ k : Kernel, Gives Tryd.prog f [.agg (eKernel k)] (rBool true)) (yss : List (List DC)) (hy : All2 (fun t ys => Typed Tryd.prog t ys) [25] yss) : Gives Tryd.prog f (handedAll Tryd.prog [25] yss) (rBool true) := by
  cases hy with
  | cons h1 h2 =>
    cases h2
    obtain ⟨k, rfl⟩ := typed_kernel h1
    have : handedAll Tryd.prog [25] [eKernel k] = [.agg (eKernel k)] := by simp [handedAll, handed, agg25]
    rw [this]
    exact h k
theorem one_lanes {f : Nat} (h : ∀ p : Lanes, Gives Tryd.prog f [.agg (eLanes p)] (rBool true)) (yss : List (List DC)) (hy : All2 (fun t ys => Typed Tryd.prog t ys) [30] yss) : Gives Tryd.prog f (handedAll Tryd.prog [30] yss) (rBool true) := by
  cases hy with
  | cons h1 h2 =>
    cases h2
    obtain ⟨p, rfl, _⟩ := typed_lanes h1
    have : handedAll Tryd.prog [30] [eLanes p] = [.agg (eLanes p)] := by simp [handedAll, handed, agg30]
    rw [this]
    exact h p
theorem two_lanes {f : Nat} (h : ∀ p q : Lanes, okL p → Gives Tryd.prog f [.agg (eLanes p), .agg (eLanes q)] (rBool true)) (yss : List (List DC)) (hy : All2 (fun t ys => Typed Tryd.prog t ys) [30, 30] yss) : Gives Tryd.prog f (handedAll Tryd.prog [30, 30] yss) (rBool true) := by
  cases hy with
  | cons h1 h2 =>
    cases h2 with
    | cons h2 h3 =>
      cases h3
      obtain ⟨p, rfl, hp⟩ := typed_lanes h1
      obtain ⟨q, rfl, _⟩ := typed_lanes h2
      have : handedAll Tryd.prog [30, 30] [eLanes p, eLanes q] = [.agg (eLanes p), .agg (eLanes q)] := by simp [handedAll, handed, agg30]
      rw [this]
      exact h p q hp
end Go.Proofs.YtcafkemjegkhkaaDoor
