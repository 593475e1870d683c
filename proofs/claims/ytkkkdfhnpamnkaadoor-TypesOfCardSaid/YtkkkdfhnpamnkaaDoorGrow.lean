/-
  strings.Builder's Grow at a builder that has not been written, walked at this program: the builder is used, and its buffer may be a new row of which no byte is its own.
-/
import Derived.Shelf.Strings.Builder2
import Derived.Test.YtkkkdfhnpamnkaaDoorAbsZC
import Derived.Test.YtkkkdfhnpamnkaaDoorCc
set_option linter.unusedVariables false
set_option linter.unusedSimpArgs false
namespace Go.Proofs
open Go.RowKit Go.Shelf Go.Abs

set_option maxHeartbeats 2000000 in
set_option maxRecDepth 1000000 in
theorem Tryd.grow_run (b n : Nat) (w : World) (hbk : w.heap[b]? = some (.cells #[.pointer (some ⟨b, 0, none⟩), .slice none 0 0] 65 (0, 0))) (hn : n ≤ 281474976710656) :
    Calls Tryd.prog 73 #[.pointer (some ⟨b, 0, none⟩), .int .i64 n] w fun r w' => r = .returned (.tuple #[]) ∧ ∃ cs : Array Value, cs.size ≤ maxLen ∧ sameW ((w.alloc (.cells cs 5)).setCell ⟨b, 1, none⟩ (.slice (some ⟨w.heap.size, 0, none⟩) 0 cs.size)) w' := by
  obtain ⟨cs, hrun, hle, hmax⟩ := Lib.run_makeNoZero (P := Tryd.prog) w.drew #[3] 63 5 Tryd.underlying63 n hn
  have hm : cs.size ≤ maxLen := hmax (by unfold maxLen; omega)
  have hw : IntKind.i64.wrap (IntKind.i64.wrap 0 + (n : Int)) = n := by
    rw [IntKind.wrap_i64, IntKind.wrap_i64]
    omega
  have hcall : (callFunc 78 #[.int .i64 (IntKind.i64.wrap (IntKind.i64.wrap 0 + (n : Int)))]).run Tryd.prog w.drew = .ok (.value (.slice (some ⟨w.drew.heap.size, 0, none⟩) n cs.size)) (w.drew.drew.drew.alloc (.cells cs 5)) := by
    rw [hw, run_callFunc_extern Tryd.func78 (by kernel_rfl) (by kernel_rfl) (by kernel_rfl) (e := Extern.BytealgMakeNoZero.makeNoZero #[3] #[63]) (by kernel_rfl), hrun]
    rfl
  have hlt : b < w.heap.size := by
    rcases Nat.lt_or_ge b w.heap.size with h' | h'
    · exact h'
    · simp [Array.getElem?_eq_none h'] at hbk
  have c1 : w.drew.cell? ⟨b, 1, none⟩ = some (.slice none 0 0) := by
    have : w.drew.heap[b]? = _ := hbk
    rw [Lib.cell_of_heap this]; rfl
  have c2 : (w.alloc (.cells cs 5)).cell? ⟨b, 1, none⟩ = some (.slice none 0 0) := by
    have : (w.alloc (.cells cs 5)).heap[b]? = _ := (Lib.alloc_old w _ b hlt).trans hbk
    rw [Lib.cell_of_heap this]; rfl
  have f2 : (w.alloc (.cells cs 5)).frozen? ⟨b, 1, none⟩ = false := Lib.frozen_of_heap ((Lib.alloc_old w _ b hlt).trans hbk) 1
  have hcopy : ∀ W : World, (Builtin.copy_ #[63, 63] 3 #[.slice (some ⟨w.heap.size, 0, none⟩) 0 cs.size, .slice none 0 0]).run Tryd.prog W = .ok (goInt 0) W :=
    fun W => run_copy_none W 63 63 3 5 _ _ 0 cs.size 0 0 Tryd.underlying63 (by kernel_rfl) rfl
  have hswap : ((w.setCell ⟨b, 1, none⟩ (.slice (some ⟨w.heap.size, 0, none⟩) 0 cs.size)).alloc (.cells cs 5)).heap = ((w.alloc (.cells cs 5)).setCell ⟨b, 1, none⟩ (.slice (some ⟨w.heap.size, 0, none⟩) 0 cs.size)).heap := by
    exact alloc_setCell hlt 1 _ _
  clear hw
  go_enter Tryd.func73, Tryd.ntmps73
  go_wp2
  go_region
  all_goals (go_wp2; go_end0; exact ⟨rfl, cs, hm, hswap, rfl, rfl, rfl⟩)

set_option maxHeartbeats 2000000 in
set_option maxRecDepth 1000000 in
theorem Tryd.Grow_run (b n : Nat) (w : World) (hbk : w.heap[b]? = some (.cells #[.pointer none, .slice none 0 0] 65 (0, 0))) (hn : n ≤ 281474976710656) :
    Calls Tryd.prog 62 #[.pointer (some ⟨b, 0, none⟩), .int .i64 n] w fun r w' => r = .returned (.tuple #[]) ∧
      (sameW (w.setCell ⟨b, 0, none⟩ (.pointer (some ⟨b, 0, none⟩))) w' ∨ ∃ cs : Array Value, cs.size ≤ maxLen ∧ sameW (((w.setCell ⟨b, 0, none⟩ (.pointer (some ⟨b, 0, none⟩))).alloc (.cells cs 5)).setCell ⟨b, 1, none⟩ (.slice (some ⟨w.heap.size, 0, none⟩) 0 cs.size)) w') := by
  have hbk1 : (w.setCell ⟨b, 0, none⟩ (.pointer (some ⟨b, 0, none⟩))).heap[b]? = some (.cells #[.pointer (some ⟨b, 0, none⟩), .slice none 0 0] 65 (0, 0)) := by
    simp [World.setCell, Array.getElem?_modify, hbk]
  have c1' : (w.setCell ⟨b, 0, none⟩ (.pointer (some ⟨b, 0, none⟩))).drew.cell? ⟨b, 1, none⟩ = some (.slice none 0 0) := by
    have : (w.setCell ⟨b, 0, none⟩ (.pointer (some ⟨b, 0, none⟩))).drew.heap[b]? = _ := hbk1
    rw [Lib.cell_of_heap this]; rfl
  have hsz : (w.setCell ⟨b, 0, none⟩ (.pointer (some ⟨b, 0, none⟩))).drew.heap.size = w.heap.size := by simp [World.setCell, World.drew, -World.drew_eq]
  go_enter Tryd.func62, Tryd.ntmps62
  go_wp2_with (go_at_call 72; refine (Tryd.cc_fresh b w (by rw [Lib.cell_of_heap hbk]; rfl) (by simp [World.shape?, hbk]) (Lib.frozen_of_heap hbk 0)).mono ?_; rintro e w' ⟨rfl, rfl⟩)
  go_region
  all_goals go_wp2_with (go_at_call 73; refine (Tryd.grow_run b n (w.setCell ⟨b, 0, none⟩ (.pointer (some ⟨b, 0, none⟩))).drew hbk1 hn).mono ?_; rintro e w' ⟨rfl, cs, h1, e1, e2, e3, e4⟩)
  all_goals first
    | (go_end0; rw [hsz] at e1; exact ⟨rfl, .inr ⟨cs, h1, e1, e2, e3, e4⟩⟩)
    | (go_end0; exact ⟨rfl, .inl ⟨rfl, rfl, rfl, rfl⟩⟩)

theorem Tryd.growM {s : ASt} {b k : Nat} (n : Nat) (hb : find s.rows b = some (.box 65 [.d (.sc (.pointer none)), .nil])) (hne : b ≠ k) (hk : s.free k = true) (hn : n ≤ 281474976710656) :
    Meth Tryd.prog 62 s [.c (.ptr b 0), sint .i64 n] ⟨s.tmps, (b, .box 65 [.ptr b 0, .row k]) :: (k, .arr 5 1 [] false) :: s.rows⟩ (.tup []) :=
  Meth.growB (enters_of Tryd.func62 (by kernel_rfl) rfl) Tryd.Grow_run hb hne hk n hn
end Go.Proofs
