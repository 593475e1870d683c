/-
  Literals: utf8.DecodeRuneInString, by the kit's contract.
-/
import Derived.Test.YtldgcpdpebhndaaDoorW2
import Derived.Test.YtldgcpdpebhndaaDoorULay
set_option linter.unusedSimpArgs false
set_option linter.unusedVariables false
set_option maxRecDepth 100000
set_option maxHeartbeats 4000000
namespace Go.Proofs.YtldgcpdpebhndaaDoor
open Go.Abs Go

theorem utf_of {S : Nat → Nat → Prop} {w : World} (h : TabGood S w) : Lib.Utf8Tabs 0 1 w := by
  obtain ⟨_, T, fr, h1⟩ := h (0, Lib.firstTab.map fun z => Value.int .u8 z) (by simp [goodTab])
  obtain ⟨_, T2, fr2, h2⟩ := h (1, (List.range 16).flatMap fun i => [Value.int .u8 (Lib.accLo i), Value.int .u8 (Lib.accHi i)]) (by simp [goodTab])
  refine ⟨fun c hc => ?_, fun i hi => ?_⟩
  · simp [World.cell?, h1, Lib.firstTab, hc]
  · have : i = 0 ∨ i = 1 ∨ i = 2 ∨ i = 3 ∨ i = 4 ∨ i = 5 ∨ i = 6 ∨ i = 7 ∨ i = 8 ∨ i = 9 ∨ i = 10 ∨ i = 11 ∨ i = 12 ∨ i = 13 ∨ i = 14 ∨ i = 15 := by omega
    simp only [World.cell?, h2]
    rcases this with rfl | rfl | rfl | rfl | rfl | rfl | rfl | rfl | rfl | rfl | rfl | rfl | rfl | rfl | rfl | rfl <;> exact ⟨rfl, rfl⟩
@[go_sem] def rDec (p : Nat × Nat) : Res := .tup [.c (.d (.sc (.int .i32 p.1))), .c (.d (.sc (.int .i64 p.2)))]
theorem dec30 (s : ByteArray) : Gives Tryd.prog 30 [.c (eStr s)] (rDec (Lib.decodeGo s)) := by
  intro S w vs hgood hvs
  left
  have hv : vs = [.string s] := by
    cases hvs with
    | cons h1 h2 =>
      cases h2
      unfold RelDV at h1
      obtain ⟨_, h1⟩ := h1
      cases h1; rfl
  subst hv
  refine ⟨by simp [callFunc, Tryd.func30, Tryd.f30], ?_⟩
  refine (Any.utf8_DecodeRuneInString Tryd.lays197 s w (utf_of hgood)).mono ?_
  rintro e w' ⟨rfl, hb⟩
  refine ⟨_, fun _ => none, rfl, hb, ?_, ?_, ?_⟩
  · intro _ _ _ hp; cases hp
  · intro _ _ _ _ _ hp; cases hp
  · exact ⟨_, rfl, ⟨rfl, RelC.sc _ rfl⟩, ⟨rfl, RelC.sc _ rfl⟩, trivial⟩
end Go.Proofs.YtldgcpdpebhndaaDoor
