/-
  The law FaultShows of layer 7 returns true for any text and any fault of bulk at most 1048576, and changes nothing.
-/
import Derived.Test.YtppmfndfgafnhaaDoorR
import Derived.Test.YtppmfndfgafnhaaDoorLaid
import Derived.Test.YtppmfndfgafnhaaDoorCards
import Derived.Test.YtppmfndfgafnhaaDoorTie
set_option linter.unusedSimpArgs false
set_option linter.unusedVariables false
namespace Go.Proofs.YtppmfndfgafnhaaDoor.faultShows
open Go.Abs Go Go.ChangeShapes Go.WideShapes Go.ChangeAt Go.RowKit

theorem bulk (H : Type) : Bulk (Rows.uptoBulk (H := H)) Rows.uptoBulkAll where
  str b := by simp [Rows.uptoBulk]
  lit l := by cases l <;> simp [Rows.uptoBulk]
  nil := by simp [Rows.uptoBulk]
  slice e s := by simp only [Rows.uptoBulk]; omega
  agg ps := by simp only [Rows.uptoBulk]; omega
  cons d r := by simp only [Rows.uptoBulkAll]

theorem contract (H : Type) (enc : TypeId × Value → H) (W : World) (base : Nat) (args : Array Value) (ds gs : List (DataW H)) (before : List MemPlace)
    (hval : ∀ (j : Nat) t v, Tryd.f5.params[j]? = some t → args[j]? = some v → Value.okWide Tryd.prog W .any base t v)
    (hW : DataW.Whole enc Tryd.prog Tryd.f5.params.toList Rows.faultShowsSpec.vars false W args.toList ds gs before) (hk : Rows.uptoBulkAll ds ≤ 1048576) (hL : laidMetH Tryd.prog Rows.faultShowsRow.laid W) :
    Calls Tryd.prog 5 args W fun e W' => ∃ v, e = .returned v ∧ Rows.faultShowsSpec.post enc Tryd.prog Tryd.f5 false true false false W args v W' :=
  law_contract2 (bulk H) (L := Lty) laid Tryd.func5 (by kernel_rfl) rfl plain (by kernel_rfl) rfl (fun ds hds => by
      match ds, hds with
      | [d0, d1], _ => rfl) rfl Tryd.underlying4 (fun yss hy hb => str_fault (by decide) law5 yss hy hb) (good hL) hval hW hk

theorem reads (os : Os) {H : Type} (enc : TypeId × Value → H) : ∃ places, DataW.whole enc Tryd.prog ((laidWorld os).forCall (fun _ _ => 0) ⟨#[], #[.string ByteArray.empty, .agg #[.int .i64 0, .int .i64 0, .slice none 0 0, .slice none 0 0, .string ByteArray.empty]], []⟩).memory Tryd.f5.params.toList Rows.faultShowsSpec.vars false #[.string ByteArray.empty, .agg #[.int .i64 0, .int .i64 0, .slice none 0 0, .slice none 0 0, .string ByteArray.empty]].toList 8 = some ([.lit (.string []), .agg [.lit (.int .i64 0), .lit (.int .i64 0), .nil, .nil, .lit (.string [])]], [], places) :=
  ⟨[], by kernel_rfl⟩

set_option maxRecDepth 100000 in
theorem lifted (os : Os) (started : os.Started) (H : Type) (enc : TypeId × Value → H) (F : Stop.Interp) :
    ReturnsInHanded {} Tryd.checked os 5 .any ((Rows.OpenSpec.upto Rows.faultShowsSpec).preRow enc Tryd.prog Tryd.f5 Rows.faultShowsUptoRow.domain false Rows.faultShowsUptoRow.laid) (((Rows.OpenSpec.upto Rows.faultShowsSpec).at F).post enc Tryd.prog Tryd.f5 false true false false) := by
  obtain ⟨places, hx⟩ := reads os enc
  refine returnsInHanded_of_row (C := Tryd.checked) (s := Rows.OpenSpec.upto Rows.faultShowsSpec) own started (by kernel_rfl) Tryd.func5
    (witness_row_at (enc := enc) (C := Tryd.checked) false (laidWorld os) #[.string ByteArray.empty, .agg #[.int .i64 0, .int .i64 0, .slice none 0 0, .slice none 0 0, .string ByteArray.empty]] rfl (by kernel_rfl) (by kernel_rfl) (by kernel_rfl)
      (OpenSpec.preRow_of_cond 8 hx (by kernel_rfl) (fun k hk => by cases hk; kernel_rfl) (by kernel_rfl) (laid_met os _))) ?_
  intro W base args ds gs before hval hW _ hcond _ hL _ _
  refine contract H enc W base args ds gs before hval hW ?_ hL
  have hk := hcond _ rfl
  have h1 := of_decide_eq_true hk
  obtain ⟨_, q, _, hV, _⟩ := hW
  cases gs with
  | nil => simpa using h1
  | cons => exact absurd hV (by simp [Rows.faultShowsSpec, Rows.OpenSpec.upto, OpenSpec.ofChange, DataW.TrodVars, show (Rows.OpenSpec.upto Rows.faultShowsSpec).vars = [] from rfl])

theorem said : Rows.FaultShowsUptoSaid :=
  OpenClaim.holds_of_cond 5 Tryd.f5 rfl rfl rfl rfl rfl rfl rfl ⟨rfl, rfl, rfl, rfl, rfl⟩ rfl rfl rfl rfl rfl (by kernel_rfl) Tryd.func5 (by kernel_rfl)
    (of_decide_eq_true (by kernel_rfl)) (by unfold Func.isWrapper; first | (rw [if_pos (by decide +kernel)]; kernel_rfl) | (rw [if_neg (by decide +kernel)]; exact ⟨rfl, rfl⟩))
    (fun os started H enc _ F => by rw [OpenClaim.pre_eq_preRow]; exact lifted os started H enc F)

theorem ordinary (f : FuncId) (fn : Func) (hf : Tryd.pinned.checked.prog.funcNamed "arraylang/arraylanglaw07.FaultShows" = some f) (hfn : Tryd.pinned.checked.prog.funcs[f]? = some fn) :
    false = Tryd.pinned.checked.prog.looks [] ∧ ∀ (j : Nat) t, fn.params[j]? = some t → Tryd.pinned.checked.prog.wantsStandIn t = false := by
  obtain rfl : f = 5 := Option.some.inj ((show Tryd.prog.funcNamed "arraylang/arraylanglaw07.FaultShows" = some 5 by kernel_rfl).symm.trans hf) |>.symm
  obtain rfl : fn = Tryd.f5 := (Option.some.inj (Tryd.func5.symm.trans hfn)).symm
  refine ⟨by kernel_rfl, fun j t ht => ?_⟩
  rw [Tryd.params5] at ht
  have hm := Array.mem_of_getElem? ht
  simp only [Array.mem_toList_iff.symm, List.mem_cons, List.not_mem_nil, or_false] at hm
  rcases hm with rfl | rfl
  · exact (show Tryd.prog.wantsStandIn 9 = false by kernel_rfl)
  · exact (show Tryd.prog.wantsStandIn 31 = false by kernel_rfl)

/-- The card. -/
theorem card : Rows.FaultShowsUptoCardSaid :=
  Claim7.holds_tied_plain_at .later [] _ _ _ _ said (fun _ h => by cases h) (by kernel_rfl) (fun _ h => by cases h) faultShowsUpto_row_tie rfl ⟨rfl, rfl⟩ (by kernel_rfl) rfl ordinary (by kernel_rfl)
end Go.Proofs.YtppmfndfgafnhaaDoor.faultShows
