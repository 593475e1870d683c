/-
  The walks of layer 51, continued: a slice from behind.
-/
import Derived.Test.YtcafkemjegkhkaaDoorW6
import Derived.LoopNIn
import Derived.LoopIn
import Derived.TacticsInMore
import Derived.OwnWalkIn
set_option linter.unusedSimpArgs false
set_option linter.unusedVariables false
set_option maxRecDepth 100000
set_option maxHeartbeats 4000000
namespace Go.Proofs.YtcafkemjegkhkaaDoor
open Go.Abs Go

@[go_sem] def rClo (f : Nat) (xs : List (List DC)) : Res := .one (.c (.d (.clo f xs)))

theorem backward_pure (D : List (List DC)) : Gives Tryd.prog 59 [.c (.sl D)] (rClo 67 [[.sl D]]) := by
  refine Gives.intro Tryd.tyOk Tryd.func59 (by kernel_rfl) rfl (by simp [Tryd.ntmps59]) ?_
  simp only [go_sem, ↓reduceIte, Nat.reduceEqDiff, Nat.reduceAdd, Nat.reduceLeDiff, Nat.reduceMul, Nat.reducePow, Nat.reduceLT, Nat.reduceSub, Int.reduceEq, Int.reduceLT, Int.reduceLE, Int.reduceNeg, Int.reduceToNat, Int.cast_ofNat_Int]
  simp only [Tryd.ntmps59, Tryd.results59, eInt, keyOf, eKOp, eKernel, rBool, rInt, rInts, List.map_cons, List.map_nil]
  generalize hBQ : retQ _ _ _ = BQ
  refine wpL_region Tryd.tyOk (by decide) ?_
  simp only [go_sem, ↓reduceIte, Nat.reduceEqDiff, Nat.reduceAdd, Nat.reduceLeDiff, Nat.reduceMul, Nat.reducePow, Nat.reduceLT, Nat.reduceSub, Int.reduceEq, Int.reduceLT, Int.reduceLE, Int.reduceNeg, Int.reduceToNat, Int.cast_ofNat_Int]
  refine wpL_lend (xs := [.sl D]) 1 1 (by rfl) (by rfl) ?_
  simp only [go_sem, ↓reduceIte, Nat.reduceEqDiff, Nat.reduceAdd, Nat.reduceLeDiff, Nat.reduceMul, Nat.reducePow, Nat.reduceLT, Nat.reduceSub, Int.reduceEq, Int.reduceLT, Int.reduceLE, Int.reduceNeg, Int.reduceToNat, Int.cast_ofNat_Int]
  refine wpL_region Tryd.tyOk (by decide) ?_
  simp only [go_sem, ↓reduceIte, Nat.reduceEqDiff, Nat.reduceAdd, Nat.reduceLeDiff, Nat.reduceMul, Nat.reducePow, Nat.reduceLT, Nat.reduceSub, Int.reduceEq, Int.reduceLT, Int.reduceLE, Int.reduceNeg, Int.reduceToNat, Int.cast_ofNat_Int]
  refine wpL_ret ?_
  try simp only [go_sem, ↓reduceIte, Nat.reduceEqDiff, Nat.reduceAdd, Nat.reduceLeDiff, Nat.reduceMul, Nat.reducePow, Nat.reduceLT, Nat.reduceSub, Int.reduceEq, Int.reduceLT, Int.reduceLE, Int.reduceNeg, Int.reduceToNat, Int.cast_ofNat_Int]
  rw [← hBQ]
  try simp only [go_sem, ↓reduceIte, Nat.reduceEqDiff, Nat.reduceAdd, Nat.reduceLeDiff, Nat.reduceMul, Nat.reducePow, Nat.reduceLT, Nat.reduceSub, Int.reduceEq, Int.reduceLT, Int.reduceLE, Int.reduceNeg, Int.reduceToNat, Int.cast_ofNat_Int]

theorem fr_round (ro : Option Nat) : (Fr ro).round = ro := rfl
theorem fr_fn (ro : Option Nat) (f : Nat) : (Fr ro).fn f = True := rfl
theorem fr_depth (ro : Option Nat) : (Fr ro).depth = none := rfl
attribute [local go_sem] Oper.semAt_some Oper.semAt_none fr_round fr_fn fr_depth

/-- The pointer that the iterator has captured, and what it leads to. -/
theorem cap_inv {F : Nat → Nat → Prop} {W : World} {p : Value} {D : List (List DC)} (h : RelDV F W p (.ptr [.sl D])) : ∃ b o u, p = .pointer (some ⟨b, o, none⟩) ∧ W.cell? ⟨b, o, none⟩ = some u ∧ RelC F W u (.sl D) := by
  obtain ⟨b, o, us, h1, h2⟩ := h
  obtain ⟨_, h3, h4⟩ := h2 0 (.sl D) (by simp)
  exact ⟨b, o, us 0, h1, h3, h4⟩

theorem sl_inv {F : Nat → Nat → Prop} {W : World} {u : Value} {D : List (List DC)} (h : RelC F W u (.sl D)) (hD : ∀ x, x ∈ D → x.length = 4) : ∃ ad c, u = .slice ad D.length c ∧
    ∀ (i : Nat) (x : List DC), D[i]? = some x → ∃ b o, ∃ us : Nat → Value, ad = some ⟨b, o, none⟩ ∧ (∀ j, j < 4 → W.cell? ⟨b, o + i * 4 + j, none⟩ = some (us j)) ∧ RelDV F W (.agg #[us 0, us 1, us 2, us 3]) (.agg x) ∧ D.length ≤ c ∧ c ≤ maxLen := by
  cases h with
  | emp a c => exact ⟨a, c, rfl, fun i x hx => by simp at hx⟩
  | sl b o c sz xs us hc hm hsz hS hr =>
    refine ⟨_, c, rfl, fun i x hx => ⟨b, o, fun j => us i j, rfl, fun j hj => ?_, ?_, hc, hm⟩⟩
    · have h4 := hD x (List.mem_of_getElem? hx)
      have : sz = 4 := by rw [← hsz i x hx, h4]
      subst this
      obtain ⟨d, hd⟩ := get_ex (l := x) (i := j) (by omega)
      exact (hS i j x d hx hd).2
    · have h4 := hD x (List.mem_of_getElem? hx)
      obtain ⟨d0, hd0⟩ := get_ex (l := x) (i := 0) (by omega)
      obtain ⟨d1, hd1⟩ := get_ex (l := x) (i := 1) (by omega)
      obtain ⟨d2, hd2⟩ := get_ex (l := x) (i := 2) (by omega)
      obtain ⟨d3, hd3⟩ := get_ex (l := x) (i := 3) (by omega)
      have hx4 : x = [d0, d1, d2, d3] := by
        apply List.ext_getElem?
        intro k
        rcases k with _ | _ | _ | _ | k
        · exact hd0
        · exact hd1
        · exact hd2
        · exact hd3
        · rw [List.getElem?_eq_none (by omega)]; rfl
      refine ⟨_, rfl, ?_⟩
      rw [hx4]
      exact .cons (hr i 0 x d0 hx hd0) (.cons (hr i 1 x d1 hx hd1) (.cons (hr i 2 x d2 hx hd2) (.cons (hr i 3 x d3 hx hd3) .nil)))

/-- What the iterator hands to yield. -/
def backEls (D : List (List DC)) : List (List DV) := (List.range D.length).map fun k => [.c (eInt ((D.length - 1 - k : Nat) : Int)), .agg (D.getD (D.length - 1 - k) [])]

theorem backward_ranges (D : List (List DC)) (hD : ∀ x, x ∈ D → x.length = 4) (hmax : D.length ≤ 1000000) : RangesF Tryd.prog 67 [[.sl D]] (backEls D) := by
  intro l cs J Jx W hJb hJxb hY h0
  have hcs : ∃ p, cs = [p] := by
    obtain ⟨F, h1, -⟩ := hY 0 W h0
    cases h1 with | cons _ h2 => cases h2 with | nil => exact ⟨_, rfl⟩
  obtain ⟨p, rfl⟩ := hcs
  have hp : ∃ b o, p = .pointer (some ⟨b, o, none⟩) := by
    obtain ⟨F, h1, -⟩ := hY 0 W h0
    cases h1 with | cons h3 _ => obtain ⟨b, o, u, h, _⟩ := cap_inv h3; exact ⟨b, o, h⟩
  obtain ⟨b, o, rfl⟩ := hp
  have key : ∀ k W, J k W → ∃ ad c, W.cell? ⟨b, o, none⟩ = some (.slice ad D.length c) ∧ (k < D.length → ∃ b' o', ∃ us : Nat → Value, ad = some ⟨b', o', none⟩ ∧ (∀ j, j < 4 → W.cell? ⟨b', o' + (D.length - 1 - k) * 4 + j, none⟩ = some (us j)) ∧
      YieldAt (Fr none) 0 Tryd.prog l #[.int .i64 ((D.length - 1 - k : Nat) : Int), .agg #[us 0, us 1, us 2, us 3]] W fun e W' => (e = .returned (.bool true) ∧ J (k + 1) W') ∨ (e = .returned (.bool false) ∧ Jx W')) := by
    intro k W hk
    obtain ⟨F, h1, h2⟩ := hY k W hk
    cases h1 with
    | cons h3 _ =>
      obtain ⟨b1, o1, u, h4, h5, h6⟩ := cap_inv h3
      cases h4
      obtain ⟨ad, c, rfl, h7⟩ := sl_inv h6 hD
      refine ⟨ad, c, h5, fun hlt => ?_⟩
      obtain ⟨x, hx⟩ := get_ex (l := D) (i := D.length - 1 - k) (by omega)
      obtain ⟨b', o', us, h8, h9, h10, _⟩ := h7 _ x hx
      refine ⟨b', o', us, h8, h9, ?_⟩
      refine h2 [.c (eInt ((D.length - 1 - k : Nat) : Int)), .agg x] ?_ [_, _] (.cons (.sc _ rfl) (.cons h10 .nil))
      have hx' : D.getD (D.length - 1 - k) [] = x := by rw [List.getD_eq_getElem?_getD, hx]; rfl
      have hb : (backEls D)[k]? = some [.c (eInt ((D.length - 1 - k : Nat) : Int)), .agg (D.getD (D.length - 1 - k) [])] := by
        unfold backEls
        rw [List.getElem?_map, List.getElem?_range hlt]; rfl
      rw [hb, hx']
  have hlen : (backEls D).length = D.length := by simp [backEls]
  rw [hlen]
  refine callsIn_of_wp Tryd.func67 rfl trivial ?_ rfl
  simp only [Tryd.ntmps67, List.size_toArray, List.length_cons, List.length_nil, Nat.reduceAdd, Nat.reduceSub, Array.replicate_succ, Array.replicate_zero, List.push_toArray, List.append_toArray, List.nil_append, List.cons_append]
  obtain ⟨ad0, c0, hc0, -⟩ := key 0 W h0
  generalize D.length = n at *
  have hw1 : IntKind.i64.wrap ((n : Int) - 1) = (n : Int) - 1 := IntWalk.i64_in _ (by omega)
  gi_wp2
  gi_loopw [3] (fun i wr => ∃ k : Nat, k ≤ n ∧ i = .int .i64 ((n : Int) - 1 - k) ∧ J k wr)
    (fun i _ => (match i with | .int _ x => x + 1 | _ => 0).toNat)
  case atStart => exact ⟨0, Nat.zero_le _, by simp, h0⟩
  case round =>
    obtain ⟨k, hk, rfl, hJs⟩ := hrel
    obtain ⟨ad, c, hcell, hnext⟩ := key k wr hJs
    by_cases hlt : k < n
    · obtain ⟨b', o', us, rfl, hus, fn, tmps, assign, body, hy, hR⟩ := hnext hlt
      obtain ⟨m, hm⟩ : ∃ m, m = n - 1 - k := ⟨_, rfl⟩
      rw [← hm] at hus hy
      have e : (n : Int) - 1 - k = (m : Int) := by omega
      have hA1 : m + k + 1 ≤ n := by omega
      have hA2 : n ≤ m + k + 1 := by omega
      have hmn : m < n := by omega
      have hw2 : IntKind.i64.wrap ((m : Int) - 1) = (m : Int) - 1 := IntWalk.i64_in _ (by omega)
      rw [e]
      clear hm
      have hu0 := hus 0 (by omega)
      have hu1 := hus 1 (by omega)
      have hu2 := hus 2 (by omega)
      have hu3 := hus 3 (by omega)
      simp only [Nat.add_zero] at hu0
      clear hus hnext key hY hc0 hJb hJxb
      clear e
      gi_wp2
      refine hR.mono ?_
      rintro e W3 (⟨rfl, hJ3⟩ | ⟨rfl, hJx3⟩)
      · gi_wp2
        go_roundw
        case rel => exact ⟨k + 1, by omega, by congr 1; omega, hJ3⟩
        case measure => simp
      · gi_wp2
        refine bodyPost_ret (results_none rfl _ _ _) rfl ?_
        exact ⟨⟨_, rfl⟩, .inr hJx3⟩
    · obtain rfl : k = n := by omega
      clear hnext
      have e : (k : Int) - 1 - k = -1 := by omega
      rw [e]
      gi_wp2
      go_end0
      exact ⟨⟨_, rfl⟩, .inl hJs⟩

end Go.Proofs.YtcafkemjegkhkaaDoor
