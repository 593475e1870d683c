/-
  Types: the examples of the chapter.
-/
import Derived.Test.YtkkkdfhnpamnkaaDoorW21
import Derived.Test.YtkkkdfhnpamnkaaDoorAbsZB
set_option linter.unusedSimpArgs false
set_option linter.unusedVariables false
set_option maxRecDepth 100000
set_option maxHeartbeats 4000000
namespace Go.Proofs.YtkkkdfhnpamnkaaDoor
open Go.Abs Go

def cV (l : List Int) : Arr := .mk 1 [(l.length : Int)] l []
theorem fine_cV (l : List Int) (hl : l.length ≤ 100) : Fine (cV l) := by
  rw [cV, Fine]
  exact ⟨by simp, by omega, by simp, trivial⟩
theorem vecC (l : List Int) (hl : l.length ≤ 100) {v : Arr} (hv : cV l = v) : Gives Tryd.prog 28 [.c (.sl (eInts l))] (.one (.agg [.d (eInt v.kind), .d (.sl (eInts v.shape)), .d (.sl (eInts v.nums)), .d (.sl (v.items.map eArr))])) := by
  have h := vec28 l (by omega)
  rw [show Arr.mk 1 [(l.length : Int)] l [] = v from hv, rArr, eArr_eq] at h
  exact h
theorem good_of {x : Arr} (hF : Fine x) : GoodT (ofS x) := by
  unfold ofS
  split
  · rename_i h
    have hb := bit_small x.kind
    have hl := (chk_lens h).2
    refine ⟨by simp only; omega, by simp only; split <;> simp, fun a ha => ?_, ⟨by simp only; omega, by simp only; omega⟩, ⟨by simp only; omega, by simp only; omega⟩⟩
    simp only at ha
    split at ha
    · simp only [List.mem_singleton] at ha; subst ha; exact hF
    · simp at ha
  · exact ⟨by simp, by simp, by simp, ⟨by decide, by decide⟩, ⟨by decide, by decide⟩⟩
theorem good_any : GoodT ⟨14, -1, [], []⟩ := ⟨by simp, by simp, by simp, ⟨by decide, by decide⟩, ⟨by decide, by decide⟩⟩
theorem ofC {x : Arr} (hF : Fine x) {A : Ty} (hA : ofS x = A) : Gives Tryd.prog 10 [.agg [eInt x.kind, .sl (eInts x.shape), .sl (eInts x.nums), .sl (x.items.map eArr)]] (rTy A) := by
  have h := of10 x hF
  rw [hA, eArr_eq] at h
  exact h
theorem hasC (t : Ty) (x : Arr) (hT : GoodT t) (hF : Fine x) {b : Bool} (hb : hasS t x = b) : Gives Tryd.prog 15 [.agg (eTy t), .agg [eInt x.kind, .sl (eInts x.shape), .sl (eInts x.nums), .sl (x.items.map eArr)]] (rBool b) := by
  have h := has15 t x hT hF
  rw [hb, eArr_eq] at h
  exact h
theorem dL2 : dL [2] = [50] := by
  have h : dW 2 = [50] := by
    unfold dW Lib.itoa
    rw [if_neg (by decide), if_neg (by decide)]
    exact dec_small (by decide)
  unfold dL dBs
  simp [joinB, tailJ, B_data, h]
theorem text1 (x : Arr) (h : rightT ⟨2, 1, [2], [x]⟩ = true) : textT ⟨2, 1, [2], [x]⟩ = [105, 110, 116, 32, 91, 50, 93, 32, 107, 110, 111, 119, 110] := by
  unfold textT
  rw [if_pos h]
  show kL 2 ++ ([32, 91] ++ dL [2] ++ [93]) ++ [32, 107, 110, 111, 119, 110] = _
  rw [dL2]
  rfl
theorem text2 : textT ⟨2, 1, [2], []⟩ = [105, 110, 116, 32, 91, 50, 93] := by
  unfold textT
  rw [if_pos (by rfl)]
  show kL 2 ++ ([32, 91] ++ dL [2] ++ [93]) ++ [] = _
  rw [dL2]
  rfl
theorem awake9 : Gives Tryd.prog 9 [] (rBool true) := by
  obtain ⟨v, hv⟩ : ∃ v, cV [1, 2] = v := ⟨_, rfl⟩
  obtain ⟨u, hu⟩ : ∃ u, cV [3, 4] = u := ⟨_, rfl⟩
  obtain ⟨w, hw⟩ : ∃ w, cV [1, 3] = w := ⟨_, rfl⟩
  have fv : Fine v := by rw [← hv]; exact fine_cV _ (by decide)
  have fu : Fine u := by rw [← hu]; exact fine_cV _ (by decide)
  have fw : Fine w := by rw [← hw]; exact fine_cV _ (by decide)
  obtain ⟨A, hA⟩ : ∃ A, ofS v = A := ⟨_, rfl⟩
  obtain ⟨D, hD⟩ : ∃ D, ofS u = D := ⟨_, rfl⟩
  have gA : GoodT A := by rw [← hA]; exact good_of fv
  have gD : GoodT D := by rw [← hD]; exact good_of fu
  obtain ⟨J, hJ⟩ : ∃ J, joinS A D = J := ⟨_, rfl⟩
  have gJ : GoodT J := by rw [← hJ]; exact good_join gA gD
  have tA : textT A = [105, 110, 116, 32, 91, 50, 93, 32, 107, 110, 111, 119, 110] := by rw [← hA, ← hv]; exact text1 (cV [1, 2]) rfl
  have tJ : textT J = [105, 110, 116, 32, 91, 50, 93] := by rw [← hJ, ← hA, ← hD, ← hv, ← hu]; exact text2
  have tY : textT ⟨14, -1, [], []⟩ = [105, 110, 116, 124, 99, 104, 97, 114, 124, 98, 111, 120] := by rfl
  have h1 : hasS A v = true := by rw [← hA, ← hv]; rfl
  have h2 : hasS A w = false := by rw [← hA, ← hv, ← hw]; rfl
  have h3 : BelowS A ⟨14, -1, [], []⟩ = true := by rw [← hA, ← hv]; rfl
  have h4 : BelowS A D = false := by rw [← hA, ← hD, ← hv, ← hu]; rfl
  have ej := join23 A D gA gD
  rw [hJ] at ej
  have b3 := below25 A ⟨14, -1, [], []⟩ gA good_any
  rw [h3] at b3
  have b4 := below25 A D gA gD
  rw [h4] at b4
  have sA := show21 A gA
  rw [tA] at sA
  have sJ := show21 J gJ
  rw [tJ] at sJ
  have sY := show21 ⟨14, -1, [], []⟩ good_any
  rw [tY] at sY
  have q : ∀ l : List UInt8, ((B l).toList == (⟨l.toArray⟩ : ByteArray).toList) = true := fun l => by rw [show (⟨l.toArray⟩ : ByteArray) = B l from rfl, B_eq]; simp
  refine Gives.intro Tryd.tyOk Tryd.func9 (by kernel_rfl) rfl (by simp [Tryd.ntmps9]) ?_
  simp only [go_sem, ↓reduceIte, Nat.reduceEqDiff, Nat.reduceAdd, Nat.reduceLeDiff, Nat.reduceMul, Nat.reducePow, Nat.reduceLT, Nat.reduceSub, Int.reduceEq, Int.reduceLT, Int.reduceLE, Int.reduceNeg, Int.reduceToNat, Int.cast_ofNat_Int]
  simp only [Tryd.ntmps9, Tryd.results9, eInt, eStr, rBool, rInt, rStr, rTwo, rThree, eTy, rTy, List.map_cons, List.map_nil]
  generalize hBQ : retQ _ _ _ = BQ
  refine wpL_region Tryd.tyOk (by decide) ?_
  simp only [go_sem, ↓reduceIte, Nat.reduceEqDiff, Nat.reduceAdd, Nat.reduceLeDiff, Nat.reduceMul, Nat.reducePow, Nat.reduceLT, Nat.reduceSub, Int.reduceEq, Int.reduceLT, Int.reduceLE, Int.reduceNeg, Int.reduceToNat, Int.cast_ofNat_Int]
  refine wpL_region Tryd.tyOk.fast (by decide) ?_
  simp only [go_sem, ↓reduceIte, Nat.reduceEqDiff, Nat.reduceAdd, Nat.reduceLeDiff, Nat.reduceMul, Nat.reducePow, Nat.reduceLT, Nat.reduceSub, Int.reduceEq, Int.reduceLT, Int.reduceLE, Int.reduceNeg, Int.reduceToNat, Int.cast_ofNat_Int]
  refine ⟨_, vecC [1, 2] (by decide) hv, ?_⟩
  simp only [go_sem, ↓reduceIte, Nat.reduceEqDiff, Nat.reduceAdd, Nat.reduceLeDiff, Nat.reduceMul, Nat.reducePow, Nat.reduceLT, Nat.reduceSub, Int.reduceEq, Int.reduceLT, Int.reduceLE, Int.reduceNeg, Int.reduceToNat, Int.cast_ofNat_Int]
  refine ⟨_, ofC fv hA, ?_⟩
  simp only [go_sem, ↓reduceIte, Nat.reduceEqDiff, Nat.reduceAdd, Nat.reduceLeDiff, Nat.reduceMul, Nat.reducePow, Nat.reduceLT, Nat.reduceSub, Int.reduceEq, Int.reduceLT, Int.reduceLE, Int.reduceNeg, Int.reduceToNat, Int.cast_ofNat_Int]
  refine ⟨_, vecC [3, 4] (by decide) hu, ?_⟩
  simp only [go_sem, ↓reduceIte, Nat.reduceEqDiff, Nat.reduceAdd, Nat.reduceLeDiff, Nat.reduceMul, Nat.reducePow, Nat.reduceLT, Nat.reduceSub, Int.reduceEq, Int.reduceLT, Int.reduceLE, Int.reduceNeg, Int.reduceToNat, Int.cast_ofNat_Int]
  refine ⟨_, ofC fu hD, ?_⟩
  simp only [go_sem, ↓reduceIte, Nat.reduceEqDiff, Nat.reduceAdd, Nat.reduceLeDiff, Nat.reduceMul, Nat.reducePow, Nat.reduceLT, Nat.reduceSub, Int.reduceEq, Int.reduceLT, Int.reduceLE, Int.reduceNeg, Int.reduceToNat, Int.cast_ofNat_Int]
  refine wpL_draw Tryd.tyOk.fast (by kernel_rfl) 39 (by decide) (by decide) ?_
  simp only [go_sem, ↓reduceIte, Nat.reduceEqDiff, Nat.reduceAdd, Nat.reduceLeDiff, Nat.reduceMul, Nat.reducePow, Nat.reduceLT, Nat.reduceSub, Int.reduceEq, Int.reduceLT, Int.reduceLE, Int.reduceNeg, Int.reduceToNat, Int.cast_ofNat_Int]
  refine ⟨_, sA, ?_⟩
  have q1 := q [105, 110, 116, 32, 91, 50, 93, 32, 107, 110, 111, 119, 110]
  simp only [go_sem, ↓reduceIte, Nat.reduceEqDiff, Nat.reduceAdd, Nat.reduceLeDiff, Nat.reduceMul, Nat.reducePow, Nat.reduceLT, Nat.reduceSub, Int.reduceEq, Int.reduceLT, Int.reduceLE, Int.reduceNeg, Int.reduceToNat, Int.cast_ofNat_Int, q1]
  refine ⟨_, ej, ?_⟩
  simp only [go_sem, ↓reduceIte, Nat.reduceEqDiff, Nat.reduceAdd, Nat.reduceLeDiff, Nat.reduceMul, Nat.reducePow, Nat.reduceLT, Nat.reduceSub, Int.reduceEq, Int.reduceLT, Int.reduceLE, Int.reduceNeg, Int.reduceToNat, Int.cast_ofNat_Int]
  refine ⟨_, sJ, ?_⟩
  have q2 := q [105, 110, 116, 32, 91, 50, 93]
  simp only [go_sem, ↓reduceIte, Nat.reduceEqDiff, Nat.reduceAdd, Nat.reduceLeDiff, Nat.reduceMul, Nat.reducePow, Nat.reduceLT, Nat.reduceSub, Int.reduceEq, Int.reduceLT, Int.reduceLE, Int.reduceNeg, Int.reduceToNat, Int.cast_ofNat_Int, q2]
  refine ⟨_, any13, ?_⟩
  simp only [go_sem, ↓reduceIte, Nat.reduceEqDiff, Nat.reduceAdd, Nat.reduceLeDiff, Nat.reduceMul, Nat.reducePow, Nat.reduceLT, Nat.reduceSub, Int.reduceEq, Int.reduceLT, Int.reduceLE, Int.reduceNeg, Int.reduceToNat, Int.cast_ofNat_Int]
  refine ⟨_, sY, ?_⟩
  have q3 := q [105, 110, 116, 124, 99, 104, 97, 114, 124, 98, 111, 120]
  simp only [go_sem, ↓reduceIte, Nat.reduceEqDiff, Nat.reduceAdd, Nat.reduceLeDiff, Nat.reduceMul, Nat.reducePow, Nat.reduceLT, Nat.reduceSub, Int.reduceEq, Int.reduceLT, Int.reduceLE, Int.reduceNeg, Int.reduceToNat, Int.cast_ofNat_Int, q3]
  refine ⟨_, vecC [1, 2] (by decide) hv, ?_⟩
  simp only [go_sem, ↓reduceIte, Nat.reduceEqDiff, Nat.reduceAdd, Nat.reduceLeDiff, Nat.reduceMul, Nat.reducePow, Nat.reduceLT, Nat.reduceSub, Int.reduceEq, Int.reduceLT, Int.reduceLE, Int.reduceNeg, Int.reduceToNat, Int.cast_ofNat_Int]
  refine ⟨_, hasC A v gA fv h1, ?_⟩
  simp only [go_sem, ↓reduceIte, Nat.reduceEqDiff, Nat.reduceAdd, Nat.reduceLeDiff, Nat.reduceMul, Nat.reducePow, Nat.reduceLT, Nat.reduceSub, Int.reduceEq, Int.reduceLT, Int.reduceLE, Int.reduceNeg, Int.reduceToNat, Int.cast_ofNat_Int]
  refine ⟨_, vecC [1, 3] (by decide) hw, ?_⟩
  simp only [go_sem, ↓reduceIte, Nat.reduceEqDiff, Nat.reduceAdd, Nat.reduceLeDiff, Nat.reduceMul, Nat.reducePow, Nat.reduceLT, Nat.reduceSub, Int.reduceEq, Int.reduceLT, Int.reduceLE, Int.reduceNeg, Int.reduceToNat, Int.cast_ofNat_Int]
  refine ⟨_, hasC A w gA fw h2, ?_⟩
  simp only [go_sem, ↓reduceIte, Nat.reduceEqDiff, Nat.reduceAdd, Nat.reduceLeDiff, Nat.reduceMul, Nat.reducePow, Nat.reduceLT, Nat.reduceSub, Int.reduceEq, Int.reduceLT, Int.reduceLE, Int.reduceNeg, Int.reduceToNat, Int.cast_ofNat_Int, Bool.not_false]
  refine ⟨_, any13, ?_⟩
  simp only [go_sem, ↓reduceIte, Nat.reduceEqDiff, Nat.reduceAdd, Nat.reduceLeDiff, Nat.reduceMul, Nat.reducePow, Nat.reduceLT, Nat.reduceSub, Int.reduceEq, Int.reduceLT, Int.reduceLE, Int.reduceNeg, Int.reduceToNat, Int.cast_ofNat_Int]
  refine ⟨_, b3, ?_⟩
  simp only [go_sem, ↓reduceIte, Nat.reduceEqDiff, Nat.reduceAdd, Nat.reduceLeDiff, Nat.reduceMul, Nat.reducePow, Nat.reduceLT, Nat.reduceSub, Int.reduceEq, Int.reduceLT, Int.reduceLE, Int.reduceNeg, Int.reduceToNat, Int.cast_ofNat_Int]
  refine ⟨_, b4, ?_⟩
  simp only [go_sem, ↓reduceIte, Nat.reduceEqDiff, Nat.reduceAdd, Nat.reduceLeDiff, Nat.reduceMul, Nat.reducePow, Nat.reduceLT, Nat.reduceSub, Int.reduceEq, Int.reduceLT, Int.reduceLE, Int.reduceNeg, Int.reduceToNat, Int.cast_ofNat_Int, Bool.not_false]
  refine wpL_ret ?_
  rw [← hBQ]
  try simp only [go_sem, ↓reduceIte, Nat.reduceEqDiff, Nat.reduceAdd, Nat.reduceLeDiff, Nat.reduceMul, Nat.reducePow, Nat.reduceLT, Nat.reduceSub, Int.reduceEq, Int.reduceLT, Int.reduceLE, Int.reduceNeg, Int.reduceToNat, Int.cast_ofNat_Int]
  try simp only [go_sem, ↓reduceIte, Nat.reduceEqDiff]
end Go.Proofs.YtkkkdfhnpamnkaaDoor
