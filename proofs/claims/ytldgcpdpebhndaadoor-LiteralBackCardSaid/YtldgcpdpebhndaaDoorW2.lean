/-
  Literals: hexadecimal digits; the short form of a character, by the reference.
-/
import Derived.Test.YtldgcpdpebhndaaDoorW1
import Derived.Test.YtldgcpdpebhndaaDoorAbsZB
set_option linter.unusedSimpArgs false
set_option linter.unusedVariables false
set_option maxRecDepth 100000
set_option maxHeartbeats 4000000
namespace Go.Proofs.YtldgcpdpebhndaaDoor
open Go.Abs Go

def hexD : ByteArray := ⟨#[48, 49, 50, 51, 52, 53, 54, 55, 56, 57, 97, 98, 99, 100, 101, 102]⟩
def hexS (m : Nat) : ByteArray := if m < 16 then hexD.extract m (m + 1) else hexD.extract (m / 16) (m / 16 + 1) ++ hexD.extract (m % 16) (m % 16 + 1)
theorem hex16 (m : Nat) (h : m < 16) : Gives Tryd.prog 27 [.c (eInt m)] (rStr (hexD.extract m (m + 1))) := by
  have c1 : (m : Int) < 16 := by omega
  have w : IntKind.i64.wrap ((m : Int) + 1) = ((m + 1 : Nat) : Int) := by rw [w64 (by omega) (by omega)]; omega
  refine Gives.intro Tryd.tyOk Tryd.func27 (by kernel_rfl) rfl (by simp [Tryd.ntmps27]) ?_
  simp only [go_sem, ↓reduceIte, Nat.reduceEqDiff, Nat.reduceAdd, Nat.reduceLeDiff, Nat.reduceMul, Nat.reducePow, Nat.reduceLT, Nat.reduceSub, Int.reduceEq, Int.reduceLT, Int.reduceLE, Int.reduceNeg, Int.reduceToNat, Int.cast_ofNat_Int]
  simp only [Tryd.ntmps27, Tryd.results27, eInt, eRune, eByte, eStr, rBool, rInt, rStr, rTwo, List.map_cons, List.map_nil]
  generalize hBQ : retQ _ _ _ = BQ
  iterate 2 (refine wpL_region Tryd.tyOk (by decide) ?_; simp only [go_sem, ↓reduceIte, Nat.reduceEqDiff, Nat.reduceAdd, Nat.reduceLeDiff, Nat.reduceMul, Nat.reducePow, Nat.reduceLT, Nat.reduceSub, Int.reduceEq, Int.reduceLT, Int.reduceLE, Int.reduceNeg, Int.reduceToNat, Int.cast_ofNat_Int, c1, decide_true])
  refine wpL_cond (t := true) (by simp only [go_sem, ↓reduceIte, Nat.reduceEqDiff]) (fun _ => ?_) (fun h => Bool.noConfusion h)
  try simp only [go_sem, ↓reduceIte, Nat.reduceEqDiff]
  refine wpL_region Tryd.tyOk (by decide) ?_
  simp only [go_sem, ↓reduceIte, Nat.reduceEqDiff, Nat.reduceAdd, Nat.reduceLeDiff, Nat.reduceMul, Nat.reducePow, Nat.reduceLT, Nat.reduceSub, Int.reduceEq, Int.reduceLT, Int.reduceLE, Int.reduceNeg, Int.reduceToNat, Int.cast_ofNat_Int, w]
  refine ⟨⟨by omega, by show ((m + 1 : Nat) : Int) ≤ 16; omega, fun _ h => by cases h⟩, ?_⟩
  try simp only [go_sem, ↓reduceIte, Nat.reduceEqDiff]
  refine wpL_ret ?_
  rw [← hBQ]
  try simp only [go_sem, ↓reduceIte, Nat.reduceEqDiff]
  rfl
theorem max_le' : (1000000 : Nat) ≤ maxLen := by unfold maxLen; omega
theorem hx_size (a b : Nat) : (hexD.extract a b).size ≤ 16 := by
  rw [ByteArray.size_extract]
  have : hexD.size = 16 := rfl
  omega
theorem hexS_size (m : Nat) : (hexS m).size ≤ 32 := by
  unfold hexS
  split
  · have := hx_size m (m + 1); omega
  · rw [ByteArray.size_append]
    have h1 := hx_size (m / 16) (m / 16 + 1)
    have h2 := hx_size (m % 16) (m % 16 + 1)
    omega
theorem hex27 (m : Nat) (h : m < 256) : Gives Tryd.prog 27 [.c (eInt m)] (rStr (hexS m)) := by
  by_cases c : m < 16
  · have h := hex16 m c
    rw [hexS, if_pos c]
    exact h
  have c1 : ¬ (m : Int) < 16 := by omega
  have e1 := hex16 (m / 16) (by omega)
  have e2 := hex16 (m % 16) (by omega)
  have w1 : IntKind.i64.wrap ((m : Int).tdiv 16) = ((m / 16 : Nat) : Int) := by
    rw [show (m : Int).tdiv 16 = ((m / 16 : Nat) : Int) from rfl]
    exact w64 (by omega) (by omega)
  have w2 : (m : Int).tmod 16 = ((m % 16 : Nat) : Int) := rfl
  refine Gives.intro Tryd.tyOk Tryd.func27 (by kernel_rfl) rfl (by simp [Tryd.ntmps27]) ?_
  simp only [go_sem, ↓reduceIte, Nat.reduceEqDiff, Nat.reduceAdd, Nat.reduceLeDiff, Nat.reduceMul, Nat.reducePow, Nat.reduceLT, Nat.reduceSub, Int.reduceEq, Int.reduceLT, Int.reduceLE, Int.reduceNeg, Int.reduceToNat, Int.cast_ofNat_Int]
  simp only [Tryd.ntmps27, Tryd.results27, eInt, eRune, eByte, eStr, rBool, rInt, rStr, rTwo, List.map_cons, List.map_nil]
  generalize hBQ : retQ _ _ _ = BQ
  iterate 2 (refine wpL_region Tryd.tyOk (by decide) ?_; simp only [go_sem, ↓reduceIte, Nat.reduceEqDiff, Nat.reduceAdd, Nat.reduceLeDiff, Nat.reduceMul, Nat.reducePow, Nat.reduceLT, Nat.reduceSub, Int.reduceEq, Int.reduceLT, Int.reduceLE, Int.reduceNeg, Int.reduceToNat, Int.cast_ofNat_Int, c1, decide_false])
  refine wpL_cond (t := false) (by simp only [go_sem, ↓reduceIte, Nat.reduceEqDiff]) (fun h => Bool.noConfusion h) (fun _ => ?_)
  try simp only [go_sem, ↓reduceIte, Nat.reduceEqDiff]
  refine wpL_skip ?_
  refine wpL_region Tryd.tyOk (by decide) ?_
  simp only [go_sem, ↓reduceIte, Nat.reduceEqDiff, Nat.reduceAdd, Nat.reduceLeDiff, Nat.reduceMul, Nat.reducePow, Nat.reduceLT, Nat.reduceSub, Int.reduceEq, Int.reduceLT, Int.reduceLE, Int.reduceNeg, Int.reduceToNat, Int.cast_ofNat_Int, w1, w2]
  refine ⟨_, e1, ?_⟩
  simp only [go_sem, ↓reduceIte, Nat.reduceEqDiff, Nat.reduceAdd, Nat.reduceLeDiff, Nat.reduceMul, Nat.reducePow, Nat.reduceLT, Nat.reduceSub, Int.reduceEq, Int.reduceLT, Int.reduceLE, Int.reduceNeg, Int.reduceToNat, Int.cast_ofNat_Int, w1, w2]
  refine ⟨_, e2, ?_⟩
  simp only [go_sem, ↓reduceIte, Nat.reduceEqDiff, Nat.reduceAdd, Nat.reduceLeDiff, Nat.reduceMul, Nat.reducePow, Nat.reduceLT, Nat.reduceSub, Int.reduceEq, Int.reduceLT, Int.reduceLE, Int.reduceNeg, Int.reduceToNat, Int.cast_ofNat_Int]
  refine ⟨by have h1 := hx_size (m / 16) (m / 16 + 1); have h2 := hx_size (m % 16) (m % 16 + 1); have h3 := max_le'; omega, ?_⟩
  refine wpL_ret ?_
  rw [← hBQ]
  try simp only [go_sem, ↓reduceIte, Nat.reduceEqDiff]
  rw [hexS, if_neg c]
def shortS (n : Nat) (q : Nat) : ByteArray :=
  if n = 10 then ⟨#[92, 110]⟩ else if n = 9 then ⟨#[92, 116]⟩ else if n = 13 then ⟨#[92, 114]⟩ else if n = 92 then ⟨#[92, 92]⟩ else if n = q then ⟨#[92]⟩ ++ Utf8.encode q
  else if n < 32 ∨ n = 127 then ⟨#[92, 117, 123]⟩ ++ hexS n ++ ⟨#[125]⟩ else Utf8.encode n
theorem enc_size (n : Int) : (Utf8.encode n).size ≤ 4 := by
  unfold Utf8.encode
  simp only
  repeat' split
  all_goals first | (show (1 : Nat) ≤ 4; omega) | (show (2 : Nat) ≤ 4; omega) | (show (3 : Nat) ≤ 4; omega) | (show (4 : Nat) ≤ 4; omega)
theorem short20 (n q : Nat) (hn : isR n = true) (hq : isR q = true) : Gives Tryd.prog 20 [.c (eInt n), .c (eInt q)] (rStr (shortS n q)) := by
  have en := enc13 n hn
  have eq := enc13 q hq
  have hn' := isR_iff.1 hn
  obtain ⟨r, hr⟩ : ∃ r, shortS n q = r := ⟨_, rfl⟩
  rw [hr]
  unfold shortS at hr
  refine Gives.intro Tryd.tyOk Tryd.func20 (by kernel_rfl) rfl (by simp [Tryd.ntmps20]) ?_
  simp only [go_sem, ↓reduceIte, Nat.reduceEqDiff, Nat.reduceAdd, Nat.reduceLeDiff, Nat.reduceMul, Nat.reducePow, Nat.reduceLT, Nat.reduceSub, Int.reduceEq, Int.reduceLT, Int.reduceLE, Int.reduceNeg, Int.reduceToNat, Int.cast_ofNat_Int]
  simp only [Tryd.ntmps20, Tryd.results20, eInt, eRune, eByte, eStr, rBool, rInt, rStr, rTwo, List.map_cons, List.map_nil]
  generalize hBQ : retQ _ _ _ = BQ
  iterate 2 (refine wpL_region Tryd.tyOk (by decide) ?_; simp only [go_sem, ↓reduceIte, Nat.reduceEqDiff, Nat.reduceAdd, Nat.reduceLeDiff, Nat.reduceMul, Nat.reducePow, Nat.reduceLT, Nat.reduceSub, Int.reduceEq, Int.reduceLT, Int.reduceLE, Int.reduceNeg, Int.reduceToNat, Int.cast_ofNat_Int])
  refine wpL_block ?_
  generalize hB0 : blockQ _ _ _ = B0
  simp only [go_sem, ↓reduceIte, Nat.reduceEqDiff]
  by_cases c1 : n = 10
  · rw [if_pos c1] at hr
    subst hr
    have c1' : ((n : Int) = 10) = True := eq_true (by omega)
    try (simp only [go_sem, ↓reduceIte, Nat.reduceEqDiff, Nat.reduceAdd, Nat.reduceLeDiff, Nat.reduceMul, Nat.reducePow, Nat.reduceLT, Nat.reduceSub, Int.reduceEq, Int.reduceLT, Int.reduceLE, Int.reduceNeg, Int.reduceToNat, Int.cast_ofNat_Int, c1', decide_true, decide_false])
    repeat ((first | refine wpL_region Tryd.tyOk (by decide) ?_ | refine wpL_skip ?_ | (refine wpL_cond (t := true) ?_ (fun _ => ?_) (fun h => Bool.noConfusion h); (solve | (simp only [go_sem, ↓reduceIte, Nat.reduceEqDiff, Nat.reduceAdd, Nat.reduceLeDiff, Nat.reduceMul, Nat.reducePow, Nat.reduceLT, Nat.reduceSub, Int.reduceEq, Int.reduceLT, Int.reduceLE, Int.reduceNeg, Int.reduceToNat, Int.cast_ofNat_Int, c1', decide_true, decide_false]))) | (refine wpL_cond (t := false) ?_ (fun h => Bool.noConfusion h) (fun _ => ?_); (solve | (simp only [go_sem, ↓reduceIte, Nat.reduceEqDiff, Nat.reduceAdd, Nat.reduceLeDiff, Nat.reduceMul, Nat.reducePow, Nat.reduceLT, Nat.reduceSub, Int.reduceEq, Int.reduceLT, Int.reduceLE, Int.reduceNeg, Int.reduceToNat, Int.cast_ofNat_Int, c1', decide_true, decide_false])))); try (simp only [go_sem, ↓reduceIte, Nat.reduceEqDiff, Nat.reduceAdd, Nat.reduceLeDiff, Nat.reduceMul, Nat.reducePow, Nat.reduceLT, Nat.reduceSub, Int.reduceEq, Int.reduceLT, Int.reduceLE, Int.reduceNeg, Int.reduceToNat, Int.cast_ofNat_Int, c1', decide_true, decide_false]))
    refine wpL_ret ?_
    rw [← hB0]
    try simp only [go_sem, ↓reduceIte, Nat.reduceEqDiff]
    rw [← hBQ]
    try simp only [go_sem, ↓reduceIte, Nat.reduceEqDiff]
  rw [if_neg c1] at hr
  have c1' : ((n : Int) = 10) = False := eq_false (by omega)
  by_cases c2 : n = 9
  · rw [if_pos c2] at hr
    subst hr
    have c2' : ((n : Int) = 9) = True := eq_true (by omega)
    try (simp only [go_sem, ↓reduceIte, Nat.reduceEqDiff, Nat.reduceAdd, Nat.reduceLeDiff, Nat.reduceMul, Nat.reducePow, Nat.reduceLT, Nat.reduceSub, Int.reduceEq, Int.reduceLT, Int.reduceLE, Int.reduceNeg, Int.reduceToNat, Int.cast_ofNat_Int, c1', c2', decide_true, decide_false])
    repeat ((first | refine wpL_region Tryd.tyOk (by decide) ?_ | refine wpL_skip ?_ | (refine wpL_cond (t := true) ?_ (fun _ => ?_) (fun h => Bool.noConfusion h); (solve | (simp only [go_sem, ↓reduceIte, Nat.reduceEqDiff, Nat.reduceAdd, Nat.reduceLeDiff, Nat.reduceMul, Nat.reducePow, Nat.reduceLT, Nat.reduceSub, Int.reduceEq, Int.reduceLT, Int.reduceLE, Int.reduceNeg, Int.reduceToNat, Int.cast_ofNat_Int, c1', c2', decide_true, decide_false]))) | (refine wpL_cond (t := false) ?_ (fun h => Bool.noConfusion h) (fun _ => ?_); (solve | (simp only [go_sem, ↓reduceIte, Nat.reduceEqDiff, Nat.reduceAdd, Nat.reduceLeDiff, Nat.reduceMul, Nat.reducePow, Nat.reduceLT, Nat.reduceSub, Int.reduceEq, Int.reduceLT, Int.reduceLE, Int.reduceNeg, Int.reduceToNat, Int.cast_ofNat_Int, c1', c2', decide_true, decide_false])))); try (simp only [go_sem, ↓reduceIte, Nat.reduceEqDiff, Nat.reduceAdd, Nat.reduceLeDiff, Nat.reduceMul, Nat.reducePow, Nat.reduceLT, Nat.reduceSub, Int.reduceEq, Int.reduceLT, Int.reduceLE, Int.reduceNeg, Int.reduceToNat, Int.cast_ofNat_Int, c1', c2', decide_true, decide_false]))
    refine wpL_ret ?_
    rw [← hB0]
    try simp only [go_sem, ↓reduceIte, Nat.reduceEqDiff]
    rw [← hBQ]
    try simp only [go_sem, ↓reduceIte, Nat.reduceEqDiff]
  rw [if_neg c2] at hr
  have c2' : ((n : Int) = 9) = False := eq_false (by omega)
  by_cases c3 : n = 13
  · rw [if_pos c3] at hr
    subst hr
    have c3' : ((n : Int) = 13) = True := eq_true (by omega)
    try (simp only [go_sem, ↓reduceIte, Nat.reduceEqDiff, Nat.reduceAdd, Nat.reduceLeDiff, Nat.reduceMul, Nat.reducePow, Nat.reduceLT, Nat.reduceSub, Int.reduceEq, Int.reduceLT, Int.reduceLE, Int.reduceNeg, Int.reduceToNat, Int.cast_ofNat_Int, c1', c2', c3', decide_true, decide_false])
    repeat ((first | refine wpL_region Tryd.tyOk (by decide) ?_ | refine wpL_skip ?_ | (refine wpL_cond (t := true) ?_ (fun _ => ?_) (fun h => Bool.noConfusion h); (solve | (simp only [go_sem, ↓reduceIte, Nat.reduceEqDiff, Nat.reduceAdd, Nat.reduceLeDiff, Nat.reduceMul, Nat.reducePow, Nat.reduceLT, Nat.reduceSub, Int.reduceEq, Int.reduceLT, Int.reduceLE, Int.reduceNeg, Int.reduceToNat, Int.cast_ofNat_Int, c1', c2', c3', decide_true, decide_false]))) | (refine wpL_cond (t := false) ?_ (fun h => Bool.noConfusion h) (fun _ => ?_); (solve | (simp only [go_sem, ↓reduceIte, Nat.reduceEqDiff, Nat.reduceAdd, Nat.reduceLeDiff, Nat.reduceMul, Nat.reducePow, Nat.reduceLT, Nat.reduceSub, Int.reduceEq, Int.reduceLT, Int.reduceLE, Int.reduceNeg, Int.reduceToNat, Int.cast_ofNat_Int, c1', c2', c3', decide_true, decide_false])))); try (simp only [go_sem, ↓reduceIte, Nat.reduceEqDiff, Nat.reduceAdd, Nat.reduceLeDiff, Nat.reduceMul, Nat.reducePow, Nat.reduceLT, Nat.reduceSub, Int.reduceEq, Int.reduceLT, Int.reduceLE, Int.reduceNeg, Int.reduceToNat, Int.cast_ofNat_Int, c1', c2', c3', decide_true, decide_false]))
    refine wpL_ret ?_
    rw [← hB0]
    try simp only [go_sem, ↓reduceIte, Nat.reduceEqDiff]
    rw [← hBQ]
    try simp only [go_sem, ↓reduceIte, Nat.reduceEqDiff]
  rw [if_neg c3] at hr
  have c3' : ((n : Int) = 13) = False := eq_false (by omega)
  by_cases c4 : n = 92
  · rw [if_pos c4] at hr
    subst hr
    have c4' : ((n : Int) = 92) = True := eq_true (by omega)
    try (simp only [go_sem, ↓reduceIte, Nat.reduceEqDiff, Nat.reduceAdd, Nat.reduceLeDiff, Nat.reduceMul, Nat.reducePow, Nat.reduceLT, Nat.reduceSub, Int.reduceEq, Int.reduceLT, Int.reduceLE, Int.reduceNeg, Int.reduceToNat, Int.cast_ofNat_Int, c1', c2', c3', c4', decide_true, decide_false])
    repeat ((first | refine wpL_region Tryd.tyOk (by decide) ?_ | refine wpL_skip ?_ | (refine wpL_cond (t := true) ?_ (fun _ => ?_) (fun h => Bool.noConfusion h); (solve | (simp only [go_sem, ↓reduceIte, Nat.reduceEqDiff, Nat.reduceAdd, Nat.reduceLeDiff, Nat.reduceMul, Nat.reducePow, Nat.reduceLT, Nat.reduceSub, Int.reduceEq, Int.reduceLT, Int.reduceLE, Int.reduceNeg, Int.reduceToNat, Int.cast_ofNat_Int, c1', c2', c3', c4', decide_true, decide_false]))) | (refine wpL_cond (t := false) ?_ (fun h => Bool.noConfusion h) (fun _ => ?_); (solve | (simp only [go_sem, ↓reduceIte, Nat.reduceEqDiff, Nat.reduceAdd, Nat.reduceLeDiff, Nat.reduceMul, Nat.reducePow, Nat.reduceLT, Nat.reduceSub, Int.reduceEq, Int.reduceLT, Int.reduceLE, Int.reduceNeg, Int.reduceToNat, Int.cast_ofNat_Int, c1', c2', c3', c4', decide_true, decide_false])))); try (simp only [go_sem, ↓reduceIte, Nat.reduceEqDiff, Nat.reduceAdd, Nat.reduceLeDiff, Nat.reduceMul, Nat.reducePow, Nat.reduceLT, Nat.reduceSub, Int.reduceEq, Int.reduceLT, Int.reduceLE, Int.reduceNeg, Int.reduceToNat, Int.cast_ofNat_Int, c1', c2', c3', c4', decide_true, decide_false]))
    refine wpL_ret ?_
    rw [← hB0]
    try simp only [go_sem, ↓reduceIte, Nat.reduceEqDiff]
    rw [← hBQ]
    try simp only [go_sem, ↓reduceIte, Nat.reduceEqDiff]
  rw [if_neg c4] at hr
  have c4' : ((n : Int) = 92) = False := eq_false (by omega)
  by_cases c5 : n = q
  · rw [if_pos c5] at hr
    subst hr
    have c5' : ((n : Int) = (q : Int)) = True := eq_true (by omega)
    try (simp only [go_sem, ↓reduceIte, Nat.reduceEqDiff, Nat.reduceAdd, Nat.reduceLeDiff, Nat.reduceMul, Nat.reducePow, Nat.reduceLT, Nat.reduceSub, Int.reduceEq, Int.reduceLT, Int.reduceLE, Int.reduceNeg, Int.reduceToNat, Int.cast_ofNat_Int, c1', c2', c3', c4', c5', decide_true, decide_false])
    repeat ((first | refine wpL_region Tryd.tyOk (by decide) ?_ | refine wpL_skip ?_ | (refine wpL_cond (t := true) ?_ (fun _ => ?_) (fun h => Bool.noConfusion h); (solve | (simp only [go_sem, ↓reduceIte, Nat.reduceEqDiff, Nat.reduceAdd, Nat.reduceLeDiff, Nat.reduceMul, Nat.reducePow, Nat.reduceLT, Nat.reduceSub, Int.reduceEq, Int.reduceLT, Int.reduceLE, Int.reduceNeg, Int.reduceToNat, Int.cast_ofNat_Int, c1', c2', c3', c4', c5', decide_true, decide_false]))) | (refine wpL_cond (t := false) ?_ (fun h => Bool.noConfusion h) (fun _ => ?_); (solve | (simp only [go_sem, ↓reduceIte, Nat.reduceEqDiff, Nat.reduceAdd, Nat.reduceLeDiff, Nat.reduceMul, Nat.reducePow, Nat.reduceLT, Nat.reduceSub, Int.reduceEq, Int.reduceLT, Int.reduceLE, Int.reduceNeg, Int.reduceToNat, Int.cast_ofNat_Int, c1', c2', c3', c4', c5', decide_true, decide_false])))); try (simp only [go_sem, ↓reduceIte, Nat.reduceEqDiff, Nat.reduceAdd, Nat.reduceLeDiff, Nat.reduceMul, Nat.reducePow, Nat.reduceLT, Nat.reduceSub, Int.reduceEq, Int.reduceLT, Int.reduceLE, Int.reduceNeg, Int.reduceToNat, Int.cast_ofNat_Int, c1', c2', c3', c4', c5', decide_true, decide_false]))
    refine ⟨_, eq, ?_⟩
    simp only [go_sem, ↓reduceIte, Nat.reduceEqDiff, Nat.reduceAdd, Nat.reduceLeDiff, Nat.reduceMul, Nat.reducePow, Nat.reduceLT, Nat.reduceSub, Int.reduceEq, Int.reduceLT, Int.reduceLE, Int.reduceNeg, Int.reduceToNat, Int.cast_ofNat_Int, ByteArray.size_append]
    refine ⟨by have h1 := enc_size q; have h2 := max_le'; show 1 + _ ≤ _; omega, ?_⟩
    refine wpL_ret ?_
    rw [← hB0]
    try simp only [go_sem, ↓reduceIte, Nat.reduceEqDiff]
    rw [← hBQ]
    try simp only [go_sem, ↓reduceIte, Nat.reduceEqDiff]
  rw [if_neg c5] at hr
  have c5' : ((n : Int) = (q : Int)) = False := eq_false (by omega)
  try (simp only [go_sem, ↓reduceIte, Nat.reduceEqDiff, Nat.reduceAdd, Nat.reduceLeDiff, Nat.reduceMul, Nat.reducePow, Nat.reduceLT, Nat.reduceSub, Int.reduceEq, Int.reduceLT, Int.reduceLE, Int.reduceNeg, Int.reduceToNat, Int.cast_ofNat_Int, c1', c2', c3', c4', c5', decide_true, decide_false])
  repeat ((first | refine wpL_region Tryd.tyOk (by decide) ?_ | refine wpL_skip ?_ | (refine wpL_cond (t := true) ?_ (fun _ => ?_) (fun h => Bool.noConfusion h); (solve | (simp only [go_sem, ↓reduceIte, Nat.reduceEqDiff, Nat.reduceAdd, Nat.reduceLeDiff, Nat.reduceMul, Nat.reducePow, Nat.reduceLT, Nat.reduceSub, Int.reduceEq, Int.reduceLT, Int.reduceLE, Int.reduceNeg, Int.reduceToNat, Int.cast_ofNat_Int, c1', c2', c3', c4', c5', decide_true, decide_false]))) | (refine wpL_cond (t := false) ?_ (fun h => Bool.noConfusion h) (fun _ => ?_); (solve | (simp only [go_sem, ↓reduceIte, Nat.reduceEqDiff, Nat.reduceAdd, Nat.reduceLeDiff, Nat.reduceMul, Nat.reducePow, Nat.reduceLT, Nat.reduceSub, Int.reduceEq, Int.reduceLT, Int.reduceLE, Int.reduceNeg, Int.reduceToNat, Int.cast_ofNat_Int, c1', c2', c3', c4', c5', decide_true, decide_false])))); try (simp only [go_sem, ↓reduceIte, Nat.reduceEqDiff, Nat.reduceAdd, Nat.reduceLeDiff, Nat.reduceMul, Nat.reducePow, Nat.reduceLT, Nat.reduceSub, Int.reduceEq, Int.reduceLT, Int.reduceLE, Int.reduceNeg, Int.reduceToNat, Int.cast_ofNat_Int, c1', c2', c3', c4', c5', decide_true, decide_false]))
  rw [← hB0]
  try simp only [go_sem, ↓reduceIte, Nat.reduceEqDiff]
  by_cases c6 : n < 32 ∨ n = 127
  · rw [if_pos c6] at hr
    subst hr
    have eh := hex27 n (by omega)
    have z1 := hexS_size n
    have z2 := max_le'
    by_cases c7 : n < 32
    · have c7' : ((n : Int) < 32) = True := eq_true (by omega)
      try (simp only [go_sem, ↓reduceIte, Nat.reduceEqDiff, Nat.reduceAdd, Nat.reduceLeDiff, Nat.reduceMul, Nat.reducePow, Nat.reduceLT, Nat.reduceSub, Int.reduceEq, Int.reduceLT, Int.reduceLE, Int.reduceNeg, Int.reduceToNat, Int.cast_ofNat_Int, c7', decide_true, decide_false])
      repeat ((first | refine wpL_region Tryd.tyOk (by decide) ?_ | refine wpL_skip ?_ | (refine wpL_cond (t := true) ?_ (fun _ => ?_) (fun h => Bool.noConfusion h); (solve | (simp only [go_sem, ↓reduceIte, Nat.reduceEqDiff, Nat.reduceAdd, Nat.reduceLeDiff, Nat.reduceMul, Nat.reducePow, Nat.reduceLT, Nat.reduceSub, Int.reduceEq, Int.reduceLT, Int.reduceLE, Int.reduceNeg, Int.reduceToNat, Int.cast_ofNat_Int, c7', decide_true, decide_false]))) | (refine wpL_cond (t := false) ?_ (fun h => Bool.noConfusion h) (fun _ => ?_); (solve | (simp only [go_sem, ↓reduceIte, Nat.reduceEqDiff, Nat.reduceAdd, Nat.reduceLeDiff, Nat.reduceMul, Nat.reducePow, Nat.reduceLT, Nat.reduceSub, Int.reduceEq, Int.reduceLT, Int.reduceLE, Int.reduceNeg, Int.reduceToNat, Int.cast_ofNat_Int, c7', decide_true, decide_false])))); try (simp only [go_sem, ↓reduceIte, Nat.reduceEqDiff, Nat.reduceAdd, Nat.reduceLeDiff, Nat.reduceMul, Nat.reducePow, Nat.reduceLT, Nat.reduceSub, Int.reduceEq, Int.reduceLT, Int.reduceLE, Int.reduceNeg, Int.reduceToNat, Int.cast_ofNat_Int, c7', decide_true, decide_false]))
      refine ⟨_, eh, ?_⟩
      simp only [go_sem, ↓reduceIte, Nat.reduceEqDiff, Nat.reduceAdd, Nat.reduceLeDiff, Nat.reduceMul, Nat.reducePow, Nat.reduceLT, Nat.reduceSub, Int.reduceEq, Int.reduceLT, Int.reduceLE, Int.reduceNeg, Int.reduceToNat, Int.cast_ofNat_Int, ByteArray.size_append]
      refine ⟨by show 3 + _ ≤ _; omega, by show 3 + _ + 1 ≤ _; omega, ?_⟩
      refine wpL_ret ?_
      rw [← hBQ]
      try simp only [go_sem, ↓reduceIte, Nat.reduceEqDiff]
    · have c7' : ((n : Int) < 32) = False := eq_false (by omega)
      have c8' : ((n : Int) = 127) = True := eq_true (by omega)
      try (simp only [go_sem, ↓reduceIte, Nat.reduceEqDiff, Nat.reduceAdd, Nat.reduceLeDiff, Nat.reduceMul, Nat.reducePow, Nat.reduceLT, Nat.reduceSub, Int.reduceEq, Int.reduceLT, Int.reduceLE, Int.reduceNeg, Int.reduceToNat, Int.cast_ofNat_Int, c7', c8', decide_true, decide_false])
      repeat ((first | refine wpL_region Tryd.tyOk (by decide) ?_ | refine wpL_skip ?_ | (refine wpL_cond (t := true) ?_ (fun _ => ?_) (fun h => Bool.noConfusion h); (solve | (simp only [go_sem, ↓reduceIte, Nat.reduceEqDiff, Nat.reduceAdd, Nat.reduceLeDiff, Nat.reduceMul, Nat.reducePow, Nat.reduceLT, Nat.reduceSub, Int.reduceEq, Int.reduceLT, Int.reduceLE, Int.reduceNeg, Int.reduceToNat, Int.cast_ofNat_Int, c7', c8', decide_true, decide_false]))) | (refine wpL_cond (t := false) ?_ (fun h => Bool.noConfusion h) (fun _ => ?_); (solve | (simp only [go_sem, ↓reduceIte, Nat.reduceEqDiff, Nat.reduceAdd, Nat.reduceLeDiff, Nat.reduceMul, Nat.reducePow, Nat.reduceLT, Nat.reduceSub, Int.reduceEq, Int.reduceLT, Int.reduceLE, Int.reduceNeg, Int.reduceToNat, Int.cast_ofNat_Int, c7', c8', decide_true, decide_false])))); try (simp only [go_sem, ↓reduceIte, Nat.reduceEqDiff, Nat.reduceAdd, Nat.reduceLeDiff, Nat.reduceMul, Nat.reducePow, Nat.reduceLT, Nat.reduceSub, Int.reduceEq, Int.reduceLT, Int.reduceLE, Int.reduceNeg, Int.reduceToNat, Int.cast_ofNat_Int, c7', c8', decide_true, decide_false]))
      refine ⟨_, eh, ?_⟩
      simp only [go_sem, ↓reduceIte, Nat.reduceEqDiff, Nat.reduceAdd, Nat.reduceLeDiff, Nat.reduceMul, Nat.reducePow, Nat.reduceLT, Nat.reduceSub, Int.reduceEq, Int.reduceLT, Int.reduceLE, Int.reduceNeg, Int.reduceToNat, Int.cast_ofNat_Int, ByteArray.size_append]
      refine ⟨by show 3 + _ ≤ _; omega, by show 3 + _ + 1 ≤ _; omega, ?_⟩
      refine wpL_ret ?_
      rw [← hBQ]
      try simp only [go_sem, ↓reduceIte, Nat.reduceEqDiff]
  rw [if_neg c6] at hr
  subst hr
  have c7' : ((n : Int) < 32) = False := eq_false (by omega)
  have c8' : ((n : Int) = 127) = False := eq_false (by omega)
  try (simp only [go_sem, ↓reduceIte, Nat.reduceEqDiff, Nat.reduceAdd, Nat.reduceLeDiff, Nat.reduceMul, Nat.reducePow, Nat.reduceLT, Nat.reduceSub, Int.reduceEq, Int.reduceLT, Int.reduceLE, Int.reduceNeg, Int.reduceToNat, Int.cast_ofNat_Int, c7', c8', decide_true, decide_false])
  repeat ((first | refine wpL_region Tryd.tyOk (by decide) ?_ | refine wpL_skip ?_ | (refine wpL_cond (t := true) ?_ (fun _ => ?_) (fun h => Bool.noConfusion h); (solve | (simp only [go_sem, ↓reduceIte, Nat.reduceEqDiff, Nat.reduceAdd, Nat.reduceLeDiff, Nat.reduceMul, Nat.reducePow, Nat.reduceLT, Nat.reduceSub, Int.reduceEq, Int.reduceLT, Int.reduceLE, Int.reduceNeg, Int.reduceToNat, Int.cast_ofNat_Int, c7', c8', decide_true, decide_false]))) | (refine wpL_cond (t := false) ?_ (fun h => Bool.noConfusion h) (fun _ => ?_); (solve | (simp only [go_sem, ↓reduceIte, Nat.reduceEqDiff, Nat.reduceAdd, Nat.reduceLeDiff, Nat.reduceMul, Nat.reducePow, Nat.reduceLT, Nat.reduceSub, Int.reduceEq, Int.reduceLT, Int.reduceLE, Int.reduceNeg, Int.reduceToNat, Int.cast_ofNat_Int, c7', c8', decide_true, decide_false])))); try (simp only [go_sem, ↓reduceIte, Nat.reduceEqDiff, Nat.reduceAdd, Nat.reduceLeDiff, Nat.reduceMul, Nat.reducePow, Nat.reduceLT, Nat.reduceSub, Int.reduceEq, Int.reduceLT, Int.reduceLE, Int.reduceNeg, Int.reduceToNat, Int.cast_ofNat_Int, c7', c8', decide_true, decide_false]))
  refine ⟨_, en, ?_⟩
  simp only [go_sem, ↓reduceIte, Nat.reduceEqDiff, Nat.reduceAdd, Nat.reduceLeDiff, Nat.reduceMul, Nat.reducePow, Nat.reduceLT, Nat.reduceSub, Int.reduceEq, Int.reduceLT, Int.reduceLE, Int.reduceNeg, Int.reduceToNat, Int.cast_ofNat_Int]
  refine wpL_ret ?_
  rw [← hBQ]
  try simp only [go_sem, ↓reduceIte, Nat.reduceEqDiff]
end Go.Proofs.YtldgcpdpebhndaaDoor
