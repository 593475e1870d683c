/-
  Literals: one character of a literal; character literals read.
-/
import Derived.Test.YtldgcpdpebhndaaDoorW11
import Derived.Test.YtldgcpdpebhndaaDoorP
import Derived.Test.YtldgcpdpebhndaaDoorAbsZB
import Derived.Test.YtldgcpdpebhndaaDoorAbsZ
set_option linter.unusedSimpArgs false
set_option linter.unusedVariables false
set_option maxRecDepth 100000
set_option maxHeartbeats 4000000
namespace Go.Proofs.YtldgcpdpebhndaaDoor
open Go.Abs Go

def oneS (s : ByteArray) (i : Nat) : Int × Int × Int :=
  if s.size ≤ i ∨ at' s i = 10 then (0, 0, 5)
  else if at' s i = 92 then escS s i
  else if (Utf8.decode s i).1 < 32 ∨ ((Utf8.decode s i).1 = 65533 ∧ (Utf8.decode s i).2 = 1) then (0, 0, 3)
  else (((Utf8.decode s i).1 : Int), ((i + (Utf8.decode s i).2 : Nat) : Int), 0)
theorem byte_eq {s : ByteArray} {i : Nat} {k : Nat} {z : Int} (hz : z = k) : (((s.get! i).toNat : Int) = z) = (at' s i = k) :=
  propext ⟨fun h => by show (s.get! i).toNat = k; omega, fun h => by have : (s.get! i).toNat = k := h; omega⟩
theorem one23 (s : ByteArray) (i : Nat) (hs : s.size ≤ 1000000) : Gives Tryd.prog 23 [.c (eStr s), .c (eInt i)] (rTrip (oneS s i)) := by
  have hQ := oneS.eq_1 s i
  have kb := byte_eq (s := s) (i := i) (k := 10) (z := 10) rfl
  have kc := byte_eq (s := s) (i := i) (k := 92) (z := 92) rfl
  refine Gives.intro Tryd.tyOk Tryd.func23 (by kernel_rfl) rfl (by simp [Tryd.ntmps23]) ?_
  simp only [go_sem, ↓reduceIte, Nat.reduceEqDiff, Nat.reduceAdd, Nat.reduceLeDiff, Nat.reduceMul, Nat.reducePow, Nat.reduceLT, Nat.reduceSub, Int.reduceEq, Int.reduceLT, Int.reduceLE, Int.reduceNeg, Int.reduceToNat, Int.cast_ofNat_Int]
  simp only [Tryd.ntmps23, Tryd.results23, eInt, eRune, eByte, eStr, rBool, rInt, rStr, rTwo, rTrip, List.map_cons, List.map_nil]
  generalize hBQ : retQ _ _ _ = BQ
  by_cases c1 : s.size ≤ i
  · rw [if_pos (.inl c1)] at hQ
    have d1 : ((i : Int) ≥ (s.size : Int)) = True := eq_true (by omega)
    try (simp only [go_sem, ↓reduceIte, Nat.reduceEqDiff, Nat.reduceAdd, Nat.reduceLeDiff, Nat.reduceMul, Nat.reducePow, Nat.reduceLT, Nat.reduceSub, Int.reduceEq, Int.reduceLT, Int.reduceLE, Int.reduceNeg, Int.reduceToNat, Int.cast_ofNat_Int, d1, decide_true, decide_false])
    repeat ((first | refine wpL_region Tryd.tyOk (by decide) ?_ | refine wpL_skip ?_ | (refine wpL_cond (t := true) ?_ (fun _ => ?_) (fun h => Bool.noConfusion h); (solve | (simp only [go_sem, ↓reduceIte, Nat.reduceEqDiff, Nat.reduceAdd, Nat.reduceLeDiff, Nat.reduceMul, Nat.reducePow, Nat.reduceLT, Nat.reduceSub, Int.reduceEq, Int.reduceLT, Int.reduceLE, Int.reduceNeg, Int.reduceToNat, Int.cast_ofNat_Int, d1, decide_true, decide_false]))) | (refine wpL_cond (t := false) ?_ (fun h => Bool.noConfusion h) (fun _ => ?_); (solve | (simp only [go_sem, ↓reduceIte, Nat.reduceEqDiff, Nat.reduceAdd, Nat.reduceLeDiff, Nat.reduceMul, Nat.reducePow, Nat.reduceLT, Nat.reduceSub, Int.reduceEq, Int.reduceLT, Int.reduceLE, Int.reduceNeg, Int.reduceToNat, Int.cast_ofNat_Int, d1, decide_true, decide_false])))); try (simp only [go_sem, ↓reduceIte, Nat.reduceEqDiff, Nat.reduceAdd, Nat.reduceLeDiff, Nat.reduceMul, Nat.reducePow, Nat.reduceLT, Nat.reduceSub, Int.reduceEq, Int.reduceLT, Int.reduceLE, Int.reduceNeg, Int.reduceToNat, Int.cast_ofNat_Int, d1, decide_true, decide_false]))
    refine wpL_ret ?_
    rw [← hBQ]
    try simp only [go_sem, ↓reduceIte, Nat.reduceEqDiff]
    rw [hQ]
    exact ⟨rfl, rfl, rfl⟩
  have d1 : ((i : Int) ≥ (s.size : Int)) = False := eq_false (by omega)
  have b := byte_at (s := s) (i := i) (by omega)
  by_cases c2 : at' s i = 10
  · rw [if_pos (.inr c2)] at hQ
    try (simp only [go_sem, ↓reduceIte, Nat.reduceEqDiff, Nat.reduceAdd, Nat.reduceLeDiff, Nat.reduceMul, Nat.reducePow, Nat.reduceLT, Nat.reduceSub, Int.reduceEq, Int.reduceLT, Int.reduceLE, Int.reduceNeg, Int.reduceToNat, Int.cast_ofNat_Int, d1, b, kb, c2, decide_true, decide_false])
    repeat ((first | refine wpL_region Tryd.tyOk (by decide) ?_ | refine wpL_skip ?_ | (refine wpL_cond (t := true) ?_ (fun _ => ?_) (fun h => Bool.noConfusion h); (solve | (simp only [go_sem, ↓reduceIte, Nat.reduceEqDiff, Nat.reduceAdd, Nat.reduceLeDiff, Nat.reduceMul, Nat.reducePow, Nat.reduceLT, Nat.reduceSub, Int.reduceEq, Int.reduceLT, Int.reduceLE, Int.reduceNeg, Int.reduceToNat, Int.cast_ofNat_Int, d1, b, kb, c2, decide_true, decide_false]))) | (refine wpL_cond (t := false) ?_ (fun h => Bool.noConfusion h) (fun _ => ?_); (solve | (simp only [go_sem, ↓reduceIte, Nat.reduceEqDiff, Nat.reduceAdd, Nat.reduceLeDiff, Nat.reduceMul, Nat.reducePow, Nat.reduceLT, Nat.reduceSub, Int.reduceEq, Int.reduceLT, Int.reduceLE, Int.reduceNeg, Int.reduceToNat, Int.cast_ofNat_Int, d1, b, kb, c2, decide_true, decide_false])))); try (simp only [go_sem, ↓reduceIte, Nat.reduceEqDiff, Nat.reduceAdd, Nat.reduceLeDiff, Nat.reduceMul, Nat.reducePow, Nat.reduceLT, Nat.reduceSub, Int.reduceEq, Int.reduceLT, Int.reduceLE, Int.reduceNeg, Int.reduceToNat, Int.cast_ofNat_Int, d1, b, kb, c2, decide_true, decide_false]))
    refine wpL_ret ?_
    rw [← hBQ]
    try simp only [go_sem, ↓reduceIte, Nat.reduceEqDiff]
    rw [hQ]
    exact ⟨rfl, rfl, rfl⟩
  rw [if_neg (by omega)] at hQ
  by_cases c3 : at' s i = 92
  · rw [if_pos c3] at hQ
    have e := esc29 s i hs (by omega)
    try (simp only [go_sem, ↓reduceIte, Nat.reduceEqDiff, Nat.reduceAdd, Nat.reduceLeDiff, Nat.reduceMul, Nat.reducePow, Nat.reduceLT, Nat.reduceSub, Int.reduceEq, Int.reduceLT, Int.reduceLE, Int.reduceNeg, Int.reduceToNat, Int.cast_ofNat_Int, d1, b, kb, kc, c2, c3, decide_true, decide_false])
    repeat ((first | refine wpL_region Tryd.tyOk (by decide) ?_ | refine wpL_skip ?_ | (refine wpL_cond (t := true) ?_ (fun _ => ?_) (fun h => Bool.noConfusion h); (solve | (simp only [go_sem, ↓reduceIte, Nat.reduceEqDiff, Nat.reduceAdd, Nat.reduceLeDiff, Nat.reduceMul, Nat.reducePow, Nat.reduceLT, Nat.reduceSub, Int.reduceEq, Int.reduceLT, Int.reduceLE, Int.reduceNeg, Int.reduceToNat, Int.cast_ofNat_Int, d1, b, kb, kc, c2, c3, decide_true, decide_false]))) | (refine wpL_cond (t := false) ?_ (fun h => Bool.noConfusion h) (fun _ => ?_); (solve | (simp only [go_sem, ↓reduceIte, Nat.reduceEqDiff, Nat.reduceAdd, Nat.reduceLeDiff, Nat.reduceMul, Nat.reducePow, Nat.reduceLT, Nat.reduceSub, Int.reduceEq, Int.reduceLT, Int.reduceLE, Int.reduceNeg, Int.reduceToNat, Int.cast_ofNat_Int, d1, b, kb, kc, c2, c3, decide_true, decide_false])))); try (simp only [go_sem, ↓reduceIte, Nat.reduceEqDiff, Nat.reduceAdd, Nat.reduceLeDiff, Nat.reduceMul, Nat.reducePow, Nat.reduceLT, Nat.reduceSub, Int.reduceEq, Int.reduceLT, Int.reduceLE, Int.reduceNeg, Int.reduceToNat, Int.cast_ofNat_Int, d1, b, kb, kc, c2, c3, decide_true, decide_false]))
    refine ⟨_, e, ?_⟩
    simp only [go_sem, ↓reduceIte, Nat.reduceEqDiff, Nat.reduceAdd, Nat.reduceLeDiff, Nat.reduceMul, Nat.reducePow, Nat.reduceLT, Nat.reduceSub, Int.reduceEq, Int.reduceLT, Int.reduceLE, Int.reduceNeg, Int.reduceToNat, Int.cast_ofNat_Int]
    refine wpL_ret ?_
    rw [← hBQ]
    try simp only [go_sem, ↓reduceIte, Nat.reduceEqDiff]
    rw [hQ]
    exact ⟨rfl, rfl, rfl⟩
  rw [if_neg c3] at hQ
  have e := dec30 (s.extract i s.size)
  rw [dec_tail s i (by omega)] at e
  obtain ⟨p1, p2, p3, p4⟩ := dec_props s i (by omega)
  generalize Utf8.decode s i = p at hQ e p1 p2 p3 p4
  try (simp only [go_sem, ↓reduceIte, Nat.reduceEqDiff, Nat.reduceAdd, Nat.reduceLeDiff, Nat.reduceMul, Nat.reducePow, Nat.reduceLT, Nat.reduceSub, Int.reduceEq, Int.reduceLT, Int.reduceLE, Int.reduceNeg, Int.reduceToNat, Int.cast_ofNat_Int, d1, b, kb, kc, c2, c3, decide_true, decide_false])
  repeat ((first | refine wpL_region Tryd.tyOk (by decide) ?_ | refine wpL_skip ?_ | (refine wpL_cond (t := true) ?_ (fun _ => ?_) (fun h => Bool.noConfusion h); (solve | (simp only [go_sem, ↓reduceIte, Nat.reduceEqDiff, Nat.reduceAdd, Nat.reduceLeDiff, Nat.reduceMul, Nat.reducePow, Nat.reduceLT, Nat.reduceSub, Int.reduceEq, Int.reduceLT, Int.reduceLE, Int.reduceNeg, Int.reduceToNat, Int.cast_ofNat_Int, d1, b, kb, kc, c2, c3, decide_true, decide_false]))) | (refine wpL_cond (t := false) ?_ (fun h => Bool.noConfusion h) (fun _ => ?_); (solve | (simp only [go_sem, ↓reduceIte, Nat.reduceEqDiff, Nat.reduceAdd, Nat.reduceLeDiff, Nat.reduceMul, Nat.reducePow, Nat.reduceLT, Nat.reduceSub, Int.reduceEq, Int.reduceLT, Int.reduceLE, Int.reduceNeg, Int.reduceToNat, Int.cast_ofNat_Int, d1, b, kb, kc, c2, c3, decide_true, decide_false])))); try (simp only [go_sem, ↓reduceIte, Nat.reduceEqDiff, Nat.reduceAdd, Nat.reduceLeDiff, Nat.reduceMul, Nat.reducePow, Nat.reduceLT, Nat.reduceSub, Int.reduceEq, Int.reduceLT, Int.reduceLE, Int.reduceNeg, Int.reduceToNat, Int.cast_ofNat_Int, d1, b, kb, kc, c2, c3, decide_true, decide_false]))
  refine ⟨⟨by omega, by omega, fun _ h => by cases h⟩, ?_⟩
  refine ⟨_, e, ?_⟩
  simp only [go_sem, ↓reduceIte, Nat.reduceEqDiff, Nat.reduceAdd, Nat.reduceLeDiff, Nat.reduceMul, Nat.reducePow, Nat.reduceLT, Nat.reduceSub, Int.reduceEq, Int.reduceLT, Int.reduceLE, Int.reduceNeg, Int.reduceToNat, Int.cast_ofNat_Int]
  have wn : IntKind.i64.wrap ((i : Int) + (p.2 : Int)) = ((i + p.2 : Nat) : Int) := by rw [w64 (by omega) (by omega)]; omega
  by_cases m1 : p.1 < 32
  · rw [if_pos (.inl m1)] at hQ
    have m1' : ((p.1 : Int) < 32) = True := eq_true (by omega)
    try (simp only [go_sem, ↓reduceIte, Nat.reduceEqDiff, Nat.reduceAdd, Nat.reduceLeDiff, Nat.reduceMul, Nat.reducePow, Nat.reduceLT, Nat.reduceSub, Int.reduceEq, Int.reduceLT, Int.reduceLE, Int.reduceNeg, Int.reduceToNat, Int.cast_ofNat_Int, m1', decide_true, decide_false])
    repeat ((first | refine wpL_region Tryd.tyOk (by decide) ?_ | refine wpL_skip ?_ | (refine wpL_cond (t := true) ?_ (fun _ => ?_) (fun h => Bool.noConfusion h); (solve | (simp only [go_sem, ↓reduceIte, Nat.reduceEqDiff, Nat.reduceAdd, Nat.reduceLeDiff, Nat.reduceMul, Nat.reducePow, Nat.reduceLT, Nat.reduceSub, Int.reduceEq, Int.reduceLT, Int.reduceLE, Int.reduceNeg, Int.reduceToNat, Int.cast_ofNat_Int, m1', decide_true, decide_false]))) | (refine wpL_cond (t := false) ?_ (fun h => Bool.noConfusion h) (fun _ => ?_); (solve | (simp only [go_sem, ↓reduceIte, Nat.reduceEqDiff, Nat.reduceAdd, Nat.reduceLeDiff, Nat.reduceMul, Nat.reducePow, Nat.reduceLT, Nat.reduceSub, Int.reduceEq, Int.reduceLT, Int.reduceLE, Int.reduceNeg, Int.reduceToNat, Int.cast_ofNat_Int, m1', decide_true, decide_false])))); try (simp only [go_sem, ↓reduceIte, Nat.reduceEqDiff, Nat.reduceAdd, Nat.reduceLeDiff, Nat.reduceMul, Nat.reducePow, Nat.reduceLT, Nat.reduceSub, Int.reduceEq, Int.reduceLT, Int.reduceLE, Int.reduceNeg, Int.reduceToNat, Int.cast_ofNat_Int, m1', decide_true, decide_false]))
    refine wpL_ret ?_
    rw [← hBQ]
    try simp only [go_sem, ↓reduceIte, Nat.reduceEqDiff]
    rw [hQ]
    exact ⟨rfl, rfl, rfl⟩
  have m1' : ((p.1 : Int) < 32) = False := eq_false (by omega)
  by_cases m2 : p.1 = 65533
  · have m2' : ((p.1 : Int) = 65533) = True := eq_true (by omega)
    by_cases m3 : p.2 = 1
    · rw [if_pos (.inr ⟨m2, m3⟩)] at hQ
      have m3' : ((p.2 : Int) = 1) = True := eq_true (by omega)
      try (simp only [go_sem, ↓reduceIte, Nat.reduceEqDiff, Nat.reduceAdd, Nat.reduceLeDiff, Nat.reduceMul, Nat.reducePow, Nat.reduceLT, Nat.reduceSub, Int.reduceEq, Int.reduceLT, Int.reduceLE, Int.reduceNeg, Int.reduceToNat, Int.cast_ofNat_Int, m1', m2', m3', decide_true, decide_false])
      repeat ((first | refine wpL_region Tryd.tyOk (by decide) ?_ | refine wpL_skip ?_ | (refine wpL_cond (t := true) ?_ (fun _ => ?_) (fun h => Bool.noConfusion h); (solve | (simp only [go_sem, ↓reduceIte, Nat.reduceEqDiff, Nat.reduceAdd, Nat.reduceLeDiff, Nat.reduceMul, Nat.reducePow, Nat.reduceLT, Nat.reduceSub, Int.reduceEq, Int.reduceLT, Int.reduceLE, Int.reduceNeg, Int.reduceToNat, Int.cast_ofNat_Int, m1', m2', m3', decide_true, decide_false]))) | (refine wpL_cond (t := false) ?_ (fun h => Bool.noConfusion h) (fun _ => ?_); (solve | (simp only [go_sem, ↓reduceIte, Nat.reduceEqDiff, Nat.reduceAdd, Nat.reduceLeDiff, Nat.reduceMul, Nat.reducePow, Nat.reduceLT, Nat.reduceSub, Int.reduceEq, Int.reduceLT, Int.reduceLE, Int.reduceNeg, Int.reduceToNat, Int.cast_ofNat_Int, m1', m2', m3', decide_true, decide_false])))); try (simp only [go_sem, ↓reduceIte, Nat.reduceEqDiff, Nat.reduceAdd, Nat.reduceLeDiff, Nat.reduceMul, Nat.reducePow, Nat.reduceLT, Nat.reduceSub, Int.reduceEq, Int.reduceLT, Int.reduceLE, Int.reduceNeg, Int.reduceToNat, Int.cast_ofNat_Int, m1', m2', m3', decide_true, decide_false]))
      refine wpL_ret ?_
      rw [← hBQ]
      try simp only [go_sem, ↓reduceIte, Nat.reduceEqDiff]
      rw [hQ]
      exact ⟨rfl, rfl, rfl⟩
    · rw [if_neg (by omega)] at hQ
      have m3' : ((p.2 : Int) = 1) = False := eq_false (by omega)
      try (simp only [go_sem, ↓reduceIte, Nat.reduceEqDiff, Nat.reduceAdd, Nat.reduceLeDiff, Nat.reduceMul, Nat.reducePow, Nat.reduceLT, Nat.reduceSub, Int.reduceEq, Int.reduceLT, Int.reduceLE, Int.reduceNeg, Int.reduceToNat, Int.cast_ofNat_Int, m1', m2', m3', wn, decide_true, decide_false])
      repeat ((first | refine wpL_region Tryd.tyOk (by decide) ?_ | refine wpL_skip ?_ | (refine wpL_cond (t := true) ?_ (fun _ => ?_) (fun h => Bool.noConfusion h); (solve | (simp only [go_sem, ↓reduceIte, Nat.reduceEqDiff, Nat.reduceAdd, Nat.reduceLeDiff, Nat.reduceMul, Nat.reducePow, Nat.reduceLT, Nat.reduceSub, Int.reduceEq, Int.reduceLT, Int.reduceLE, Int.reduceNeg, Int.reduceToNat, Int.cast_ofNat_Int, m1', m2', m3', wn, decide_true, decide_false]))) | (refine wpL_cond (t := false) ?_ (fun h => Bool.noConfusion h) (fun _ => ?_); (solve | (simp only [go_sem, ↓reduceIte, Nat.reduceEqDiff, Nat.reduceAdd, Nat.reduceLeDiff, Nat.reduceMul, Nat.reducePow, Nat.reduceLT, Nat.reduceSub, Int.reduceEq, Int.reduceLT, Int.reduceLE, Int.reduceNeg, Int.reduceToNat, Int.cast_ofNat_Int, m1', m2', m3', wn, decide_true, decide_false])))); try (simp only [go_sem, ↓reduceIte, Nat.reduceEqDiff, Nat.reduceAdd, Nat.reduceLeDiff, Nat.reduceMul, Nat.reducePow, Nat.reduceLT, Nat.reduceSub, Int.reduceEq, Int.reduceLT, Int.reduceLE, Int.reduceNeg, Int.reduceToNat, Int.cast_ofNat_Int, m1', m2', m3', wn, decide_true, decide_false]))
      refine wpL_ret ?_
      rw [← hBQ]
      try simp only [go_sem, ↓reduceIte, Nat.reduceEqDiff]
      rw [hQ]
      exact ⟨rfl, rfl, rfl⟩
  rw [if_neg (by omega)] at hQ
  have m2' : ((p.1 : Int) = 65533) = False := eq_false (by omega)
  try (simp only [go_sem, ↓reduceIte, Nat.reduceEqDiff, Nat.reduceAdd, Nat.reduceLeDiff, Nat.reduceMul, Nat.reducePow, Nat.reduceLT, Nat.reduceSub, Int.reduceEq, Int.reduceLT, Int.reduceLE, Int.reduceNeg, Int.reduceToNat, Int.cast_ofNat_Int, m1', m2', wn, decide_true, decide_false])
  repeat ((first | refine wpL_region Tryd.tyOk (by decide) ?_ | refine wpL_skip ?_ | (refine wpL_cond (t := true) ?_ (fun _ => ?_) (fun h => Bool.noConfusion h); (solve | (simp only [go_sem, ↓reduceIte, Nat.reduceEqDiff, Nat.reduceAdd, Nat.reduceLeDiff, Nat.reduceMul, Nat.reducePow, Nat.reduceLT, Nat.reduceSub, Int.reduceEq, Int.reduceLT, Int.reduceLE, Int.reduceNeg, Int.reduceToNat, Int.cast_ofNat_Int, m1', m2', wn, decide_true, decide_false]))) | (refine wpL_cond (t := false) ?_ (fun h => Bool.noConfusion h) (fun _ => ?_); (solve | (simp only [go_sem, ↓reduceIte, Nat.reduceEqDiff, Nat.reduceAdd, Nat.reduceLeDiff, Nat.reduceMul, Nat.reducePow, Nat.reduceLT, Nat.reduceSub, Int.reduceEq, Int.reduceLT, Int.reduceLE, Int.reduceNeg, Int.reduceToNat, Int.cast_ofNat_Int, m1', m2', wn, decide_true, decide_false])))); try (simp only [go_sem, ↓reduceIte, Nat.reduceEqDiff, Nat.reduceAdd, Nat.reduceLeDiff, Nat.reduceMul, Nat.reducePow, Nat.reduceLT, Nat.reduceSub, Int.reduceEq, Int.reduceLT, Int.reduceLE, Int.reduceNeg, Int.reduceToNat, Int.cast_ofNat_Int, m1', m2', wn, decide_true, decide_false]))
  refine wpL_ret ?_
  rw [← hBQ]
  try simp only [go_sem, ↓reduceIte, Nat.reduceEqDiff]
  rw [hQ]
  exact ⟨rfl, rfl, rfl⟩
def preB (s p : ByteArray) : Bool := decide (p.size ≤ s.size) && ((s.extract 0 p.size).toList == p.toList)
theorem pre28 (s p : ByteArray) (hs : s.size ≤ 1000000) : Gives Tryd.prog 28 [.c (eStr s), .c (eStr p)] (rBool (preB s p)) := by
  refine Gives.intro Tryd.tyOk Tryd.func28 (by kernel_rfl) rfl (by simp [Tryd.ntmps28]) ?_
  simp only [go_sem, ↓reduceIte, Nat.reduceEqDiff, Nat.reduceAdd, Nat.reduceLeDiff, Nat.reduceMul, Nat.reducePow, Nat.reduceLT, Nat.reduceSub, Int.reduceEq, Int.reduceLT, Int.reduceLE, Int.reduceNeg, Int.reduceToNat, Int.cast_ofNat_Int]
  simp only [Tryd.ntmps28, Tryd.results28, eInt, eRune, eByte, eStr, rBool, rInt, rStr, rTwo, rTrip, List.map_cons, List.map_nil]
  generalize hBQ : retQ _ _ _ = BQ
  by_cases c : p.size ≤ s.size
  · have c' : ((s.size : Int) ≥ (p.size : Int)) = True := eq_true (by omega)
    iterate 2 (refine wpL_region Tryd.tyOk (by decide) ?_; simp only [go_sem, ↓reduceIte, Nat.reduceEqDiff, Nat.reduceAdd, Nat.reduceLeDiff, Nat.reduceMul, Nat.reducePow, Nat.reduceLT, Nat.reduceSub, Int.reduceEq, Int.reduceLT, Int.reduceLE, Int.reduceNeg, Int.reduceToNat, Int.cast_ofNat_Int, c', decide_true, decide_false])
    refine ⟨fun _ h => (by cases h), ?_⟩
    refine wpL_ret ?_
    rw [← hBQ]
    try simp only [go_sem, ↓reduceIte, Nat.reduceEqDiff]
    simp [preB, c]
  have c' : ((s.size : Int) ≥ (p.size : Int)) = False := eq_false (by omega)
  iterate 2 (refine wpL_region Tryd.tyOk (by decide) ?_; simp only [go_sem, ↓reduceIte, Nat.reduceEqDiff, Nat.reduceAdd, Nat.reduceLeDiff, Nat.reduceMul, Nat.reducePow, Nat.reduceLT, Nat.reduceSub, Int.reduceEq, Int.reduceLT, Int.reduceLE, Int.reduceNeg, Int.reduceToNat, Int.cast_ofNat_Int, c', decide_true, decide_false])
  refine wpL_ret ?_
  rw [← hBQ]
  try simp only [go_sem, ↓reduceIte, Nat.reduceEqDiff]
  simp [preB, c]
theorem pre22 (s p : ByteArray) (hs : s.size ≤ 1000000) : Gives Tryd.prog 22 [.c (eStr s), .c (eStr p)] (rBool (preB s p)) := by
  have e := pre28 s p hs
  refine Gives.intro Tryd.tyOk Tryd.func22 (by kernel_rfl) rfl (by simp [Tryd.ntmps22]) ?_
  simp only [go_sem, ↓reduceIte, Nat.reduceEqDiff, Nat.reduceAdd, Nat.reduceLeDiff, Nat.reduceMul, Nat.reducePow, Nat.reduceLT, Nat.reduceSub, Int.reduceEq, Int.reduceLT, Int.reduceLE, Int.reduceNeg, Int.reduceToNat, Int.cast_ofNat_Int]
  simp only [Tryd.ntmps22, Tryd.results22, eInt, eRune, eByte, eStr, rBool, rInt, rStr, rTwo, rTrip, List.map_cons, List.map_nil]
  generalize hBQ : retQ _ _ _ = BQ
  iterate 2 (refine wpL_region Tryd.tyOk (by decide) ?_; simp only [go_sem, ↓reduceIte, Nat.reduceEqDiff, Nat.reduceAdd, Nat.reduceLeDiff, Nat.reduceMul, Nat.reducePow, Nat.reduceLT, Nat.reduceSub, Int.reduceEq, Int.reduceLT, Int.reduceLE, Int.reduceNeg, Int.reduceToNat, Int.cast_ofNat_Int])
  refine ⟨_, e, ?_⟩
  simp only [go_sem, ↓reduceIte, Nat.reduceEqDiff, Nat.reduceAdd, Nat.reduceLeDiff, Nat.reduceMul, Nat.reducePow, Nat.reduceLT, Nat.reduceSub, Int.reduceEq, Int.reduceLT, Int.reduceLE, Int.reduceNeg, Int.reduceToNat, Int.cast_ofNat_Int]
  refine wpL_ret ?_
  rw [← hBQ]
  try simp only [go_sem, ↓reduceIte, Nat.reduceEqDiff]
  done
theorem scan_le (s : ByteArray) : ∀ (k a m : Nat), a ≤ s.size → a ≤ (scanS s k a m).2 ∧ (scanS s k a m).2 ≤ s.size
  | 0, a, m, h => ⟨Nat.le_refl _, h⟩
  | k + 1, a, m, h => by
    rw [scanS]
    split
    · rename_i h2
      have := scan_le s k (a + 1) (16 * m + (digS (at' s a)).toNat) (by omega)
      exact ⟨by omega, this.2⟩
    · exact ⟨Nat.le_refl _, h⟩
/-- What a reader of a character at a place answers: nothing, or a character and a place behind. -/
def okT (s : ByteArray) (i : Nat) (p : Int × Int × Int) : Prop := ∃ e : Nat, p.2.1 = e ∧ e ≤ s.size ∧ (p.2.2 = 0 → isR p.1 = true ∧ i < e)
theorem okT.no {s : ByteArray} {i : Nat} {e : Int} (h : e ≠ 0) : okT s i (0, 0, e) := ⟨0, rfl, Nat.zero_le _, fun h' => absurd h' h⟩
theorem miss_ne (s : ByteArray) (i : Nat) : missS s i ≠ 0 := by unfold missS; split <;> omega
theorem okT.code (s : ByteArray) (i : Nat) (j : Nat) (hj : j ≤ i) : okT s j (codeS s i) := by
  unfold codeS
  split
  · exact .no (miss_ne _ _)
  rename_i h1
  have hsl := scan_le s 6 (i + 1) 0 (by omega)
  split
  · exact .no (miss_ne _ _)
  split
  · rename_i h2 h3
    exact ⟨_, rfl, by omega, fun _ => ⟨h3, by omega⟩⟩
  · exact .no (by omega)
theorem okT.esc (s : ByteArray) (i : Nat) : okT s i (escS s i) := by
  unfold escS
  split
  · exact .no (by omega)
  rename_i h1
  repeat' split
  all_goals first | exact .no (miss_ne _ _) | exact .code s (i + 2) i (by omega) | exact ⟨i + 2, rfl, by omega, fun _ => ⟨by rfl, by omega⟩⟩
theorem okT.one (s : ByteArray) (i : Nat) : okT s i (oneS s i) := by
  unfold oneS
  split
  · exact .no (by omega)
  split
  · exact .esc s i
  rename_i h1 h2
  obtain ⟨p1, p2, p3, p4⟩ := dec_props s i (by omega)
  split
  · exact .no (by omega)
  · exact ⟨_, rfl, by omega, fun _ => ⟨isR_iff.2 (by omega), by omega⟩⟩
def runeS (s : ByteArray) : Int × Int × Int :=
  if s.size = 0 ∨ at' s 0 ≠ 39 ∨ preB s ⟨#[39, 39]⟩ = true then (0, 0, 5)
  else if (oneS s 1).2.2 ≠ 0 then (0, 0, (oneS s 1).2.2)
  else if (s.size : Int) ≤ (oneS s 1).2.1 ∨ at' s (oneS s 1).2.1.toNat ≠ 39 then (0, 0, 5)
  else ((oneS s 1).1, (oneS s 1).2.1 + 1, 0)
theorem rune12 (s : ByteArray) (hs : s.size ≤ 1000000) : Gives Tryd.prog 12 [.c (eStr s)] (rTrip (runeS s)) := by
  have hQ := runeS.eq_1 s
  have ep := pre22 s ⟨#[39, 39]⟩ hs
  have eo : Gives Tryd.prog 23 [.c (eStr s), .c (eInt 1)] (rTrip (oneS s 1)) := one23 s 1 hs
  obtain ⟨e, he, hes, heo⟩ := okT.one s 1
  refine Gives.intro Tryd.tyOk Tryd.func12 (by kernel_rfl) rfl (by simp [Tryd.ntmps12]) ?_
  simp only [go_sem, ↓reduceIte, Nat.reduceEqDiff, Nat.reduceAdd, Nat.reduceLeDiff, Nat.reduceMul, Nat.reducePow, Nat.reduceLT, Nat.reduceSub, Int.reduceEq, Int.reduceLT, Int.reduceLE, Int.reduceNeg, Int.reduceToNat, Int.cast_ofNat_Int]
  simp only [Tryd.ntmps12, Tryd.results12, eInt, eRune, eByte, eStr, rBool, rInt, rStr, rTwo, rTrip, List.map_cons, List.map_nil]
  generalize hBQ : retQ _ _ _ = BQ
  refine wpL_region Tryd.tyOk (by decide) ?_
  simp only [go_sem, ↓reduceIte, Nat.reduceEqDiff, Nat.reduceAdd, Nat.reduceLeDiff, Nat.reduceMul, Nat.reducePow, Nat.reduceLT, Nat.reduceSub, Int.reduceEq, Int.reduceLT, Int.reduceLE, Int.reduceNeg, Int.reduceToNat, Int.cast_ofNat_Int]
  by_cases c1 : s.size = 0
  · have hl2 : (s.toList == ByteArray.toList ⟨#[]⟩) = true := by rw [bytes_toList, bytes_toList, beq_iff_eq]; exact List.eq_nil_of_length_eq_zero c1
    rw [if_pos (.inl c1)] at hQ
    try (simp only [go_sem, ↓reduceIte, Nat.reduceEqDiff, Nat.reduceAdd, Nat.reduceLeDiff, Nat.reduceMul, Nat.reducePow, Nat.reduceLT, Nat.reduceSub, Int.reduceEq, Int.reduceLT, Int.reduceLE, Int.reduceNeg, Int.reduceToNat, Int.cast_ofNat_Int, hl2, decide_true, decide_false])
    repeat ((first | refine wpL_region Tryd.tyOk (by decide) ?_ | refine wpL_skip ?_ | (refine wpL_cond (t := true) ?_ (fun _ => ?_) (fun h => Bool.noConfusion h); (solve | (simp only [go_sem, ↓reduceIte, Nat.reduceEqDiff, Nat.reduceAdd, Nat.reduceLeDiff, Nat.reduceMul, Nat.reducePow, Nat.reduceLT, Nat.reduceSub, Int.reduceEq, Int.reduceLT, Int.reduceLE, Int.reduceNeg, Int.reduceToNat, Int.cast_ofNat_Int, hl2, decide_true, decide_false]))) | (refine wpL_cond (t := false) ?_ (fun h => Bool.noConfusion h) (fun _ => ?_); (solve | (simp only [go_sem, ↓reduceIte, Nat.reduceEqDiff, Nat.reduceAdd, Nat.reduceLeDiff, Nat.reduceMul, Nat.reducePow, Nat.reduceLT, Nat.reduceSub, Int.reduceEq, Int.reduceLT, Int.reduceLE, Int.reduceNeg, Int.reduceToNat, Int.cast_ofNat_Int, hl2, decide_true, decide_false])))); try (simp only [go_sem, ↓reduceIte, Nat.reduceEqDiff, Nat.reduceAdd, Nat.reduceLeDiff, Nat.reduceMul, Nat.reducePow, Nat.reduceLT, Nat.reduceSub, Int.reduceEq, Int.reduceLT, Int.reduceLE, Int.reduceNeg, Int.reduceToNat, Int.cast_ofNat_Int, hl2, decide_true, decide_false]))
    refine wpL_ret ?_
    rw [← hBQ]
    try simp only [go_sem, ↓reduceIte, Nat.reduceEqDiff]
    rw [hQ]
    exact ⟨rfl, rfl, rfl⟩
  have hl2 : (s.toList == ByteArray.toList ⟨#[]⟩) = false := by
    rw [beq_eq_false_iff_ne, bytes_toList, bytes_toList]
    intro h
    exact c1 (by have := congrArg List.length h; exact this)
  have b := byte_at (s := s) (i := 0) (by omega)
  have kb := byte_eq (s := s) (i := 0) (k := 39) (z := 39) rfl
  by_cases c2 : at' s 0 = 39
  · try (simp only [go_sem, ↓reduceIte, Nat.reduceEqDiff, Nat.reduceAdd, Nat.reduceLeDiff, Nat.reduceMul, Nat.reducePow, Nat.reduceLT, Nat.reduceSub, Int.reduceEq, Int.reduceLT, Int.reduceLE, Int.reduceNeg, Int.reduceToNat, Int.cast_ofNat_Int, hl2, b, kb, c2, decide_true, decide_false])
    repeat ((first | refine wpL_region Tryd.tyOk (by decide) ?_ | refine wpL_skip ?_ | (refine wpL_cond (t := true) ?_ (fun _ => ?_) (fun h => Bool.noConfusion h); (solve | (simp only [go_sem, ↓reduceIte, Nat.reduceEqDiff, Nat.reduceAdd, Nat.reduceLeDiff, Nat.reduceMul, Nat.reducePow, Nat.reduceLT, Nat.reduceSub, Int.reduceEq, Int.reduceLT, Int.reduceLE, Int.reduceNeg, Int.reduceToNat, Int.cast_ofNat_Int, hl2, b, kb, c2, decide_true, decide_false]))) | (refine wpL_cond (t := false) ?_ (fun h => Bool.noConfusion h) (fun _ => ?_); (solve | (simp only [go_sem, ↓reduceIte, Nat.reduceEqDiff, Nat.reduceAdd, Nat.reduceLeDiff, Nat.reduceMul, Nat.reducePow, Nat.reduceLT, Nat.reduceSub, Int.reduceEq, Int.reduceLT, Int.reduceLE, Int.reduceNeg, Int.reduceToNat, Int.cast_ofNat_Int, hl2, b, kb, c2, decide_true, decide_false])))); try (simp only [go_sem, ↓reduceIte, Nat.reduceEqDiff, Nat.reduceAdd, Nat.reduceLeDiff, Nat.reduceMul, Nat.reducePow, Nat.reduceLT, Nat.reduceSub, Int.reduceEq, Int.reduceLT, Int.reduceLE, Int.reduceNeg, Int.reduceToNat, Int.cast_ofNat_Int, hl2, b, kb, c2, decide_true, decide_false]))
    refine ⟨_, ep, ?_⟩
    simp only [go_sem, ↓reduceIte, Nat.reduceEqDiff, Nat.reduceAdd, Nat.reduceLeDiff, Nat.reduceMul, Nat.reducePow, Nat.reduceLT, Nat.reduceSub, Int.reduceEq, Int.reduceLT, Int.reduceLE, Int.reduceNeg, Int.reduceToNat, Int.cast_ofNat_Int]
    cases hp : preB s ⟨#[39, 39]⟩ with
    | true =>
      rw [if_pos (.inr (.inr hp))] at hQ
      refine wpL_cond (t := true) (by simp only [go_sem, ↓reduceIte, Nat.reduceEqDiff, hp]) (fun _ => ?_) (fun h => Bool.noConfusion h)
      try simp only [go_sem, ↓reduceIte, Nat.reduceEqDiff]
      refine wpL_region Tryd.tyOk (by decide) ?_
      simp only [go_sem, ↓reduceIte, Nat.reduceEqDiff, Nat.reduceAdd, Nat.reduceLeDiff, Nat.reduceMul, Nat.reducePow, Nat.reduceLT, Nat.reduceSub, Int.reduceEq, Int.reduceLT, Int.reduceLE, Int.reduceNeg, Int.reduceToNat, Int.cast_ofNat_Int]
      refine wpL_ret ?_
      rw [← hBQ]
      try simp only [go_sem, ↓reduceIte, Nat.reduceEqDiff]
      rw [hQ]
      exact ⟨rfl, rfl, rfl⟩
    | false =>
      rw [if_neg (by rintro (h | h | h); exact c1 h; exact h c2; rw [hp] at h; cases h)] at hQ
      refine wpL_cond (t := false) (by simp only [go_sem, ↓reduceIte, Nat.reduceEqDiff, hp]) (fun h => Bool.noConfusion h) (fun _ => ?_)
      try simp only [go_sem, ↓reduceIte, Nat.reduceEqDiff]
      refine wpL_skip ?_
      refine wpL_region Tryd.tyOk (by decide) ?_
      simp only [go_sem, ↓reduceIte, Nat.reduceEqDiff, Nat.reduceAdd, Nat.reduceLeDiff, Nat.reduceMul, Nat.reducePow, Nat.reduceLT, Nat.reduceSub, Int.reduceEq, Int.reduceLT, Int.reduceLE, Int.reduceNeg, Int.reduceToNat, Int.cast_ofNat_Int]
      refine ⟨_, eo, ?_⟩
      generalize oneS s 1 = p at hQ he heo
      obtain ⟨r, e', er⟩ := p
      simp only at hQ he heo
      subst he
      simp only [go_sem, ↓reduceIte, Nat.reduceEqDiff, Nat.reduceAdd, Nat.reduceLeDiff, Nat.reduceMul, Nat.reducePow, Nat.reduceLT, Nat.reduceSub, Int.reduceEq, Int.reduceLT, Int.reduceLE, Int.reduceNeg, Int.reduceToNat, Int.cast_ofNat_Int]
      by_cases c3 : er = 0
      · subst c3
        rw [if_neg (by simp)] at hQ
        obtain ⟨hr, h1e⟩ := heo rfl
        by_cases c4 : s.size ≤ e
        · rw [if_pos (.inl (by omega))] at hQ
          have c4' : ((e : Int) ≥ (s.size : Int)) = True := eq_true (by omega)
          try (simp only [go_sem, ↓reduceIte, Nat.reduceEqDiff, Nat.reduceAdd, Nat.reduceLeDiff, Nat.reduceMul, Nat.reducePow, Nat.reduceLT, Nat.reduceSub, Int.reduceEq, Int.reduceLT, Int.reduceLE, Int.reduceNeg, Int.reduceToNat, Int.cast_ofNat_Int, c4', decide_true, decide_false])
          repeat ((first | refine wpL_region Tryd.tyOk (by decide) ?_ | refine wpL_skip ?_ | (refine wpL_cond (t := true) ?_ (fun _ => ?_) (fun h => Bool.noConfusion h); (solve | (simp only [go_sem, ↓reduceIte, Nat.reduceEqDiff, Nat.reduceAdd, Nat.reduceLeDiff, Nat.reduceMul, Nat.reducePow, Nat.reduceLT, Nat.reduceSub, Int.reduceEq, Int.reduceLT, Int.reduceLE, Int.reduceNeg, Int.reduceToNat, Int.cast_ofNat_Int, c4', decide_true, decide_false]))) | (refine wpL_cond (t := false) ?_ (fun h => Bool.noConfusion h) (fun _ => ?_); (solve | (simp only [go_sem, ↓reduceIte, Nat.reduceEqDiff, Nat.reduceAdd, Nat.reduceLeDiff, Nat.reduceMul, Nat.reducePow, Nat.reduceLT, Nat.reduceSub, Int.reduceEq, Int.reduceLT, Int.reduceLE, Int.reduceNeg, Int.reduceToNat, Int.cast_ofNat_Int, c4', decide_true, decide_false])))); try (simp only [go_sem, ↓reduceIte, Nat.reduceEqDiff, Nat.reduceAdd, Nat.reduceLeDiff, Nat.reduceMul, Nat.reducePow, Nat.reduceLT, Nat.reduceSub, Int.reduceEq, Int.reduceLT, Int.reduceLE, Int.reduceNeg, Int.reduceToNat, Int.cast_ofNat_Int, c4', decide_true, decide_false]))
          refine wpL_ret ?_
          rw [← hBQ]
          try simp only [go_sem, ↓reduceIte, Nat.reduceEqDiff]
          rw [hQ]
          exact ⟨rfl, rfl, rfl⟩
        have c4' : ((e : Int) ≥ (s.size : Int)) = False := eq_false (by omega)
        have b2 := byte_at (s := s) (i := e) (by omega)
        have kb2 := byte_eq (s := s) (i := e) (k := 39) (z := 39) rfl
        by_cases c5 : at' s e = 39
        · rw [if_neg (by rintro (h | h); omega; exact h c5)] at hQ
          have wn : IntKind.i64.wrap ((e : Int) + 1) = (e : Int) + 1 := w64 (by omega) (by omega)
          try (simp only [go_sem, ↓reduceIte, Nat.reduceEqDiff, Nat.reduceAdd, Nat.reduceLeDiff, Nat.reduceMul, Nat.reducePow, Nat.reduceLT, Nat.reduceSub, Int.reduceEq, Int.reduceLT, Int.reduceLE, Int.reduceNeg, Int.reduceToNat, Int.cast_ofNat_Int, c4', b2, kb2, c5, wn, decide_true, decide_false])
          repeat ((first | refine wpL_region Tryd.tyOk (by decide) ?_ | refine wpL_skip ?_ | (refine wpL_cond (t := true) ?_ (fun _ => ?_) (fun h => Bool.noConfusion h); (solve | (simp only [go_sem, ↓reduceIte, Nat.reduceEqDiff, Nat.reduceAdd, Nat.reduceLeDiff, Nat.reduceMul, Nat.reducePow, Nat.reduceLT, Nat.reduceSub, Int.reduceEq, Int.reduceLT, Int.reduceLE, Int.reduceNeg, Int.reduceToNat, Int.cast_ofNat_Int, c4', b2, kb2, c5, wn, decide_true, decide_false]))) | (refine wpL_cond (t := false) ?_ (fun h => Bool.noConfusion h) (fun _ => ?_); (solve | (simp only [go_sem, ↓reduceIte, Nat.reduceEqDiff, Nat.reduceAdd, Nat.reduceLeDiff, Nat.reduceMul, Nat.reducePow, Nat.reduceLT, Nat.reduceSub, Int.reduceEq, Int.reduceLT, Int.reduceLE, Int.reduceNeg, Int.reduceToNat, Int.cast_ofNat_Int, c4', b2, kb2, c5, wn, decide_true, decide_false])))); try (simp only [go_sem, ↓reduceIte, Nat.reduceEqDiff, Nat.reduceAdd, Nat.reduceLeDiff, Nat.reduceMul, Nat.reducePow, Nat.reduceLT, Nat.reduceSub, Int.reduceEq, Int.reduceLT, Int.reduceLE, Int.reduceNeg, Int.reduceToNat, Int.cast_ofNat_Int, c4', b2, kb2, c5, wn, decide_true, decide_false]))
          refine wpL_ret ?_
          rw [← hBQ]
          try simp only [go_sem, ↓reduceIte, Nat.reduceEqDiff]
          rw [hQ]
          exact ⟨rfl, rfl, rfl⟩
        · rw [if_pos (.inr c5)] at hQ
          try (simp only [go_sem, ↓reduceIte, Nat.reduceEqDiff, Nat.reduceAdd, Nat.reduceLeDiff, Nat.reduceMul, Nat.reducePow, Nat.reduceLT, Nat.reduceSub, Int.reduceEq, Int.reduceLT, Int.reduceLE, Int.reduceNeg, Int.reduceToNat, Int.cast_ofNat_Int, c4', b2, kb2, c5, decide_true, decide_false])
          repeat ((first | refine wpL_region Tryd.tyOk (by decide) ?_ | refine wpL_skip ?_ | (refine wpL_cond (t := true) ?_ (fun _ => ?_) (fun h => Bool.noConfusion h); (solve | (simp only [go_sem, ↓reduceIte, Nat.reduceEqDiff, Nat.reduceAdd, Nat.reduceLeDiff, Nat.reduceMul, Nat.reducePow, Nat.reduceLT, Nat.reduceSub, Int.reduceEq, Int.reduceLT, Int.reduceLE, Int.reduceNeg, Int.reduceToNat, Int.cast_ofNat_Int, c4', b2, kb2, c5, decide_true, decide_false]))) | (refine wpL_cond (t := false) ?_ (fun h => Bool.noConfusion h) (fun _ => ?_); (solve | (simp only [go_sem, ↓reduceIte, Nat.reduceEqDiff, Nat.reduceAdd, Nat.reduceLeDiff, Nat.reduceMul, Nat.reducePow, Nat.reduceLT, Nat.reduceSub, Int.reduceEq, Int.reduceLT, Int.reduceLE, Int.reduceNeg, Int.reduceToNat, Int.cast_ofNat_Int, c4', b2, kb2, c5, decide_true, decide_false])))); try (simp only [go_sem, ↓reduceIte, Nat.reduceEqDiff, Nat.reduceAdd, Nat.reduceLeDiff, Nat.reduceMul, Nat.reducePow, Nat.reduceLT, Nat.reduceSub, Int.reduceEq, Int.reduceLT, Int.reduceLE, Int.reduceNeg, Int.reduceToNat, Int.cast_ofNat_Int, c4', b2, kb2, c5, decide_true, decide_false]))
          refine wpL_ret ?_
          rw [← hBQ]
          try simp only [go_sem, ↓reduceIte, Nat.reduceEqDiff]
          rw [hQ]
          exact ⟨rfl, rfl, rfl⟩
      · rw [if_pos c3] at hQ
        have c3' : (er = 0) = False := eq_false c3
        try (simp only [go_sem, ↓reduceIte, Nat.reduceEqDiff, Nat.reduceAdd, Nat.reduceLeDiff, Nat.reduceMul, Nat.reducePow, Nat.reduceLT, Nat.reduceSub, Int.reduceEq, Int.reduceLT, Int.reduceLE, Int.reduceNeg, Int.reduceToNat, Int.cast_ofNat_Int, c3', decide_true, decide_false])
        repeat ((first | refine wpL_region Tryd.tyOk (by decide) ?_ | refine wpL_skip ?_ | (refine wpL_cond (t := true) ?_ (fun _ => ?_) (fun h => Bool.noConfusion h); (solve | (simp only [go_sem, ↓reduceIte, Nat.reduceEqDiff, Nat.reduceAdd, Nat.reduceLeDiff, Nat.reduceMul, Nat.reducePow, Nat.reduceLT, Nat.reduceSub, Int.reduceEq, Int.reduceLT, Int.reduceLE, Int.reduceNeg, Int.reduceToNat, Int.cast_ofNat_Int, c3', decide_true, decide_false]))) | (refine wpL_cond (t := false) ?_ (fun h => Bool.noConfusion h) (fun _ => ?_); (solve | (simp only [go_sem, ↓reduceIte, Nat.reduceEqDiff, Nat.reduceAdd, Nat.reduceLeDiff, Nat.reduceMul, Nat.reducePow, Nat.reduceLT, Nat.reduceSub, Int.reduceEq, Int.reduceLT, Int.reduceLE, Int.reduceNeg, Int.reduceToNat, Int.cast_ofNat_Int, c3', decide_true, decide_false])))); try (simp only [go_sem, ↓reduceIte, Nat.reduceEqDiff, Nat.reduceAdd, Nat.reduceLeDiff, Nat.reduceMul, Nat.reducePow, Nat.reduceLT, Nat.reduceSub, Int.reduceEq, Int.reduceLT, Int.reduceLE, Int.reduceNeg, Int.reduceToNat, Int.cast_ofNat_Int, c3', decide_true, decide_false]))
        refine wpL_ret ?_
        rw [← hBQ]
        try simp only [go_sem, ↓reduceIte, Nat.reduceEqDiff]
        rw [hQ]
        exact ⟨rfl, rfl, rfl⟩
  · rw [if_pos (.inr (.inl c2))] at hQ
    try (simp only [go_sem, ↓reduceIte, Nat.reduceEqDiff, Nat.reduceAdd, Nat.reduceLeDiff, Nat.reduceMul, Nat.reducePow, Nat.reduceLT, Nat.reduceSub, Int.reduceEq, Int.reduceLT, Int.reduceLE, Int.reduceNeg, Int.reduceToNat, Int.cast_ofNat_Int, hl2, b, kb, c2, decide_true, decide_false])
    repeat ((first | refine wpL_region Tryd.tyOk (by decide) ?_ | refine wpL_skip ?_ | (refine wpL_cond (t := true) ?_ (fun _ => ?_) (fun h => Bool.noConfusion h); (solve | (simp only [go_sem, ↓reduceIte, Nat.reduceEqDiff, Nat.reduceAdd, Nat.reduceLeDiff, Nat.reduceMul, Nat.reducePow, Nat.reduceLT, Nat.reduceSub, Int.reduceEq, Int.reduceLT, Int.reduceLE, Int.reduceNeg, Int.reduceToNat, Int.cast_ofNat_Int, hl2, b, kb, c2, decide_true, decide_false]))) | (refine wpL_cond (t := false) ?_ (fun h => Bool.noConfusion h) (fun _ => ?_); (solve | (simp only [go_sem, ↓reduceIte, Nat.reduceEqDiff, Nat.reduceAdd, Nat.reduceLeDiff, Nat.reduceMul, Nat.reducePow, Nat.reduceLT, Nat.reduceSub, Int.reduceEq, Int.reduceLT, Int.reduceLE, Int.reduceNeg, Int.reduceToNat, Int.cast_ofNat_Int, hl2, b, kb, c2, decide_true, decide_false])))); try (simp only [go_sem, ↓reduceIte, Nat.reduceEqDiff, Nat.reduceAdd, Nat.reduceLeDiff, Nat.reduceMul, Nat.reducePow, Nat.reduceLT, Nat.reduceSub, Int.reduceEq, Int.reduceLT, Int.reduceLE, Int.reduceNeg, Int.reduceToNat, Int.cast_ofNat_Int, hl2, b, kb, c2, decide_true, decide_false]))
    refine wpL_ret ?_
    rw [← hBQ]
    try simp only [go_sem, ↓reduceIte, Nat.reduceEqDiff]
    rw [hQ]
    exact ⟨rfl, rfl, rfl⟩
end Go.Proofs.YtldgcpdpebhndaaDoor
