/-
  Literals: characters, digits, encodings by the reference.
-/
import Derived.Test.YtldgcpdpebhndaaDoorAbsTab
import Derived.Test.YtldgcpdpebhndaaDoorAbsZB
set_option linter.unusedSimpArgs false
set_option linter.unusedVariables false
set_option maxRecDepth 100000
set_option maxHeartbeats 4000000
namespace Go.Proofs.YtldgcpdpebhndaaDoor
open Go.Abs Go

@[go_sem] def eInt (n : Int) : DC := .sc (.int .i64 n)
@[go_sem] def eRune (n : Int) : DC := .sc (.int .i32 n)
@[go_sem] def eByte (n : Int) : DC := .sc (.int .u8 n)
@[go_sem] def eStr (s : ByteArray) : DC := .sc (.string s)
@[go_sem] def rBool (b : Bool) : Res := .one (.c (.d (.sc (.bool b))))
@[go_sem] def rInt (n : Int) : Res := .one (.c (.d (.sc (.int .i64 n))))
@[go_sem] def rStr (s : ByteArray) : Res := .one (.c (.d (.sc (.string s))))
@[go_sem] def rTwo (p : Int × Int) : Res := .tup [.c (.d (.sc (.int .i64 p.1))), .c (.d (.sc (.int .i64 p.2)))]


def isR (n : Int) : Bool := (decide (n ≥ 0) && decide (n ≤ 1114111)) && (decide (n < 55296) || decide (n > 57343))
theorem is11 (n : Int) : Gives Tryd.prog 11 [.c (eInt n)] (rBool (isR n)) := by
  refine Gives.intro Tryd.tyOk Tryd.func11 (by kernel_rfl) rfl (by simp [Tryd.ntmps11]) ?_
  simp only [go_sem, ↓reduceIte, Nat.reduceEqDiff, Nat.reduceAdd, Nat.reduceLeDiff, Nat.reduceMul, Nat.reducePow, Nat.reduceLT, Nat.reduceSub, Int.reduceEq, Int.reduceLT, Int.reduceLE, Int.reduceNeg, Int.reduceToNat, Int.cast_ofNat_Int]
  simp only [Tryd.ntmps11, Tryd.results11, eInt, eRune, eByte, eStr, rBool, rInt, rStr, rTwo, List.map_cons, List.map_nil]
  generalize hBQ : retQ _ _ _ = BQ
  refine wpL_region Tryd.tyOk (by decide) ?_
  simp only [go_sem, ↓reduceIte, Nat.reduceEqDiff, Nat.reduceAdd, Nat.reduceLeDiff, Nat.reduceMul, Nat.reducePow, Nat.reduceLT, Nat.reduceSub, Int.reduceEq, Int.reduceLT, Int.reduceLE, Int.reduceNeg, Int.reduceToNat, Int.cast_ofNat_Int]
  by_cases h : n ≥ 0
  · by_cases h2 : n ≤ 1114111
    · by_cases h3 : n < 55296
      · refine wpL_region Tryd.tyOk (by decide) ?_
        simp only [go_sem, ↓reduceIte, Nat.reduceEqDiff, Nat.reduceAdd, Nat.reduceLeDiff, Nat.reduceMul, Nat.reducePow, Nat.reduceLT, Nat.reduceSub, Int.reduceEq, Int.reduceLT, Int.reduceLE, Int.reduceNeg, Int.reduceToNat, Int.cast_ofNat_Int, h, h2, h3, decide_true, decide_false]
        refine wpL_ret ?_
        rw [← hBQ]
        try simp only [go_sem, ↓reduceIte, Nat.reduceEqDiff]
        simp [isR, h, h2, h3]
      · refine wpL_region Tryd.tyOk (by decide) ?_
        simp only [go_sem, ↓reduceIte, Nat.reduceEqDiff, Nat.reduceAdd, Nat.reduceLeDiff, Nat.reduceMul, Nat.reducePow, Nat.reduceLT, Nat.reduceSub, Int.reduceEq, Int.reduceLT, Int.reduceLE, Int.reduceNeg, Int.reduceToNat, Int.cast_ofNat_Int, h, h2, h3, decide_true, decide_false]
        refine wpL_ret ?_
        rw [← hBQ]
        try simp only [go_sem, ↓reduceIte, Nat.reduceEqDiff]
        simp [isR, h, h2, h3]
    · refine wpL_region Tryd.tyOk (by decide) ?_
      simp only [go_sem, ↓reduceIte, Nat.reduceEqDiff, Nat.reduceAdd, Nat.reduceLeDiff, Nat.reduceMul, Nat.reducePow, Nat.reduceLT, Nat.reduceSub, Int.reduceEq, Int.reduceLT, Int.reduceLE, Int.reduceNeg, Int.reduceToNat, Int.cast_ofNat_Int, h, h2, decide_true, decide_false]
      refine wpL_ret ?_
      rw [← hBQ]
      try simp only [go_sem, ↓reduceIte, Nat.reduceEqDiff]
      simp [isR, h, h2]
  · refine wpL_region Tryd.tyOk (by decide) ?_
    simp only [go_sem, ↓reduceIte, Nat.reduceEqDiff, Nat.reduceAdd, Nat.reduceLeDiff, Nat.reduceMul, Nat.reducePow, Nat.reduceLT, Nat.reduceSub, Int.reduceEq, Int.reduceLT, Int.reduceLE, Int.reduceNeg, Int.reduceToNat, Int.cast_ofNat_Int, h, decide_true, decide_false]
    refine wpL_ret ?_
    rw [← hBQ]
    try simp only [go_sem, ↓reduceIte, Nat.reduceEqDiff]
    simp [isR, h]
theorem is21 (n : Int) : Gives Tryd.prog 21 [.c (eInt n)] (rBool (isR n)) := by
  refine Gives.intro Tryd.tyOk Tryd.func21 (by kernel_rfl) rfl (by simp [Tryd.ntmps21]) ?_
  simp only [go_sem, ↓reduceIte, Nat.reduceEqDiff, Nat.reduceAdd, Nat.reduceLeDiff, Nat.reduceMul, Nat.reducePow, Nat.reduceLT, Nat.reduceSub, Int.reduceEq, Int.reduceLT, Int.reduceLE, Int.reduceNeg, Int.reduceToNat, Int.cast_ofNat_Int]
  simp only [Tryd.ntmps21, Tryd.results21, eInt, eRune, eByte, eStr, rBool, rInt, rStr, rTwo, List.map_cons, List.map_nil]
  generalize hBQ : retQ _ _ _ = BQ
  refine wpL_region Tryd.tyOk (by decide) ?_
  simp only [go_sem, ↓reduceIte, Nat.reduceEqDiff, Nat.reduceAdd, Nat.reduceLeDiff, Nat.reduceMul, Nat.reducePow, Nat.reduceLT, Nat.reduceSub, Int.reduceEq, Int.reduceLT, Int.reduceLE, Int.reduceNeg, Int.reduceToNat, Int.cast_ofNat_Int]
  by_cases h : n ≥ 0
  · by_cases h2 : n ≤ 1114111
    · by_cases h3 : n < 55296
      · refine wpL_region Tryd.tyOk (by decide) ?_
        simp only [go_sem, ↓reduceIte, Nat.reduceEqDiff, Nat.reduceAdd, Nat.reduceLeDiff, Nat.reduceMul, Nat.reducePow, Nat.reduceLT, Nat.reduceSub, Int.reduceEq, Int.reduceLT, Int.reduceLE, Int.reduceNeg, Int.reduceToNat, Int.cast_ofNat_Int, h, h2, h3, decide_true, decide_false]
        refine wpL_ret ?_
        rw [← hBQ]
        try simp only [go_sem, ↓reduceIte, Nat.reduceEqDiff]
        simp [isR, h, h2, h3]
      · refine wpL_region Tryd.tyOk (by decide) ?_
        simp only [go_sem, ↓reduceIte, Nat.reduceEqDiff, Nat.reduceAdd, Nat.reduceLeDiff, Nat.reduceMul, Nat.reducePow, Nat.reduceLT, Nat.reduceSub, Int.reduceEq, Int.reduceLT, Int.reduceLE, Int.reduceNeg, Int.reduceToNat, Int.cast_ofNat_Int, h, h2, h3, decide_true, decide_false]
        refine wpL_ret ?_
        rw [← hBQ]
        try simp only [go_sem, ↓reduceIte, Nat.reduceEqDiff]
        simp [isR, h, h2, h3]
    · refine wpL_region Tryd.tyOk (by decide) ?_
      simp only [go_sem, ↓reduceIte, Nat.reduceEqDiff, Nat.reduceAdd, Nat.reduceLeDiff, Nat.reduceMul, Nat.reducePow, Nat.reduceLT, Nat.reduceSub, Int.reduceEq, Int.reduceLT, Int.reduceLE, Int.reduceNeg, Int.reduceToNat, Int.cast_ofNat_Int, h, h2, decide_true, decide_false]
      refine wpL_ret ?_
      rw [← hBQ]
      try simp only [go_sem, ↓reduceIte, Nat.reduceEqDiff]
      simp [isR, h, h2]
  · refine wpL_region Tryd.tyOk (by decide) ?_
    simp only [go_sem, ↓reduceIte, Nat.reduceEqDiff, Nat.reduceAdd, Nat.reduceLeDiff, Nat.reduceMul, Nat.reducePow, Nat.reduceLT, Nat.reduceSub, Int.reduceEq, Int.reduceLT, Int.reduceLE, Int.reduceNeg, Int.reduceToNat, Int.cast_ofNat_Int, h, decide_true, decide_false]
    refine wpL_ret ?_
    rw [← hBQ]
    try simp only [go_sem, ↓reduceIte, Nat.reduceEqDiff]
    simp [isR, h]

theorem isR_iff {n : Int} : isR n = true ↔ 0 ≤ n ∧ n ≤ 1114111 ∧ (n < 55296 ∨ n > 57343) := by
  unfold isR
  simp only [Bool.and_eq_true, Bool.or_eq_true, decide_eq_true_eq, and_assoc]
theorem valid_of {n : Int} (h : isR n = true) : Utf8.valid n = true := by
  rw [isR_iff] at h
  unfold Utf8.valid
  simp only [Bool.or_eq_true, Bool.and_eq_true, decide_eq_true_eq]
  omega
theorem w64 {x : Int} (h : 0 ≤ x) (h1 : x < 9223372036854775808) : IntKind.i64.wrap x = x := wrap_small x h h1
theorem o8 (k : Nat) : UInt8.ofNat (k % 256) = UInt8.ofNat k := by apply UInt8.toNat_inj.1; simp
theorem by8 {x : Int} (k : Nat) (h : x = k) : byteD [.sc (.int .u8 (IntKind.u8.wrap x))] = UInt8.ofNat k := by
  subst h
  show UInt8.ofNat (IntKind.u8.wrap (k : Int)).toNat = _
  rw [IntKind.wrap_u8', ← o8 k]
  congr 1
theorem qd (m d : Nat) : (m : Int).tdiv d = ((m / d : Nat) : Int) := rfl
theorem qm (m d : Nat) : (m : Int).tmod d = ((m % d : Nat) : Int) := rfl
theorem i0 {q c : Nat} (hq : q < 2000000) (hc : c < 1000) : IntKind.i64.wrap ((c : Int) + IntKind.i64.wrap (q : Int)) = ((c + q : Nat) : Int) := by
  rw [w64 (x := (q : Int)) (by omega) (by omega), w64 (by omega) (by omega)]
  omega
theorem i0' {q c : Nat} (hq : q < 2000000) (hc : c < 1000) : IntKind.i64.wrap ((c : Int) + (q : Int)) = ((c + q : Nat) : Int) := by
  rw [w64 (by omega) (by omega)]
  omega
theorem i1 {m : Nat} (C D : Int) (d c : Nat) (hC : C = c) (hD : D = d) (hm : m < 2000000) (hc : c < 1000) : IntKind.i64.wrap (C + IntKind.i64.wrap ((m : Int).tdiv D)) = ((c + m / d : Nat) : Int) := by
  subst hC hD
  rw [qd]
  exact i0 (Nat.lt_of_le_of_lt (Nat.div_le_self m d) hm) hc
theorem i2 {m : Nat} (C D : Int) (d c : Nat) (hC : C = c) (hD : D = d) (hm : m < 2000000) (hc : c < 1000) : IntKind.i64.wrap (C + (m : Int).tmod D) = ((c + m % d : Nat) : Int) := by
  subst hC hD
  rw [qm]
  exact i0' (Nat.lt_of_le_of_lt (Nat.mod_le m d) hm) hc
theorem i3 {m : Nat} (C D E : Int) (d e c : Nat) (hC : C = c) (hD : D = d) (hE : E = e) (hm : m < 2000000) (hc : c < 1000) : IntKind.i64.wrap (C + (IntKind.i64.wrap ((m : Int).tdiv D)).tmod E) = ((c + m / d % e : Nat) : Int) := by
  have h1 := Nat.lt_of_le_of_lt (Nat.div_le_self m d) hm
  subst hD
  rw [qd, w64 (x := ((m / d : Nat) : Int)) (Int.natCast_nonneg _) (by generalize m / d = q at h1; omega)]
  exact i2 C E e c hC hE h1 hc
theorem enc13 (n : Int) (h : isR n = true) : Gives Tryd.prog 13 [.c (eInt n)] (rStr (Utf8.encode n)) := by
  have hv := valid_of h
  rw [isR_iff] at h
  obtain ⟨h0, h1, _⟩ := h
  obtain ⟨m, rfl⟩ : ∃ m : Nat, n = m := ⟨n.toNat, by omega⟩
  refine Gives.intro Tryd.tyOk Tryd.func13 (by kernel_rfl) rfl (by simp [Tryd.ntmps13]) ?_
  simp only [go_sem, ↓reduceIte, Nat.reduceEqDiff, Nat.reduceAdd, Nat.reduceLeDiff, Nat.reduceMul, Nat.reducePow, Nat.reduceLT, Nat.reduceSub, Int.reduceEq, Int.reduceLT, Int.reduceLE, Int.reduceNeg, Int.reduceToNat, Int.cast_ofNat_Int]
  simp only [Tryd.ntmps13, Tryd.results13, eInt, eRune, eByte, eStr, rBool, rInt, rStr, rTwo, List.map_cons, List.map_nil]
  generalize hBQ : retQ _ _ _ = BQ
  by_cases c1 : (m : Int) < 128
  · iterate 2 (refine wpL_region Tryd.tyOk (by decide) ?_; simp only [go_sem, ↓reduceIte, Nat.reduceEqDiff, Nat.reduceAdd, Nat.reduceLeDiff, Nat.reduceMul, Nat.reducePow, Nat.reduceLT, Nat.reduceSub, Int.reduceEq, Int.reduceLT, Int.reduceLE, Int.reduceNeg, Int.reduceToNat, Int.cast_ofNat_Int, c1, decide_true])
    refine wpL_cond (t := true) (by simp only [go_sem, ↓reduceIte, Nat.reduceEqDiff]) (fun _ => ?_) (fun h => Bool.noConfusion h)
    try simp only [go_sem, ↓reduceIte, Nat.reduceEqDiff]
    refine wpL_region Tryd.tyOk (by decide) ?_
    simp only [go_sem, ↓reduceIte, Nat.reduceEqDiff, Nat.reduceAdd, Nat.reduceLeDiff, Nat.reduceMul, Nat.reducePow, Nat.reduceLT, Nat.reduceSub, Int.reduceEq, Int.reduceLT, Int.reduceLE, Int.reduceNeg, Int.reduceToNat, Int.cast_ofNat_Int]
    refine wpL_ret ?_
    rw [← hBQ]
    try simp only [go_sem, ↓reduceIte, Nat.reduceEqDiff]
    refine congrArg (fun b => DC.sc (Value.string b)) ?_
    show (⟨#[byteD _]⟩ : ByteArray) = _
    rw [by8 m rfl]
    unfold Utf8.encode
    simp only [hv, if_true, Int.toNat_natCast]
    rw [if_pos (by omega)]
  by_cases c2 : (m : Int) < 2048
  · iterate 2 (refine wpL_region Tryd.tyOk (by decide) ?_; simp only [go_sem, ↓reduceIte, Nat.reduceEqDiff, Nat.reduceAdd, Nat.reduceLeDiff, Nat.reduceMul, Nat.reducePow, Nat.reduceLT, Nat.reduceSub, Int.reduceEq, Int.reduceLT, Int.reduceLE, Int.reduceNeg, Int.reduceToNat, Int.cast_ofNat_Int, c1, decide_false])
    refine wpL_cond (t := false) (by simp only [go_sem, ↓reduceIte, Nat.reduceEqDiff]) (fun h => Bool.noConfusion h) (fun _ => ?_)
    try simp only [go_sem, ↓reduceIte, Nat.reduceEqDiff]
    refine wpL_skip ?_
    refine wpL_region Tryd.tyOk (by decide) ?_
    simp only [go_sem, ↓reduceIte, Nat.reduceEqDiff, Nat.reduceAdd, Nat.reduceLeDiff, Nat.reduceMul, Nat.reducePow, Nat.reduceLT, Nat.reduceSub, Int.reduceEq, Int.reduceLT, Int.reduceLE, Int.reduceNeg, Int.reduceToNat, Int.cast_ofNat_Int, c2, decide_true]
    refine wpL_cond (t := true) (by simp only [go_sem, ↓reduceIte, Nat.reduceEqDiff]) (fun _ => ?_) (fun h => Bool.noConfusion h)
    try simp only [go_sem, ↓reduceIte, Nat.reduceEqDiff]
    refine wpL_region Tryd.tyOk (by decide) ?_
    simp only [go_sem, ↓reduceIte, Nat.reduceEqDiff, Nat.reduceAdd, Nat.reduceLeDiff, Nat.reduceMul, Nat.reducePow, Nat.reduceLT, Nat.reduceSub, Int.reduceEq, Int.reduceLT, Int.reduceLE, Int.reduceNeg, Int.reduceToNat, Int.cast_ofNat_Int]
    refine wpL_ret ?_
    rw [← hBQ]
    try simp only [go_sem, ↓reduceIte, Nat.reduceEqDiff]
    refine congrArg (fun b => DC.sc (Value.string b)) ?_
    show (⟨#[byteD _, byteD _]⟩ : ByteArray) = _
    rw [by8 (192 + m / 64) (i1 192 64 64 192 rfl rfl (by omega) (by omega)), by8 (128 + m % 64) (i2 128 64 64 128 rfl rfl (by omega) (by omega))]
    unfold Utf8.encode
    simp only [hv, if_true, Int.toNat_natCast]
    rw [if_neg (by omega), if_pos (by omega)]
  by_cases c3 : (m : Int) < 65536
  · iterate 2 (refine wpL_region Tryd.tyOk (by decide) ?_; simp only [go_sem, ↓reduceIte, Nat.reduceEqDiff, Nat.reduceAdd, Nat.reduceLeDiff, Nat.reduceMul, Nat.reducePow, Nat.reduceLT, Nat.reduceSub, Int.reduceEq, Int.reduceLT, Int.reduceLE, Int.reduceNeg, Int.reduceToNat, Int.cast_ofNat_Int, c1, decide_false])
    refine wpL_cond (t := false) (by simp only [go_sem, ↓reduceIte, Nat.reduceEqDiff]) (fun h => Bool.noConfusion h) (fun _ => ?_)
    try simp only [go_sem, ↓reduceIte, Nat.reduceEqDiff]
    refine wpL_skip ?_
    refine wpL_region Tryd.tyOk (by decide) ?_
    simp only [go_sem, ↓reduceIte, Nat.reduceEqDiff, Nat.reduceAdd, Nat.reduceLeDiff, Nat.reduceMul, Nat.reducePow, Nat.reduceLT, Nat.reduceSub, Int.reduceEq, Int.reduceLT, Int.reduceLE, Int.reduceNeg, Int.reduceToNat, Int.cast_ofNat_Int, c2, decide_false]
    refine wpL_cond (t := false) (by simp only [go_sem, ↓reduceIte, Nat.reduceEqDiff]) (fun h => Bool.noConfusion h) (fun _ => ?_)
    try simp only [go_sem, ↓reduceIte, Nat.reduceEqDiff]
    refine wpL_skip ?_
    refine wpL_region Tryd.tyOk (by decide) ?_
    simp only [go_sem, ↓reduceIte, Nat.reduceEqDiff, Nat.reduceAdd, Nat.reduceLeDiff, Nat.reduceMul, Nat.reducePow, Nat.reduceLT, Nat.reduceSub, Int.reduceEq, Int.reduceLT, Int.reduceLE, Int.reduceNeg, Int.reduceToNat, Int.cast_ofNat_Int, c3, decide_true]
    refine wpL_cond (t := true) (by simp only [go_sem, ↓reduceIte, Nat.reduceEqDiff]) (fun _ => ?_) (fun h => Bool.noConfusion h)
    try simp only [go_sem, ↓reduceIte, Nat.reduceEqDiff]
    refine wpL_region Tryd.tyOk (by decide) ?_
    simp only [go_sem, ↓reduceIte, Nat.reduceEqDiff, Nat.reduceAdd, Nat.reduceLeDiff, Nat.reduceMul, Nat.reducePow, Nat.reduceLT, Nat.reduceSub, Int.reduceEq, Int.reduceLT, Int.reduceLE, Int.reduceNeg, Int.reduceToNat, Int.cast_ofNat_Int]
    refine wpL_ret ?_
    rw [← hBQ]
    try simp only [go_sem, ↓reduceIte, Nat.reduceEqDiff]
    refine congrArg (fun b => DC.sc (Value.string b)) ?_
    show (⟨#[byteD _, byteD _, byteD _]⟩ : ByteArray) = _
    rw [by8 (224 + m / 4096) (i1 224 4096 4096 224 rfl rfl (by omega) (by omega)), by8 (128 + m / 64 % 64) (i3 128 64 64 64 64 128 rfl rfl rfl (by omega) (by omega)), by8 (128 + m % 64) (i2 128 64 64 128 rfl rfl (by omega) (by omega))]
    unfold Utf8.encode
    simp only [hv, if_true, Int.toNat_natCast]
    rw [if_neg (by omega), if_neg (by omega), if_pos (by omega)]
  · iterate 2 (refine wpL_region Tryd.tyOk (by decide) ?_; simp only [go_sem, ↓reduceIte, Nat.reduceEqDiff, Nat.reduceAdd, Nat.reduceLeDiff, Nat.reduceMul, Nat.reducePow, Nat.reduceLT, Nat.reduceSub, Int.reduceEq, Int.reduceLT, Int.reduceLE, Int.reduceNeg, Int.reduceToNat, Int.cast_ofNat_Int, c1, decide_false])
    refine wpL_cond (t := false) (by simp only [go_sem, ↓reduceIte, Nat.reduceEqDiff]) (fun h => Bool.noConfusion h) (fun _ => ?_)
    try simp only [go_sem, ↓reduceIte, Nat.reduceEqDiff]
    refine wpL_skip ?_
    refine wpL_region Tryd.tyOk (by decide) ?_
    simp only [go_sem, ↓reduceIte, Nat.reduceEqDiff, Nat.reduceAdd, Nat.reduceLeDiff, Nat.reduceMul, Nat.reducePow, Nat.reduceLT, Nat.reduceSub, Int.reduceEq, Int.reduceLT, Int.reduceLE, Int.reduceNeg, Int.reduceToNat, Int.cast_ofNat_Int, c2, decide_false]
    refine wpL_cond (t := false) (by simp only [go_sem, ↓reduceIte, Nat.reduceEqDiff]) (fun h => Bool.noConfusion h) (fun _ => ?_)
    try simp only [go_sem, ↓reduceIte, Nat.reduceEqDiff]
    refine wpL_skip ?_
    refine wpL_region Tryd.tyOk (by decide) ?_
    simp only [go_sem, ↓reduceIte, Nat.reduceEqDiff, Nat.reduceAdd, Nat.reduceLeDiff, Nat.reduceMul, Nat.reducePow, Nat.reduceLT, Nat.reduceSub, Int.reduceEq, Int.reduceLT, Int.reduceLE, Int.reduceNeg, Int.reduceToNat, Int.cast_ofNat_Int, c3, decide_false]
    refine wpL_cond (t := false) (by simp only [go_sem, ↓reduceIte, Nat.reduceEqDiff]) (fun h => Bool.noConfusion h) (fun _ => ?_)
    try simp only [go_sem, ↓reduceIte, Nat.reduceEqDiff]
    refine wpL_skip ?_
    refine wpL_region Tryd.tyOk (by decide) ?_
    simp only [go_sem, ↓reduceIte, Nat.reduceEqDiff, Nat.reduceAdd, Nat.reduceLeDiff, Nat.reduceMul, Nat.reducePow, Nat.reduceLT, Nat.reduceSub, Int.reduceEq, Int.reduceLT, Int.reduceLE, Int.reduceNeg, Int.reduceToNat, Int.cast_ofNat_Int]
    refine wpL_ret ?_
    rw [← hBQ]
    try simp only [go_sem, ↓reduceIte, Nat.reduceEqDiff]
    refine congrArg (fun b => DC.sc (Value.string b)) ?_
    show (⟨#[byteD _, byteD _, byteD _, byteD _]⟩ : ByteArray) = _
    rw [by8 (240 + m / 262144) (i1 240 262144 262144 240 rfl rfl (by omega) (by omega)), by8 (128 + m / 4096 % 64) (i3 128 4096 64 4096 64 128 rfl rfl rfl (by omega) (by omega)), by8 (128 + m / 64 % 64) (i3 128 64 64 64 64 128 rfl rfl rfl (by omega) (by omega)), by8 (128 + m % 64) (i2 128 64 64 128 rfl rfl (by omega) (by omega))]
    unfold Utf8.encode
    simp only [hv, if_true, Int.toNat_natCast]
    rw [if_neg (by omega), if_neg (by omega), if_neg (by omega)]
end Go.Proofs.YtldgcpdpebhndaaDoor
