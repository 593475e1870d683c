/-
  Literals: WriteRune, walked in place at the one call of it.
-/
import Derived.Test.YtldgcpdpebhndaaDoorW13
import Derived.Test.YtldgcpdpebhndaaDoorAbsZD
set_option linter.unusedSimpArgs false
set_option linter.unusedVariables false
set_option maxRecDepth 100000
set_option maxHeartbeats 4000000
namespace Go.Proofs.YtldgcpdpebhndaaDoor
open Go.Abs Go

/-- The state of Unquote at a character to be written. -/
def unqT (S : ByteArray) (r e : Nat) : List (Nat × AV) := [(43, sint .i32 (r : Nat)), (8, sint .i32 (r : Nat)), (9, sint .i64 (e : Nat)), (0, .c (.d (.sc (.string S)))), (5, .c (.ptr 5 0)), (19, .c (.ptr 19 0))]
def unqR (S : ByteArray) (p : Nat) (x0 : AC) (out : List UInt8) : List (Nat × ARow) := [(19, .iter S p), (5, .box 39 [x0, .row 500]), (500, .arr 5 1 (bytesD out) false)]
def unqG (E : Nat → Value) (S : ByteArray) (r e p : Nat) : List (Nat × ARow) := [(2000043, .ghost (E 43) (sint .i32 (r : Nat))), (2000008, .ghost (E 8) (sint .i32 (r : Nat))), (2000009, .ghost (E 9) (sint .i64 (e : Nat))), (2000000, .ghost (E 0) (.c (.d (.sc (.string S))))), (2000005, .ghost (E 5) (.c (.ptr 5 0))), (2000019, .ghost (E 19) (.c (.ptr 19 0))), (19, .iter S p)]
theorem or192 {x : Nat} (h : x < 32) : IntKind.u8.wrap ((BitVec.ofInt IntKind.u8.bits 192 ||| BitVec.ofInt IntKind.u8.bits (x : Int)).toNat : Int) = ((192 + x : Nat) : Int) := by
  have : ∀ k : Fin 32, IntKind.u8.wrap ((BitVec.ofInt IntKind.u8.bits 192 ||| BitVec.ofInt IntKind.u8.bits (k.val : Int)).toNat : Int) = ((192 + k.val : Nat) : Int) := by decide
  exact this ⟨x, h⟩
theorem or224 {x : Nat} (h : x < 16) : IntKind.u8.wrap ((BitVec.ofInt IntKind.u8.bits 224 ||| BitVec.ofInt IntKind.u8.bits (x : Int)).toNat : Int) = ((224 + x : Nat) : Int) := by
  have : ∀ k : Fin 16, IntKind.u8.wrap ((BitVec.ofInt IntKind.u8.bits 224 ||| BitVec.ofInt IntKind.u8.bits (k.val : Int)).toNat : Int) = ((224 + k.val : Nat) : Int) := by decide
  exact this ⟨x, h⟩
theorem or240 {x : Nat} (h : x < 8) : IntKind.u8.wrap ((BitVec.ofInt IntKind.u8.bits 240 ||| BitVec.ofInt IntKind.u8.bits (x : Int)).toNat : Int) = ((240 + x : Nat) : Int) := by
  have : ∀ k : Fin 8, IntKind.u8.wrap ((BitVec.ofInt IntKind.u8.bits 240 ||| BitVec.ofInt IntKind.u8.bits (k.val : Int)).toNat : Int) = ((240 + k.val : Nat) : Int) := by decide
  exact this ⟨x, h⟩
theorem or128 {x : Nat} (h : x < 64) : IntKind.u8.wrap ((BitVec.ofInt IntKind.u8.bits 128 ||| BitVec.ofInt IntKind.u8.bits (x : Int)).toNat : Int) = ((128 + x : Nat) : Int) := by
  have : ∀ k : Fin 64, IntKind.u8.wrap ((BitVec.ofInt IntKind.u8.bits 128 ||| BitVec.ofInt IntKind.u8.bits (k.val : Int)).toNat : Int) = ((128 + k.val : Nat) : Int) := by decide
  exact this ⟨x, h⟩
theorem and63 (y : Nat) : IntKind.u8.wrap ((BitVec.ofInt IntKind.u8.bits (IntKind.u8.wrap (y : Int)) &&& BitVec.ofInt IntKind.u8.bits 63).toNat : Int) = ((y % 64 : Nat) : Int) := by
  have h : ∀ k : Fin 256, IntKind.u8.wrap ((BitVec.ofInt IntKind.u8.bits (k.val : Int) &&& BitVec.ofInt IntKind.u8.bits 63).toNat : Int) = ((k.val % 64 : Nat) : Int) := by decide
  have hw : IntKind.u8.wrap (y : Int) = ((y % 256 : Nat) : Int) := by rw [IntKind.wrap_u8']; omega
  rw [hw, h ⟨y % 256, by omega⟩]
  show ((y % 256 % 64 : Nat) : Int) = _
  omega
theorem bD1 {v : Nat} (h : v < 256) : DC.sc (.int .u8 ((UInt8.ofNat v).toNat : Nat)) = DC.sc (.int .u8 (v : Nat)) := by
  rw [show (UInt8.ofNat v).toNat = v by simp; omega]
theorem enc1 (out : List UInt8) (r : Nat) (h : r < 128) : bytesD out ++ [[DC.sc (.int .u8 (r : Nat))]] = bytesD (out ++ (Utf8.encode r).data.toList) := by
  have hv : Utf8.valid (r : Int) = true := valid_of (isR_iff.2 (by omega))
  have he : (Utf8.encode (r : Int)).data.toList = [UInt8.ofNat r] := by
    unfold Utf8.encode
    simp only [hv, if_true, Int.toNat_natCast]
    rw [if_pos h]
  rw [he]
  simp only [bytesD, List.map_append, List.map_cons, List.map_nil, bD1 (show r < 256 by omega)]
theorem enc2 (out : List UInt8) (r : Nat) (h0 : ¬ r < 128) (h : r < 2048) : bytesD out ++ [[DC.sc (.int .u8 ((192 + r / 64 : Nat) : Int))], [DC.sc (.int .u8 ((128 + r % 64 : Nat) : Int))]] = bytesD (out ++ (Utf8.encode r).data.toList) := by
  have hv : Utf8.valid (r : Int) = true := valid_of (isR_iff.2 (by omega))
  have he : (Utf8.encode (r : Int)).data.toList = [UInt8.ofNat (192 + r / 64), UInt8.ofNat (128 + r % 64)] := by
    unfold Utf8.encode
    simp only [hv, if_true, Int.toNat_natCast]
    rw [if_neg h0, if_pos h]
  rw [he]
  simp only [bytesD, List.map_append, List.map_cons, List.map_nil, bD1 (show 192 + r / 64 < 256 by omega), bD1 (show 128 + r % 64 < 256 by omega)]
theorem enc3 (out : List UInt8) (r : Nat) (hr : isR r = true) (h0 : ¬ r < 2048) (h : r < 65536) : bytesD out ++ [[DC.sc (.int .u8 ((224 + r / 4096 : Nat) : Int))], [DC.sc (.int .u8 ((128 + r / 64 % 64 : Nat) : Int))], [DC.sc (.int .u8 ((128 + r % 64 : Nat) : Int))]] = bytesD (out ++ (Utf8.encode r).data.toList) := by
  have hv : Utf8.valid (r : Int) = true := valid_of hr
  have he : (Utf8.encode (r : Int)).data.toList = [UInt8.ofNat (224 + r / 4096), UInt8.ofNat (128 + r / 64 % 64), UInt8.ofNat (128 + r % 64)] := by
    unfold Utf8.encode
    simp only [hv, if_true, Int.toNat_natCast]
    rw [if_neg (by omega), if_neg h0, if_pos h]
  rw [he]
  simp only [bytesD, List.map_append, List.map_cons, List.map_nil, bD1 (show 224 + r / 4096 < 256 by omega), bD1 (show 128 + r / 64 % 64 < 256 by omega), bD1 (show 128 + r % 64 < 256 by omega)]
theorem enc4 (out : List UInt8) (r : Nat) (hr : isR r = true) (h0 : ¬ r < 65536) : bytesD out ++ [[DC.sc (.int .u8 ((240 + r / 262144 : Nat) : Int))], [DC.sc (.int .u8 ((128 + r / 4096 % 64 : Nat) : Int))], [DC.sc (.int .u8 ((128 + r / 64 % 64 : Nat) : Int))], [DC.sc (.int .u8 ((128 + r % 64 : Nat) : Int))]] = bytesD (out ++ (Utf8.encode r).data.toList) := by
  have hv : Utf8.valid (r : Int) = true := valid_of hr
  have hr' := isR_iff.1 hr
  have he : (Utf8.encode (r : Int)).data.toList = [UInt8.ofNat (240 + r / 262144), UInt8.ofNat (128 + r / 4096 % 64), UInt8.ofNat (128 + r / 64 % 64), UInt8.ofNat (128 + r % 64)] := by
    unfold Utf8.encode
    simp only [hv, if_true, Int.toNat_natCast]
    rw [if_neg (by omega), if_neg (by omega), if_neg h0]
  rw [he]
  simp only [bytesD, List.map_append, List.map_cons, List.map_nil, bD1 (show 240 + r / 262144 < 256 by omega), bD1 (show 128 + r / 4096 % 64 < 256 by omega), bD1 (show 128 + r / 64 % 64 < 256 by omega), bD1 (show 128 + r % 64 < 256 by omega)]
theorem wr24 (S : ByteArray) (r e p : Nat) (x0 : AC) (out : List UInt8) (hr : isR r = true) (h0 : x0 = .d (.sc (.pointer none)) ∨ x0 = .ptr 5 0) (hlen : out.length ≤ 100000000) :
    ∃ v, Meth Tryd.prog 24 ⟨unqT S r e, unqR S p x0 out⟩ [.c (.ptr 5 0), sint .i32 (r : Nat)] ⟨unqT S r e, unqR S p (.ptr 5 0) (out ++ (Utf8.encode r).data.toList)⟩ v := by
  have hx : ∀ id, ¬ 5 = id → x0.ment id = false := fun id hid => by rcases h0 with rfl | rfl <;> simp [ment_d, ment_ptr, hid]
  have hr' := isR_iff.1 hr
  have w32 : IntKind.u32.wrap (r : Int) = (r : Int) := by rw [IntKind.wrap_u32']; omega
  refine ⟨_, Meth.inl (v := .tup [sint .i64 (IntKind.i64.wrap (((bytesD (out ++ (Utf8.encode (r : Int)).data.toList)).length : Int) - (out.length : Int))), .any]) 2000000 Tryd.tyOk Tryd.func24 (by kernel_rfl) rfl (by simp [Tryd.ntmps24]) (by simp only [go_sem, ↓reduceIte, Nat.reduceEqDiff, Nat.reduceAdd, Nat.reduceLeDiff, Nat.reduceMul, Nat.reducePow, Nat.reduceLT, Nat.reduceSub, Int.reduceEq, Int.reduceLT, Int.reduceLE, Int.reduceNeg, Int.reduceToNat, Int.cast_ofNat_Int, unqT, unqR, hx]) (fun E => ?_)⟩
  simp only [go_sem, ↓reduceIte, Nat.reduceEqDiff, Nat.reduceAdd, Nat.reduceLeDiff, Nat.reduceMul, Nat.reducePow, Nat.reduceLT, Nat.reduceSub, Int.reduceEq, Int.reduceLT, Int.reduceLE, Int.reduceNeg, Int.reduceToNat, Int.cast_ofNat_Int, unqT, unqR]
  simp only [Tryd.ntmps24, Tryd.results24, List.map_cons, List.map_nil]
  generalize hBQ : inlQ _ _ _ _ _ _ _ = BQ
  iterate 2 (refine wpL_region Tryd.tyOk (by decide) ?_; simp only [go_sem, ↓reduceIte, Nat.reduceEqDiff, Nat.reduceAdd, Nat.reduceLeDiff, Nat.reduceMul, Nat.reducePow, Nat.reduceLT, Nat.reduceSub, Int.reduceEq, Int.reduceLT, Int.reduceLE, Int.reduceNeg, Int.reduceToNat, Int.cast_ofNat_Int])
  refine ⟨_, _, Tryd.ccM (by rfl) h0, ?_⟩
  simp only [go_sem, ↓reduceIte, Nat.reduceEqDiff, Nat.reduceAdd, Nat.reduceLeDiff, Nat.reduceMul, Nat.reducePow, Nat.reduceLT, Nat.reduceSub, Int.reduceEq, Int.reduceLT, Int.reduceLE, Int.reduceNeg, Int.reduceToNat, Int.cast_ofNat_Int]
  refine wpL_region Tryd.tyOk (by decide) ?_
  simp only [go_sem, ↓reduceIte, Nat.reduceEqDiff, Nat.reduceAdd, Nat.reduceLeDiff, Nat.reduceMul, Nat.reducePow, Nat.reduceLT, Nat.reduceSub, Int.reduceEq, Int.reduceLT, Int.reduceLE, Int.reduceNeg, Int.reduceToNat, Int.cast_ofNat_Int]
  refine wpL_weaken (s' := ⟨[(6, sint .i64 (out.length : Nat)), (0, .c (.ptr 5 0)), (1, sint .i32 (r : Nat))], [(5, .box 39 [.ptr 5 0, .row 500]), (500, .arr 5 1 (bytesD out) false), (2000043, .ghost (E 43) (sint .i32 (r : Nat))), (2000008, .ghost (E 8) (sint .i32 (r : Nat))), (2000009, .ghost (E 9) (sint .i64 (e : Nat))), (2000000, .ghost (E 0) (.c (.d (.sc (.string S))))), (2000005, .ghost (E 5) (.c (.ptr 5 0))), (2000019, .ghost (E 19) (.c (.ptr 19 0))), (19, .iter S p)]⟩) ?_ ?_
  · refine le_mk ?_ ?_ ?_ <;> (simp only [go_sem, ↓reduceIte, Nat.reduceEqDiff]; try simp [eInt, eRune, eByte, eStr, rBool, rInt, rStr, rTwo, rTrip, eInt, bytesD]; try simp (disch := omega) only [IntWalk.i64_in, and_self])
  refine wpL_meth Tryd.tyOk 6 rfl rfl rfl (by decide) (fun K hK => ?_)
  simp only [go_sem, ↓reduceIte, Nat.reduceEqDiff, Nat.reduceAdd, Nat.reduceLeDiff, Nat.reduceMul, Nat.reducePow, Nat.reduceLT, Nat.reduceSub, Int.reduceEq, Int.reduceLT, Int.reduceLE, Int.reduceNeg, Int.reduceToNat, Int.cast_ofNat_Int]
  refine hK _ 31 [.c (.row 500), sint .i32 (r : Nat)] _ _ (by simp only [go_sem, ↓reduceIte, Nat.reduceEqDiff, Nat.reduceAdd, Nat.reduceLeDiff, Nat.reduceMul, Nat.reducePow, Nat.reduceLT, Nat.reduceSub, Int.reduceEq, Int.reduceLT, Int.reduceLE, Int.reduceNeg, Int.reduceToNat, Int.cast_ofNat_Int]) (Meth.inl (s' := ⟨[(14, .c (.ptr 5 0)), (6, sint .i64 (out.length : Nat)), (0, .c (.ptr 5 0)), (1, sint .i32 (r : Nat))], [(500, .arr 5 1 (bytesD (out ++ (Utf8.encode r).data.toList)) false), (5, .box 39 [.ptr 5 0, .dead]), (2000043, .ghost (E 43) (sint .i32 (r : Nat))), (2000008, .ghost (E 8) (sint .i32 (r : Nat))), (2000009, .ghost (E 9) (sint .i64 (e : Nat))), (2000000, .ghost (E 0) (.c (.d (.sc (.string S))))), (2000005, .ghost (E 5) (.c (.ptr 5 0))), (2000019, .ghost (E 19) (.c (.ptr 19 0))), (19, .iter S p)]⟩) (v := .c (.row 500)) 3000000 Tryd.tyOk Tryd.func31 (by kernel_rfl) rfl (by simp [Tryd.ntmps31]) (by simp only [go_sem, ↓reduceIte, Nat.reduceEqDiff, Nat.reduceAdd, Nat.reduceLeDiff, Nat.reduceMul, Nat.reducePow, Nat.reduceLT, Nat.reduceSub, Int.reduceEq, Int.reduceLT, Int.reduceLE, Int.reduceNeg, Int.reduceToNat, Int.cast_ofNat_Int]) (fun E2 => ?_)) ?_
  · clear hK
    simp only [go_sem, ↓reduceIte, Nat.reduceEqDiff, Nat.reduceAdd, Nat.reduceLeDiff, Nat.reduceMul, Nat.reducePow, Nat.reduceLT, Nat.reduceSub, Int.reduceEq, Int.reduceLT, Int.reduceLE, Int.reduceNeg, Int.reduceToNat, Int.cast_ofNat_Int]
    simp only [Tryd.ntmps31, Tryd.results31, List.map_cons, List.map_nil]
    generalize hBA : inlQ _ _ _ _ _ _ _ = BA
    iterate 2 (refine wpL_region Tryd.tyOk (by decide) ?_; simp only [go_sem, ↓reduceIte, Nat.reduceEqDiff, Nat.reduceAdd, Nat.reduceLeDiff, Nat.reduceMul, Nat.reducePow, Nat.reduceLT, Nat.reduceSub, Int.reduceEq, Int.reduceLT, Int.reduceLE, Int.reduceNeg, Int.reduceToNat, Int.cast_ofNat_Int, w32])
    by_cases c1 : r ≤ 127
    · refine wpL_cond (t := true) (by simp only [go_sem, ↓reduceIte, Nat.reduceEqDiff, eq_true (show (r : Int) ≤ 127 by omega), decide_true]) (fun _ => ?_) (fun h => Bool.noConfusion h)
      try simp only [go_sem, ↓reduceIte, Nat.reduceEqDiff]
      have w8 : IntKind.u8.wrap (r : Int) = (r : Int) := by rw [IntKind.wrap_u8']; omega
      have hbe := enc1 out r (by omega)
      refine wpL_region Tryd.tyOk (by decide) ?_
      simp only [go_sem, ↓reduceIte, Nat.reduceEqDiff, Nat.reduceAdd, Nat.reduceLeDiff, Nat.reduceMul, Nat.reducePow, Nat.reduceLT, Nat.reduceSub, Int.reduceEq, Int.reduceLT, Int.reduceLE, Int.reduceNeg, Int.reduceToNat, Int.cast_ofNat_Int, w8]
      refine ⟨⟨by simp [bytesD]; omega, by simp⟩, ?_⟩
      refine wpL_ret ?_
      rw [← hBA]
      try simp only [go_sem, ↓reduceIte, Nat.reduceEqDiff, hbe, Nat.add_zero]
    refine wpL_cond (t := false) (by simp only [go_sem, ↓reduceIte, Nat.reduceEqDiff, eq_false (show ¬ (r : Int) ≤ 127 by omega), decide_false]) (fun h => Bool.noConfusion h) (fun _ => ?_)
    try simp only [go_sem, ↓reduceIte, Nat.reduceEqDiff]
    refine wpL_skip ?_
    refine wpL_weaken (s' := ⟨[(0, .c (.row 500)), (1, sint .i32 (r : Nat))], [(3000014, .ghost (E2 14) (.c (.ptr 5 0))), (3000006, .ghost (E2 6) (sint .i64 (out.length : Nat))), (3000000, .ghost (E2 0) (.c (.ptr 5 0))), (3000001, .ghost (E2 1) (sint .i32 (r : Nat))), (5, .box 39 [.ptr 5 0, .row 500]), (500, .arr 5 1 (bytesD out) false), (2000043, .ghost (E 43) (sint .i32 (r : Nat))), (2000008, .ghost (E 8) (sint .i32 (r : Nat))), (2000009, .ghost (E 9) (sint .i64 (e : Nat))), (2000000, .ghost (E 0) (.c (.d (.sc (.string S))))), (2000005, .ghost (E 5) (.c (.ptr 5 0))), (2000019, .ghost (E 19) (.c (.ptr 19 0))), (19, .iter S p)]⟩) ?_ ?_
    · refine le_mk ?_ ?_ ?_ <;> (simp only [go_sem, ↓reduceIte, Nat.reduceEqDiff]; try simp [eInt, eRune, eByte, eStr, rBool, rInt, rStr, rTwo, rTrip, eInt]; try simp (disch := omega) only [IntWalk.i64_in, and_self])
    refine wpL_meth Tryd.tyOk 2 rfl rfl rfl (by decide) (fun K hK => ?_)
    simp only [go_sem, ↓reduceIte, Nat.reduceEqDiff, Nat.reduceAdd, Nat.reduceLeDiff, Nat.reduceMul, Nat.reducePow, Nat.reduceLT, Nat.reduceSub, Int.reduceEq, Int.reduceLT, Int.reduceLE, Int.reduceNeg, Int.reduceToNat, Int.cast_ofNat_Int]
    refine hK _ 37 [.c (.row 500), sint .i32 (r : Nat)] _ _ (by simp only [go_sem, ↓reduceIte, Nat.reduceEqDiff, Nat.reduceAdd, Nat.reduceLeDiff, Nat.reduceMul, Nat.reducePow, Nat.reduceLT, Nat.reduceSub, Int.reduceEq, Int.reduceLT, Int.reduceLE, Int.reduceNeg, Int.reduceToNat, Int.cast_ofNat_Int]) (Meth.inl (s' := ⟨[], [(500, .arr 5 1 (bytesD (out ++ (Utf8.encode r).data.toList)) false), (3000014, .ghost (E2 14) (.c (.ptr 5 0))), (3000006, .ghost (E2 6) (sint .i64 (out.length : Nat))), (3000000, .ghost (E2 0) (.c (.ptr 5 0))), (3000001, .ghost (E2 1) (sint .i32 (r : Nat))), (5, .box 39 [.ptr 5 0, .dead]), (2000043, .ghost (E 43) (sint .i32 (r : Nat))), (2000008, .ghost (E 8) (sint .i32 (r : Nat))), (2000009, .ghost (E 9) (sint .i64 (e : Nat))), (2000000, .ghost (E 0) (.c (.d (.sc (.string S))))), (2000005, .ghost (E 5) (.c (.ptr 5 0))), (2000019, .ghost (E 19) (.c (.ptr 19 0))), (19, .iter S p)]⟩) (v := .c (.row 500)) 4000000 Tryd.tyOk Tryd.func37 (by kernel_rfl) rfl (by simp [Tryd.ntmps37]) (by simp only [go_sem, ↓reduceIte, Nat.reduceEqDiff, Nat.reduceAdd, Nat.reduceLeDiff, Nat.reduceMul, Nat.reducePow, Nat.reduceLT, Nat.reduceSub, Int.reduceEq, Int.reduceLT, Int.reduceLE, Int.reduceNeg, Int.reduceToNat, Int.cast_ofNat_Int]) (fun E3 => ?_)) ?_
    · clear hK
      simp only [go_sem, ↓reduceIte, Nat.reduceEqDiff, Nat.reduceAdd, Nat.reduceLeDiff, Nat.reduceMul, Nat.reducePow, Nat.reduceLT, Nat.reduceSub, Int.reduceEq, Int.reduceLT, Int.reduceLE, Int.reduceNeg, Int.reduceToNat, Int.cast_ofNat_Int]
      simp only [Tryd.ntmps37, Tryd.results37, List.map_cons, List.map_nil]
      generalize hBN : inlQ _ _ _ _ _ _ _ = BN
      iterate 2 (refine wpL_region Tryd.tyOk (by decide) ?_; simp only [go_sem, ↓reduceIte, Nat.reduceEqDiff, Nat.reduceAdd, Nat.reduceLeDiff, Nat.reduceMul, Nat.reducePow, Nat.reduceLT, Nat.reduceSub, Int.reduceEq, Int.reduceLT, Int.reduceLE, Int.reduceNeg, Int.reduceToNat, Int.cast_ofNat_Int, w32])
      refine wpL_block ?_
      generalize hB0 : blockQ _ _ _ = B0
      simp only [go_sem, ↓reduceIte, Nat.reduceEqDiff]
      refine wpL_region Tryd.tyOk (by decide) ?_
      simp only [go_sem, ↓reduceIte, Nat.reduceEqDiff, Nat.reduceAdd, Nat.reduceLeDiff, Nat.reduceMul, Nat.reducePow, Nat.reduceLT, Nat.reduceSub, Int.reduceEq, Int.reduceLT, Int.reduceLE, Int.reduceNeg, Int.reduceToNat, Int.cast_ofNat_Int]
      by_cases c2 : r ≤ 2047
      · refine wpL_cond (t := true) (by simp only [go_sem, ↓reduceIte, Nat.reduceEqDiff, eq_true (show (r : Int) ≤ 2047 by omega), decide_true]) (fun _ => ?_) (fun h => Bool.noConfusion h)
        try simp only [go_sem, ↓reduceIte, Nat.reduceEqDiff]
        have o1 := or192 (x := r / 64) (by omega)
        have o2 := or128 (x := r % 64) (by omega)
        have a1 := and63 r
        have sh : (r : Int).fdiv (2 ^ min 6 32) = ((r / 64 : Nat) : Int) := Int.fdiv_eq_ediv_of_nonneg _ (by decide)
        have w1 : IntKind.u8.wrap ((r / 64 : Nat) : Int) = ((r / 64 : Nat) : Int) := by rw [IntKind.wrap_u8']; omega
        have hbe := enc2 out r (by omega) (by omega)
        simp only [go_sem] at o1 o2 a1
        refine wpL_region Tryd.tyOk (by decide) ?_
        simp only [go_sem, ↓reduceIte, Nat.reduceEqDiff, Nat.reduceAdd, Nat.reduceLeDiff, Nat.reduceMul, Nat.reducePow, Nat.reduceLT, Nat.reduceSub, Int.reduceEq, Int.reduceLT, Int.reduceLE, Int.reduceNeg, Int.reduceToNat, Int.cast_ofNat_Int, sh, w1, a1, o1, o2]
        refine ⟨⟨by simp [bytesD]; omega, by simp⟩, ?_⟩
        refine wpL_ret ?_
        rw [← hB0]
        try simp only [go_sem, ↓reduceIte, Nat.reduceEqDiff, hbe, Nat.add_zero]
        rw [← hBN]
        try simp only [go_sem, ↓reduceIte, Nat.reduceEqDiff, hbe, Nat.add_zero]
      refine wpL_cond (t := false) (by simp only [go_sem, ↓reduceIte, Nat.reduceEqDiff, eq_false (show ¬ (r : Int) ≤ 2047 by omega), decide_false]) (fun h => Bool.noConfusion h) (fun _ => ?_)
      simp only [go_sem, ↓reduceIte, Nat.reduceEqDiff, Nat.reduceAdd, Nat.reduceLeDiff, Nat.reduceMul, Nat.reducePow, Nat.reduceLT, Nat.reduceSub, Int.reduceEq, Int.reduceLT, Int.reduceLE, Int.reduceNeg, Int.reduceToNat, Int.cast_ofNat_Int]
      refine wpL_region Tryd.tyOk (by decide) ?_
      simp only [go_sem, ↓reduceIte, Nat.reduceEqDiff, Nat.reduceAdd, Nat.reduceLeDiff, Nat.reduceMul, Nat.reducePow, Nat.reduceLT, Nat.reduceSub, Int.reduceEq, Int.reduceLT, Int.reduceLE, Int.reduceNeg, Int.reduceToNat, Int.cast_ofNat_Int]
      refine wpL_to ⟨[(25, .c (.d (.sc (.bool (decide (r ≤ 65535)))))), (5, .c (.d (.sc (.int .u32 (r : Nat))))), (0, .c (.row 500)), (1, sint .i32 (r : Nat))], [(3000014, .ghost (E2 14) (.c (.ptr 5 0))), (3000006, .ghost (E2 6) (sint .i64 (out.length : Nat))), (3000000, .ghost (E2 0) (.c (.ptr 5 0))), (3000001, .ghost (E2 1) (sint .i32 (r : Nat))), (5, .box 39 [.ptr 5 0, .row 500]), (500, .arr 5 1 (bytesD out) false), (2000043, .ghost (E 43) (sint .i32 (r : Nat))), (2000008, .ghost (E 8) (sint .i32 (r : Nat))), (2000009, .ghost (E 9) (sint .i64 (e : Nat))), (2000000, .ghost (E 0) (.c (.d (.sc (.string S))))), (2000005, .ghost (E 5) (.c (.ptr 5 0))), (2000019, .ghost (E 19) (.c (.ptr 19 0))), (19, .iter S p)]⟩ ?_ ?_
      · by_cases c3 : r < 55296
        · refine wpL_cond (t := true) (by simp only [go_sem, ↓reduceIte, Nat.reduceEqDiff, eq_true (show (r : Int) < 55296 by omega), decide_true]) (fun _ => ?_) (fun h => Bool.noConfusion h)
          try simp only [go_sem, ↓reduceIte, Nat.reduceEqDiff]
          refine wpL_skip ?_
          try simp only [go_sem, ↓reduceIte, Nat.reduceEqDiff]
          refine le_mk ?_ ?_ ?_ <;> (simp only [go_sem, ↓reduceIte, Nat.reduceEqDiff]; try simp [eInt, eRune, eByte, eStr, rBool, rInt, rStr, rTwo, rTrip, eInt, eq_true (show (r : Int) < 55296 by omega), eq_true (show r ≤ 65535 by omega)]; try simp (disch := omega) only [IntWalk.i64_in, and_self])
        · refine wpL_cond (t := false) (by simp only [go_sem, ↓reduceIte, Nat.reduceEqDiff, eq_false (show ¬ (r : Int) < 55296 by omega), decide_false]) (fun h => Bool.noConfusion h) (fun _ => ?_)
          try simp only [go_sem, ↓reduceIte, Nat.reduceEqDiff]
          by_cases c4 : r ≤ 65535
          · refine wpL_region Tryd.tyOk (by decide) ?_
            simp only [go_sem, ↓reduceIte, Nat.reduceEqDiff, Nat.reduceAdd, Nat.reduceLeDiff, Nat.reduceMul, Nat.reducePow, Nat.reduceLT, Nat.reduceSub, Int.reduceEq, Int.reduceLT, Int.reduceLE, Int.reduceNeg, Int.reduceToNat, Int.cast_ofNat_Int, eq_true (show (57343 : Int) < (r : Int) by omega), eq_true (show (r : Int) ≤ 65535 by omega), decide_true]
            refine le_mk ?_ ?_ ?_ <;> (simp only [go_sem, ↓reduceIte, Nat.reduceEqDiff]; try simp [eInt, eRune, eByte, eStr, rBool, rInt, rStr, rTwo, rTrip, eInt, eq_true (show r ≤ 65535 by omega)]; try simp (disch := omega) only [IntWalk.i64_in, and_self])
          · refine wpL_region Tryd.tyOk (by decide) ?_
            simp only [go_sem, ↓reduceIte, Nat.reduceEqDiff, Nat.reduceAdd, Nat.reduceLeDiff, Nat.reduceMul, Nat.reducePow, Nat.reduceLT, Nat.reduceSub, Int.reduceEq, Int.reduceLT, Int.reduceLE, Int.reduceNeg, Int.reduceToNat, Int.cast_ofNat_Int, eq_true (show (57343 : Int) < (r : Int) by omega), eq_false (show ¬ (r : Int) ≤ 65535 by omega), decide_true, decide_false]
            refine le_mk ?_ ?_ ?_ <;> (simp only [go_sem, ↓reduceIte, Nat.reduceEqDiff]; try simp [eInt, eRune, eByte, eStr, rBool, rInt, rStr, rTwo, rTrip, eInt, eq_false (show ¬ r ≤ 65535 by omega)]; try simp (disch := omega) only [IntWalk.i64_in, and_self])
      have a1 := and63 r
      have a2 := and63 (r / 64)
      have a3 := and63 (r / 4096)
      have o4 := or128 (x := r % 64) (by omega)
      have o3 := or128 (x := r / 64 % 64) (by omega)
      have o2 := or128 (x := r / 4096 % 64) (by omega)
      have s6 : (r : Int).fdiv (2 ^ min 6 32) = ((r / 64 : Nat) : Int) := Int.fdiv_eq_ediv_of_nonneg _ (by decide)
      have s12 : (r : Int).fdiv (2 ^ min 12 32) = ((r / 4096 : Nat) : Int) := Int.fdiv_eq_ediv_of_nonneg _ (by decide)
      have s18 : (r : Int).fdiv (2 ^ min 18 32) = ((r / 262144 : Nat) : Int) := Int.fdiv_eq_ediv_of_nonneg _ (by decide)
      simp only [go_sem] at a1 a2 a3 o2 o3 o4
      by_cases c3 : r ≤ 65535
      · refine wpL_cond (t := true) (by simp only [go_sem, ↓reduceIte, Nat.reduceEqDiff, eq_true c3, decide_true]) (fun _ => ?_) (fun h => Bool.noConfusion h)
        have o1 := or224 (x := r / 4096) (by omega)
        have w1 : IntKind.u8.wrap ((r / 4096 : Nat) : Int) = ((r / 4096 : Nat) : Int) := by rw [IntKind.wrap_u8']; omega
        have hbe := enc3 out r hr (by omega) (by omega)
        simp only [go_sem] at o1
        try simp only [go_sem, ↓reduceIte, Nat.reduceEqDiff]
        refine wpL_region Tryd.tyOk (by decide) ?_
        simp only [go_sem, ↓reduceIte, Nat.reduceEqDiff, Nat.reduceAdd, Nat.reduceLeDiff, Nat.reduceMul, Nat.reducePow, Nat.reduceLT, Nat.reduceSub, Int.reduceEq, Int.reduceLT, Int.reduceLE, Int.reduceNeg, Int.reduceToNat, Int.cast_ofNat_Int, s6, s12, w1, a1, a2, o1, o3, o4]
        refine ⟨⟨by simp [bytesD]; omega, by simp⟩, ?_⟩
        refine wpL_ret ?_
        rw [← hB0]
        try simp only [go_sem, ↓reduceIte, Nat.reduceEqDiff, hbe, Nat.add_zero]
        rw [← hBN]
        try simp only [go_sem, ↓reduceIte, Nat.reduceEqDiff, hbe, Nat.add_zero]
      refine wpL_cond (t := false) (by simp only [go_sem, ↓reduceIte, Nat.reduceEqDiff, eq_false c3, decide_false]) (fun h => Bool.noConfusion h) (fun _ => ?_)
      try simp only [go_sem, ↓reduceIte, Nat.reduceEqDiff]
      refine wpL_region Tryd.tyOk (by decide) ?_
      simp only [go_sem, ↓reduceIte, Nat.reduceEqDiff, Nat.reduceAdd, Nat.reduceLeDiff, Nat.reduceMul, Nat.reducePow, Nat.reduceLT, Nat.reduceSub, Int.reduceEq, Int.reduceLT, Int.reduceLE, Int.reduceNeg, Int.reduceToNat, Int.cast_ofNat_Int, eq_true (show (r : Int) > 65535 by omega), eq_true (show (r : Int) ≤ 1114111 by omega), decide_true]
      refine wpL_cond (t := true) (by simp only [go_sem, ↓reduceIte, Nat.reduceEqDiff]) (fun _ => ?_) (fun h => Bool.noConfusion h)
      have o1 := or240 (x := r / 262144) (by omega)
      have w1 : IntKind.u8.wrap ((r / 262144 : Nat) : Int) = ((r / 262144 : Nat) : Int) := by rw [IntKind.wrap_u8']; omega
      have hbe := enc4 out r hr (by omega)
      simp only [go_sem] at o1
      try simp only [go_sem, ↓reduceIte, Nat.reduceEqDiff]
      refine wpL_region Tryd.tyOk (by decide) ?_
      simp only [go_sem, ↓reduceIte, Nat.reduceEqDiff, Nat.reduceAdd, Nat.reduceLeDiff, Nat.reduceMul, Nat.reducePow, Nat.reduceLT, Nat.reduceSub, Int.reduceEq, Int.reduceLT, Int.reduceLE, Int.reduceNeg, Int.reduceToNat, Int.cast_ofNat_Int, s6, s12, s18, w1, a1, a2, a3, o1, o2, o3, o4]
      refine ⟨⟨by simp [bytesD]; omega, by simp⟩, ?_⟩
      refine wpL_ret ?_
      rw [← hB0]
      try simp only [go_sem, ↓reduceIte, Nat.reduceEqDiff, hbe, Nat.add_zero]
      rw [← hBN]
      try simp only [go_sem, ↓reduceIte, Nat.reduceEqDiff, hbe, Nat.add_zero]
    simp only [go_sem, ↓reduceIte, Nat.reduceEqDiff, Nat.reduceAdd, Nat.reduceLeDiff, Nat.reduceMul, Nat.reducePow, Nat.reduceLT, Nat.reduceSub, Int.reduceEq, Int.reduceLT, Int.reduceLE, Int.reduceNeg, Int.reduceToNat, Int.cast_ofNat_Int]
    refine wpL_ret ?_
    rw [← hBA]
    try simp only [go_sem, ↓reduceIte, Nat.reduceEqDiff, Nat.add_zero]
  simp only [go_sem, ↓reduceIte, Nat.reduceEqDiff, Nat.reduceAdd, Nat.reduceLeDiff, Nat.reduceMul, Nat.reducePow, Nat.reduceLT, Nat.reduceSub, Int.reduceEq, Int.reduceLT, Int.reduceLE, Int.reduceNeg, Int.reduceToNat, Int.cast_ofNat_Int]
  refine wpL_region Tryd.tyOk (by decide) ?_
  simp only [go_sem, ↓reduceIte, Nat.reduceEqDiff, Nat.reduceAdd, Nat.reduceLeDiff, Nat.reduceMul, Nat.reducePow, Nat.reduceLT, Nat.reduceSub, Int.reduceEq, Int.reduceLT, Int.reduceLE, Int.reduceNeg, Int.reduceToNat, Int.cast_ofNat_Int]
  refine wpL_ret ?_
  rw [← hBQ]
  try simp only [go_sem, ↓reduceIte, Nat.reduceEqDiff, Nat.add_zero]
  done
end Go.Proofs.YtldgcpdpebhndaaDoor
