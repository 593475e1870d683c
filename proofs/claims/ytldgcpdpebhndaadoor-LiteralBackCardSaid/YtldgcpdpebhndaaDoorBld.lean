/-
  The methods of strings.Builder that this program calls, as calls on the caller's own rows.
-/
import Derived.Test.YtldgcpdpebhndaaDoorAbsZ
import Derived.Test.YtldgcpdpebhndaaDoorCc
import Derived.Test.YtldgcpdpebhndaaDoorBLay
set_option linter.unusedSimpArgs false
set_option linter.unusedVariables false
set_option maxRecDepth 100000
set_option maxHeartbeats 4000000
namespace Go.Proofs
open Go.Abs Go

theorem Tryd.ccM {s : ASt} {b : Nat} {x0 x1 : AC} (hb : find s.rows b = some (.box 39 [x0, x1])) (h0 : x0 = .d (.sc (.pointer none)) ∨ x0 = .ptr b 0) :
    Meth Tryd.prog 25 s [.c (.ptr b 0)] (s.used b 39 x1) (.tup []) :=
  Meth.copyCheck (enters_of Tryd.func25 (by kernel_rfl) rfl) Tryd.cc_used Tryd.cc_fresh hb h0

theorem Tryd.bldX : Builder.Extra Tryd.prog Tryd.lays169_ren where
  sizeBuilder := by kernel_rfl
  liesBuilder := by kernel_rfl
  t5 := Tryd.underlying5
  a5 := Tryd.isAgg5
  z5 := Tryd.sizeOf5
  v5 := Tryd.zeroValue5
  infoByte := by kernel_rfl
  cellsByte := by kernel_rfl
  sizeByte := by kernel_rfl
  neB5 := by decide

theorem Tryd.strM {s : ASt} {b k : Nat} {x0 : AC} {l : List UInt8} {fl : Bool} (hb : find s.rows b = some (.box 39 [x0, .row k])) (h0 : x0 = .d (.sc (.pointer none)) ∨ x0 = .ptr b 0)
    (hk : find s.rows k = some (.arr 5 1 (bytesD l) fl)) : Meth Tryd.prog 18 s [.c (.ptr b 0)] s.flatT (sstr ⟨l.toArray⟩) :=
  Meth.string Tryd.lays169 Tryd.bldX hb h0 hk

theorem Tryd.wbM {s : ASt} {b k : Nat} {x0 : AC} {l : List UInt8} (c : UInt8) (hb : find s.rows b = some (.box 39 [x0, .row k])) (h0 : x0 = .d (.sc (.pointer none)) ∨ x0 = .ptr b 0)
    (hk : find s.rows k = some (.arr 5 1 (bytesD l) false)) (hok : okI 2000000 s [.c (.ptr b 0), sint .u8 c.toNat]) (hex : ([13].all fun d => s.free d && s.tmps.all fun p => !decide (2000000 + p.1 = d)) = true)
    (hlen : l.length < 1099511627776) : Meth Tryd.prog 15 s [.c (.ptr b 0), sint .u8 c.toNat] (s.wrote b k 39 5 (bytesD (l ++ [c]))) .any := by
  have hbk : b ≠ k := fun e => by subst e; rw [hb] at hk; cases hk
  have hbd : s.free 13 = true := by simp only [List.all_cons, Bool.and_eq_true] at hex; exact hex.1.1
  have hb3 : b ≠ 13 := (find_free_row hbd hb).1
  have hk3 : k ≠ 13 := (find_free_row hbd hk).1
  refine Meth.writer 2000000 [13] Tryd.tyOk Tryd.func15 (by kernel_rfl) rfl (by simp [Tryd.ntmps15]) hb hk (fun id => by unfold AV.ment; rfl) hok hex (fun R hR _ => ?_)
  have hR3 := hR 13 (by simp)
  unfold freeR ARow.ment at hR3
  have hx0 : ∀ id, b ≠ id → x0.ment id = false := fun id hid => by rcases h0 with rfl | rfl <;> simp [ment_d, ment_ptr, hid]
  have hx3 := hx0 13 hb3
  have hxk := hx0 k hbk
  simp only [go_sem, ↓reduceIte, Nat.reduceEqDiff, Nat.reduceAdd, Nat.reduceLeDiff, Nat.reduceMul, Nat.reducePow, Nat.reduceLT, Nat.reduceSub, Int.reduceEq, Int.reduceLT, Int.reduceLE, Int.reduceNeg, Int.reduceToNat, Int.cast_ofNat_Int]
  simp only [Tryd.ntmps15, Tryd.results15, List.map_cons, List.map_nil]
  generalize hBQ : wrQ _ _ _ _ _ _ _ _ _ _ = BQ
  iterate 2 (refine wpL_region Tryd.tyOk (by decide) ?_; simp only [go_sem, ↓reduceIte, Nat.reduceEqDiff, Nat.reduceAdd, Nat.reduceLeDiff, Nat.reduceMul, Nat.reducePow, Nat.reduceLT, Nat.reduceSub, Int.reduceEq, Int.reduceLT, Int.reduceLE, Int.reduceNeg, Int.reduceToNat, Int.cast_ofNat_Int])
  refine ⟨_, _, Tryd.ccM find_set_eq h0, ?_⟩
  simp only [go_sem, ↓reduceIte, Nat.reduceEqDiff, Nat.reduceAdd, Nat.reduceLeDiff, Nat.reduceMul, Nat.reducePow, Nat.reduceLT, Nat.reduceSub, Int.reduceEq, Int.reduceLT, Int.reduceLE, Int.reduceNeg, Int.reduceToNat, Int.cast_ofNat_Int]
  refine wpL_region Tryd.tyOk (by decide) ?_
  simp only [go_sem, ↓reduceIte, Nat.reduceEqDiff, Nat.reduceAdd, Nat.reduceLeDiff, Nat.reduceMul, Nat.reducePow, Nat.reduceLT, Nat.reduceSub, Int.reduceEq, Int.reduceLT, Int.reduceLE, Int.reduceNeg, Int.reduceToNat, Int.cast_ofNat_Int, hbk, hbk.symm, hb3, hb3.symm, hk3, hk3.symm, hR3, hx3, hxk]
  refine ⟨⟨by simp [bytesD]; omega, by simp⟩, ?_⟩
  refine wpL_region Tryd.tyOk (by decide) ?_
  simp only [go_sem, ↓reduceIte, Nat.reduceEqDiff, Nat.reduceAdd, Nat.reduceLeDiff, Nat.reduceMul, Nat.reducePow, Nat.reduceLT, Nat.reduceSub, Int.reduceEq, Int.reduceLT, Int.reduceLE, Int.reduceNeg, Int.reduceToNat, Int.cast_ofNat_Int]
  refine wpL_ret ?_
  try simp only [go_sem, ↓reduceIte, Nat.reduceEqDiff]
  rw [← hBQ]
  simp only [go_sem, ↓reduceIte, Nat.reduceEqDiff, Nat.reduceAdd, Nat.reduceLeDiff, Nat.reduceMul, Nat.reducePow, Nat.reduceLT, Nat.reduceSub, Int.reduceEq, Int.reduceLT, Int.reduceLE, Int.reduceNeg, Int.reduceToNat, Int.cast_ofNat_Int, wrQ]
  refine ⟨[(13, _), (b, _), (b, _), (k, _)], by simp only [bytesD, List.map_append, List.map_cons, List.map_nil]; rfl, by simp⟩

theorem Tryd.wsM {s : ASt} {b k : Nat} {x0 : AC} {l : List UInt8} (c : ByteArray) (hb : find s.rows b = some (.box 39 [x0, .row k])) (h0 : x0 = .d (.sc (.pointer none)) ∨ x0 = .ptr b 0)
    (hk : find s.rows k = some (.arr 5 1 (bytesD l) false)) (hok : okI 2000000 s [.c (.ptr b 0), sstr c])
    (hlen : l.length + c.size ≤ 1099511627776) : Meth Tryd.prog 16 s [.c (.ptr b 0), sstr c] (s.wrote b k 39 5 (bytesD (l ++ c.data.toList))) (.tup [sint .i64 c.size, .any]) := by
  have hbk : b ≠ k := fun e => by subst e; rw [hb] at hk; cases hk
  have hx0 : ∀ id, b ≠ id → x0.ment id = false := fun id hid => by rcases h0 with rfl | rfl <;> simp [ment_d, ment_ptr, hid]
  have hxk := hx0 k hbk
  refine Meth.writer 2000000 [] Tryd.tyOk Tryd.func16 (by kernel_rfl) rfl (by simp [Tryd.ntmps16]) hb hk (fun id => by simp [AV.ment, mentL, sint, ment_d]) hok rfl (fun R hR _ => ?_)
  simp only [go_sem, ↓reduceIte, Nat.reduceEqDiff, Nat.reduceAdd, Nat.reduceLeDiff, Nat.reduceMul, Nat.reducePow, Nat.reduceLT, Nat.reduceSub, Int.reduceEq, Int.reduceLT, Int.reduceLE, Int.reduceNeg, Int.reduceToNat, Int.cast_ofNat_Int]
  simp only [Tryd.ntmps16, Tryd.results16, List.map_cons, List.map_nil]
  generalize hBQ : wrQ _ _ _ _ _ _ _ _ _ _ = BQ
  iterate 2 (refine wpL_region Tryd.tyOk (by decide) ?_; simp only [go_sem, ↓reduceIte, Nat.reduceEqDiff, Nat.reduceAdd, Nat.reduceLeDiff, Nat.reduceMul, Nat.reducePow, Nat.reduceLT, Nat.reduceSub, Int.reduceEq, Int.reduceLT, Int.reduceLE, Int.reduceNeg, Int.reduceToNat, Int.cast_ofNat_Int])
  refine ⟨_, _, Tryd.ccM find_set_eq h0, ?_⟩
  simp only [go_sem, ↓reduceIte, Nat.reduceEqDiff, Nat.reduceAdd, Nat.reduceLeDiff, Nat.reduceMul, Nat.reducePow, Nat.reduceLT, Nat.reduceSub, Int.reduceEq, Int.reduceLT, Int.reduceLE, Int.reduceNeg, Int.reduceToNat, Int.cast_ofNat_Int]
  refine wpL_region Tryd.tyOk (by decide) ?_
  simp only [go_sem, ↓reduceIte, Nat.reduceEqDiff, Nat.reduceAdd, Nat.reduceLeDiff, Nat.reduceMul, Nat.reducePow, Nat.reduceLT, Nat.reduceSub, Int.reduceEq, Int.reduceLT, Int.reduceLE, Int.reduceNeg, Int.reduceToNat, Int.cast_ofNat_Int, hbk, hbk.symm, hxk]
  refine ⟨⟨by simp [bytesD]; omega, by simp [bytesD]⟩, ?_⟩
  refine wpL_region Tryd.tyOk (by decide) ?_
  simp only [go_sem, ↓reduceIte, Nat.reduceEqDiff, Nat.reduceAdd, Nat.reduceLeDiff, Nat.reduceMul, Nat.reducePow, Nat.reduceLT, Nat.reduceSub, Int.reduceEq, Int.reduceLT, Int.reduceLE, Int.reduceNeg, Int.reduceToNat, Int.cast_ofNat_Int]
  refine wpL_ret ?_
  try simp only [go_sem, ↓reduceIte, Nat.reduceEqDiff]
  rw [← hBQ]
  simp only [go_sem, ↓reduceIte, Nat.reduceEqDiff, Nat.reduceAdd, Nat.reduceLeDiff, Nat.reduceMul, Nat.reducePow, Nat.reduceLT, Nat.reduceSub, Int.reduceEq, Int.reduceLT, Int.reduceLE, Int.reduceNeg, Int.reduceToNat, Int.cast_ofNat_Int, wrQ]
  refine ⟨[(b, _), (b, _), (k, _)], by simp only [bytesD, List.map_append]; rfl, by simp⟩

end Go.Proofs
