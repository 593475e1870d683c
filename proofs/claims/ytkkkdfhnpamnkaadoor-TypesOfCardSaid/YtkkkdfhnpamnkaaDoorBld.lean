/-
  The methods of strings.Builder that this program calls, as calls on the caller's own rows.
-/
import Derived.Test.YtkkkdfhnpamnkaaDoorAbsZ
import Derived.Test.YtkkkdfhnpamnkaaDoorCc
import Derived.Test.YtkkkdfhnpamnkaaDoorBLay
set_option linter.unusedSimpArgs false
set_option linter.unusedVariables false
set_option maxRecDepth 100000
set_option maxHeartbeats 4000000
namespace Go.Proofs
open Go.Abs Go

theorem Tryd.ccM {s : ASt} {b : Nat} {x0 x1 : AC} (hb : find s.rows b = some (.box 65 [x0, x1])) (h0 : x0 = .d (.sc (.pointer none)) ∨ x0 = .ptr b 0) :
    Meth Tryd.prog 72 s [.c (.ptr b 0)] (s.used b 65 x1) (.tup []) :=
  Meth.copyCheck (enters_of Tryd.func72 (by kernel_rfl) rfl) Tryd.cc_used Tryd.cc_fresh hb h0

theorem Tryd.bldX : Builder.Extra Tryd.prog Tryd.lays169_ren where
  sizeBuilder := by kernel_rfl
  liesBuilder := by kernel_rfl
  t5 := Tryd.underlying5
  a5 := Tryd.isAgg5
  z5 := Tryd.sizeOf5
  v5 := Tryd.zeroValue5
  infoByte := by kernel_rfl
  cellsByte := by kernel_rfl
  sizeByte := by kernel_rfl
  neB5 := by decide

theorem Tryd.strM {s : ASt} {b k : Nat} {x0 : AC} {l : List UInt8} {fl : Bool} (hb : find s.rows b = some (.box 65 [x0, .row k])) (h0 : x0 = .d (.sc (.pointer none)) ∨ x0 = .ptr b 0)
    (hk : find s.rows k = some (.arr 5 1 (bytesD l) fl)) : Meth Tryd.prog 64 s [.c (.ptr b 0)] s.flatT (sstr ⟨l.toArray⟩) :=
  Meth.string Tryd.lays169 Tryd.bldX hb h0 hk

theorem Tryd.wsM {s : ASt} {b k : Nat} {x0 : AC} {l : List UInt8} (c : ByteArray) (hb : find s.rows b = some (.box 65 [x0, .row k])) (h0 : x0 = .d (.sc (.pointer none)) ∨ x0 = .ptr b 0)
    (hk : find s.rows k = some (.arr 5 1 (bytesD l) false)) (hok : okI 2000000 s [.c (.ptr b 0), sstr c])
    (hlen : l.length + c.size ≤ 1099511627776) : Meth Tryd.prog 63 s [.c (.ptr b 0), sstr c] (s.wrote b k 65 5 (bytesD (l ++ c.data.toList))) (.tup [sint .i64 c.size, .any]) := by
  have hbk : b ≠ k := fun e => by subst e; rw [hb] at hk; cases hk
  have hx0 : ∀ id, b ≠ id → x0.ment id = false := fun id hid => by rcases h0 with rfl | rfl <;> simp [ment_d, ment_ptr, hid]
  have hxk := hx0 k hbk
  refine Meth.writer 2000000 [] Tryd.tyOk Tryd.func63 (by kernel_rfl) rfl (by simp [Tryd.ntmps63]) hb hk (fun id => by simp [AV.ment, mentL, sint, ment_d]) hok rfl (fun R hR _ => ?_)
  simp only [go_sem, ↓reduceIte, Nat.reduceEqDiff, Nat.reduceAdd, Nat.reduceLeDiff, Nat.reduceMul, Nat.reducePow, Nat.reduceLT, Nat.reduceSub, Int.reduceEq, Int.reduceLT, Int.reduceLE, Int.reduceNeg, Int.reduceToNat, Int.cast_ofNat_Int]
  simp only [Tryd.ntmps63, Tryd.results63, List.map_cons, List.map_nil]
  generalize hBQ : wrQ _ _ _ _ _ _ _ _ _ _ = BQ
  iterate 2 (refine wpL_region Tryd.tyOk (by decide) ?_; simp only [go_sem, ↓reduceIte, Nat.reduceEqDiff, Nat.reduceAdd, Nat.reduceLeDiff, Nat.reduceMul, Nat.reducePow, Nat.reduceLT, Nat.reduceSub, Int.reduceEq, Int.reduceLT, Int.reduceLE, Int.reduceNeg, Int.reduceToNat, Int.cast_ofNat_Int])
  refine ⟨_, _, Tryd.ccM find_set_eq h0, ?_⟩
  simp only [go_sem, ↓reduceIte, Nat.reduceEqDiff, Nat.reduceAdd, Nat.reduceLeDiff, Nat.reduceMul, Nat.reducePow, Nat.reduceLT, Nat.reduceSub, Int.reduceEq, Int.reduceLT, Int.reduceLE, Int.reduceNeg, Int.reduceToNat, Int.cast_ofNat_Int]
  refine wpL_region Tryd.tyOk (by decide) ?_
  simp only [go_sem, ↓reduceIte, Nat.reduceEqDiff, Nat.reduceAdd, Nat.reduceLeDiff, Nat.reduceMul, Nat.reducePow, Nat.reduceLT, Nat.reduceSub, Int.reduceEq, Int.reduceLT, Int.reduceLE, Int.reduceNeg, Int.reduceToNat, Int.cast_ofNat_Int, hbk, hbk.symm, hxk]
  refine ⟨⟨by simp [bytesD]; omega, by simp [bytesD]⟩, ?_⟩
  refine wpL_region Tryd.tyOk (by decide) ?_
  simp only [go_sem, ↓reduceIte, Nat.reduceEqDiff, Nat.reduceAdd, Nat.reduceLeDiff, Nat.reduceMul, Nat.reducePow, Nat.reduceLT, Nat.reduceSub, Int.reduceEq, Int.reduceLT, Int.reduceLE, Int.reduceNeg, Int.reduceToNat, Int.cast_ofNat_Int]
  refine wpL_ret ?_
  try simp only [go_sem, ↓reduceIte, Nat.reduceEqDiff]
  rw [← hBQ]
  simp only [go_sem, ↓reduceIte, Nat.reduceEqDiff, Nat.reduceAdd, Nat.reduceLeDiff, Nat.reduceMul, Nat.reducePow, Nat.reduceLT, Nat.reduceSub, Int.reduceEq, Int.reduceLT, Int.reduceLE, Int.reduceNeg, Int.reduceToNat, Int.cast_ofNat_Int, wrQ]
  refine ⟨[(b, _), (b, _), (k, _)], by simp only [bytesD, List.map_append]; rfl, by simp⟩

end Go.Proofs
