/-
  Literals: string literals are read back; character literals are read back.
-/
import Derived.Test.YtldgcpdpebhndaaDoorW21
set_option linter.unusedSimpArgs false
set_option linter.unusedVariables false
set_option maxRecDepth 100000
set_option maxHeartbeats 4000000
namespace Go.Proofs.YtldgcpdpebhndaaDoor
open Go.Abs Go

theorem dec_ascii {u : ByteArray} {i : Nat} (h : at' u i < 128) : Utf8.decode u i = (at' u i, 1) := by
  rw [Lib.decode_at]
  show Lib.decodeN _ (at' u i) _ _ _ = _
  unfold Lib.decodeN
  rw [if_pos h]
/-- A short form, read: the character, the place behind it, and that a walk by characters comes by that place. -/
structure Reads (u : ByteArray) (i n q len : Nat) : Prop where
  one : oneS u i = ((n : Int), ((i + len : Nat) : Int), 0)
  lt : i < u.size
  le : i + len ≤ u.size
  pos : 0 < len
  ne : at' u i ≠ q
  steps : (Utf8.decode u i).2 = len ∨ ∀ j, i ≤ j → j < i + len → at' u j < 128
theorem reads_lit {u : ByteArray} {i n q : Nat} (h1 : n = 10 ∨ n = 9 ∨ n = 13 ∨ n = 92 ∨ n = q) (hq : q = 34 ∨ q = 39) (h : has u i (sb n q)) : Reads u i n q (sb n q).length := by
  obtain ⟨c, e, hc⟩ := sb_lit h1 hq
  rw [e] at h ⊢
  obtain ⟨a1, a2⟩ := h 0 _ rfl
  obtain ⟨a3, a4⟩ := h 1 _ rfl
  rw [Nat.add_zero] at a1 a2
  have a2 : at' u i = 92 := a2
  have hone : oneS u i = ((n : Int), ((i + 2 : Nat) : Int), 0) := by
    rw [oneS, if_neg (by omega), if_pos a2, escS, if_neg (by omega), a4]
    rcases hc with ⟨rfl, k⟩ | ⟨rfl, k⟩ | ⟨rfl, k⟩ | ⟨rfl | rfl | rfl, k⟩ <;> rw [k] <;> rfl
  refine ⟨hone, a1, by show i + 2 ≤ _; omega, by simp, by omega, .inr fun j hj1 hj2 => ?_⟩
  have hj2 : j < i + 2 := hj2
  have : j = i ∨ j = i + 1 := by omega
  rcases this with rfl | rfl
  · omega
  · omega
theorem reads_hex {u : ByteArray} {i n q : Nat} (hr : isR n = true) (h1 : ¬ (n = 10 ∨ n = 9 ∨ n = 13 ∨ n = 92 ∨ n = q)) (hn : n < 32 ∨ n = 127) (hq : q = 34 ∨ q = 39) (h : has u i (sb n q)) : Reads u i n q (sb n q).length := by
  have e := sb_hex h1 hn
  rw [e] at h ⊢
  rw [List.append_assoc, has_app] at h
  obtain ⟨h, hx⟩ := h
  obtain ⟨a1, a2⟩ := h 0 _ rfl
  obtain ⟨a3, a4⟩ := h 1 _ rfl
  obtain ⟨a5, a6⟩ := h 2 _ rfl
  rw [Nat.add_zero] at a1 a2
  have a2 : at' u i = 92 := a2
  have a4 : at' u (i + 1) = 117 := a4
  have a6 : at' u (i + 2) = 123 := a6
  have hx : has u (i + 3) (hexL n ++ [125]) := hx
  obtain ⟨s1, s2, s3, s4, s5⟩ := scan_hex (by omega) hx
  have hlen : ([92, 117, 123] ++ hexL n ++ [125] : List UInt8).length = (hexL n).length + 4 := by simp
  rw [hlen]
  have hone : oneS u i = ((n : Int), ((i + ((hexL n).length + 4) : Nat) : Int), 0) := by
    rw [oneS, if_neg (by omega), if_pos a2, escS, if_neg (by omega), a4, if_neg (by omega), if_neg (by omega), if_neg (by omega), if_neg (by omega), if_neg (by omega), if_neg (by omega), if_pos rfl]
    rw [codeS, if_neg (by omega), show i + 2 + 1 = i + 3 from rfl, s1]
    simp only
    rw [if_neg (by rintro (x | x | x); omega; omega; exact x s3), if_pos hr]
    rw [show i + 3 + (hexL n).length + 1 = i + ((hexL n).length + 4) by omega]
  refine ⟨hone, a1, by omega, by omega, by omega, .inr fun j hj1 hj2 => ?_⟩
  by_cases k1 : j < i + 3
  · have : j = i ∨ j = i + 1 ∨ j = i + 2 := by omega
    rcases this with rfl | rfl | rfl <;> omega
  · by_cases k2 : j < i + 3 + (hexL n).length
    · exact s5 j (by omega) k2
    · have : j = i + 3 + (hexL n).length := by omega
      rw [this, s3]; omega
theorem reads_enc {u : ByteArray} {i n q : Nat} (hr : isR n = true) (h1 : ¬ (n = 10 ∨ n = 9 ∨ n = 13 ∨ n = 92 ∨ n = q)) (hn : ¬ (n < 32 ∨ n = 127)) (hq : q = 34 ∨ q = 39) (h : has u i (sb n q)) : Reads u i n q (sb n q).length := by
  have e := sb_enc h1 hn
  rw [e] at h ⊢
  obtain ⟨d1, d2, d3⟩ := dec_enc hr h
  obtain ⟨p1, p2, p3, p4⟩ := dec_props u i d2
  rw [d1] at p1 p2 p3
  simp only at p1 p2 p3
  have hbig : n = 65533 → (eb n).length ≠ 1 := by
    rintro rfl
    decide
  have hone : oneS u i = ((n : Int), ((i + (eb n).length : Nat) : Int), 0) := by
    rw [oneS, if_neg (by omega), if_neg (by omega), d1]
    simp only
    rw [if_neg (by rintro (x | ⟨x, y⟩); omega; exact hbig x y)]
  exact ⟨hone, d2, p3, p1, by omega, .inl (by rw [d1])⟩
theorem reads_short {u : ByteArray} {i n q : Nat} (hr : isR n = true) (hq : q = 34 ∨ q = 39) (h : has u i (sb n q)) : Reads u i n q (sb n q).length := by
  by_cases h1 : n = 10 ∨ n = 9 ∨ n = 13 ∨ n = 92 ∨ n = q
  · exact reads_lit h1 hq h
  by_cases hn : n < 32 ∨ n = 127
  · exact reads_hex hr h1 hn hq h
  · exact reads_enc hr h1 hn hq h

theorem unq_fuel (u : ByteArray) : ∀ (k k' pos next : Nat) (out : List UInt8), u.size - pos ≤ k → u.size - pos ≤ k' → unqL u k pos next out = unqL u k' pos next out
  | 0, k', pos, next, out, h, _ => by rw [unqL_end u k' pos next out (by omega)]; rfl
  | k + 1, 0, pos, next, out, _, h => by rw [unqL_end u (k + 1) pos next out (by omega)]; rfl
  | k + 1, k' + 1, pos, next, out, h, h' => by
    rw [unqL, unqL]
    by_cases hp : pos < u.size
    · obtain ⟨p1, p2, p3, p4⟩ := dec_props u pos hp
      rw [if_pos hp, if_pos hp, unq_fuel u k k' _ _ _ (by omega) (by omega), unq_fuel u k k' _ _ _ (by omega) (by omega)]
    · rw [if_neg hp, if_neg hp]
def U (u : ByteArray) (pos next : Nat) (out : List UInt8) : ByteArray × Int × Int := unqL u u.size pos next out
theorem U_skip1 {u : ByteArray} {pos next : Nat} {out : List UInt8} (hp : pos < u.size) (h : pos < next) : U u pos next out = U u (pos + (Utf8.decode u pos).2) next out := by
  obtain ⟨p1, p2, p3, p4⟩ := dec_props u pos hp
  obtain ⟨k, hk⟩ : ∃ k, u.size = k + 1 := ⟨u.size - 1, by omega⟩
  unfold U
  rw [hk, unqL, if_pos hp, if_pos h]
  exact unq_fuel u _ _ _ _ _ (by omega) (by omega)
theorem U_end {u : ByteArray} {pos : Nat} {out : List UInt8} (hp : pos < u.size) (h : at' u pos = 34) : U u pos pos out = (bA out, ((pos + 1 : Nat) : Int), 0) := by
  obtain ⟨k, hk⟩ : ∃ k, u.size = k + 1 := ⟨u.size - 1, by omega⟩
  unfold U
  rw [hk, unqL, if_pos hp, if_neg (by omega), if_pos h]
theorem U_one {u : ByteArray} {pos n len : Nat} {out : List UInt8} (h : Reads u pos n 34 len) : U u pos pos out = U u (pos + (Utf8.decode u pos).2) (pos + len) (out ++ eb n) := by
  have hp := h.lt
  obtain ⟨p1, p2, p3, p4⟩ := dec_props u pos hp
  obtain ⟨k, hk⟩ : ∃ k, u.size = k + 1 := ⟨u.size - 1, by omega⟩
  unfold U
  rw [hk, unqL, if_pos hp, if_neg (by omega), if_neg h.ne, h.one, if_neg (by simp)]
  simp only [Int.toNat_natCast]
  rw [show (Utf8.encode (n : Int)).data.toList = eb n from rfl]
  exact unq_fuel u _ _ _ _ _ (by omega) (by omega)
theorem U_skip {u : ByteArray} : ∀ (d pos next : Nat) (out : List UInt8), pos + d = next → next ≤ u.size → (∀ j, pos ≤ j → j < next → at' u j < 128) → U u pos next out = U u next next out
  | 0, pos, next, out, h, _, _ => by rw [show pos = next by omega]
  | d + 1, pos, next, out, h, hn, ha => by
    rw [U_skip1 (by omega) (by omega), dec_ascii (ha pos (by omega) (by omega))]
    exact U_skip d (pos + 1) next out (by omega) hn fun j h1 h2 => ha j (by omega) h2
theorem U_short {u : ByteArray} {i n : Nat} {out : List UInt8} (hr : isR n = true) (h : has u i (sb n 34)) : U u i i out = U u (i + (sb n 34).length) (i + (sb n 34).length) (out ++ eb n) := by
  have hR := reads_short hr (.inl rfl) h
  rw [U_one hR]
  rcases hR.steps with hs | hs
  · rw [hs]
  · rw [dec_ascii (hs i (by omega) (by have := hR.pos; omega))]
    have := hR.pos
    exact U_skip ((sb n 34).length - 1) (i + 1) _ _ (by omega) hR.le fun j h1 h2 => hs j (by omega) h2

def shorts : List Nat → List UInt8
  | [] => []
  | n :: l => sb n 34 ++ shorts l
def encs : List Nat → List UInt8
  | [] => []
  | n :: l => eb n ++ encs l
theorem U_all {u : ByteArray} : ∀ (l : List Nat) (i : Nat) (out : List UInt8), (∀ n, n ∈ l → isR (n : Int) = true) → has u i (shorts l ++ [34]) → U u i i out = (bA (out ++ encs l), ((i + (shorts l).length + 1 : Nat) : Int), 0)
  | [], i, out, _, h => by
    obtain ⟨h1, h2⟩ := h 0 _ rfl
    rw [U_end (by omega) (by rw [show i = i + 0 from rfl, h2]; rfl)]
    simp [encs, shorts]
  | n :: l, i, out, hr, h => by
    rw [shorts, List.append_assoc, has_app] at h
    rw [U_short (hr n (by simp)) h.1, U_all l _ _ (fun m hm => hr m (List.mem_cons_of_mem _ hm)) h.2]
    rw [encs, shorts, List.append_assoc, List.length_append, Nat.add_assoc i]
theorem quote_all {s : ByteArray} (l : List Nat) : ∀ (k pos : Nat), (∀ n, n ∈ l → isR (n : Int) = true) → has s pos (encs l) → pos + (encs l).length = s.size → s.size - pos ≤ k → quoteL s k pos = shorts l := by
  induction l with
  | nil =>
    intro k pos _ _ h2 _
    rw [encs, List.length_nil] at h2
    rw [quoteL_end s k pos (by omega), shorts]
  | cons n l ih =>
    intro k pos hr h h2 hk
    rw [encs, has_app] at h
    obtain ⟨d1, d2, d3⟩ := dec_enc (hr n (by simp)) h.1
    rw [encs, List.length_append] at h2
    obtain ⟨k, rfl⟩ : ∃ k', k = k' + 1 := ⟨k - 1, by omega⟩
    obtain ⟨p1, _⟩ := dec_props s pos d2
    rw [d1] at p1
    simp only at p1
    have hn : quoteL s k (pos + (eb n).length) = shorts l := ih k _ (fun m hm => hr m (List.mem_cons_of_mem _ hm)) h.2 (by omega) (by omega)
    rw [quoteL, if_pos d2, d1]
    simp only
    rw [hn, shorts, sb]
theorem quote_encs (l : List Nat) (hr : ∀ n, n ∈ l → isR (n : Int) = true) : quoteS (bA (encs l)) = bA (34 :: shorts l ++ [34]) := by
  have h : has (bA (encs l)) 0 (encs l) := by simpa using has_bA [] (encs l) []
  unfold quoteS
  rw [quote_all l _ 0 hr h (by rw [bA_size]; omega) (by omega)]
  rfl
/-- String literals are read back. -/
theorem unq_quote (l : List Nat) (t : ByteArray) (hr : ∀ n, n ∈ l → isR (n : Int) = true) : unqS (quoteS (bA (encs l)) ++ t) = (bA (encs l), (((quoteS (bA (encs l))).size : Nat) : Int), 0) := by
  rw [quote_encs l hr, bA_app, bA_size]
  obtain ⟨u, hu⟩ : ∃ u, u = bA (34 :: shorts l ++ [34] ++ t.data.toList) := ⟨_, rfl⟩
  have hhas : has u 0 ([34] ++ (shorts l ++ [34])) := by
    have := has_bA [] ([34] ++ (shorts l ++ [34])) t.data.toList
    rw [hu]
    simpa using this
  rw [has_app] at hhas
  obtain ⟨h1, h2⟩ := hhas
  obtain ⟨a1, a2⟩ := h1 0 _ rfl
  have a2 : at' u 0 = 34 := a2
  have a1 : 0 < u.size := a1
  rw [← hu, unqS, if_neg (by omega)]
  show U u 0 1 [] = _
  rw [U_skip1 a1 (by omega), dec_ascii (by omega)]
  show U u 1 1 [] = _
  rw [U_all l 1 [] hr h2]
  simp only [List.nil_append, List.length_append, List.length_cons, List.length_nil, List.cons_append]
  rw [show 1 + (shorts l).length + 1 = (shorts l).length + (0 + 1) + 1 by omega]
/-- Character literals are read back. -/
theorem rune_show (n : Nat) (t : ByteArray) (hr : isR (n : Int) = true) : runeS (showS n ++ t) = ((n : Int), (((showS n).size : Nat) : Int), 0) := by
  have hsh : showS n = bA ([39] ++ sb n 39 ++ [39]) := by
    unfold showS
    rw [if_pos hr, Int.toNat_natCast]
    show bA [39] ++ shortS n 39 ++ bA [39] = _
    rw [bA_app, bA_app]
    rfl
  rw [hsh, bA_app, bA_size]
  obtain ⟨u, hu⟩ : ∃ u, u = bA ([39] ++ sb n 39 ++ [39] ++ t.data.toList) := ⟨_, rfl⟩
  have hhas : has u 0 ([39] ++ (sb n 39 ++ [39])) := by
    have := has_bA [] ([39] ++ (sb n 39 ++ [39])) t.data.toList
    rw [hu]
    simpa using this
  rw [has_app, has_app] at hhas
  obtain ⟨h1, h2, h3⟩ := hhas
  obtain ⟨a1, a2⟩ := h1 0 _ rfl
  have a2 : at' u 0 = 39 := a2
  have a1 : 0 < u.size := a1
  have h2 : has u 1 (sb n 39) := h2
  have h3 : has u (1 + (sb n 39).length) [39] := h3
  obtain ⟨b1, b2⟩ := h3 0 _ rfl
  rw [Nat.add_zero] at b1 b2
  have b2 : at' u (1 + (sb n 39).length) = 39 := b2
  have hR := reads_short hr (.inr rfl) h2
  have hpre : preB u ⟨#[39, 39]⟩ = false := by
    unfold preB
    rw [Bool.and_eq_false_iff]
    right
    rw [beq_eq_false_iff_ne, bytes_toList, bytes_toList]
    intro h
    have h4 := congrArg (fun l : List UInt8 => l[1]?) h
    have hb := byte_at (s := u) (i := 1) hR.lt
    have hle := hR.lt
    have hx : (u.extract 0 (⟨#[39, 39]⟩ : ByteArray).size).data.toList = u.data.toList.take 2 := by
      rw [ByteArray.data_extract]
      simp
      rfl
    simp only [hx] at h4
    rw [List.getElem?_take_of_lt (by omega), hb] at h4
    have h5 : u.get! 1 = 39 := by simpa using h4
    exact hR.ne (by show (u.get! 1).toNat = 39; rw [h5]; rfl)
  rw [← hu, runeS, if_neg (by rintro (x | x | x); omega; exact x a2; rw [hpre] at x; cases x), hR.one]
  simp only [ne_eq, not_true_eq_false, if_false, Int.toNat_natCast]
  rw [if_neg (by rintro (x | x); omega; exact x b2)]
  have : ([39] ++ sb n 39 ++ [39] : List UInt8).length = 1 + (sb n 39).length + 1 := by simp; omega
  rw [this]
  rfl
end Go.Proofs.YtldgcpdpebhndaaDoor
