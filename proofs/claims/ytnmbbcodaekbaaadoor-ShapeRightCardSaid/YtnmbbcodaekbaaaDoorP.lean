/-
  Plain facts about shapes: products, offsets, indices.
-/
import Derived.Test.YtnmbbcodaekbaaaDoorW1
set_option linter.unusedSimpArgs false
set_option linter.unusedVariables false
namespace Go.Proofs.YtnmbbcodaekbaaaDoor
open Go.Abs Go

def prodI : List Int → Int
  | [] => 1
  | d :: l => d * prodI l
/-- The product of what is not 0. -/
def nz : List Int → Int
  | [] => 1
  | d :: l => if d = 0 then nz l else d * nz l
def Small (l : List Int) : Prop := (∀ d, d ∈ l → 0 ≤ d ∧ d ≤ 65536) ∧ nz l ≤ 65536

theorem prodI_app : ∀ (a b : List Int), prodI (a ++ b) = prodI a * prodI b
  | [], b => by simp [prodI]
  | d :: a, b => by simp [prodI, prodI_app a b, Int.mul_assoc]
theorem nz_app : ∀ (a b : List Int), nz (a ++ b) = nz a * nz b
  | [], b => by simp [nz]
  | d :: a, b => by
    simp only [List.cons_append, nz, nz_app a b]
    split
    · rfl
    · rw [Int.mul_assoc]
theorem nz_pos : ∀ {l : List Int}, (∀ d, d ∈ l → 0 ≤ d) → 1 ≤ nz l
  | [], _ => by simp [nz]
  | d :: l, h => by
    have ih := nz_pos (l := l) fun x hx => h x (List.mem_cons_of_mem _ hx)
    simp only [nz]
    split
    · exact ih
    · exact mul_pos1 (by have := h d (by simp); omega) ih
theorem prod_zero : ∀ {l : List Int}, (0 : Int) ∈ l → prodI l = 0
  | d :: l, h => by
    simp only [List.mem_cons] at h
    rcases h with h | h
    · simp [prodI, ← h]
    · simp [prodI, prod_zero h]
theorem prod_nz : ∀ {l : List Int}, ¬ (0 : Int) ∈ l → prodI l = nz l
  | [], _ => rfl
  | d :: l, h => by
    simp only [List.mem_cons, not_or] at h
    simp only [prodI, nz]
    rw [if_neg (fun e => h.1 e.symm), prod_nz h.2]
theorem le_mul {a b : Int} (ha : 1 ≤ a) (hb : 1 ≤ b) : a ≤ a * b ∧ b ≤ a * b := by
  have h1 := Int.mul_le_mul (Int.le_refl a) hb (by omega) (by omega)
  have h2 := Int.mul_le_mul ha (Int.le_refl b) (by omega) (by omega)
  omega
theorem Small.app {a b : List Int} (h : Small (a ++ b)) : Small a ∧ Small b := by
  obtain ⟨h1, h2⟩ := h
  rw [nz_app] at h2
  have ha := nz_pos (l := a) fun x hx => (h1 x (by simp [hx])).1
  have hb := nz_pos (l := b) fun x hx => (h1 x (by simp [hx])).1
  have := le_mul ha hb
  exact ⟨⟨fun d hd => h1 d (by simp [hd]), by omega⟩, ⟨fun d hd => h1 d (by simp [hd]), by omega⟩⟩
theorem Small.take {l : List Int} (h : Small l) (n : Nat) : Small (l.take n) := (Small.app (a := l.take n) (b := l.drop n) (by rw [List.take_append_drop]; exact h)).1
theorem Small.drop {l : List Int} (h : Small l) (n : Nat) : Small (l.drop n) := (Small.app (a := l.take n) (b := l.drop n) (by rw [List.take_append_drop]; exact h)).2
theorem Small.pos {l : List Int} (h : Small l) : 1 ≤ nz l := nz_pos fun d hd => (h.1 d hd).1
theorem Small.prod {l : List Int} (h : Small l) : 0 ≤ prodI l ∧ prodI l ≤ 65536 := by
  by_cases h0 : (0 : Int) ∈ l
  · rw [prod_zero h0]; omega
  · rw [prod_nz h0]; have := h.pos; have := h.2; omega
theorem Small.get {l : List Int} (h : Small l) {i : Nat} {d : Int} (hd : l[i]? = some d) : 0 ≤ d ∧ d ≤ 65536 := h.1 d (List.mem_of_getElem? hd)

theorem rightG_iff : ∀ {l : List Int} {p : Int}, 1 ≤ p → p ≤ 65536 → (rightG p l = true ↔ (∀ d, d ∈ l → 0 ≤ d ∧ d ≤ 65536) ∧ p * nz l ≤ 65536)
  | [], p, h1, h2 => by simp [rightG, nz, h2]
  | d :: l, p, h1, h2 => by
    simp only [rightG]
    split
    · rename_i h
      simp only [reduceCtorEq, false_iff, not_and]
      intro hd
      have := hd d (by simp)
      omega
    · rename_i h
      split
      · rename_i h0
        rw [rightG_iff h1 h2]
        simp only [nz, if_pos h0]
        constructor
        · rintro ⟨h3, h4⟩
          exact ⟨fun x hx => by simp only [List.mem_cons] at hx; rcases hx with rfl | hx; omega; exact h3 x hx, h4⟩
        · rintro ⟨h3, h4⟩
          exact ⟨fun x hx => h3 x (List.mem_cons_of_mem _ hx), h4⟩
      · rename_i h0
        have hd1 : 1 ≤ d := by omega
        have hpd := mul_pos1 h1 hd1
        split
        · rename_i h3
          simp only [reduceCtorEq, false_iff, not_and]
          intro hd
          simp only [nz, if_neg h0]
          have := nz_pos (l := l) fun x hx => (hd x (List.mem_cons_of_mem _ hx)).1
          have := (le_mul hpd this).1
          rw [← Int.mul_assoc]
          omega
        · rename_i h3
          rw [rightG_iff hpd (by omega)]
          simp only [nz, if_neg h0, Int.mul_assoc]
          constructor
          · rintro ⟨h4, h5⟩
            exact ⟨fun x hx => by simp only [List.mem_cons] at hx; rcases hx with rfl | hx; omega; exact h4 x hx, h5⟩
          · rintro ⟨h4, h5⟩
            exact ⟨fun x hx => h4 x (List.mem_cons_of_mem _ hx), h5⟩
theorem right_small {l : List Int} (h : rightS l = true) : Small l ∧ l.length ≤ 8 := by
  simp only [rightS, Bool.and_eq_true, decide_eq_true_eq] at h
  have := (rightG_iff (by omega) (by omega)).1 h.2
  exact ⟨⟨this.1, by have := this.2; omega⟩, h.1⟩

def sizeS (l : List Int) : Int := if rightS l then prodI l else -1

/-! ### Offsets -/
def offG (at' : Int) : List Int → List Int → Int × Bool
  | d :: s, n :: ix => if n < 0 ∨ d ≤ n then (0, false) else offG (at' * d + n) s ix
  | _, _ => (at', true)
def offS (s ix : List Int) : Int × Bool := if rightS s = true ∧ ix.length = s.length then offG 0 s ix else (0, false)
theorem off_step {p at' d n : Int} (h0 : 0 ≤ at') (h1 : at' < p) (hn : 0 ≤ n) (hd : n < d) (hp : p * d ≤ 65536) : 0 ≤ at' * d + n ∧ at' * d + n < p * d := by
  have e1 : 0 ≤ at' * d := Int.mul_nonneg h0 (by omega)
  have e2 : (at' + 1) * d ≤ p * d := Int.mul_le_mul_of_nonneg_right (by omega) (by omega)
  have e3 : (at' + 1) * d = at' * d + d := by rw [Int.add_mul, Int.one_mul]
  omega

/-! ### Indices -/
def fwd : List Int → Int → List Int
  | [], _ => []
  | _ :: s, o => o / prodI s :: fwd s (o % prodI s)
theorem fwd_len : ∀ (s : List Int) (o : Int), (fwd s o).length = s.length
  | [], _ => rfl
  | _ :: s, o => by simp [fwd, fwd_len s]
def ixS (s : List Int) (o : Int) : List Int × Bool := if rightS s = true ∧ 0 ≤ o ∧ o < prodI s then (fwd s o, true) else ([], false)

theorem pos_of_prod {l : List Int} (h : ∀ d, d ∈ l → (0 : Int) ≤ d) (hp : 0 < prodI l) : ∀ d, d ∈ l → 1 ≤ d := by
  intro d hd
  have := h d hd
  by_cases h0 : d = 0
  · subst h0; rw [prod_zero hd] at hp; omega
  · omega
theorem prod_pos : ∀ {l : List Int}, (∀ d, d ∈ l → (1 : Int) ≤ d) → 1 ≤ prodI l
  | [], _ => by simp [prodI]
  | d :: l, h => mul_pos1 (h d (by simp)) (prod_pos fun x hx => h x (List.mem_cons_of_mem _ hx))

theorem div_lt {o d p : Int} (hp : 1 ≤ p) (h0 : 0 ≤ o) (h : o < d * p) : 0 ≤ o / p ∧ o / p < d :=
  ⟨Int.ediv_nonneg h0 (by omega), Int.ediv_lt_of_lt_mul (by omega) h⟩

theorem mod_div {o p q e : Int} (k : Int) (hq : 1 ≤ q) (hp : p = k * e * q) : ((o % p) / q) % e = (o / q) % e := by
  have h1 : o = o % p + p * (o / p) := by have := Int.emod_add_mul_ediv o p; omega
  obtain ⟨Q, hQ⟩ : ∃ Q, Q = o / p := ⟨_, rfl⟩
  obtain ⟨r, hr⟩ : ∃ r, r = o % p := ⟨_, rfl⟩
  rw [← hQ, ← hr] at h1
  rw [← hr]
  have h3 : p * Q = (e * (k * Q)) * q := by subst hp; ac_rfl
  have h2 : o / q = r / q + e * (k * Q) := by
    rw [h1, h3, Int.add_mul_ediv_right _ _ (by omega)]
  rw [h2, Int.add_mul_emod_self_left]

theorem fwd_get : ∀ {s : List Int} {o : Int} {j : Nat} {d : Int}, (∀ d, d ∈ s → (1 : Int) ≤ d) → 0 ≤ o → o < prodI s → s[j]? = some d → (fwd s o)[j]? = some ((o / prodI (s.drop (j + 1))) % d)
  | [], o, j, d, _, _, _, h => by simp at h
  | x :: s, o, 0, d, hs, h0, h1, h => by
    simp at h
    subst h
    have hp := prod_pos (l := s) fun y hy => hs y (List.mem_cons_of_mem _ hy)
    have := div_lt hp h0 h1
    simp [fwd, Int.emod_eq_of_lt this.1 this.2]
  | x :: s, o, j + 1, d, hs, h0, h1, h => by
    simp at h
    have hs' : ∀ y, y ∈ s → (1 : Int) ≤ y := fun y hy => hs y (List.mem_cons_of_mem _ hy)
    have hp := prod_pos hs'
    have ih := fwd_get (o := o % prodI s) hs' (Int.emod_nonneg _ (by omega)) (Int.emod_lt_of_pos _ (by omega)) h
    simp only [fwd, List.getElem?_cons_succ, ih, List.drop_succ_cons]
    congr 1
    refine mod_div (prodI (s.take j)) (prod_pos fun y hy => hs' y (List.mem_of_mem_drop hy)) ?_
    have : s = s.take j ++ (d :: s.drop (j + 1)) := by rw [← drop_get h, List.take_append_drop]
    conv => lhs; rw [this]
    rw [prodI_app, prodI, Int.mul_assoc]

theorem off_fwd : ∀ {s : List Int} {o at' : Int}, (∀ d, d ∈ s → (1 : Int) ≤ d) → 0 ≤ o → o < prodI s → offG at' s (fwd s o) = (at' * prodI s + o, true)
  | [], o, at', _, h0, h1 => by simp [prodI] at h1; simp [offG, prodI]; omega
  | d :: s, o, at', hs, h0, h1 => by
    have hs' : ∀ y, y ∈ s → (1 : Int) ≤ y := fun y hy => hs y (List.mem_cons_of_mem _ hy)
    have hp := prod_pos hs'
    have hd := div_lt hp h0 h1
    simp only [fwd, offG]
    rw [if_neg (by omega), off_fwd hs' (Int.emod_nonneg _ (by omega)) (Int.emod_lt_of_pos _ (by omega))]
    congr 1
    have := Int.emod_add_mul_ediv o (prodI s)
    rw [Int.add_mul, prodI, Int.mul_assoc, Int.mul_comm (o / prodI s)]
    omega

/-- Larger, at the first place where they differ. -/
def lexlt : List Int → List Int → Bool
  | x :: l, y :: m => if x = y then lexlt l m else decide (x < y)
  | _, _ => false
theorem fwd_lex : ∀ {s : List Int} {o : Int}, (∀ d, d ∈ s → (1 : Int) ≤ d) → 0 ≤ o → o + 1 < prodI s → lexlt (fwd s o) (fwd s (o + 1)) = true
  | [], o, _, h0, h1 => by simp [prodI] at h1; omega
  | d :: s, o, hs, h0, h1 => by
    have hs' : ∀ y, y ∈ s → (1 : Int) ≤ y := fun y hy => hs y (List.mem_cons_of_mem _ hy)
    have hp := prod_pos hs'
    simp only [fwd, lexlt]
    have e1 := Int.emod_add_mul_ediv o (prodI s)
    have e2 := Int.emod_add_mul_ediv (o + 1) (prodI s)
    have b1 := Int.emod_lt_of_pos o (show 0 < prodI s by omega)
    have b2 := Int.emod_lt_of_pos (o + 1) (show 0 < prodI s by omega)
    have b3 := Int.emod_nonneg o (show prodI s ≠ 0 by omega)
    have b4 := Int.emod_nonneg (o + 1) (show prodI s ≠ 0 by omega)
    split
    · rename_i h
      have : (o + 1) % prodI s = o % prodI s + 1 := by rw [← h] at e2; omega
      rw [this]
      exact fwd_lex hs' b3 (by omega)
    · rename_i h
      have : o / prodI s ≤ (o + 1) / prodI s := Int.ediv_le_ediv (by omega) (by omega)
      simp; omega

end Go.Proofs.YtnmbbcodaekbaaaDoor
