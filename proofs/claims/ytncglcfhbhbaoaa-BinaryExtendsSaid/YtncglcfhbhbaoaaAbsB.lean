/-
  The abstract steps: what each operation of a region does to the abstract state.
-/
import Derived.Test.YtncglcfhbhbaoaaAbsA
namespace Go.Abs
open Go.RowKit

inductive TD where
  | int (k : IntKind)
  | bool
  | string
  | func
  | slice (e : Nat)
  | struct (fs : List (Nat × Nat × Bool))
  | array (n e : Nat)

/-- What the calculus knows of a type. -/
structure TI where
  desc : TD
  size : Nat
  bytes : Nat
  zero : List Value
  eq : Bool
  /-- Rows that are built of this type are never written: a wish of the walk. -/
  fast : Bool := false

def TI.agg (t : TI) : Bool := match t.desc with | .struct _ => true | .array _ _ => true | _ => false

abbrev Tab := Nat → Option TI

def aggB (P : Program) (t : TypeId) : Bool := match P.underlying t with | some (.struct _) | some (.array _ _) => true | _ => false

def structFs (P : Program) (t : TypeId) : Option (Option (List (Nat × Nat × Bool))) :=
  (P.underlying t).map (fun d => match d with | .struct F => (if F.toList.all (fun f => (P.underlying f.type).isSome) then some (F.toList.map (fun f => (f.offset, ((P.info? f.type).map (·.size)).getD 0, aggB P f.type))) else none) | _ => none)
def funcB (P : Program) (t : TypeId) : Option Bool := (P.underlying t).map (fun d => match d with | .func _ _ _ => true | _ => false)

/-- Values of the type are made of integers alone, and compared one by one. -/
def EqOk (P : Program) (t n : Nat) : Prop := P.eqGuardType P.depth t = false ∧ ∀ (w : World) (l : List (IntKind × Int × Int)), l.length = n →
  (Op.equalIn 10000 t (.agg (l.map fun p => .int p.1 p.2.1).toArray) (.agg (l.map fun p => .int p.1 p.2.2).toArray)).run P w = .ok (l.all fun p => decide (p.2.1 = p.2.2)) w

def intB (P : Program) (t : TypeId) : Bool := match P.underlying t with | some (.int _) => true | _ => false
def eqB (P : Program) (t n : Nat) : Bool := match P.underlying t with
  | some (.struct fs) => fs.size == n && (List.range n).all (fun i => match fs[i]? with | some f => f.offset == i && f.name != "_" && intB P f.type | none => false) && !P.stoodInHeld t && !P.eqGuardType P.depth t
  | some (.array m e) => m == n && intB P e && (match P.info? e with | some i => i.size == 1 | none => false) && !P.eqGuardType P.depth t
  | _ => false

structure TIok (P : Program) (t : Nat) (ti : TI) : Prop where
  info : (P.info? t).map (fun i => (i.size, i.bytes, i.zero.map (·.cells.toList))) = some (ti.size, ti.bytes, some ti.zero)
  under : match ti.desc with
    | .int k => P.underlying t = some (.int k)
    | .bool => P.underlying t = some .bool
    | .string => P.underlying t = some .string
    | .slice e => P.underlying t = some (.slice e)
    | .func => funcB P t = some true
    | .struct fs => structFs P t = some (some fs)
    | .array n e => P.underlying t = some (.array n e)
  len : ti.zero.length = ti.size
  one : ti.zero.all (·.oneCell') = true
  eqs : (!ti.eq || eqB P t ti.size) = true

def TabOk (P : Program) (T : Tab) : Prop := ∀ t ti, T t = some ti → TIok P t ti
/-- The same types; rows that are built are never written. -/
def fastT (T : Tab) : Tab := fun t => match T t with
  | some ti => some { ti with fast := true }
  | none => none
theorem fastT_eq (T : Tab) (t : Nat) : fastT T t = match T t with
  | some ti => some { ti with fast := true }
  | none => none := rfl
theorem TabOk.fast {P : Program} {T : Tab} (h : TabOk P T) : TabOk P (fastT T) := by
  intro t ti ht
  unfold fastT at ht
  split at ht
  · rename_i ti' h'
    cases ht
    obtain ⟨h1, h2, h3, h4, h5⟩ := h t ti' h'
    exact ⟨h1, h2, h3, h4, h5⟩
  · cases ht

section
variable {P : Program} {t : Nat} {ti : TI}
theorem TIok.info' (h : TIok P t ti) : ∃ i z, P.info? t = some i ∧ i.size = ti.size ∧ i.bytes = ti.bytes ∧ i.zero = some z ∧ z.cells.toList = ti.zero := by
  have := h.info
  obtain ⟨i, hi, he⟩ := Option.map_eq_some_iff.1 this
  simp only [Prod.mk.injEq] at he
  obtain ⟨h1, h2, h3⟩ := he
  obtain ⟨z, hz, hz'⟩ := Option.map_eq_some_iff.1 h3
  exact ⟨i, z, hi, h1, h2, hz, hz'⟩
theorem TIok.strc (h : TIok P t ti) {fs : List (Nat × Nat × Bool)} (hd : ti.desc = .struct fs) :
    ∃ F : Array Field, P.underlying t = some (.struct F) ∧ F.toList.map (fun f => (f.offset, ((P.info? f.type).map (·.size)).getD 0, aggB P f.type)) = fs ∧ ∀ f ∈ F.toList, ∃ d, P.underlying f.type = some d := by
  have := h.under
  rw [hd] at this
  unfold structFs at this
  obtain ⟨d, h1, h2⟩ := Option.map_eq_some_iff.1 this
  cases d <;> simp only [reduceCtorEq] at h2
  split at h2
  · rename_i hall
    rw [List.all_eq_true] at hall
    exact ⟨_, h1, Option.some.inj h2, fun f hf => Option.isSome_iff_exists.1 (hall f hf)⟩
  · cases h2
theorem TIok.agg (h : TIok P t ti) : aggB P t = ti.agg := by
  have := h.under
  cases hd : ti.desc <;> rw [hd] at this <;> simp only [] at this
  all_goals try (simp [aggB, this, TI.agg, hd]; done)
  · unfold funcB at this
    obtain ⟨d, h1, h2⟩ := Option.map_eq_some_iff.1 this
    cases d <;> simp at h2
    simp [aggB, h1, TI.agg, hd]
  · obtain ⟨F, h1, _, _⟩ := h.strc hd
    simp [aggB, h1, TI.agg, hd]
theorem TIok.isSome (h : TIok P t ti) : ∃ d, P.underlying t = some d := by
  have := h.under
  cases hd : ti.desc <;> rw [hd] at this <;> simp only [] at this
  all_goals first | exact ⟨_, this⟩ | (first | unfold funcB at this | unfold structFs at this); (obtain ⟨d, h1, _⟩ := Option.map_eq_some_iff.1 this; exact ⟨d, h1⟩)
theorem run_isAgg {d : TypeDesc} (h : P.underlying t = some d) (w : World) : (isAgg t).run P w = .ok (aggB P t) w := by
  unfold isAgg aggB
  cases d <;> simp [run_underlying h, h]
end

def AV.cells : AV → Option (List AC)
  | .c x => some [x]
  | .agg xs => some xs
  | _ => none

def zac : Value → AC
  | .slice none 0 0 => .nil
  | v => .d (.sc v)

def zdc : Value → DC
  | .slice none 0 0 => .sl []
  | v => .sc v

def cst : Value → AV
  | .slice none 0 0 => .c .nil
  | .int k n => .c (.d (.sc (.int k n)))
  | .bool b => .c (.d (.sc (.bool b)))
  | .string s => .c (.d (.sc (.string s)))
  | .func f x y => .c (.d (.sc (.func f x y)))
  | .nilFunc => .c (.d (.sc .nilFunc))
  | _ => .any

/-- A package-level table: a pointer to data. -/
def goodAV (g : Nat) : AV :=
  match find goodTab g with
  | some vs => .c (.dptr (vs.map .sc))
  | none => .any
theorem goodAV_ment (g id : Nat) : (goodAV g).ment id = false := by
  unfold goodAV
  split <;> unfold AV.ment <;> rfl

def ASt.ev (s : ASt) : Operand → AV
  | .tmp t => match find s.tmps t with | some x => x | none => .any
  | .const v => cst v
  | .func f => .c (.d (.sc (.func (.func f) #[] #[])))
  | .global g => goodAV g

def takeAV (agg : Bool) (cs : List AC) (off n : Nat) : Option AV :=
  match agg with
  | true => if off + n ≤ cs.length then some (.agg ((cs.drop off).take n)) else none
  | false => match cs[off]? with | some x => some (.c x) | none => none

/-- A cell as pure data; a row of the call's own only if it is frozen or merely lent. -/
def dcOf (lent : Bool) (rows : List (Nat × ARow)) : AC → Option DC
  | .d x => some x
  | .nil => some (.sl [])
  | .row id => match find rows id with
    | some (.arr _ _ xs fl) => if fl || lent then some (.sl xs) else none
    | _ => none
  | _ => none

def dcsOf (lent : Bool) (rows : List (Nat × ARow)) : List AC → Option (List DC)
  | [] => some []
  | x :: xs => match dcOf lent rows x, dcsOf lent rows xs with
    | some y, some ys => some (y :: ys)
    | _, _ => none

/-- A value as it is handed to a function. -/
inductive DV where
  | c (x : DC)
  | agg (xs : List DC)
  | ptr (xs : List DC)

def dvOf (lent : Bool) (rows : List (Nat × ARow)) : AV → Option DV
  | .c (.dptr xs) => some (.ptr xs)
  | .c x => match dcOf lent rows x with | some y => some (.c y) | none => none
  | .agg xs => match dcsOf lent rows xs with | some ys => some (.agg ys) | none => none
  | _ => none

def dvsOf (lent : Bool) (rows : List (Nat × ARow)) : List AV → Option (List DV)
  | [] => some []
  | x :: xs => match dvOf lent rows x, dvsOf lent rows xs with
    | some y, some ys => some (y :: ys)
    | _, _ => none

/-- The result of a step: a side condition, a value, the rows that it makes. -/
inductive ER where
  | no
  | ok (c : Prop) (v : AV) (rows : List (Nat × ARow))

def sint (k : IntKind) (n : Int) : AV := .c (.d (.sc (.int k n)))
def sbool (b : Bool) : AV := .c (.d (.sc (.bool b)))
def sstr (s : ByteArray) : AV := .c (.d (.sc (.string s)))

def intF (op : BinOp) (k : IntKind) (a b : Int) : ER :=
  match op with
  | .add => .ok True (sint k (k.wrap (a + b))) []
  | .sub => .ok True (sint k (k.wrap (a - b))) []
  | .mul => .ok True (sint k (k.wrap (a * b))) []
  | .quo => .ok (b ≠ 0) (sint k (k.wrap (a.tdiv b))) []
  | .rem => .ok (b ≠ 0) (sint k (a.tmod b)) []
  | .eql => .ok True (sbool (decide (a = b))) []
  | .neq => .ok True (sbool (!decide (a = b))) []
  | .lss => .ok True (sbool (decide (a < b))) []
  | .leq => .ok True (sbool (decide (a ≤ b))) []
  | .gtr => .ok True (sbool (decide (a > b))) []
  | .geq => .ok True (sbool (decide (a ≥ b))) []
  | .and => .ok True (sint k (k.wrap (BitVec.ofInt k.bits a &&& BitVec.ofInt k.bits b).toNat)) []
  | .or => .ok True (sint k (k.wrap (BitVec.ofInt k.bits a ||| BitVec.ofInt k.bits b).toNat)) []
  | .xor => .ok True (sint k (k.wrap (BitVec.ofInt k.bits a ^^^ BitVec.ofInt k.bits b).toNat)) []
  | .andNot => .ok True (sint k (k.wrap (BitVec.ofInt k.bits a &&& ~~~BitVec.ofInt k.bits b).toNat)) []
  | _ => .no

def shF (op : BinOp) (k : IntKind) (a b : Int) : ER :=
  match op with
  | .shl => .ok (0 ≤ b) (sint k (k.wrap (a * 2 ^ (min b.toNat k.bits)))) []
  | .shr => .ok (0 ≤ b) (sint k (a.fdiv (2 ^ (min b.toNat k.bits)))) []
  | _ => .no

def isSh (op : BinOp) : Bool := match op with | .shl | .shr => true | _ => false

def boolF (op : BinOp) (a b : Bool) : ER :=
  match op with
  | .eql => .ok True (sbool (a == b)) []
  | .neq => .ok True (sbool (!(a == b))) []
  | _ => .no

def eqF (op : BinOp) (r : Bool) : ER :=
  match op with
  | .eql => .ok True (sbool r) []
  | .neq => .ok True (sbool (!r)) []
  | _ => .no

def strF (op : BinOp) (a b : ByteArray) : ER :=
  match op with
  | .add => .ok (a.size + b.size ≤ maxLen) (sstr (a ++ b)) []
  | .eql => .ok True (sbool (a.toList == b.toList)) []
  | .neq => .ok True (sbool (!(a.toList == b.toList))) []
  | _ => .no

/-- Two structs of integers alone. -/
def aggEq : List AC → List AC → Option Bool
  | [], [] => some true
  | .d (.sc (.int k a)) :: xs, .d (.sc (.int k' b)) :: ys => match aggEq xs ys with | some r => if k = k' then some (decide (a = b) && r) else none | none => none
  | _, _ => none

def nilF (op : BinOp) (c : Prop) (r : Bool) : ER :=
  match op with
  | .eql => .ok c (sbool r) []
  | .neq => .ok c (sbool (!r)) []
  | _ => .no
def isSl (T : Tab) (t : Nat) : Bool := match T t with | some ti => (match ti.desc with | .slice _ => true | _ => false) | none => false

def binF (T : Tab) (op : BinOp) (t : Nat) : AV → AV → ER
  | .c (.d (.sc (.int k a))), .c (.d (.sc (.int k' b))) => if isSh op = true then shF op k a b else if k = k' then intF op k a b else .no
  | .c (.d (.sc (.bool a))), .c (.d (.sc (.bool b))) => match T t with | some ti => (match ti.desc with | .bool => boolF op a b | _ => .no) | none => .no
  | .agg xs, .agg ys => match T t, aggEq xs ys with
    | some ti, some r => if ti.eq = true ∧ xs.length = ti.size then eqF op r else .no
    | _, _ => .no
  | .c (.d (.sc (.string a))), .c (.d (.sc (.string b))) => strF op a b
  | .c (.d (.sl xs)), .c .nil => if isSl T t then nilF op (xs ≠ []) false else .no
  | .c (.d (.sc (.slice a _ _))), .c .nil => if isSl T t then nilF op True a.isNone else .no
  | _, _ => .no

def unF (op : UnOp) : AV → ER
  | .c (.d (.sc (.int k a))) => match op with | .neg => .ok True (sint k (k.wrap (0 - a))) [] | _ => .no
  | .c (.d (.sc (.bool b))) => match op with | .not => .ok True (sbool (!b)) [] | _ => .no
  | _ => .no

def lenS : AV → ER
  | .c (.d (.sc (.string s))) => .ok True (sint .i64 s.size) []
  | _ => .no

def lenF : AV → List (Nat × ARow) → ER
  | .c (.d (.sl xs)), _ => .ok True (sint .i64 xs.length) []
  | .c .nil, _ => .ok True (sint .i64 0) []
  | .c (.row id), rows => match find rows id with | some (.arr _ _ xs _) => .ok True (sint .i64 xs.length) [] | _ => .no
  | _, _ => .no

def ASt.free (s : ASt) (id : Nat) : Bool := s.tmps.all (fun p => !p.2.ment id) && s.rows.all (fun p => p.1 != id && !p.2.ment id)

def loadF (T : Tab) (t : Nat) (rows : List (Nat × ARow)) : AV → Option AV
  | .c (.ptr id off) => match T t, find rows id with | some ti, some (.box _ cs) => takeAV ti.agg cs off ti.size | _, _ => none
  | .c (.eptr id i off) => match T t, find rows id with
    | some ti, some (.arr _ _ xs _) => match xs[i]? with | some x => takeAV ti.agg (x.map .d) off ti.size | none => none
    | _, _ => none
  | .c (.dptr xs) => match T t with | some ti => takeAV ti.agg (xs.map .d) 0 ti.size | none => none
  | _ => none

def fieldAddrF (T : Tab) (t f : Nat) (x : AV) : ER :=
    match T t with
    | some ti => match ti.desc with
      | .struct fs => match fs[f]? with
        | some (off', sz, _) => match x with
          | .c (.ptr id off) => .ok (sz ≠ 0) (.c (.ptr id (off + off'))) []
          | .c (.eptr id i off) => .ok (sz ≠ 0) (.c (.eptr id i (off + off'))) []
          | .c (.dptr xs) => .ok (sz ≠ 0) (.c (.dptr (xs.drop off'))) []
          | _ => .no
        | none => .no
      | _ => .no
    | none => .no

def fieldF (T : Tab) (t f : Nat) : AV → Option AV
  | .agg xs => match T t with
    | some ti => match ti.desc with
      | .struct fs => match fs[f]? with
        | some (off, sz, ag) => takeAV ag xs off sz
        | none => none
      | _ => none
    | none => none
  | _ => none

def indexAddrF (T : Tab) (t : Nat) (rows : List (Nat × ARow)) (x : AV) : AV → ER
  | .c (.d (.sc (.int _ n))) => match T t with
    | some ti => match ti.desc with
      | .slice e => match T e with
        | some te => match x with
          | .c (.d (.sl xs)) => match xs[n.toNat]? with
            | some y => .ok (0 ≤ n ∧ y.length = te.size) (.c (.dptr y)) []
            | none => .no
          | .c (.row id) => match find rows id with
            | some (.arr _ sz xs _) => .ok (0 ≤ n ∧ n < xs.length ∧ sz = te.size) (.c (.eptr id n.toNat 0)) []
            | _ => .no
          | _ => .no
        | none => .no
      | .array m e => match T e with
        | some te => match x with
          | .c (.ptr id off) => .ok (0 ≤ n ∧ n < m) (.c (.ptr id (off + n.toNat * te.size))) []
          | .c (.eptr id i off) => .ok (0 ≤ n ∧ n < m) (.c (.eptr id i (off + n.toNat * te.size))) []
          | .c (.dptr xs) => .ok (0 ≤ n ∧ n < m) (.c (.dptr (xs.drop (n.toNat * te.size)))) []
          | _ => .no
        | none => .no
      | _ => .no
    | none => .no
  | _ => .no

def indexF (T : Tab) (t : Nat) : AV → AV → ER
  | .c (.d (.sc (.string s))), .c (.d (.sc (.int _ n))) => match T t with
    | some ti => match ti.desc with
      | .string => match s.data.toList[n.toNat]? with
        | some b => .ok (0 ≤ n) (sint .u8 b.toNat) []
        | none => .no
      | _ => .no
    | none => .no
  | .agg xs, .c (.d (.sc (.int _ n))) => match T t with
    | some ti => match ti.desc with
      | .array m e => match T e with
        | some te => match takeAV te.agg xs (n.toNat * te.size) te.size with
          | some v => .ok (0 ≤ n ∧ n < m) v []
          | none => .no
        | none => .no
      | _ => .no
    | none => .no
  | _, _ => .no

def convF (T : Tab) (src dst : Nat) : AV → ER
  | .c (.d (.sc (.int _ n))) => match T src, T dst with
    | some _, some ti => match ti.desc with | .int k => .ok True (sint k (k.wrap n)) [] | _ => .no
    | _, _ => .no
  | .c (.d (.sc (.string s))) => match T src, T dst with
    | some _, some ti => match ti.desc with | .string => .ok True (sstr s) [] | _ => .no
    | _, _ => .no
  | _ => .no

/-- Cells replaced from a place on. -/
def splice (cs : List AC) (off : Nat) (xs : List AC) : List AC := cs.take off ++ xs ++ cs.drop (off + xs.length)

def buildF (fs : List (Nat × Nat × Bool)) (s : ASt) : List AC → List (Nat × Operand) → Option (List AC)
  | cs, [] => some cs
  | cs, (i, x) :: rest => match fs[i]?, (s.ev x).cells with
    | some (off, sz, _), some xs => if xs.length = sz ∧ off + sz ≤ cs.length then buildF fs s (splice cs off xs) rest else none
    | _, _ => none

/-- The places of an array's elements. -/
def arrFs (sz : Nat) : Nat → Nat → List (Nat × Nat × Bool)
  | 0, _ => []
  | n + 1, off => (off, sz, false) :: arrFs sz n (off + sz)
theorem arrFs_get {sz : Nat} : ∀ {n off i : Nat} {p : Nat × Nat × Bool}, (arrFs sz n off)[i]? = some p → p = (off + i * sz, sz, false)
  | 0, off, i, p, h => by simp [arrFs] at h
  | n + 1, off, 0, p, h => by simp [arrFs] at h; simp [← h]
  | n + 1, off, i + 1, p, h => by
    simp only [arrFs, List.getElem?_cons_succ] at h
    rw [arrFs_get h, Nat.succ_mul]
    simp only [Prod.mk.injEq, and_true]
    omega

def buildSliceF (sz : Nat) (s : ASt) : List (List DC) → List (Nat × Operand) → Option (List (List DC))
  | xs, [] => some xs
  | xs, (i, x) :: rest => match (s.ev x).cells with
    | some cs => match dcsOf false s.rows cs with
      | some y => if y.length = sz ∧ i < xs.length then buildSliceF sz s (xs.set i y) rest else none
      | none => none
    | none => none

def optEv (s : ASt) : Option Operand → Option (Option Int)
  | none => some none
  | some x => match s.ev x with | .c (.d (.sc (.int _ n))) => some (some n) | _ => none

/-- A cut: bounds lo, hi, and where there is a third, it is no less than hi and no more than the length. -/
def cutF (len : Nat) (lo hi mx : Option Int) : Prop × Nat × Nat :=
  let h := hi.getD len
  let l := lo.getD 0
  ((0 ≤ l ∧ l ≤ h ∧ h ≤ len ∧ (∀ m, mx = some m → h ≤ m ∧ m ≤ len ∧ hi.isSome = true)), l.toNat, h.toNat)

def sliceF (T : Tab) (t : Nat) (rows : List (Nat × ARow)) (lo hi mx : Option Int) : AV → ER
  | .c (.d (.sc (.string s))) => match T t with
    | some ti => match ti.desc with
      | .string => .ok ((cutF s.size lo hi mx).1 ∧ mx = none) (sstr (s.extract (cutF s.size lo hi mx).2.1 (cutF s.size lo hi mx).2.2)) []
      | _ => .no
    | none => .no
  | .c (.dptr xs) => match T t with
    | some ti => match ti.desc with
      | .array m e => match T e with
        | some te => .ok ((cutF m lo hi mx).1 ∧ xs.length = m ∧ te.size = 1 ∧ m ≤ 1000000 ∧ mx = none) (.c (.d (.sl (((xs.map fun y => [y]).take (cutF m lo hi mx).2.2).drop (cutF m lo hi mx).2.1)))) []
        | none => .no
      | _ => .no
    | none => .no
  | .c x => match T t with
    | some ti => match ti.desc with
      | .slice e => match T e with
        | some te => match dcOf false rows x with
          | some (.sl xs) => .ok ((cutF xs.length lo hi mx).1 ∧ (∀ y, y ∈ xs → y.length = te.size)) (.c (.d (.sl ((xs.take (cutF xs.length lo hi mx).2.2).drop (cutF xs.length lo hi mx).2.1)))) []
          | _ => .no
        | none => .no
      | _ => .no
    | none => .no
  | _ => .no

def scalars (s : ASt) : List Operand → Option (List Value)
  | [] => some []
  | x :: xs => match s.ev x, scalars s xs with
    | .c (.d (.sc v)), some vs => some (v :: vs)
    | _, _ => none

def dptrs (s : ASt) : List Operand → Option (List (List DC))
  | [] => some []
  | x :: xs => match s.ev x, dptrs s xs with
    | .c (.dptr y), some ys => some (y :: ys)
    | _, _ => none

/-- Captured pointers, one of them to a row of the frame's own. -/
def capsOf (s : ASt) : List Operand → Option (List (List DC) × Nat × List (List DC))
  | [] => none
  | x :: xs => match s.ev x with
    | .c (.dptr y) => match capsOf s xs with | some (pre, id, post) => some (y :: pre, id, post) | none => none
    | .c (.ptr id 0) => match dptrs s xs with | some post => some ([], id, post) | none => none
    | _ => none

def effF (T : Tab) (d : Nat) (op : Op) (s : ASt) : ER :=
  match op with
  | .move x | .assign x => .ok True (s.ev x) []
  | .pick c a b => match s.ev c with
    | .c (.d (.sc (.bool t))) => .ok True (match t with | true => s.ev a | false => s.ev b) []
    | _ => .no
  | .alloc t => match T t with
    | some ti => .ok (s.free d = true) (.c (.ptr d 0)) [(d, .box t (ti.zero.map zac))]
    | none => .no
  | .box t x => match T t, (s.ev x).cells with
    | some ti, some cs => .ok (cs.length = ti.size ∧ s.free d = true) (.c (.ptr d 0)) [(d, .box t cs)]
    | _, _ => .no
  | .build t parts => match T t with
    | some ti => match ti.desc with
      | .struct fs => match buildF fs s (ti.zero.map zac) parts.toList with
        | some cs => .ok True (.agg cs) []
        | none => .no
      | .array m e => match T e with
        | some te => match buildF (arrFs te.size m 0) s (ti.zero.map zac) parts.toList with
          | some cs => .ok True (.agg cs) []
          | none => .no
        | none => .no
      | _ => .no
    | none => .no
  | .buildSlice t n parts => match T t with
    | some ti => match ti.desc with
      | .slice e => match T e with
        | some te => match buildSliceF te.size s (List.replicate n (te.zero.map zdc)) parts.toList with
          | some xs => .ok (s.free d = true ∧ n * te.size ≤ 2 ^ 24 ∧ 0 < te.size) (.c (.row d)) [(d, .arr e te.size xs ti.fast)]
          | none => .no
        | none => .no
      | _ => .no
    | none => .no
  | .makeSlice t l c => match T t, s.ev l, s.ev c with
    | some ti, .c (.d (.sc (.int _ n))), .c (.d (.sc (.int _ m))) => match ti.desc with
      | .slice e => match T e with
        | some te => .ok (s.free d = true ∧ 0 ≤ n ∧ n ≤ m ∧ m ≤ 2 ^ 40 ∧ te.bytes ≤ 256 ∧ 0 < te.size) (.c (.row d)) [(d, .arr e te.size (List.replicate n.toNat (te.zero.map zdc)) false)]
        | none => .no
      | _ => .no
    | _, _, _ => .no
  | .load t x => match loadF T t s.rows (s.ev x) with | some v => .ok True v [] | none => .no
  | .fieldAddr t x f => fieldAddrF T t f (s.ev x)
  | .field t x f => match fieldF T t f (s.ev x) with | some v => .ok True v [] | none => .no
  | .indexAddr t x i => indexAddrF T t s.rows (s.ev x) (s.ev i)
  | .index t x i => indexF T t (s.ev x) (s.ev i)
  | .binOp op t x y _ => binF T op t (s.ev x) (s.ev y)
  | .unOp op _ x => unF op (s.ev x)
  | .nilCheck x => match s.ev x with
    | .c (.ptr id off) => .ok True (.c (.ptr id off)) []
    | .c (.eptr id i off) => .ok True (.c (.eptr id i off)) []
    | .c (.dptr xs) => .ok True (.c (.dptr xs)) []
    | _ => .no
  | .convert src dst x => convF T src dst (s.ev x)
  | .slice t x lo hi mx => match optEv s lo, optEv s hi, optEv s mx with
    | some lo, some hi, some mx => sliceF T t s.rows lo hi mx (s.ev x)
    | _, _, _ => .no
  | .extract x i => match s.ev x with
    | .tup xs => match xs[i]? with | some v => .ok True v [] | none => .no
    | _ => .no
  | .makeFunc fn first captured => match scalars s first.toList, scalars s captured.toList with
    | some f, some c => .ok True (.c (.d (.sc (.func fn f.toArray c.toArray)))) []
    | some [], none => match fn with
      | .func f => match dptrs s captured.toList with
        | some xs => .ok True (.c (.d (.clo f xs))) []
        | none => match capsOf s captured.toList with
          | some (pre, id, post) => .ok True (.c (.pclo f pre id post)) []
          | none => .no
      | _ => .no
    | _, _ => .no
  | .call c => match c.callee with
    | .builtin .len => match c.args.toList, c.argTypes.toList with
      | [x], [t] => match T t with
        | some ti => match ti.desc with
          | .slice _ => lenF (s.ev x) s.rows
          | .string => lenS (s.ev x)
          | _ => .no
        | none => .no
      | _, _ => .no
    | .builtin .max => match c.args.toList with
      | [x, y] => match s.ev x, s.ev y with
        | .c (.d (.sc (.int k a))), .c (.d (.sc (.int _ b))) => .ok True (sint k (max a b)) []
        | _, _ => .no
      | _ => .no
    | .builtin .min => match c.args.toList with
      | [x, y] => match s.ev x, s.ev y with
        | .c (.d (.sc (.int k a))), .c (.d (.sc (.int _ b))) => .ok True (sint k (min a b)) []
        | _, _ => .no
      | _ => .no
    | _ => .no
  | _ => .no

end Go.Abs
