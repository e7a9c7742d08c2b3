/- The evaluator, first part: abstract values, the walk, and the operations that leave memory as it is, for every program whose tables are checked. -/
import GoSem.Dispatch
import Derived.Orders
import Derived.Tactics
import Derived.Laws.Cells
import Derived.Laws.StructEq
set_option linter.constructorNameAsVariable false
set_option linter.unusedVariables false
set_option linter.unusedSimpArgs false

namespace Go.Proofs.Ytmblcloikeobdaa.Ev
open Go

/-! # What a value stands for -/
inductive AV where
  | u
  | k (x : Bool)
  | i (k : IntKind) (n : Int)
  | b (x : Bool)
  | s (x : ByteArray)
  | ag (l : List AV)
  | tp (l : List AV)
  | ro (g fl : Bool) (wd : Nat) (rows : List (List AV))
  | rp (g fl : Bool) (wd : Nat) (rows : List (List AV)) (i o : Nat)
  | nl
  | sl (id lo len : Nat)
  | pt (id i o : Nat)
  | lp (slot o : Nat)
  | np
  | fn (f : Nat) (caps : List AV)
  /-- A slice whose capacity is known. -/
  | sc (id lo len cap : Nat)
  deriving Inhabited

inductive TyE where
  | int (k : IntKind) | bool | str | slice (e : Nat) | ptr (e : Nat) | func
  | strct (fs : List (Nat × Nat))
  | arr (n e : Nat)
  | other
structure TyI where
  d : TyE
  size : Nat
  bytes : Nat
  zero : List AV
structure Ob where
  wd : Nat
  fl : Bool
  rows : List (List AV)
abbrev Hp := List (Option Ob)
structure St where
  env : List AV
  bx : List (Option (List AV))
  hp : Hp

/-! ## Lists -/
def nth : List AV → Nat → AV
  | [], _ => .u
  | v :: _, 0 => v
  | _ :: l, n + 1 => nth l n
def upd {α : Type} : List α → Nat → α → List α
  | [], _, _ => []
  | _ :: l, 0, v => v :: l
  | x :: l, n + 1, v => x :: upd l n v
def at? {α : Type} : List α → Nat → Option α
  | [], _ => none
  | v :: _, 0 => some v
  | _ :: l, n + 1 => at? l n
/-- 'n' members from 'o' on, if there are so many. -/
def cut {α : Type} : (n o : Nat) → List α → Option (List α)
  | 0, _, _ => some []
  | n + 1, 0, x :: l => (cut n 0 l).bind fun r => some (x :: r)
  | n + 1, o + 1, _ :: l => cut (n + 1) o l
  | _ + 1, _, [] => none
/-- 'vs' laid over the members from 'o' on. -/
def over {α : Type} : (vs : List α) → (o : Nat) → List α → Option (List α)
  | [], _, l => some l
  | v :: vs, 0, _ :: l => (over vs 0 l).bind fun r => some (v :: r)
  | v :: vs, o + 1, x :: l => (over (v :: vs) o l).bind fun r => some (x :: r)
  | _ :: _, _, [] => none
def mapO {α β : Type} (f : α → Option β) : List α → Option (List β)
  | [] => some []
  | x :: l => (f x).bind fun y => (mapO f l).bind fun r => some (y :: r)
def reps {α : Type} : Nat → α → List α
  | 0, _ => []
  | n + 1, x => x :: reps n x
def chunk (wd : Nat) : Nat → List AV → List (List AV)
  | 0, _ => []
  | n + 1, l => l.take wd :: chunk wd n (l.drop wd)

/-! ## Tables -/
/-- In which orders a drawn region's operations are walked. -/
inductive Plan where
  | done | no
  | take (i : Nat) (p : Plan)
  | alt (i : Nat) (p q : Plan)
structure Cfg where
  ty : List TyI
  fns : List Func
  esc : (caller dst : Nat) → Bool
  live : (caller loop : Nat) → List Nat
  plan : (caller region : Nat) → Option Plan
  ok : Nat → Bool
  /-- Calls in drawn regions that write memory, by caller and slot. -/
  wr : (caller dst : Nat) → Bool := fun _ _ => false
  /-- Claims on the addresses of loads and stores in drawn regions, by the slot of the address: 0 none, 1 no box of one's own, n + 2 the box n. -/
  loc : (caller slot : Nat) → Nat := fun _ _ => 0
  /-- Variables of packages that are read alone: their block, the width of a row, the rows. -/
  gl : List (Nat × Nat × List (List AV)) := []
def tyd (C : Cfg) (t : Nat) : TyE := match at? C.ty t with | some x => x.d | none => .other
def tsz (C : Cfg) (t : Nat) : Nat := match at? C.ty t with | some x => x.size | none => 0
def tby (C : Cfg) (t : Nat) : Nat := match at? C.ty t with | some x => x.bytes | none => 0
def tze (C : Cfg) (t : Nat) : List AV := match at? C.ty t with | some x => x.zero | none => []
def isAg (C : Cfg) (t : Nat) : Bool := match tyd C t with | .strct _ | .arr _ _ => true | _ => false
def elemT (C : Cfg) (t : Nat) : Nat := match tyd C t with | .slice e => e | _ => 0
def leaves : AV → List AV
  | .ag l => l
  | v => [v]
def shut (C : Cfg) (t : Nat) (l : List AV) : Option AV :=
  match isAg C t, l with
  | true, x :: r => some (.ag (x :: r))
  | false, [v] => some v
  | _, _ => none
def asB : AV → Option Bool
  | .k x | .b x => some x
  | _ => none
/-- No address of a local box. -/
def okv : AV → Bool
  | .lp _ _ => false
  | _ => true
def okvs : List AV → Bool
  | [] => true
  | v :: l => okv v && okvs l
/-- Values that lie in one cell each. -/
def cellv : AV → Bool
  | .u | .lp _ _ | .ag _ | .tp _ => false
  | _ => true
def cellvs : List AV → Bool
  | [] => true
  | v :: l => cellv v && cellvs l
def isSc : AV → Bool
  | .k _ | .i _ _ | .b _ | .s _ => true
  | _ => false
def allSc : List AV → Bool
  | [] => true
  | v :: l => isSc v && allSc l
def flatRows : List (List AV) → Bool
  | [] => true
  | r :: l => allSc r && flatRows l

def ofConst : Value → Option AV
  | .bool b => some (.k b)
  | .int k n => some (.i k n)
  | .string s => some (.s s)
  | .slice none 0 0 => some .nl
  | .pointer none => some .np
  | _ => none
/-- 'some', of a value that is written out. -/
def someV (v : AV) : Option AV := match v with
  | .u => some .u
  | .k x => match x with
    | true => some (.k true)
    | false => some (.k false)
  | .i k n => some (.i k n)
  | .b x => some (.b x)
  | .s x => some (.s x)
  | .ag l => some (.ag l)
  | .tp l => some (.tp l)
  | .ro g fl wd rows => some (.ro g fl wd rows)
  | .rp g fl wd rows i o => some (.rp g fl wd rows i o)
  | .nl => some .nl
  | .sl id lo len => some (.sl id lo len)
  | .pt id i o => some (.pt id i o)
  | .lp s o => some (.lp s o)
  | .np => some .np
  | .fn f caps => some (.fn f caps)
  | .sc id lo len cap => some (.sc id lo len cap)
@[simp] theorem someV_eq (v : AV) : someV v = some v := by
  cases v <;> try rfl
  rename_i x
  cases x <;> rfl
def arg (st : St) : Operand → Option AV
  | .tmp t => someV (nth st.env t)
  | .const v => ofConst v
  | .func f => some (.fn f [])
  | .global _ => none
def args? (st : St) : List Operand → Option (List AV) := mapO (arg st)

/-! ## Operators -/
def intBin (op : BinOp) (k : IntKind) (a b : Int) : Option AV :=
  match op with
  | .add => some (.i k (k.wrap (a + b)))
  | .sub => some (.i k (k.wrap (a - b)))
  | .mul => some (.i k (k.wrap (a * b)))
  | .and => some (.i k (k.wrap (BitVec.ofInt k.bits a &&& BitVec.ofInt k.bits b).toNat))
  | .or => some (.i k (k.wrap (BitVec.ofInt k.bits a ||| BitVec.ofInt k.bits b).toNat))
  | .xor => some (.i k (k.wrap (BitVec.ofInt k.bits a ^^^ BitVec.ofInt k.bits b).toNat))
  | .eql => some (.b (a == b))
  | .neq => some (.b (a != b))
  | .lss => some (.b (decide (a < b)))
  | .leq => some (.b (decide (a ≤ b)))
  | .gtr => some (.b (decide (a > b)))
  | .geq => some (.b (decide (a ≥ b)))
  | _ => none
def strBin (op : BinOp) (a b : ByteArray) : Option AV :=
  match op with
  | .eql => some (.b (a.toList == b.toList))
  | .neq => some (.b (!(a.toList == b.toList)))
  | .lss => some (.b (Op.bytesLess a.toList b.toList))
  | .leq => some (.b (Op.bytesLess a.toList b.toList || a.toList == b.toList))
  | .gtr => some (.b (!(Op.bytesLess a.toList b.toList || a.toList == b.toList)))
  | .geq => some (.b (!Op.bytesLess a.toList b.toList))
  | _ => none
def byteAt (x : ByteArray) (n : Int) : Int := match x[n.toNat]? with | some c => (c.toNat : Int) | none => 0
def byteRows (z : ByteArray) : List (List AV) := z.data.toList.map fun c => [.i .u8 (c.toNat : Int)]
def bytesOf : List (List AV) → Option (List UInt8)
  | [] => some []
  | [.i .u8 n] :: l => (bytesOf l).bind fun r => some (UInt8.ofNat n.toNat :: r)
  | _ => none
def eqLeaf : TyE → AV → AV → Option Bool
  | .int _, .i k a, .i k' b => match k == k' with | true => some (a == b) | false => none
  | .str, .s a, .s b => some (a.toList == b.toList)
  | .bool, x, y => match asB x, asB y with | some a, some b => some (a == b) | _, _ => none
  | _, _, _ => none
/-- Structs of numbers, bools and strings alone. -/
def eqFs (C : Cfg) : Nat → List (Nat × Nat) → List AV → List AV → Option Bool
  | _, [], [], [] => some true
  | j, (t, o) :: fs, x :: l, y :: r => match o == j, eqLeaf (tyd C t) x y, eqFs C (j + 1) fs l r with
    | true, some a, some b => some (a && b)
    | _, _, _ => none
  | _, _, _, _ => none
def eqAg (C : Cfg) (t : Nat) (l r : List AV) : Option Bool := match tyd C t with
  | .strct fs => eqFs C 0 fs l r
  | _ => none
/-- The operators: what holds ahead of 'K'. -/
def binP (C : Cfg) (t : Nat) (op : BinOp) (K : AV → Prop) : AV → AV → Prop
  | .i k a, .i k' b => match op with
    | .shl => 0 ≤ b ∧ K (.i k (k.wrap (a * 2 ^ (min b.toNat k.bits))))
    | .shr => 0 ≤ b ∧ K (.i k (a.fdiv (2 ^ (min b.toNat k.bits))))
    | .quo => k = k' ∧ b ≠ 0 ∧ K (.i k (k.wrap (a.tdiv b)))
    | .rem => k = k' ∧ b ≠ 0 ∧ K (.i k (a.tmod b))
    | op => k = k' ∧ (match intBin op k a b with | some v => K v | none => False)
  | .s a, .s b => match op with
    | .add => a.size + b.size ≤ 4611686018427387904 ∧ K (.s (a ++ b))
    | op => match strBin op a b with | some v => K v | none => False
  | .ag l, .ag r => match op, eqAg C t l r with
    | .eql, some x => K (.b x)
    | .neq, some x => K (.b (!x))
    | _, _ => False
  | x, y => match tyd C t with
    | .bool => match op, asB x, asB y with
      | .eql, some a, some b => K (.b (a == b))
      | .neq, some a, some b => K (.b (!(a == b)))
      | _, _, _ => False
    | _ => False
def un : UnOp → AV → Option AV
  | .not, .b x => some (.b (!x))
  | .not, .k x => some (.k (!x))
  | .neg, .i k n => some (.i k (k.wrap (0 - n)))
  | _, _ => none
def minmax (mx : Bool) : List AV → Option AV
  | [.i k x, .i _ y] => some (.i k (if mx then (if y > x then y else x) else (if y < x then y else x)))
  | _ => none

/-! ## Strictness: a walk by 'whnf' goes on with values that are written out -/
def fv (v : AV) (K : AV → Prop) : Prop := match v with
  | .u => K .u
  | .k x => match x with
    | true => K (.k true)
    | false => K (.k false)
  | .i k n => K (.i k n)
  | .b x => K (.b x)
  | .s x => K (.s x)
  | .ag l => K (.ag l)
  | .tp l => K (.tp l)
  | .ro g fl wd rows => K (.ro g fl wd rows)
  | .rp g fl wd rows i o => K (.rp g fl wd rows i o)
  | .nl => K .nl
  | .sl id lo len => K (.sl id lo len)
  | .pt id i o => K (.pt id i o)
  | .lp s o => K (.lp s o)
  | .np => K .np
  | .fn f caps => K (.fn f caps)
  | .sc id lo len cap => K (.sc id lo len cap)
def fl {α : Type} : List α → (List α → Prop) → Prop
  | [], K => K []
  | x :: l, K => fl l fun r => K (x :: r)
def updK {α : Type} : List α → Nat → α → (List α → Prop) → Prop
  | [], _, _, K => K []
  | _ :: l, 0, v, K => K (v :: l)
  | x :: l, n + 1, v, K => updK l n v fun r => K (x :: r)
theorem fv_eq (v : AV) (K : AV → Prop) : fv v K = K v := by
  cases v <;> try rfl
  rename_i x
  cases x <;> rfl
def flH : Hp → (Hp → Prop) → Prop
  | [], K => K []
  | x :: l, K => match x with
    | none => flH l fun r => K (none :: r)
    | some ob => match ob with
      | ⟨wd, b, rows⟩ => match b with
        | true => flH l fun r => K (some ⟨wd, true, rows⟩ :: r)
        | false => flH l fun r => K (some ⟨wd, false, rows⟩ :: r)
/-- A count, written out. -/
def nk : Nat → (Nat → Prop) → Prop
  | 0, K => K 0
  | n + 1, K => nk n fun m => K (m + 1)
theorem nk_eq (n : Nat) (K : Nat → Prop) : nk n K = K n := by
  induction n generalizing K with
  | zero => rfl
  | succ n ih => simp only [nk, ih]
theorem flH_eq (l : Hp) (K : Hp → Prop) : flH l K = K l := by
  induction l generalizing K with
  | nil => rfl
  | cons x l ih =>
    cases x with
    | none => simp only [flH, ih]
    | some ob =>
      obtain ⟨wd, b, rows⟩ := ob
      cases b <;> simp only [flH, ih]
theorem fl_eq {α : Type} (l : List α) (K : List α → Prop) : fl l K = K l := by
  induction l generalizing K with
  | nil => rfl
  | cons x l ih => simp only [fl, ih]
theorem updK_eq {α : Type} (l : List α) (n : Nat) (v : α) (K : List α → Prop) : updK l n v K = K (upd l n v) := by
  induction l generalizing n K with
  | nil => rfl
  | cons x l ih => cases n with
    | zero => rfl
    | succ n => simp only [updK, upd, ih]
/-! ## Memory -/
/-- The rows that a slice of this width shows. -/
def rowsR (hp : Hp) (fl : Bool) (wd : Nat) (rows : List (List AV)) : AV → Prop
  | .nl => rows = []
  | .ro _ fl' wd' r => fl' = fl ∧ wd' = wd ∧ rows = r
  | .sl id lo len => match at? hp id with
    | some (some ob) => ob.fl = fl ∧ ob.wd = wd ∧ cut len lo ob.rows = some rows
    | _ => False
  | .sc id lo len _ => match at? hp id with
    | some (some ob) => ob.fl = fl ∧ ob.wd = wd ∧ cut len lo ob.rows = some rows
    | _ => False
  | .s z => fl = true ∧ wd = 1 ∧ rows = byteRows z
  | _ => False
def lenV : TyE → AV → Option Int
  | .slice _, .nl => some 0
  | .slice _, .ro _ _ _ rows => some rows.length
  | .slice _, .sl _ _ len => some len
  | .slice _, .sc _ _ len _ => some len
  | .str, .s x => some x.size
  | .arr n _, _ => some n
  | _, _ => none
def cutK (C : Cfg) (t o : Nat) (row : List AV) (K : AV → Prop) : Prop :=
  match cut (tsz C t) o row with
  | some l => match shut C t l with
    | some v => K v
    | none => False
  | none => False
def loadP (C : Cfg) (st : St) (t : Nat) (K : AV → Prop) : AV → Prop
  | .lp s o => match at? st.bx s with
    | some (some cells) => cutK C t o cells K
    | _ => False
  | .pt id i o => match at? st.hp id with
    | some (some ob) => ∃ row, at? ob.rows i = some row ∧ cutK C t o row K
    | _ => False
  | .rp _ _ _ rows i o => ∃ row, at? rows i = some row ∧ cutK C t o row K
  | _ => False
def storeP (C : Cfg) (st : St) (t : Nat) (v : AV) (K : St → Prop) : AV → Prop
  | .lp s o => (cellvs (leaves v) && (leaves v).length == tsz C t && tsz C t != 0) = true ∧ match at? st.bx s with
    | some (some cells) => match over (leaves v) o cells with
      | some c => match st with | ⟨e, b, h⟩ => fl c fun c => updK b s (some c) fun b => K ⟨e, b, h⟩
      | none => False
    | _ => False
  | .pt id i o => (cellvs (leaves v) && (leaves v).length == tsz C t && tsz C t != 0) = true ∧ match at? st.hp id with
    | some (some ob) => (!ob.fl || allSc (leaves v)) = true ∧ ∃ row, at? ob.rows i = some row ∧ match over (leaves v) o row with
      | some c => match st with | ⟨e, b, h⟩ => fl c fun c => updK h id (some ⟨ob.wd, ob.fl, upd ob.rows i c⟩) fun h => K ⟨e, b, h⟩
      | none => False
    | _ => False
  | _ => False
def fieldOff (C : Cfg) (t f : Nat) : Option (Nat × Nat) := match tyd C t with
  | .strct fs => at? fs f
  | _ => none
def addOff (n : Nat) : AV → Option AV
  | .lp s o => some (.lp s (o + n))
  | .pt id i o => some (.pt id i (o + n))
  | .rp g fl wd rows i o => some (.rp g fl wd rows i (o + n))
  | _ => none
def optK {α : Type} (x : Option α) (K : α → Prop) : Prop := match x with | some v => K v | none => False
def wdOk (hp : Hp) (id sz : Nat) : Prop := match at? hp id with | some (some ob) => ob.wd = sz | _ => False
/-- A sum, without a leading zero. -/
def pl : Nat → Nat → Nat
  | 0, n => n
  | a + 1, n => a + 1 + n
@[simp] theorem pl_eq (a b : Nat) : pl a b = a + b := by cases a <;> simp [pl]
def indexAP (C : Cfg) (hp : Hp) (t : Nat) (K : AV → Prop) (x : AV) : AV → Prop
  | .i _ n => match tyd C t with
    | .slice e => (tsz C e != 0) = true ∧ match x with
      | .sl id lo len => wdOk hp id (tsz C e) ∧ (0 ≤ n ∧ n < (len : Int)) ∧ K (.pt id (pl lo n.toNat) 0)
      | .ro g fl wd rows => wd = tsz C e ∧ (0 ≤ n ∧ n < (rows.length : Int)) ∧ K (.rp g fl wd rows n.toNat 0)
      | _ => False
    | .arr len e => (tsz C e != 0) = true ∧ (0 ≤ n ∧ n < (len : Int)) ∧ optK (addOff (n.toNat * tsz C e) x) K
    | _ => False
  | _ => False
def indexVP (C : Cfg) (t : Nat) (K : AV → Prop) (x : AV) : AV → Prop
  | .i _ n => match x with
    | .s b => tyd C t = .str ∧ (0 ≤ n ∧ n < (b.size : Int)) ∧ K (.i .u8 (byteAt b n))
    | .ag l => match tyd C t with
      | .arr len e => (tsz C e != 0) = true ∧ (0 ≤ n ∧ n < (len : Int)) ∧ cutK C e (n.toNat * tsz C e) l K
      | _ => False
    | _ => False
  | _ => False
def fieldVP (C : Cfg) (t f : Nat) (K : AV → Prop) : AV → Prop
  | .ag l => match fieldOff C t f with
    | some (ft, off) => cutK C ft off l K
    | none => False
  | _ => False
def bound (st : St) (dflt : Int) : Option Operand → Option Int
  | none => some dflt
  | some o => match arg st o with | some (.i _ n) => some n | _ => none
def sliceP (C : Cfg) (st : St) (t : Nat) (lo hi : Option Operand) (K : AV → Prop) (x : AV) : Prop :=
  match tyd C t with
  | .str => match x with
    | .s b => match bound st b.size hi, bound st 0 lo with
      | some h, some l => (0 ≤ l ∧ l ≤ h ∧ h ≤ (b.size : Int)) ∧ K (.s (b.extract l.toNat h.toNat))
      | _, _ => False
    | _ => False
  | .slice e => (tsz C e != 0) = true ∧ match x with
    | .sl id l0 len => match bound st len hi, bound st 0 lo with
      | some h, some l => wdOk st.hp id (tsz C e) ∧ (0 ≤ l ∧ l ≤ h ∧ h ≤ (len : Int)) ∧ K (.sl id (pl l0 l.toNat) (h - l).toNat)
      | _, _ => False
    | .sc id l0 len cap => match bound st len hi, bound st 0 lo with
      | some h, some l => wdOk st.hp id (tsz C e) ∧ (0 ≤ l ∧ l ≤ h ∧ h ≤ (cap : Int) ∧ l < (cap : Int)) ∧ K (.sc id (pl l0 l.toNat) (h - l).toNat (cap - l.toNat))
      | _, _ => False
    | .ro g fl wd rows => match bound st rows.length hi, bound st 0 lo with
      | some h, some l => wd = tsz C e ∧ (0 ≤ l ∧ l ≤ h ∧ h ≤ (rows.length : Int)) ∧ K (.ro g fl wd ((rows.drop l.toNat).take (h - l).toNat))
      | _, _ => False
    | .nl => match bound st 0 hi, bound st 0 lo with
      | some h, some l => (l = 0 ∧ h = 0) ∧ K .nl
      | _, _ => False
    | _ => False
  | _ => False
def place (C : Cfg) (fs : List (Nat × Nat)) (i : Nat) : Option (Nat × Nat) := match at? fs i with
  | some p => some (p.2, tsz C p.1)
  | none => none
/-- Parts laid into zero leaves. -/
def fill (st : St) (place : Nat → Option (Nat × Nat)) : List (Nat × Operand) → List AV → Option (List AV)
  | [], l => some l
  | (i, x) :: r, l => match place i, arg st x with
    | some p, some v => match (leaves v).length == p.2 && p.2 != 0 && cellvs (leaves v) with
      | true => (over (leaves v) p.1 l).bind (fill st place r)
      | false => none
    | _, _ => none
def hasLp (d : Nat) : List AV → Bool
  | [] => false
  | .lp s _ :: l => s == d || hasLp d l
  | _ :: l => hasLp d l
def noLp (d : Nat) : List AV → List AV
  | [] => []
  | .lp s o :: l => (if s = d then .u else .lp s o) :: noLp d l
  | v :: l => v :: noLp d l

def noLpK (d : Nat) : List AV → (List AV → Prop) → Prop
  | [], K => K []
  | v :: l, K => match v with
    | .lp s o => match s == d with
      | true => noLpK d l fun r => K (.u :: r)
      | false => noLpK d l fun r => K (.lp s o :: r)
    | v => noLpK d l fun r => K (v :: r)
theorem noLpK_eq (d : Nat) (l : List AV) (K : List AV → Prop) : noLpK d l K = K (noLp d l) := by
  induction l generalizing K with
  | nil => rfl
  | cons v l ih =>
    cases v <;> simp only [noLpK, noLp, ih]
    rename_i s o
    by_cases h : s = d
    · simp [h]
    · have : (s == d) = false := by simp [h]
      rw [this]; simp [h]
/-! ## Calls -/
def All2 {α β : Type} (R : α → β → Prop) : List α → List β → Prop
  | [], [] => True
  | x :: l, y :: r => R x y ∧ All2 R l r
  | _, _ => False
/-- What a value reads as, for one who only reads: the form of an argument. -/
def Deep (hp : Hp) : Nat → AV → AV → Prop
  | 0, _, _ => False
  | d + 1, v, x => match v with
    | .nl => ∃ fl wd, x = .ro true fl wd []
    | .sl id lo len => match at? hp id with
      | some (some ob) => ∃ rows, cut len lo ob.rows = some rows ∧ (if ob.fl = true then x = .ro true true ob.wd rows else ∃ r, All2 (All2 (Deep hp d)) rows r ∧ x = .ro true false ob.wd r)
      | _ => False
    | .pt id i o => match at? hp id with
      | some (some ob) => if ob.fl = true then x = .rp true true ob.wd ob.rows i o else ∃ r, All2 (All2 (Deep hp d)) ob.rows r ∧ x = .rp true false ob.wd r i o
      | _ => False
    | .ro _ fl wd rows => if fl = true then x = .ro true true wd rows else ∃ r, All2 (All2 (Deep hp d)) rows r ∧ x = .ro true false wd r
    | .rp _ fl wd rows i o => if fl = true then x = .rp true true wd rows i o else ∃ r, All2 (All2 (Deep hp d)) rows r ∧ x = .rp true false wd r i o
    | .ag l => ∃ r, All2 (Deep hp d) l r ∧ x = .ag r
    | .tp l => ∃ r, All2 (Deep hp d) l r ∧ x = .tp r
    | .fn f l => ∃ r, All2 (Deep hp d) l r ∧ x = .fn f r
    | .lp _ _ => False
    | .sc _ _ _ _ => False
    | .k b => x = .b b ∨ x = .k b
    | v => x = v
/-- What a result reads as behind the call. -/
def Back (hp : Hp) : Nat → AV → AV → Prop
  | 0, _, _ => False
  | d + 1, v, x => match v with
    | .nl => ∃ fl wd, x = .ro false fl wd []
    | .sl id lo len => match at? hp id with
      | some (some ob) => ∃ rows, cut len lo ob.rows = some rows ∧ (if ob.fl = true then x = .ro false true ob.wd rows else ∃ r, All2 (All2 (Back hp d)) rows r ∧ x = .ro false false ob.wd r)
      | _ => False
    | .ag l => ∃ r, All2 (Back hp d) l r ∧ x = .ag r
    | .tp l => ∃ r, All2 (Back hp d) l r ∧ x = .tp r
    | .pt _ _ _ | .lp _ _ | .fn _ _ | .sc _ _ _ _ => False
    | .k b => x = .b b ∨ x = .k b
    | v => x = v
mutual
/-- Does a value hold no guest? -/
def own0 : AV → Bool
  | .ro g fl _ rows => !g && (fl || own0Rows rows)
  | .rp g fl _ rows _ _ => !g && (fl || own0Rows rows)
  | .ag l | .tp l | .fn _ l => own0s l
  | _ => true
def own0s : List AV → Bool
  | [] => true
  | v :: l => own0 v && own0s l
def own0Rows : List (List AV) → Bool
  | [] => true
  | v :: l => own0s v && own0Rows l
end
mutual
/-- Does a value lead to nothing of the caller's own heap? -/
def clean : AV → Bool
  | .sl _ _ _ | .pt _ _ _ | .lp _ _ | .sc _ _ _ _ => false
  | .ag l | .tp l | .fn _ l => cleans l
  | _ => true
def cleans : List AV → Bool
  | [] => true
  | v :: l => clean v && cleans l
end
mutual
/-- The same with the heap's own numbers moved up. -/
def mv (k : Nat) : AV → AV
  | .sl id lo len => .sl (k + id) lo len
  | .sc id lo len cap => .sc (k + id) lo len cap
  | .pt id i o => .pt (k + id) i o
  | .ag l => .ag (mvs k l)
  | .tp l => .tp (mvs k l)
  | .fn f l => .fn f (mvs k l)
  | v => v
def mvs (k : Nat) : List AV → List AV
  | [] => []
  | v :: l => mv k v :: mvs k l
end
def mvRows (k : Nat) : List (List AV) → List (List AV)
  | [] => []
  | r :: l => mvs k r :: mvRows k l
def mvHp (k : Nat) : Hp → Hp
  | [] => []
  | some ob :: l => some (if ob.fl then ob else { ob with rows := mvRows k ob.rows }) :: mvHp k l
  | none :: l => none :: mvHp k l
def ownHp : Hp → Bool
  | [] => true
  | some ob :: l => (ob.fl || own0Rows ob.rows) && ownHp l
  | none :: l => ownHp l
def setRows : List (List AV) → Nat → List (List AV) → List (List AV)
  | rows, n, l => rows.take n ++ l ++ rows.drop (n + l.length)
end Go.Proofs.Ytmblcloikeobdaa.Ev

namespace Go.Proofs.Ytmblcloikeobdaa.Ev
open Go

/-! # What values stand for, in a world -/
structure Inj where
  base : Nat
  K : Nat → Prop
  F : Nat → Prop
  m : Nat → Option (Nat × Nat × Nat)
  /-- What is known of variables of packages. -/
  G : List (Nat × Nat × List (List AV)) := []

/-- The same, with no memory of one's own. -/
def Inj.noM (J : Inj) : Inj := { J with m := fun _ => none }
def oneV : Value → Bool
  | .agg _ | .tuple _ => false
  | _ => true
mutual
def VR (J : Inj) (w : World) : AV → Value → Prop
  | .u, _ => True
  | .k x, v => v = .bool x
  | .i k n, v => v = .int k n
  | .b x, v => v = .bool x
  | .s x, v => v = .string x
  | .ag l, v => ∃ cs : List Value, v = .agg cs.toArray ∧ VRs J w l cs
  | .tp l, v => ∃ cs : List Value, v = .tuple cs.toArray ∧ VRs J w l cs
  | .ro g fl wd rows, v => ∃ a cap, v = .slice a rows.length cap ∧ rows.length ≤ cap ∧ (fl = true → flatRows rows = true) ∧
      (rows = [] ∨ ∃ blk off, a = some ⟨blk, off, none⟩ ∧ J.F blk ∧ (g = false → J.base ≤ blk) ∧ VRrows J.noM w rows wd blk off)
  | .rp g fl wd rows i o, v => (fl = true → flatRows rows = true) ∧ ∃ blk off, v = .pointer (some ⟨blk, off + i * wd + o, none⟩) ∧ J.F blk ∧
      (g = false → J.base ≤ blk) ∧ VRrows J.noM w rows wd blk off
  | .nl, v => ∃ a, v = .slice a 0 0
  | .sl id lo len, v => ∃ a cap, v = .slice a len cap ∧ len ≤ cap ∧ (cap = 0 ∨ ∃ blk base wd c e fz, J.m id = some (blk, base, wd) ∧
      a = some ⟨blk, base + lo * wd, none⟩ ∧ w.heap[blk]? = some (.cells c e fz) ∧ base + (lo + cap) * wd ≤ c.size)
  | .sc id lo len cap, v => ∃ blk base wd c e fz, J.m id = some (blk, base, wd) ∧ v = .slice (some ⟨blk, base + lo * wd, none⟩) len cap ∧ len ≤ cap ∧ w.heap[blk]? = some (.cells c e fz) ∧ base + (lo + cap) * wd ≤ c.size
  | .pt id i o, v => ∃ blk base wd, J.m id = some (blk, base, wd) ∧ v = .pointer (some ⟨blk, base + i * wd + o, none⟩)
  | .lp _ _, _ => False
  | .np, v => v = .pointer none
  | .fn f caps, v => ∃ cs : List Value, v = .func (.func f) #[] cs.toArray ∧ VRs J w caps cs
def VRs (J : Inj) (w : World) : List AV → List Value → Prop
  | [], [] => True
  | x :: l, v :: r => VR J w x v ∧ VRs J w l r
  | _, _ => False
def VRcells (J : Inj) (w : World) : List AV → Nat → Nat → Prop
  | [], _, _ => True
  | x :: l, blk, o => (∃ v, w.cell? ⟨blk, o, none⟩ = some v ∧ oneV v = true ∧ VR J w x v) ∧ VRcells J w l blk (o + 1)
def VRrows (J : Inj) (w : World) : List (List AV) → Nat → Nat → Nat → Prop
  | [], _, _, _ => True
  | r :: l, wd, blk, off => (r.length = wd ∧ VRcells J w r blk off) ∧ VRrows J w l wd blk (off + wd)
end

def Own (w : World) (blk : Nat) : Prop := ∃ c e fz, w.heap[blk]? = some (.cells c e fz) ∧ ∀ o : Nat, w.frozen? ⟨blk, o, none⟩ = false
def ObR (J : Inj) (w : World) (id : Nat) (ob : Ob) : Prop :=
  (ob.fl = true → flatRows ob.rows = true) ∧ match J.m id with
    | none => ob.rows = []
    | some (blk, base, wd) => wd = ob.wd ∧ ¬ J.F blk ∧ ¬ J.K blk ∧ J.base ≤ blk ∧ Own w blk ∧ VRrows J w ob.rows ob.wd blk base
def live (hp : Hp) (id : Nat) : Prop := ∃ ob, at? hp id = some (some ob)
/-- A block is of so many cells. -/
def blkSz (w : World) (b n : Nat) : Prop := ∃ c e fz, w.heap[b]? = some (.cells c e fz) ∧ c.size = n
structure Inv (J : Inj) (w : World) (hp : Hp) : Prop where
  bnd : J.base ≤ w.heap.size
  Fb : ∀ b, J.F b → b < w.heap.size
  Kb : ∀ b, J.K b → b < w.heap.size
  ob : ∀ id ob, at? hp id = some (some ob) → ObR J w id ob
  inj : ∀ id id' x x', live hp id → live hp id' → J.m id = some x → J.m id' = some x' → x.1 = x'.1 → id = id'
  dom : ∀ id x, J.m id = some x → id < hp.length
  gl : ∀ x ∈ J.G, J.F x.1 ∧ flatRows x.2.2 = true ∧ VRrows J.noM w x.2.2 x.2.1 x.1 0 ∧ blkSz w x.1 (x.2.1 * x.2.2.length)
/-- Nothing but memory and the count of draws has changed. -/
def Same3 (w w' : World) : Prop := w'.os = w.os ∧ w'.tape = w.tape ∧ w'.output = w.output
structure Ext (J J' : Inj) (w w' : World) : Prop where
  G : J'.G = J.G
  base : J'.base = J.base
  K : J'.K = J.K
  F : ∀ b, J.F b → J'.F b
  Fnew : ∀ b, J'.F b → J.F b ∨ w.heap.size ≤ b
  m : ∀ id x, J.m id = some x → J'.m id = some x
  size : w.heap.size ≤ w'.heap.size
  keep : ∀ b, J.F b ∨ J.K b → w'.heap[b]? = w.heap[b]?
  shape : ∀ (b : Nat) (c : Array Value) (e : TypeId) (fz : Nat × Nat), w.heap[b]? = some (Obj.cells c e fz) → ∃ (c' : Array Value) (fz' : Nat × Nat), w'.heap[b]? = some (Obj.cells c' e fz') ∧ c'.size = c.size
  same : Same3 w w'

/-- What a call comes to: it steps through a body, or is a rule of the model. -/
def Does (P : Program) (f : Nat) (vals : Array Value) (w : World) (R : Value → World → Prop) : Prop :=
  ((callFunc f vals).run P w = .ok (.enter f vals) w ∧ Calls P f vals w fun e w' => ∃ v, e = .returned v ∧ R v w') ∨
  ∃ v w', (callFunc f vals).run P w = .ok (.value v) w' ∧ R v w'
/-- The call of function 'f' at these arguments, over this heap of one's own, comes to 'r', and the heap to 'hp''. -/
def Fn (C : Cfg) (P : Program) (f : Nat) (args : List AV) (hp : Hp) (r : AV) (hp' : Hp) : Prop :=
  ∀ (J : Inj) (w : World) (vals : List Value), J.G = C.gl → Inv J w hp → VRs J w args vals →
    Does P f vals.toArray w fun v w' => ∃ J', Ext J J' w w' ∧ Inv J' w' hp' ∧ VR J' w' r v
/-- The call reads its arguments alone, and hands back new memory. -/
def RO (C : Cfg) (P : Program) (f : Nat) (args : List AV) (r : AV) : Prop :=
  ∀ (J : Inj) (w : World) (vals : List Value), J.G = C.gl → Inv J w [] → VRs J w args vals →
    Does P f vals.toArray w fun v w' => ∃ r0 hp' J', Back hp' 4 r0 r ∧ Ext J J' w w' ∧ Inv J' w' hp' ∧ VR J' w' r0 v

/-- The call comes to something of which 'Q' holds. -/
def Fx (C : Cfg) (P : Program) (f : Nat) (args : List AV) (hp : Hp) (Q : AV → Hp → Prop) : Prop :=
  ∀ (J : Inj) (w : World) (vals : List Value), J.G = C.gl → Inv J w hp → VRs J w args vals →
    Does P f vals.toArray w fun v w' => ∃ r hp' J', Q r hp' ∧ Ext J J' w w' ∧ Inv J' w' hp' ∧ VR J' w' r v
/-- The call reads its arguments alone, and hands back new memory of which 'Q' holds. -/
def Rx (C : Cfg) (P : Program) (f : Nat) (args : List AV) (Q : AV → Prop) : Prop :=
  ∀ (J : Inj) (w : World) (vals : List Value), J.G = C.gl → Inv J w [] → VRs J w args vals →
    Does P f vals.toArray w fun v w' => ∃ r r0 hp' J', Q r ∧ Back hp' 4 r0 r ∧ Ext J J' w w' ∧ Inv J' w' hp' ∧ VR J' w' r0 v

/-! # Activations -/
def EV (J : Inj) (lb : Nat → Nat) (w : World) : AV → Value → Prop
  | .lp s o, v => v = .pointer (some ⟨lb s, o, none⟩)
  | x, v => VR J w x v
def BoxR (J : Inj) (lb : Nat → Nat) (w : World) (s : Nat) (cells : List AV) : Prop :=
  ¬ J.F (lb s) ∧ ¬ J.K (lb s) ∧ Own w (lb s) ∧ VRcells J w cells (lb s) 0
def boxed (st : St) (s : Nat) : Prop := ∃ c, at? st.bx s = some (some c)
structure Rel (J : Inj) (lb : Nat → Nat) (w : World) (a : Act) (st : St) : Prop where
  inv : Inv J w st.hp
  sz : a.tmps.size = st.env.length
  env : ∀ t, t < st.env.length → EV J lb w (nth st.env t) (a.tmps.getD t undef)
  box : ∀ s cells, at? st.bx s = some (some cells) → BoxR J lb w s cells
  binj : ∀ s s', boxed st s → boxed st s' → lb s = lb s' → s = s'
  bobj : ∀ s id x, boxed st s → live st.hp id → J.m id = some x → x.1 ≠ lb s
  dfr : a.defers = []

inductive Ex where
  | norm | exit (id : Nat) | ret
def exM : Exit → Ex → Prop
  | .normal, .norm => True
  | .exit id, .exit k => id = k
  | .ret, .ret => True
  | _, _ => False
def Post (J₀ : Inj) (w₀ : World) (R : Ex → St → Prop) : Exit → Act → World → Prop := fun e a w =>
  ∃ ex st J lb, R ex st ∧ exM e ex ∧ Rel J lb w a st ∧ Ext J₀ J w₀ w
/-- The same, with what lies below 'n' alone. -/
def Inj.low (J : Inj) (n : Nat) : Inj := { J with m := fun id => if id < n then J.m id else none }
/-- What lies from 'n' on may have been renamed. -/
def PostN (n : Nat) (J₀ : Inj) (w₀ : World) (R : Ex → St → Prop) : Exit → Act → World → Prop := fun e a w =>
  ∃ ex st J lb, R ex st ∧ exM e ex ∧ Rel J lb w a st ∧ Ext (J₀.low n) J w₀ w
/-- From whatever this state stands for, the code comes to an end and a state of which 'R' holds. -/
def Tri (C : Cfg) (n : Nat) (P : Program) (c : Code) (st : St) (R : Ex → St → Prop) : Prop :=
  ∀ J lb w a, J.G = C.gl → Rel J lb w a st → c.wp P (PostN n J w R) a w

/-! # The walk -/
def St.put (st : St) (d : Option Nat) (v : AV) : St := match d with
  | some d => ⟨upd st.env d v, st.bx, st.hp⟩
  | none => st
/-- 'put', and on with values that are written out. -/
def putK (st : St) (d : Option Nat) (v : AV) (K : St → Prop) : Prop := match d, st with
  | some d, ⟨e, b, h⟩ => fv v fun v => updK e d v fun e => K ⟨e, b, h⟩
  | none, ⟨e, b, h⟩ => K ⟨e, b, h⟩
theorem putK_eq (st : St) (d : Option Nat) (v : AV) (K : St → Prop) : putK st d v K = K (st.put d v) := by
  cases d <;> simp [putK, St.put, fv_eq, updK_eq]
def boxP (C : Cfg) (me : Nat) (q : Bool) (dst : Option Nat) (l : List AV) (st : St) (K : AV → St → Prop) : Prop :=
  match dst, st with
  | none, _ => False
  | some d, ⟨e, b, h⟩ => cellvs l = true ∧ fl l fun l => match C.esc me d with
    | true => q = false ∧ nk h.length fun k => flH (h ++ [some ⟨l.length, allSc l, [l]⟩]) fun h' => K (.pt k 0 0) ⟨e, b, h'⟩
    | false => (!q || !hasLp d e) = true ∧ noLpK d e fun e => updK b d (some l) fun b => K (.lp d 0) ⟨e, b, h⟩
def pushK (st : St) (ob : Ob) (v : Nat → AV) (K : AV → St → Prop) : Prop := match st with
  | ⟨e, b, h⟩ => nk h.length fun k => flH (h ++ [some ob]) fun h => K (v k) ⟨e, b, h⟩
def setK (st : St) (id : Nat) (ob : Option Ob) (K : St → Prop) : Prop := match st with
  | ⟨e, b, h⟩ => updK h id ob fun h => K ⟨e, b, h⟩
def callP (C : Cfg) (P : Program) (q : Bool) (f : Nat) (args : List AV) (st : St) (K : AV → St → Prop) : Prop :=
  (∃ xs, All2 (Deep st.hp 4) args xs ∧ ∃ r, RO C P f xs r ∧ (cleans args || own0 r) = true ∧ K r st) ∨
  (q = false ∧ ∃ xs, All2 (Deep st.hp 4) args xs ∧ ∃ r hp', Fn C P f xs [] r hp' ∧ (cleans args || (own0 r && ownHp hp')) = true ∧
    match st with
    | ⟨e, b, h⟩ => nk h.length fun k => flH (h ++ mvHp k hp') fun h' => K (mv k r) ⟨e, b, h'⟩) ∨
  (q = false ∧ okvs args = true ∧ ∃ r hp', Fn C P f args st.hp r hp' ∧ match st with
    | ⟨e, b, _⟩ => fl hp' fun h => K r ⟨e, b, h⟩) ∨
  (q = false ∧ ∃ xs, All2 (Deep st.hp 4) args xs ∧ ∃ Q, Rx C P f xs Q ∧ ∀ r, Q r → (cleans args || own0 r) = true ∧ K r st) ∨
  (q = false ∧ okvs args = true ∧ ∃ Q, Fx C P f args st.hp Q ∧ match st with
    | ⟨e, b, _⟩ => ∀ r hp', Q r hp' → flH hp' fun h => K r ⟨e, b, h⟩)
def appTy : TyE → Bool
  | .slice _ | .str => true
  | _ => false
def isIntTy : TyE → Bool
  | .int _ => true
  | _ => false
/-- The first rows of a slice, as many as a copy of 'len' takes. -/
def preR (hp : Hp) (fl : Bool) (wd len : Nat) (new : List (List AV)) : AV → Prop
  | .sc id2 lo2 len2 _ => match at? hp id2 with
    | some (some ob) => ob.fl = fl ∧ ob.wd = wd ∧ cut (min len len2) lo2 ob.rows = some new
    | _ => False
  | y => ∃ all, rowsR hp fl wd all y ∧ new = all.take (min len all.length)
/-- copy and append at a slice whose capacity is known. -/
def copyS (C : Cfg) (el id lo len : Nat) (y : AV) (st : St) (K : AV → St → Prop) : Prop :=
  ∃ new, preR st.hp (allSc (tze C el)) (tsz C el) len new y ∧ match at? st.hp id with
    | some (some ob) => ob.fl = allSc (tze C el) ∧ ob.wd = tsz C el ∧ lo ≤ ob.rows.length ∧
      setK st id (some ⟨ob.wd, ob.fl, setRows ob.rows lo new⟩) fun st => K (.i .i64 (new.length : Nat)) st
    | _ => False
def appZ (C : Cfg) (el id lo len cap : Nat) (n : Int) (st : St) (K : AV → St → Prop) : Prop :=
  ∃ old, rowsR st.hp (allSc (tze C el)) (tsz C el) old (.sc id lo len cap) ∧ (0 < n ∧ (cap : Int) < len + n ∧ (len + n) * (tby C el : Nat) ≤ 140737488355328) ∧
    pushK st ⟨tsz C el, allSc (tze C el), old ++ List.replicate n.toNat (tze C el)⟩ (fun i => .sl i 0 (len + n.toNat)) K
def builtinP (C : Cfg) (q : Bool) (ts : List Nat) (b : Builtin) (args : List AV) (st : St) (K : AV → St → Prop) : Prop :=
  match b with
  | .len => match args with
    | [v] => optK (lenV (tyd C (ts.headD 0)) v) fun n => K (.i .i64 n) st
    | _ => False
  | .max => optK (minmax true args) fun v => K v st
  | .min => optK (minmax false args) fun v => K v st
  | .cap => match args with
    | [.sc _ _ _ cap] => (tsz C (elemT C (ts.headD 0)) != 0) = true ∧ K (.i .i64 cap) st
    | _ => False
  | .append => match args with
    | [.sc id lo len cap, .i _ n] => q = false ∧ (isIntTy (tyd C (ts.getD 1 0)) && tsz C (elemT C (ts.headD 0)) != 0 && cellvs (tze C (elemT C (ts.headD 0)))) = true ∧ appZ C (elemT C (ts.headD 0)) id lo len cap n st K
    | [x, y] =>
      q = false ∧ (appTy (tyd C (ts.getD 1 0)) && tsz C (elemT C (ts.headD 0)) != 0) = true ∧ ∃ old new, rowsR st.hp (allSc (tze C (elemT C (ts.headD 0)))) (tsz C (elemT C (ts.headD 0))) old x ∧
        rowsR st.hp (allSc (tze C (elemT C (ts.headD 0)))) (tsz C (elemT C (ts.headD 0))) new y ∧
        (old.length + new.length) * tby C (elemT C (ts.headD 0)) ≤ 140737488355328 ∧
        match x with
        | .nl => pushK st ⟨tsz C (elemT C (ts.headD 0)), allSc (tze C (elemT C (ts.headD 0))), new⟩ (fun i => .sl i 0 new.length) K
        | .sl id _ _ => setK st id none fun st => pushK st ⟨tsz C (elemT C (ts.headD 0)), allSc (tze C (elemT C (ts.headD 0))), old ++ new⟩ (fun i => .sl i 0 (old.length + new.length)) K
        | _ => False
    | _ => False
  | .copy => match args with
    | [.sc id lo len _, y] => q = false ∧ (tsz C (elemT C (ts.headD 0)) != 0) = true ∧ copyS C (elemT C (ts.headD 0)) id lo len y st K
    | [.sl id lo len, y] =>
      q = false ∧ (tsz C (elemT C (ts.headD 0)) != 0) = true ∧ ∃ new, rowsR st.hp (allSc (tze C (elemT C (ts.headD 0)))) (tsz C (elemT C (ts.headD 0))) new y ∧ match at? st.hp id with
        | some (some ob) => ob.fl = allSc (tze C (elemT C (ts.headD 0))) ∧ ob.wd = tsz C (elemT C (ts.headD 0)) ∧ lo + len ≤ ob.rows.length ∧
          setK st id (some ⟨ob.wd, ob.fl, setRows ob.rows lo (new.take (min len new.length))⟩) fun st => K (.i .i64 (min len new.length : Nat)) st
        | _ => False
    | _ => False
  | .clear => match args with
    | [.sl id lo len] =>
      q = false ∧ (tsz C (elemT C (ts.headD 0)) != 0) = true ∧ match at? st.hp id with
        | some (some ob) => ob.fl = allSc (tze C (elemT C (ts.headD 0))) ∧ ob.wd = tsz C (elemT C (ts.headD 0)) ∧ lo + len ≤ ob.rows.length ∧ cellvs (tze C (elemT C (ts.headD 0))) = true ∧
          setK st id (some ⟨ob.wd, ob.fl, setRows ob.rows lo (List.replicate len (tze C (elemT C (ts.headD 0))))⟩) fun st => K (.tp []) st
        | _ => False
    | _ => False
  | _ => False
def glob : List (Nat × Nat × List (List AV)) → Nat → Option (Nat × List (List AV))
  | [], _ => none
  | (a, wd, rows) :: l, g => match a == g with
    | true => some (wd, rows)
    | false => glob l g
def globOf : Operand → Option Nat
  | .global g => some g
  | _ => none
def indexGP (C : Cfg) (t g : Nat) (K : AV → Prop) : AV → Prop
  | .i _ n => match glob C.gl g, tyd C t with
    | some (wd, rows), .arr len e => wd = tsz C e ∧ (tsz C e != 0) = true ∧ (0 ≤ n ∧ n < (len : Int)) ∧ K (.rp true true wd rows n.toNat 0)
    | _, _ => False
  | _ => False
def nilConst : Operand → Bool
  | .const (.slice none 0 0) => true
  | _ => false
/-- A slice that may be nil. -/
def emptyV : AV → Prop
  | .nl => True
  | .ro _ _ _ rows => rows = []
  | .sl _ _ len => len = 0
  | _ => False
def isSl : AV → Bool
  | .nl | .ro _ _ _ _ | .sl _ _ _ => true
  | _ => false
def TyE.known : TyE → Bool
  | .func | .other => false
  | _ => true
def clm (C : Cfg) (me : Nat) : Operand → Nat
  | .tmp t => C.loc me t
  | _ => 0
def badC : Nat → AV → Bool
  | 0, _ => false
  | 1, .lp _ _ => true
  | 1, _ => false
  | n + 2, .lp s _ => s != n
  | _ + 2, _ => true
def opP (C : Cfg) (P : Program) (me : Nat) (q : Bool) (o : Oper) (st : St) (K : AV → St → Prop) : Prop :=
  match o.op with
  | .move x => optK (arg st x) fun v => K v st
  | .assign x => optK (arg st x) fun v => K v st
  | .pick c a b => match arg st c with
    | some (.k true) => optK (arg st a) fun v => K v st
    | some (.k false) => optK (arg st b) fun v => K v st
    | some (.b x) => (x = true → optK (arg st a) fun v => K v st) ∧ (x = false → optK (arg st b) fun v => K v st)
    | _ => False
  | .alloc t => (tsz C t != 0) = true ∧ boxP C me q o.dst (tze C t) st K
  | .box _ x => optK (arg st x) fun v => boxP C me q o.dst (leaves v) st K
  | .build t parts => (tsz C t != 0) = true ∧ match tyd C t with
    | .strct fs => optK (fill st (place C fs) parts.toList (tze C t)) fun l => K (.ag l) st
    | .arr _ e => (tsz C e != 0) = true ∧ optK (fill st (fun i => some (i * tsz C e, tsz C e)) parts.toList (tze C t)) fun l => K (.ag l) st
    | _ => False
  | .buildSlice t len parts =>
    q = false ∧ (Nat.ble (len * tsz C (elemT C t)) 16777216 && tsz C (elemT C t) != 0) = true ∧ optK (fill st (fun i => some (i * tsz C (elemT C t), tsz C (elemT C t))) parts.toList (reps len (tze C (elemT C t))).flatten) fun l =>
      cellvs l = true ∧ (!allSc (tze C (elemT C t)) || allSc l) = true ∧
      pushK st ⟨tsz C (elemT C t), allSc (tze C (elemT C t)), chunk (tsz C (elemT C t)) len l⟩ (fun i => .sl i 0 len) K
  | .load t a => optK (arg st a) fun p => match q && badC (clm C me a) p with
    | true => False
    | false => loadP C st t (fun v => K v st) p
  | .store t a x => q = false ∧ optK (arg st a) fun p => match badC (clm C me a) p with
    | true => False
    | false => optK (arg st x) fun v => storeP C st t v (fun st' => K .u st') p
  | .nilCheck x => match arg st x with
    | some (.lp s o) => K (.lp s o) st
    | some (.pt id i o) => K (.pt id i o) st
    | some (.rp g fl wd r i o) => K (.rp g fl wd r i o) st
    | _ => False
  | .binOp op t x y _ => match nilConst y with
    | true => q = false ∧ (match tyd C t with | .slice _ => True | _ => False) ∧ optK (arg st x) fun v => isSl v = true ∧ match op with
      | .eql => ∀ b : Bool, (b = true → emptyV v) → K (.b b) st
      | .neq => ∀ b : Bool, (b = false → emptyV v) → K (.b b) st
      | _ => False
    | false => optK (arg st x) fun a => optK (arg st y) fun b => binP C t op (fun v => K v st) a b
  | .unOp op _ x => optK (arg st x) fun a => optK (un op a) fun v => K v st
  | .convert s d x => optK (arg st x) fun a => match tyd C d with
    | .int k => (tyd C s).known = true ∧ match a with
      | .i _ n => K (.i k (k.wrap n)) st
      | _ => False
    | .str => match a with
      | .s z => (tyd C s).known = true ∧ K (.s z) st
      | v => isSl v = true ∧ (match tyd C s with | .slice e => (match tyd C e with | .int .u8 => True | _ => False) | _ => False) ∧ ∃ rows l, rowsR st.hp true 1 rows v ∧ bytesOf rows = some l ∧ K (.s ⟨l.toArray⟩) st
    | _ => False
  | .makeFunc (.func f) first captured => first.size = 0 ∧ optK (args? st captured.toList) fun l => okvs l = true ∧ K (.fn f l) st
  | .makeSlice t l c => match arg st l, arg st c with
    | some (.i _ n), some (.i _ m) =>
      q = false ∧ (0 ≤ n ∧ n ≤ m ∧ m * tby C (elemT C t) ≤ 140737488355328) ∧ (cellvs (tze C (elemT C t)) && tsz C (elemT C t) != 0) = true ∧
        pushK st ⟨tsz C (elemT C t), allSc (tze C (elemT C t)), List.replicate n.toNat (tze C (elemT C t))⟩ (fun i => .sl i 0 n.toNat) K
    | _, _ => False
  | .slice t x lo hi (some mx) => (match tyd C t with | .slice e => (tsz C e != 0) = true | _ => False) ∧ optK (arg st x) fun v => isSl v = true ∧ optK (bound st 0 lo) fun l => optK (bound st 1 hi) fun h => optK (bound st 1 (some mx)) fun m =>
      (l = 0 ∧ h = 0 ∧ m = 0) ∧ K .nl st
  | .slice t x lo hi none => optK (arg st x) fun v => sliceP C st t lo hi (fun v => K v st) v
  | .fieldAddr t x f => optK (fieldOff C t f) fun p => (tsz C p.1 != 0) = true ∧ optK (arg st x) fun v => optK (addOff p.2 v) fun v => K v st
  | .field t x f => optK (arg st x) fun v => fieldVP C t f (fun v => K v st) v
  | .indexAddr t x ix => match globOf x with
    | some g => optK (arg st ix) fun n => indexGP C t g (fun v => K v st) n
    | none => optK (arg st x) fun v => optK (arg st ix) fun n => indexAP C st.hp t (fun v => K v st) v n
  | .index t x ix => optK (arg st x) fun v => optK (arg st ix) fun n => indexVP C t (fun v => K v st) v n
  | .extract x n => optK (arg st x) fun v => match v with | .tp l => optK (at? l n) fun v => K v st | _ => False
  | .call c => optK (args? st c.args.toList) fun args => match c.callee with
    | .builtin b => builtinP C q c.argTypes.toList b args st K
    | .value f => optK (arg st f) fun v => match v with
      | .fn f caps => callP C P q f (args ++ caps) st K
      | _ => False
    | _ => False
  | _ => False
def dstOf (all : List Oper) (g : Nat) : Option Nat := match at? all g with | some o => o.dst | none => none
/-- The operations of a region in the text's order. -/
def opsP (C : Cfg) (P : Program) (me : Nat) (all : List Oper) : List Oper → St → (St → Prop) → Prop
  | [], st, K => K st
  | o :: rest, st, K => match o.guard with
    | none => opP C P me false o st fun v st' => putK st' o.dst v fun st' => opsP C P me all rest st' K
    | some (g, want) => match dstOf all g with
      | none => False
      | some d => match nth st.env d with
        | .k x => match x == want with
          | true => opP C P me false o st fun v st' => putK st' o.dst v fun st' => opsP C P me all rest st' K
          | false => putK st o.dst (.tp []) fun st' => opsP C P me all rest st' K
        | .b x => (x = want → putK st (some d) (.k want) fun st => opP C P me false o st fun v st' => putK st' o.dst v fun st' => opsP C P me all rest st' K) ∧
          (x = (!want) → putK st (some d) (.k (!want)) fun st => putK st o.dst (.tp []) fun st' => opsP C P me all rest st' K)
        | .tp l => match l with
          | [] => putK st o.dst (.tp []) fun st' => opsP C P me all rest st' K
          | _ => False
        | _ => False
/-! ## Regions whose order is drawn -/
def kget : List (Nat × Bool) → Nat → Option Bool
  | [], _ => none
  | (d, b) :: l, n => match d == n with
    | true => some b
    | false => kget l n
def refK : List (Nat × Bool) → St → (St → Prop) → Prop
  | [], st, K => K st
  | (d, b) :: l, st, K => putK st (some d) (.k b) fun st => refK l st K
/-- A call that is known to write memory. -/
def wrC (C : Cfg) (me : Nat) (o : Oper) : Bool := match o.op with
  | .call c => match c.callee with
    | .value _ => C.wr me (o.dst.getD 0)
    | _ => false
  | _ => false
def quietKind (C : Cfg) (me : Nat) (o : Oper) : Bool := match o.op with
  | .store .. | .buildSlice .. | .makeSlice .. => false
  | .call c => match c.callee with
    | .builtin .len | .builtin .min | .builtin .max => true
    | .value _ => !C.wr me (o.dst.getD 0)
    | _ => false
  | _ => true
/-- A guard that is surely not so: known to be the other way, or skipped itself. -/
def notB (v : AV) (want : Bool) : Bool := match v with
  | .k x | .b x => x != want
  | .tp [] => true
  | _ => false
/-- One operation, where what is known of guards tells a pick's way. -/
def stepT (C : Cfg) (P : Program) (me : Nat) (o : Oper) (kn : List (Nat × Bool)) (st : St) (K : AV → St → Prop) : Prop :=
  match o.op with
  | .pick (.tmp c) x y => match kget kn c with
    | some true => optK (arg st x) fun v => K v st
    | some false => optK (arg st y) fun v => K v st
    | none => opP C P me (quietKind C me o) o st K
  | _ => opP C P me (quietKind C me o) o st K
def guardT (C : Cfg) (P : Program) (me : Nat) (all : List Oper) (o : Oper) (kn : List (Nat × Bool)) (st : St) (K : List (Nat × Bool) → St → Prop) : Prop :=
  match o.guard with
  | none => stepT C P me o kn st fun v st' => putK st' o.dst v (K kn)
  | some (g, want) => match dstOf all g with
    | none => False
    | some d => match kget kn d with
      | some b => match b == want with
        | true => stepT C P me o kn st fun v st' => putK st' o.dst v (K kn)
        | false => putK st o.dst (.tp []) (K kn)
      | none => match nth st.env d with
        | .k x => match x == want with
          | true => stepT C P me o kn st fun v st' => putK st' o.dst v (K kn)
          | false => putK st o.dst (.tp []) (K kn)
        | .b x => (x = want → stepT C P me o ((d, want) :: kn) st fun v st' => putK st' o.dst v (K ((d, want) :: kn))) ∧
          (x = (!want) → putK st o.dst (.tp []) (K ((d, !want) :: kn)))
        | .tp l => match l with
          | [] => putK st o.dst (.tp []) (K kn)
          | _ => False
        | _ => False
/-- The text's order. -/
def opsD (C : Cfg) (P : Program) (me : Nat) (all : List Oper) : List Oper → List (Nat × Bool) → St → (St → Prop) → Prop
  | [], kn, st, K => refK kn st K
  | o :: rest, kn, st, K => guardT C P me all o kn st fun kn st => opsD C P me all rest kn st K
/-- A tree of orders. -/
def opsT (C : Cfg) (P : Program) (me : Nat) (all : List Oper) : Plan → List (Nat × Bool) → St → (St → Prop) → Prop
  | .done, kn, st, K => refK kn st K
  | .take i p, kn, st, K => match at? all i with
    | some o => guardT C P me all o kn st fun kn st => opsT C P me all p kn st K
    | none => False
  | .alt i p q, kn, st, K => (match at? all i with
    | some o => guardT C P me all o kn st fun kn st => opsT C P me all p kn st K
    | none => False) ∧ opsT C P me all q kn st K
  | .no, _, _, _ => True
/-- No slot of these operations holds the address of a box. -/
def okDst : List Oper → List AV → Bool
  | [], _ => true
  | o :: l, e => (match o.dst with
    | none => true
    | some d => okv (nth e d)) && okDst l e
def firstReg : Code → Nat
  | .region id _ _ => id
  | .seq a _ => firstReg a
  | .block _ a => firstReg a
  | .loop a => firstReg a
  | _ => 0
def keepAt {α : Type} (l : List Nat) (z : α) : Nat → List α → List α
  | _, [] => []
  | n, v :: r => (if l.contains n then v else z) :: keepAt l z (n + 1) r
def St.keep (l : List Nat) (st : St) : St := ⟨keepAt l .u 0 st.env, keepAt l none 0 st.bx, st.hp⟩
/-- From whatever this state stands for, the loop's body, again and again, comes to an end and a state of which 'R' holds. -/
def LoopWp (P : Program) (c : Code) (Q : Exit → Act → World → Prop) (a : Act) (w : World) : Prop :=
  ∀ (b : Frame) (k : List Item) (cs : List Frame), ∃ e a' w', Q e a' w' ∧ Arrives P (lone (b.at a (.code c :: .inLoop c :: k)) cs w) b k cs e a' w'
def TriL (C : Cfg) (n : Nat) (P : Program) (c : Code) (st : St) (R : Ex → St → Prop) : Prop :=
  ∀ J lb w a, J.G = C.gl → Rel J lb w a st → LoopWp P c (PostN n J w R) a w
def wpT (C : Cfg) (P : Program) (n me : Nat) : Code → St → (Ex → St → Prop) → Prop
  | .skip, st, K => K .norm st
  | .region id ops draw, st, K => match draw with
    | false => opsP C P me ops.toList ops.toList st (K .norm)
    | true => okDst ops.toList st.env = true ∧ match C.plan me id with
      | none => opsD C P me ops.toList ops.toList [] st (K .norm)
      | some p => opsT C P me ops.toList p [] st (K .norm)
  | .seq a b, st, K => wpT C P n me a st fun ex st' => match ex with
    | .norm => wpT C P n me b st' K
    | .exit id => K (.exit id) st'
    | .ret => K .ret st'
  | .cond c t e, st, K => match c with
    | .tmp s => match nth st.env s with
      | .k true => wpT C P n me t st K
      | .k false => wpT C P n me e st K
      | .b x => (x = true → putK st (some s) (.k true) fun st => wpT C P n me t st K) ∧ (x = false → putK st (some s) (.k false) fun st => wpT C P n me e st K)
      | _ => False
    | _ => False
  | .block id body, st, K => wpT C P n me body st fun ex st' => match ex with
    | .norm => K .norm st'
    | .exit k => match k == id with
      | true => K .norm st'
      | false => K (.exit k) st'
    | .ret => K .ret st'
  | .loop body, st, K => TriL C n P body (st.keep (C.live me (firstReg body))) K
  | .exit id, st, K => K (.exit id) st
  | .ret, st, K => K .ret st
  | _, _, _ => False
def resK (C : Cfg) (st : St) (K : List AV → Prop) : List ResultVar → Prop
  | [] => K []
  | .tmp t :: l => fv (nth st.env t) fun v => resK C st (fun r => K (v :: r)) l
  | .cell a t :: l => loadP C st t (fun v => resK C st (fun r => K (v :: r)) l) (nth st.env a)
def fnP (C : Cfg) (P : Program) (f : Nat) (args : List AV) (hp : Hp) (K : AV → Hp → Prop) : Prop :=
  match at? C.fns f with
  | none => False
  | some F => (C.ok f && Nat.ble args.length F.ntmps) = true ∧ match F.body with
    | none => False
    | some c => fl (args ++ reps (F.ntmps - args.length) .u) fun e => fl (reps F.ntmps none) fun b => wpT C P hp.length f c ⟨e, b, hp⟩ fun ex st =>
      match ex with
      | .exit _ => False
      | _ => resK C st (fun r => okvs r = true ∧ match r with | [v] => K v st.hp | r => K (.tp r) st.hp) F.results.toList
end Go.Proofs.Ytmblcloikeobdaa.Ev

namespace Go.Proofs.Ytmblcloikeobdaa.Ev
open Go
set_option linter.unusedVariables false
set_option linter.unusedSimpArgs false

/-! # Lists -/
theorem at?_eq {α : Type} (l : List α) (n : Nat) : at? l n = l[n]? := by
  induction l generalizing n with
  | nil => simp [at?]
  | cons x l ih => cases n <;> simp [at?, ih]
theorem upd_eq {α : Type} (l : List α) (n : Nat) (v : α) : upd l n v = l.set n v := by
  induction l generalizing n with
  | nil => simp [upd]
  | cons x l ih => cases n <;> simp [upd, ih]
theorem nth_eq (l : List AV) (n : Nat) : nth l n = (l[n]?).getD .u := by
  induction l generalizing n with
  | nil => simp [nth]
  | cons x l ih => cases n <;> simp [nth, ih]
theorem reps_eq {α : Type} (n : Nat) (x : α) : reps n x = List.replicate n x := by
  induction n with
  | zero => rfl
  | succ n ih => simp [reps, ih, List.replicate_succ]
theorem cut_eq {α : Type} : ∀ (n o : Nat) (l r : List α), cut n o l = some r → r = (l.drop o).take n ∧ r.length = n
  | 0, _, _, r, h => by simp [cut] at h; subst h; simp
  | n + 1, 0, x :: l, r, h => by
    simp only [cut, Option.bind_eq_some_iff] at h
    obtain ⟨r', h1, h2⟩ := h
    obtain ⟨e1, e2⟩ := cut_eq n 0 l r' h1
    simp at h2; subst h2
    simp at e1
    simp [e2, ← e1]
  | n + 1, o + 1, _ :: l, r, h => by
    simp only [cut] at h
    obtain ⟨e1, e2⟩ := cut_eq (n + 1) o l r h
    exact ⟨by rw [e1]; rfl, e2⟩
  | n + 1, 0, [], r, h => by simp [cut] at h
  | n + 1, o + 1, [], r, h => by simp [cut] at h
theorem cut_at {α : Type} {n o : Nat} {l r : List α} (h : cut n o l = some r) (j : Nat) (hj : j < n) : r[j]? = l[o + j]? := by
  obtain ⟨e1, e2⟩ := cut_eq n o l r h
  rw [e1]; simp [hj]
theorem over_eq {α : Type} : ∀ (vs : List α) (o : Nat) (l r : List α), over vs o l = some r → r = l.take o ++ vs ++ l.drop (o + vs.length) ∧ o + vs.length ≤ l.length ∨ vs = [] ∧ r = l
  | [], _, l, r, h => by simp [over] at h; subst h; simp
  | v :: vs, 0, x :: l, r, h => by
    simp only [over, Option.bind_eq_some_iff] at h
    obtain ⟨r', h1, h2⟩ := h
    simp at h2; subst h2
    rcases over_eq vs 0 l r' h1 with ⟨e1, e2⟩ | ⟨rfl, rfl⟩
    · refine .inl ⟨?_, by simp; omega⟩
      rw [e1]; simp
    · exact .inl ⟨by simp, by simp⟩
  | v :: vs, o + 1, x :: l, r, h => by
    simp only [over, Option.bind_eq_some_iff] at h
    obtain ⟨r', h1, h2⟩ := h
    simp at h2; subst h2
    rcases over_eq (v :: vs) o l r' h1 with ⟨e1, e2⟩ | ⟨h3, _⟩
    · refine .inl ⟨?_, by simp at e2 ⊢; omega⟩
      rw [e1, show o + 1 + (v :: vs).length = (o + (v :: vs).length) + 1 from by omega]; simp
    · simp at h3
  | v :: vs, 0, [], r, h => by simp [over] at h
  | v :: vs, o + 1, [], r, h => by simp [over] at h

/-! # What stays -/
theorem cell_of_heap {w w' : World} {b : Nat} (h : w'.heap[b]? = w.heap[b]?) (o : Nat) : w'.cell? ⟨b, o, none⟩ = w.cell? ⟨b, o, none⟩ := by
  simp [World.cell?, h]
theorem Ext.noM {J J' : Inj} {w w' : World} (E : Ext J J' w w') : Ext J.noM J'.noM w w' :=
  ⟨E.G, E.base, E.K, E.F, E.Fnew, fun _ _ h => by simp [Inj.noM] at h, E.size, E.keep, E.shape, E.same⟩
theorem Ext.unM (J : Inj) (w : World) : Ext J.noM J w w :=
  ⟨rfl, rfl, rfl, fun _ h => h, fun _ h => .inl h, fun _ _ h => by simp [Inj.noM] at h, Nat.le_refl _, fun _ _ => rfl, fun _ c e fz h => ⟨c, fz, h, rfl⟩, rfl, rfl, rfl⟩
/-- What values need, from one world to another. -/
structure ExtV (J J' : Inj) (w w' : World) : Prop where
  base : J'.base = J.base
  F : ∀ b, J.F b → J'.F b
  m : ∀ id x, J.m id = some x → J'.m id = some x
  keep : ∀ b, J.F b → w'.heap[b]? = w.heap[b]?
  shape : ∀ (b : Nat) (c : Array Value) (e : TypeId) (fz : Nat × Nat), w.heap[b]? = some (Obj.cells c e fz) → ∃ (c' : Array Value) (fz' : Nat × Nat), w'.heap[b]? = some (Obj.cells c' e fz') ∧ c'.size = c.size
theorem Ext.v {J J' : Inj} {w w' : World} (E : Ext J J' w w') : ExtV J J' w w' := ⟨E.base, E.F, E.m, fun b h => E.keep b (.inl h), E.shape⟩
theorem ExtV.noM {J J' : Inj} {w w' : World} (E : ExtV J J' w w') : ExtV J.noM J'.noM w w' :=
  ⟨E.base, E.F, fun _ _ h => by simp [Inj.noM] at h, E.keep, E.shape⟩
mutual
theorem VR_extV {J J' : Inj} {w w' : World} (E : ExtV J J' w w') : ∀ (x : AV) (v : Value), VR J w x v → VR J' w' x v
  | .u, _, _ => trivial
  | .k x, v, h => h
  | .i k n, v, h => h
  | .b x, v, h => h
  | .s x, v, h => h
  | .nl, v, h => h
  | .np, v, h => h
  | .lp _ _, v, h => h.elim
  | .ag l, v, h => by
    obtain ⟨cs, rfl, hc⟩ := h
    exact ⟨cs, rfl, VRs_extV E l cs hc⟩
  | .tp l, v, h => by
    obtain ⟨cs, rfl, hc⟩ := h
    exact ⟨cs, rfl, VRs_extV E l cs hc⟩
  | .fn f l, v, h => by
    obtain ⟨cs, rfl, hc⟩ := h
    exact ⟨cs, rfl, VRs_extV E l cs hc⟩
  | .ro g fl wd rows, v, h => by
    obtain ⟨a, cap, rfl, hl, hf, h⟩ := h
    refine ⟨a, cap, rfl, hl, hf, h.imp (fun x => x) ?_⟩
    rintro ⟨blk, off, rfl, hF, hg, hr⟩
    exact ⟨blk, off, rfl, E.F _ hF, fun g => E.base ▸ hg g, VRrows_extV E.noM rows wd blk off (E.keep _ hF) hr⟩
  | .rp g fl wd rows i o, v, h => by
    obtain ⟨hf, blk, off, rfl, hF, hg, hr⟩ := h
    exact ⟨hf, blk, off, rfl, E.F _ hF, fun g => E.base ▸ hg g, VRrows_extV E.noM rows wd blk off (E.keep _ hF) hr⟩
  | .sl id lo len, v, h => by
    obtain ⟨a, cap, rfl, hl, h⟩ := h
    refine ⟨a, cap, rfl, hl, h.imp (fun x => x) ?_⟩
    rintro ⟨blk, base, wd, c, e, fz, hm, rfl, hh, hs⟩
    obtain ⟨c', fz', hh', hc'⟩ := E.shape _ _ _ _ hh
    exact ⟨blk, base, wd, c', e, fz', E.m _ _ hm, rfl, hh', by omega⟩
  | .sc id lo len cap, v, h => by
    obtain ⟨blk, base, wd, c, e, fz, hm, rfl, hl, hh, hs⟩ := h
    obtain ⟨c', fz', hh', hc'⟩ := E.shape _ _ _ _ hh
    exact ⟨blk, base, wd, c', e, fz', E.m _ _ hm, rfl, hl, hh', by omega⟩
  | .pt id i o, v, h => by
    obtain ⟨blk, base, wd, hm, rfl⟩ := h
    exact ⟨blk, base, wd, E.m _ _ hm, rfl⟩
theorem VRs_extV {J J' : Inj} {w w' : World} (E : ExtV J J' w w') : ∀ (l : List AV) (vs : List Value), VRs J w l vs → VRs J' w' l vs
  | [], [], _ => trivial
  | x :: l, v :: vs, h => ⟨VR_extV E x v h.1, VRs_extV E l vs h.2⟩
  | [], _ :: _, h => h.elim
  | _ :: _, [], h => h.elim
theorem VRcells_extV {J J' : Inj} {w w' : World} (E : ExtV J J' w w') : ∀ (l : List AV) (blk o : Nat), w'.heap[blk]? = w.heap[blk]? → VRcells J w l blk o → VRcells J' w' l blk o
  | [], _, _, _, _ => trivial
  | x :: l, blk, o, hb, h => by
    obtain ⟨⟨v, hv, h1, hx⟩, hl⟩ := h
    exact ⟨⟨v, by rw [cell_of_heap hb]; exact hv, h1, VR_extV E x v hx⟩, VRcells_extV E l blk (o + 1) hb hl⟩
theorem VRrows_extV {J J' : Inj} {w w' : World} (E : ExtV J J' w w') : ∀ (l : List (List AV)) (wd blk off : Nat), w'.heap[blk]? = w.heap[blk]? → VRrows J w l wd blk off → VRrows J' w' l wd blk off
  | [], _, _, _, _, _ => trivial
  | r :: l, wd, blk, off, hb, h => ⟨⟨h.1.1, VRcells_extV E r blk off hb h.1.2⟩, VRrows_extV E l wd blk (off + wd) hb h.2⟩
end
theorem VR_ext {J J' : Inj} {w w' : World} (E : Ext J J' w w') (x : AV) (v : Value) (h : VR J w x v) : VR J' w' x v := VR_extV E.v x v h
theorem VRs_ext {J J' : Inj} {w w' : World} (E : Ext J J' w w') (l : List AV) (vs : List Value) (h : VRs J w l vs) : VRs J' w' l vs := VRs_extV E.v l vs h
theorem VRcells_ext {J J' : Inj} {w w' : World} (E : Ext J J' w w') (l : List AV) (blk o : Nat) (hb : w'.heap[blk]? = w.heap[blk]?) (h : VRcells J w l blk o) : VRcells J' w' l blk o := VRcells_extV E.v l blk o hb h
theorem VRrows_ext {J J' : Inj} {w w' : World} (E : Ext J J' w w') (l : List (List AV)) (wd blk off : Nat) (hb : w'.heap[blk]? = w.heap[blk]?) (h : VRrows J w l wd blk off) : VRrows J' w' l wd blk off := VRrows_extV E.v l wd blk off hb h
theorem Ext.refl (J : Inj) (w : World) : Ext J J w w :=
  ⟨rfl, rfl, rfl, fun _ h => h, fun _ h => .inl h, fun _ _ h => h, Nat.le_refl _, fun _ _ => rfl, fun _ c e fz h => ⟨c, fz, h, rfl⟩, rfl, rfl, rfl⟩
theorem Ext.trans {J J' J'' : Inj} {w w' w'' : World} (h : Ext J J' w w') (h' : Ext J' J'' w' w'') : Ext J J'' w w'' where
  G := h'.G.trans h.G
  base := h'.base.trans h.base
  K := h'.K.trans h.K
  F b hb := h'.F b (h.F b hb)
  Fnew b hb := by
    rcases h'.Fnew b hb with h1 | h1
    · exact h.Fnew b h1
    · exact .inr (Nat.le_trans h.size h1)
  m id x hx := h'.m id x (h.m id x hx)
  size := Nat.le_trans h.size h'.size
  keep b hb := by
    rw [h'.keep b (hb.imp (h.F b) (fun x => by rw [h.K]; exact x)), h.keep b hb]
  shape b c e fz hb := by
    obtain ⟨c1, fz1, h1, s1⟩ := h.shape b c e fz hb
    obtain ⟨c2, fz2, h2, s2⟩ := h'.shape b c1 e fz1 h1
    exact ⟨c2, fz2, h2, s2.trans s1⟩
  same := ⟨h'.same.1.trans h.same.1, h'.same.2.1.trans h.same.2.1, h'.same.2.2.trans h.same.2.2⟩
/-- What is known of variables of packages stays. -/
theorem gl_ext {J J' : Inj} {w w' : World} (E : Ext J J' w w') (h : ∀ x ∈ J.G, J.F x.1 ∧ flatRows x.2.2 = true ∧ VRrows J.noM w x.2.2 x.2.1 x.1 0 ∧ blkSz w x.1 (x.2.1 * x.2.2.length)) :
    ∀ x ∈ J'.G, J'.F x.1 ∧ flatRows x.2.2 = true ∧ VRrows J'.noM w' x.2.2 x.2.1 x.1 0 ∧ blkSz w' x.1 (x.2.1 * x.2.2.length) := by
  intro x hx
  rw [E.G] at hx
  obtain ⟨h1, h2, h3, h4⟩ := h x hx
  refine ⟨E.F _ h1, h2, VRrows_ext E.noM _ _ _ _ (E.keep _ (.inl h1)) h3, ?_⟩
  unfold blkSz at h4 ⊢
  rw [E.keep _ (.inl h1)]; exact h4
theorem EV_ext {J J' : Inj} {lb : Nat → Nat} {w w' : World} (E : Ext J J' w w') (x : AV) (v : Value) (h : EV J lb w x v) : EV J' lb w' x v := by
  cases x <;> first | exact h | exact VR_ext E _ _ h
end Go.Proofs.Ytmblcloikeobdaa.Ev

namespace Go.Proofs.Ytmblcloikeobdaa.Ev
open Go
set_option linter.unusedVariables false
set_option linter.unusedSimpArgs false

/-! # The tables fit the program -/
def zero1 : AV → Value → Bool
  | .k x, .bool y => x == y
  | .i k n, .int k' n' => k == k' && n == n'
  | .s x, .string y => x.data.toList == y.data.toList
  | .nl, .slice none 0 0 => true
  | .np, .pointer none => true
  | .u, _ => true
  | _, _ => false
def zeroOk : List AV → List Value → Bool
  | [], [] => true
  | x :: l, v :: r => zero1 x v && zeroOk l r
  | _, _ => false
structure TyOk (C : Cfg) (P : Program) : Prop where
  mixed : P.follows .mixedOrders = true
  fns : C.fns = P.funcs.toList
  z0 : tsz C 0 = 0
  o0 : tyd C 0 = .other
  by0 : ∀ t, tsz C t ≠ 0 → tby C t ≠ 0
  d : ∀ t, match tyd C t with
    | .int k => P.underlying t = some (.int k)
    | .bool => P.underlying t = some .bool
    | .str => P.underlying t = some .string
    | .slice e => P.underlying t = some (.slice e)
    | .ptr e => P.underlying t = some (.pointer e)
    | .strct fs => ∃ F : Array Field, P.underlying t = some (.struct F) ∧ F.toList.map (fun f => (f.type, f.offset)) = fs ∧ (∀ f ∈ F.toList, (f.name == "_") = false ∧ tsz C f.type ≠ 0) ∧
        P.eqGuardType P.depth t = false ∧ P.stoodInHeld t = false
    | .arr n e => P.underlying t = some (.array n e)
    | .func => True
    | .other => tsz C t = 0
  i : ∀ t, tsz C t ≠ 0 → ∃ x, P.info? t = some x ∧ x.size = tsz C t ∧ x.bytes = tby C t ∧ ∃ z, x.zero = some z ∧ zeroOk (tze C t) z.cells.toList = true ∧ z.cells.size = tsz C t ∧ (isAg C t = false → (P.underlying t).isSome = true ∧ ∀ d, P.underlying t = some d → (∀ F, d ≠ .struct F) ∧ ∀ n e, d ≠ .array n e)

variable {C : Cfg} {P : Program} {J : Inj} {lb : Nat → Nat} {w : World} {a : Act} {st : St}

theorem zero1_VR (J : Inj) (w : World) (x : AV) (v : Value) (h : zero1 x v = true) : VR J w x v := by
  unfold zero1 at h
  split at h
  · simp at h; simp [VR, h]
  · simp at h; simp [VR, h]
  · rename_i x y
    obtain ⟨⟨x⟩⟩ := x; obtain ⟨⟨y⟩⟩ := y
    simp at h; simp [VR, h]
  · exact ⟨none, rfl⟩
  · rfl
  · trivial
  · simp at h
theorem zero_VRs (J : Inj) (w : World) : ∀ (l : List AV) (r : List Value), zeroOk l r = true → VRs J w l r
  | [], [], _ => trivial
  | x :: l, v :: r, h => by simp [zeroOk] at h; exact ⟨zero1_VR J w x v h.1, zero_VRs J w l r h.2⟩
  | [], _ :: _, h => by simp [zeroOk] at h
  | _ :: _, [], h => by simp [zeroOk] at h

/-! # Slots -/
theorem rel_put (R : Rel J lb w a st) {v : AV} {cv : Value} (he : EV J lb w v cv) (d : Option Nat) : Rel J lb w (a.put d cv) (st.put d v) := by
  cases d with
  | none => exact R
  | some d =>
    refine ⟨R.inv, by simp [Act.put, St.put, upd_eq, R.sz], ?_, R.box, R.binj, R.bobj, R.dfr⟩
    intro t ht
    simp only [St.put, upd_eq, List.length_set] at ht
    simp only [Act.put, St.put, upd_eq, nth_eq]
    by_cases h : d = t
    · subst h
      simp [ht, R.sz, Array.getElem?_setIfInBounds_self]
      exact he
    · simp [h, Array.getElem?_setIfInBounds_ne h]
      have := R.env t ht
      simpa [nth_eq] using this
theorem getD_tmps (R : Rel J lb w a st) (t : Nat) : EV J lb w (nth st.env t) (a.tmps.getD t undef) := by
  by_cases h : t < st.env.length
  · exact R.env t h
  · rw [nth_eq, List.getElem?_eq_none (by omega)]
    trivial
theorem const_EV (v : Value) (x : AV) (h : ofConst v = some x) : VR J w x v := by
  unfold ofConst at h
  split at h <;> simp at h <;> subst h <;> simp [VR]
theorem arg_EV (R : Rel J lb w a st) (o : Operand) (x : AV) (h : arg st o = some x) : EV J lb w x (a.eval o) := by
  cases o with
  | tmp t => simp [arg] at h; subst h; exact getD_tmps R t
  | const v =>
    simp only [arg] at h
    have := const_EV (J := J) (w := w) v x h
    cases x <;> first | exact this | exact this.elim
  | global g => simp [arg] at h
  | func f =>
    simp [arg] at h; subst h
    exact ⟨[], rfl, trivial⟩
theorem EV_VR {x : AV} {v : Value} (h : EV J lb w x v) (hx : okv x = true) : VR J w x v := by
  cases x <;> first | exact h | simp [okv] at hx
theorem VR_EV {x : AV} {v : Value} (h : VR J w x v) : EV J lb w x v := by
  cases x <;> first | exact h | exact h.elim
def Nx (J : Inj) (w : World) (dst : Option Tmp) (K : AV → St → Prop) : Act → World → Prop := fun a' w' =>
  ∃ v st' J' lb', K v st' ∧ Rel J' lb' w' a' (st'.put dst v) ∧ Ext J J' w w'
theorem done {J' : Inj} {lb' : Nat → Nat} {w' : World} {st' : St} {o : Oper} {K : AV → St → Prop} {v : AV} {cv : Value}
    (hr : (execOp a.eval o).run P w = .ok (.value cv) w') (R' : Rel J' lb' w' a st') (he : EV J' lb' w' v cv) (E : Ext J J' w w') (hk : K v st') (Q) :
    o.wp P a w (Nx J w o.dst K) Q := by
  unfold Oper.wp
  rw [hr]
  exact ⟨v, st', J', lb', hk, rel_put R' he _, E⟩
theorem done_val (R : Rel J lb w a st) {o : Oper} {K : AV → St → Prop} {v : AV} {cv : Value}
    (hr : (execOp a.eval o).run P w = .ok (.value cv) w) (he : EV J lb w v cv) (hk : K v st) (Q) : o.wp P a w (Nx J w o.dst K) Q :=
  done hr R he (Ext.refl _ _) hk Q
theorem optK_some {α : Type} {x : Option α} {K : α → Prop} (h : optK x K) : ∃ v, x = some v ∧ K v := by
  cases x with
  | none => exact h.elim
  | some v => exact ⟨v, rfl, h⟩
theorem asB_val {x : AV} {v : Value} {b : Bool} (h : EV J lb w x v) (hb : asB x = some b) : v = .bool b := by
  cases x <;> simp [asB] at hb
  · subst hb; exact h
  · subst hb; exact h
end Go.Proofs.Ytmblcloikeobdaa.Ev

namespace Go.Proofs.Ytmblcloikeobdaa.Ev
open Go
set_option linter.unusedVariables false
set_option linter.unusedSimpArgs false
variable {C : Cfg} {P : Program} {J : Inj} {lb : Nat → Nat} {w : World} {a : Act} {st : St}

/-! # Operators -/
theorem int_bin (op : BinOp) (k : IntKind) (x y : Int) (v : AV) (t : TypeId) (h : intBin op k x y = some v) :
    ∃ cv, (binOp op t (.int k x) (.int k y)).run P w = .ok cv w ∧ VR J w v cv := by
  cases op <;> simp [intBin] at h <;> subst h <;> simp [binOp, Op.intArith, Op.intBits, Op.intCmp, VR]
theorem str_bin (op : BinOp) (x y : ByteArray) (v : AV) (t : TypeId) (h : strBin op x y = some v) :
    ∃ cv, (binOp op t (.string x) (.string y)).run P w = .ok cv w ∧ VR J w v cv := by
  cases op <;> simp [strBin] at h <;> subst h <;> simp [binOp, Op.stringOp, VR]
theorem guard_int (op : BinOp) (t : TypeId) (x y : Operand) (k : IntKind) (n : Int) (v : Value) : (eqGuard op t x y (.int k n) v).run P w = .ok () w := by
  cases op <;> simp [eqGuard]
theorem guard_str (op : BinOp) (t : TypeId) (x y : Operand) (s : ByteArray) (v : Value) : (eqGuard op t x y (.string s) v).run P w = .ok () w := by
  cases op <;> simp [eqGuard]
theorem guard_bool (op : BinOp) (t : TypeId) (x y : Operand) (s : Bool) (v : Value) : (eqGuard op t x y (.bool s) v).run P w = .ok () w := by
  cases op <;> simp [eqGuard]
theorem VRs_len : ∀ (l : List AV) (r : List Value), VRs J w l r → l.length = r.length
  | [], [], _ => rfl
  | _ :: l, _ :: r, h => by simp [VRs_len l r h.2]
  | [], _ :: _, h => h.elim
  | _ :: _, [], h => h.elim
theorem isAgg_no {t : TypeId} {d : TypeDesc} (hd : P.underlying t = some d) (h1 : ∀ F, d ≠ .struct F) (h2 : ∀ n e, d ≠ .array n e) : (Go.isAgg t).run P w = .ok false w := by
  unfold Go.isAgg
  rw [Sem.run_bind, run_underlying hd, Result.andThen_ok]
  cases d <;> first | rfl | exact absurd rfl (h1 _) | exact absurd rfl (h2 _ _)
theorem eqLeaf_run (T : TyOk C P) (d t : Nat) (x y : AV) (v u : Value) (b : Bool) (hx : VR J w x v) (hy : VR J w y u) (h : eqLeaf (tyd C t) x y = some b) :
    (Op.equalIn (d + 1) t v u).run P w = .ok b w ∧ (Go.isAgg t).run P w = .ok false w := by
  have hd := T.d t
  unfold eqLeaf at h
  split at h
  · rename_i e
    rw [e] at hd
    split at h
    · rename_i k m k' n hk
      simp at hk h; subst hk; subst h
      simp only [VR] at hx hy
      subst hx; subst hy
      exact ⟨run_equalIn_int w d t _ _ _ _ hd, isAgg_no hd (by simp) (by simp)⟩
    · simp at h
  · rename_i e
    rw [e] at hd
    simp at h; subst h
    simp only [VR] at hx hy
    subst hx; subst hy
    exact ⟨run_equalIn_string w d t _ _ hd, isAgg_no hd (by simp) (by simp)⟩
  · rename_i e
    rw [e] at hd
    split at h
    · rename_i p q hp hq
      simp at h; subst h
      have e1 := asB_val (lb := fun _ => 0) (VR_EV hx) hp
      have e2 := asB_val (lb := fun _ => 0) (VR_EV hy) hq
      subst e1; subst e2
      exact ⟨run_equalIn_bool' w d t _ _ hd, isAgg_no hd (by simp) (by simp)⟩
    · simp at h
  · simp at h
theorem eqFields_sound (T : TyOk C P) (d : Nat) (cs ds : List Value) : ∀ (F : List Field) (j : Nat) (l r : List AV) (b : Bool),
    (∀ f ∈ F, (f.name == "_") = false) → VRs J w l (cs.drop j) → VRs J w r (ds.drop j) →
    eqFs C j (F.map fun f => (f.type, f.offset)) l r = some b → (Op.eqFields (d + 1) cs.toArray ds.toArray F).run P w = .ok b w
  | [], j, l, r, b, _, hl, hr, he => by
    cases l with
    | cons x l => simp [eqFs] at he
    | nil =>
    cases r with
    | nil => simp [eqFs] at he; subst he; simp [Op.eqFields]
    | cons x r => simp [eqFs] at he
  | f :: F, j, l, r, b, hu, hl, hr, he => by
    cases l with
    | nil => simp [eqFs] at he
    | cons x l =>
    cases r with
    | nil => simp [eqFs] at he
    | cons y r =>
    simp only [List.map_cons, eqFs] at he
    split at he
    · rename_i p q ho h1 h2
      simp at ho he
      have hj : j < cs.length := by
        rcases Nat.lt_or_ge j cs.length with h | h
        · exact h
        · rw [List.drop_eq_nil_of_le h] at hl; exact hl.elim
      have hj' : j < ds.length := by
        rcases Nat.lt_or_ge j ds.length with h | h
        · exact h
        · rw [List.drop_eq_nil_of_le h] at hr; exact hr.elim
      rw [List.drop_eq_getElem_cons hj] at hl
      rw [List.drop_eq_getElem_cons hj'] at hr
      have ih := eqFields_sound T d cs ds F (j + 1) l r q (fun f h => hu f (List.mem_cons_of_mem _ h)) hl.2 hr.2 h2
      have hname : f.name ≠ "_" := by simpa using hu f (List.mem_cons_self)
      obtain ⟨k3, hno⟩ := eqLeaf_run T d f.type x y _ _ p hl.1 hr.1 h1
      have k1 : (part f.type cs.toArray f.offset).run P w = .ok cs[j] w := by simp [part, hno, ho, hj]
      have k2 : (part f.type ds.toArray f.offset).run P w = .ok ds[j] w := by simp [part, hno, ho, hj']
      rw [Op.eqFields]
      simp only [if_pos hname, Sem.run_bind, k1, k2, k3, Result.andThen_ok]
      subst he
      cases p
      · simp
      · simpa using ih
    · simp at he
theorem eqAg_run (T : TyOk C P) (t : Nat) (l r : List AV) (cs ds : List Value) (b : Bool) (hl : VRs J w l cs) (hr : VRs J w r ds) (he : eqAg C t l r = some b) :
    (Op.equal t (.agg cs.toArray) (.agg ds.toArray)).run P w = .ok b w ∧ P.eqGuardType P.depth t = false := by
  have hd := T.d t
  unfold eqAg at he
  split at he
  · rename_i fs e
    rw [e] at hd
    obtain ⟨F, h1, rfl, h2, h3, h4⟩ := hd
    refine ⟨?_, h3⟩
    have hf : P.fieldsOf t = F := by simp [Program.fieldsOf, h1]
    unfold Op.equal
    rw [show Op.maxDepth = 9998 + 1 + 1 from rfl, run_equalIn_struct (P := P) w (9998 + 1) t _ _ (by rw [hf]; exact h1) h4, hf]
    exact eqFields_sound T 9998 cs ds F.toList 0 l r b (fun f hf => (h2 f hf).1) (by simpa using hl) (by simpa using hr) he
  · simp at he
theorem bin_sound (T : TyOk C P) (R : Rel J lb w a st) {op : BinOp} {t : Nat} {x y : Operand} {u v : AV} {K : AV → Prop} {c1 c2 : Value}
    (hx : EV J lb w u c1) (hy : EV J lb w v c2) (h : binP C t op K u v) :
    ∃ r cv, K r ∧ (do eqGuard op t x y c1 c2; binOp op t c1 c2 : Sem Value).run P w = .ok cv w ∧ VR J w r cv := by
  unfold binP at h
  split at h
  · -- numbers
    simp only [EV, VR] at hx hy
    subst hx; subst hy
    split at h
    · obtain ⟨h0, hk⟩ := h
      refine ⟨_, _, hk, ?_, rfl⟩
      simp [guard_int, binOp, Op.shift, show ¬ (_ < (0 : Int)) from Int.not_lt.2 h0]
    · obtain ⟨h0, hk⟩ := h
      refine ⟨_, _, hk, ?_, rfl⟩
      simp [guard_int, binOp, Op.shift, show ¬ (_ < (0 : Int)) from Int.not_lt.2 h0]
    · obtain ⟨rfl, h0, hk⟩ := h
      refine ⟨_, _, hk, ?_, rfl⟩
      simp [guard_int, binOp, Op.intDiv, h0]
    · obtain ⟨rfl, h0, hk⟩ := h
      refine ⟨_, _, hk, ?_, rfl⟩
      simp [guard_int, binOp, Op.intDiv, h0]
    · obtain ⟨rfl, hk⟩ := h
      split at hk
      · rename_i v' hv
        obtain ⟨cv, h1, h2⟩ := int_bin (P := P) (J := J) (w := w) _ _ _ _ _ t hv
        exact ⟨_, cv, hk, by simp [guard_int, h1], h2⟩
      · exact hk.elim
  · -- strings
    simp only [EV, VR] at hx hy
    subst hx; subst hy
    split at h
    · obtain ⟨h0, hk⟩ := h
      refine ⟨_, _, hk, ?_, rfl⟩
      simp [guard_str, binOp, Op.stringOp]
      omega
    · split at h
      · rename_i v' hv
        obtain ⟨cv, h1, h2⟩ := str_bin (P := P) (J := J) (w := w) _ _ _ _ t hv
        exact ⟨_, cv, h, by simp [guard_str, h1], h2⟩
      · exact h.elim
  · -- structs
    simp only [EV, VR] at hx hy
    obtain ⟨cs, rfl, hcs⟩ := hx
    obtain ⟨ds, rfl, hds⟩ := hy
    split at h
    · rename_i b he
      obtain ⟨h1, h2⟩ := eqAg_run T t _ _ _ _ _ hcs hds he
      exact ⟨_, .bool b, h, by simp [run_eqGuard_agg w _ t x y _ _ h2, binOp, h1], rfl⟩
    · rename_i b he
      obtain ⟨h1, h2⟩ := eqAg_run T t _ _ _ _ _ hcs hds he
      exact ⟨_, .bool (!b), h, by simp [run_eqGuard_agg w _ t x y _ _ h2, binOp, h1], rfl⟩
    · exact h.elim
  · split at h
    · rename_i e
      have hd := T.d t
      rw [e] at hd
      split at h
      · rename_i p q hp hq
        have e1 := asB_val hx hp
        have e2 := asB_val hy hq
        subst e1; subst e2
        exact ⟨_, _, h, by simp [guard_bool, run_eql_bool w t _ _ hd], rfl⟩
      · rename_i p q hp hq
        have e1 := asB_val hx hp
        have e2 := asB_val hy hq
        subst e1; subst e2
        exact ⟨_, _, h, by simp [guard_bool, run_neq_bool w t _ _ hd], rfl⟩
      · exact h.elim
    · exact h.elim
end Go.Proofs.Ytmblcloikeobdaa.Ev

namespace Go.Proofs.Ytmblcloikeobdaa.Ev
open Go
set_option linter.unusedVariables false
set_option linter.unusedSimpArgs false
variable {C : Cfg} {P : Program} {J : Inj} {lb : Nat → Nat} {w : World} {a : Act} {st : St}

/-! # Reading -/
theorem run_sz {t : Nat} {x : TypeInfo} (h : P.info? t = some x) : (sizeOf t).run P w = .ok x.size w := by
  simp [sizeOf, typeInfo, h]
theorem size_run (T : TyOk C P) {t : Nat} (h : tsz C t ≠ 0) : (sizeOf t).run P w = .ok (tsz C t) w := by
  obtain ⟨x, h1, h2, _⟩ := T.i t h
  rw [run_sz h1, h2]
theorem agg_run (T : TyOk C P) {t : Nat} (h : tsz C t ≠ 0) : (Go.isAgg t).run P w = .ok (isAg C t) w := by
  have hd := T.d t
  cases hA : isAg C t with
  | true =>
    unfold isAg at hA
    split at hA
    · rename_i e
      rw [e] at hd
      obtain ⟨F, h1, _⟩ := hd
      simp [Go.isAgg, run_underlying h1]
    · rename_i e
      rw [e] at hd
      simp only [] at hd
      simp [Go.isAgg, run_underlying hd]
    · simp at hA
  | false =>
    obtain ⟨x, _, _, _, z, _, _, _, hz⟩ := T.i t h
    obtain ⟨h1, h2⟩ := hz hA
    obtain ⟨d, hd'⟩ := Option.isSome_iff_exists.1 h1
    exact isAgg_no hd' (h2 d hd').1 (h2 d hd').2
theorem VRcells_at : ∀ (l : List AV) (blk o j : Nat) (x : AV), VRcells J w l blk o → l[j]? = some x → ∃ v, w.cell? ⟨blk, o + j, none⟩ = some v ∧ oneV v = true ∧ VR J w x v
  | [], _, _, _, _, _, h => by simp at h
  | y :: l, blk, o, 0, x, h, hj => by simp at hj; subst hj; exact h.1
  | y :: l, blk, o, j + 1, x, h, hj => by
    simp at hj
    have := VRcells_at l blk (o + 1) j x h.2 hj
    rwa [show o + 1 + j = o + (j + 1) from by omega] at this
theorem VRrows_at : ∀ (rows : List (List AV)) (wd blk off i : Nat) (r : List AV), VRrows J w rows wd blk off → rows[i]? = some r → r.length = wd ∧ VRcells J w r blk (off + i * wd)
  | [], _, _, _, _, _, _, h => by simp at h
  | y :: l, wd, blk, off, 0, r, h, hj => by simp at hj; subst hj; simpa using h.1
  | y :: l, wd, blk, off, i + 1, r, h, hj => by
    simp at hj
    have := VRrows_at l wd blk (off + wd) i r h.2 hj
    rwa [show off + wd + i * wd = off + (i + 1) * wd from by rw [Nat.add_mul]; omega] at this
/-- Some leaves that lie behind each other are read as one value. -/
theorem cells_run (blk : Nat) : ∀ (l : List AV) (o : Nat), VRcells J w l blk o → ∃ cs : List Value, cs.length = l.length ∧ (∀ j v, cs[j]? = some v → w.cell? ⟨blk, o + j, none⟩ = some v) ∧ VRs J w l cs
  | [], _, _ => ⟨[], rfl, by simp, trivial⟩
  | x :: l, o, h => by
    obtain ⟨v, hv, _, hx⟩ := h.1
    obtain ⟨cs, h1, h2, h3⟩ := cells_run blk l (o + 1) h.2
    refine ⟨v :: cs, by simp [h1], ?_, hx, h3⟩
    intro j u hu
    cases j with
    | zero => simp at hu; subst hu; simpa using hv
    | succ j =>
      simp at hu
      have := h2 j u hu
      rwa [show o + 1 + j = o + (j + 1) from by omega] at this
theorem VRcells_cut (blk : Nat) : ∀ (n o : Nat) (row l : List AV) (b : Nat), VRcells J w row blk b → cut n o row = some l → VRcells J w l blk (b + o)
  | 0, _, _, _, _, _, h => by simp [cut] at h; subst h; trivial
  | n + 1, 0, x :: row, l, b, hv, h => by
    simp only [cut, Option.bind_eq_some_iff] at h
    obtain ⟨r', h1, h2⟩ := h
    simp at h2; subst h2
    exact ⟨hv.1, by have := VRcells_cut blk n 0 row r' (b + 1) hv.2 h1; simpa using this⟩
  | n + 1, o + 1, x :: row, l, b, hv, h => by
    simp only [cut] at h
    have := VRcells_cut blk (n + 1) o row l (b + 1) hv.2 h
    rwa [show b + 1 + o = b + (o + 1) from by omega] at this
  | n + 1, 0, [], l, b, hv, h => by simp [cut] at h
  | n + 1, o + 1, [], l, b, hv, h => by simp [cut] at h
theorem shut_val (T : TyOk C P) {t : Nat} {l : List AV} {v : AV} (h : shut C t l = some v) (hn : l.length = tsz C t) :
    tsz C t ≠ 0 ∧ ((isAg C t = true ∧ v = .ag l) ∨ (isAg C t = false ∧ l = [v])) := by
  unfold shut at h
  split at h
  · rename_i e
    simp at h; subst h
    exact ⟨by rw [← hn]; simp, .inl ⟨e, rfl⟩⟩
  · rename_i e
    simp at h; subst h
    exact ⟨by rw [← hn]; simp, .inr ⟨e, rfl⟩⟩
  · simp at h
theorem cut_sound (T : TyOk C P) {t o blk b : Nat} {row : List AV} {K : AV → Prop} (hv : VRcells J w row blk b) (h : cutK C t o row K) :
    ∃ v cv, K v ∧ (loadVar t ⟨blk, b + o, none⟩).run P w = .ok cv w ∧ VR J w v cv := by
  unfold cutK at h
  split at h
  · rename_i l hl
    split at h
    · rename_i v hs
      have hlen := (cut_eq _ _ _ _ hl).2
      have hc := VRcells_cut blk _ _ _ _ _ hv hl
      obtain ⟨h0, hsv⟩ := shut_val T hs hlen
      obtain ⟨cs, c1, c2, c3⟩ := cells_run blk l (b + o) hc
      rcases hsv with ⟨hA, rfl⟩ | ⟨hA, rfl⟩
      · refine ⟨_, .agg cs.toArray, h, ?_, cs, rfl, c3⟩
        have := run_loadCells_list (P := P) w ⟨blk, b + o, none⟩ cs (fun j v hj => by rw [Addr.add_lit]; exact c2 j v hj)
        rw [c1, hlen] at this
        simp [loadVar, agg_run T h0, hA, size_run T h0, this]
      · obtain ⟨v', hv', _, hx⟩ := hc.1
        refine ⟨v, v', h, ?_, hx⟩
        simp [loadVar, agg_run T h0, hA, load, Sem.run, hv']
    · exact h.elim
  · exact h.elim
theorem load_sound (T : TyOk C P) (R : Rel J lb w a st) {t : Nat} {p : AV} {K : AV → Prop} {cp : Value} (hp : EV J lb w p cp) (h : loadP C st t K p) :
    ∃ v cv, K v ∧ (Instr.loadAt t cp).run P w = .ok cv w ∧ VR J w v cv := by
  unfold loadP at h
  split at h
  · rename_i s o
    simp only [EV] at hp; subst hp
    split at h
    · rename_i cells hb
      obtain ⟨_, _, _, hc⟩ := R.box s cells hb
      obtain ⟨v, cv, h1, h2, h3⟩ := cut_sound T hc h
      exact ⟨v, cv, h1, by simpa [Instr.loadAt, Instr.sureAddr] using h2, h3⟩
    · exact h.elim
  · rename_i id i o
    obtain ⟨blk, base, wd, hm, rfl⟩ := hp
    split at h
    · rename_i ob hb
      obtain ⟨row, hr, h⟩ := h
      obtain ⟨_, hob⟩ := R.inv.ob id ob hb
      rw [hm] at hob
      obtain ⟨rfl, _, _, _, _, hrows⟩ := hob
      rw [at?_eq] at hr
      obtain ⟨_, hc⟩ := VRrows_at _ _ _ _ _ _ hrows hr
      obtain ⟨v, cv, h1, h2, h3⟩ := cut_sound T hc h
      exact ⟨v, cv, h1, by simpa [Instr.loadAt, Instr.sureAddr] using h2, h3⟩
    · exact h.elim
  · rename_i g fl wd rows i o
    obtain ⟨_, blk, off, rfl, _, _, hrows⟩ := hp
    obtain ⟨row, hr, h⟩ := h
    rw [at?_eq] at hr
    obtain ⟨_, hc⟩ := VRrows_at _ _ _ _ _ _ hrows hr
    obtain ⟨v, cv, h1, h2, h3⟩ := cut_sound T hc h
    exact ⟨v, cv, h1, by simpa [Instr.loadAt, Instr.sureAddr] using h2, VR_ext (Ext.unM J w) _ _ h3⟩
  · exact h.elim
theorem part_sound (T : TyOk C P) {t o : Nat} {l : List AV} {cs : List Value} {K : AV → Prop} (hv : VRs J w l cs) (h : cutK C t o l K) :
    ∃ v cv, K v ∧ (part t cs.toArray o).run P w = .ok cv w ∧ VR J w v cv := by
  have aux : ∀ (n o : Nat) (l r : List AV) (cs : List Value), VRs J w l cs → cut n o l = some r → VRs J w r ((cs.drop o).take n) ∧ o + n ≤ cs.length ∨ n = 0 := by
    intro n
    induction n with
    | zero => intros; exact .inr rfl
    | succ n ih =>
      intro o
      induction o with
      | zero =>
        intro l r cs hv h
        cases l with
        | nil => simp [cut] at h
        | cons x l =>
        cases cs with
        | nil => exact hv.elim
        | cons c cs =>
        simp only [cut, Option.bind_eq_some_iff] at h
        obtain ⟨r', h1, h2⟩ := h
        simp at h2; subst h2
        rcases ih 0 l r' cs hv.2 h1 with ⟨h3, h4⟩ | rfl
        · exact .inl ⟨⟨hv.1, by simpa using h3⟩, by simp at h4 ⊢; omega⟩
        · simp [cut] at h1; subst h1
          exact .inl ⟨⟨hv.1, by simp [VRs]⟩, by simp⟩
      | succ o iho =>
        intro l r cs hv h
        cases l with
        | nil => simp [cut] at h
        | cons x l =>
        cases cs with
        | nil => exact hv.elim
        | cons c cs =>
        simp only [cut] at h
        rcases iho l r cs hv.2 h with ⟨h3, h4⟩ | h5
        · exact .inl ⟨by simpa using h3, by simp; omega⟩
        · simp at h5
  unfold cutK at h
  split at h
  · rename_i r hl
    split at h
    · rename_i v hs
      have hlen := (cut_eq _ _ _ _ hl).2
      obtain ⟨h0, hsv⟩ := shut_val T hs hlen
      rcases aux _ _ _ _ _ hv hl with ⟨h1, h2⟩ | h3
      · rcases hsv with ⟨hA, rfl⟩ | ⟨hA, rfl⟩
        · refine ⟨_, .agg ((cs.drop o).take (tsz C t)).toArray, h, ?_, _, rfl, h1⟩
          simp [part, agg_run T h0, hA, size_run T h0]
        · have h1' : tsz C t = 1 := by rw [← hlen]; rfl
          rw [h1'] at h1 h2
          have ho : o < cs.length := by omega
          rw [List.drop_eq_getElem_cons ho] at h1
          refine ⟨v, cs[o], h, ?_, h1.1⟩
          simp [part, agg_run T h0, hA, ho]
      · exact absurd h3 h0
    · exact h.elim
  · exact h.elim
theorem field_of (T : TyOk C P) {t f ft off : Nat} (h : fieldOff C t f = some (ft, off)) : ∃ (F : Array Field) (fd : Field), P.underlying t = some (.struct F) ∧ F[f]? = some fd ∧ fd.type = ft ∧ fd.offset = off := by
  have hd := T.d t
  unfold fieldOff at h
  split at h
  · rename_i fs e
    rw [e] at hd
    obtain ⟨F, h1, rfl, _⟩ := hd
    rw [at?_eq, List.getElem?_map] at h
    cases hF : F.toList[f]? with
    | none => simp [hF] at h
    | some fd =>
      simp [hF] at h
      exact ⟨F, fd, h1, by simpa using hF, h.1, h.2⟩
  · simp at h
theorem addOff_EV {n : Nat} {x y : AV} {v : Value} (hx : EV J lb w x v) (h : addOff n x = some y) : ∃ b o, v = .pointer (some ⟨b, o, none⟩) ∧ EV J lb w y (.pointer (some ⟨b, o + n, none⟩)) := by
  cases x <;> simp [addOff] at h <;> subst h
  · obtain ⟨h1, blk, off, rfl, h2, h3, h4⟩ := hx
    exact ⟨_, _, rfl, h1, blk, off, by simp [Nat.add_assoc], h2, h3, h4⟩
  · obtain ⟨blk, base, wd, h1, rfl⟩ := hx
    exact ⟨_, _, rfl, blk, base, wd, h1, by simp [Nat.add_assoc]⟩
  · simp only [EV] at hx; subst hx
    exact ⟨_, _, rfl, rfl⟩
end Go.Proofs.Ytmblcloikeobdaa.Ev

namespace Go.Proofs.Ytmblcloikeobdaa.Ev
open Go
set_option linter.unusedVariables false
set_option linter.unusedSimpArgs false
variable {C : Cfg} {P : Program} {J : Inj} {lb : Nat → Nat} {w : World} {a : Act} {st : St}

theorem wdOk_live {hp : Hp} {id sz : Nat} (h : wdOk hp id sz) : ∃ ob, at? hp id = some (some ob) ∧ ob.wd = sz := by
  unfold wdOk at h
  split at h
  · rename_i ob e; exact ⟨ob, e, h⟩
  · exact h.elim
theorem wd_of (R : Rel J lb w a st) {id sz blk base wd : Nat} (h : wdOk st.hp id sz) (hm : J.m id = some (blk, base, wd)) : wd = sz := by
  obtain ⟨ob, h1, h2⟩ := wdOk_live h
  obtain ⟨_, h3⟩ := R.inv.ob id ob h1
  rw [hm] at h3
  rw [h3.1, h2]
theorem bound_val (R : Rel J lb w a st) {d : Nat} {o : Option Operand} {n : Int} (h : bound st (d : Int) o = some n) :
    (o = none ∧ n = d) ∨ ∃ x k, o = some x ∧ a.eval x = .int k n := by
  cases o with
  | none => simp [bound] at h; exact .inl ⟨rfl, h.symm⟩
  | some x =>
    simp only [bound] at h
    split at h
    · rename_i k m hx
      simp at h; subst h
      exact .inr ⟨x, k, rfl, arg_EV R x _ hx⟩
    · simp at h
theorem indexA_sound (T : TyOk C P) (R : Rel J lb w a st) {t : Nat} {x ix : AV} {K : AV → Prop} {cx ci : Value} (hx : EV J lb w x cx) (hi : EV J lb w ix ci)
    (h : indexAP C st.hp t K x ix) : ∃ v cv, K v ∧ (Instr.indexAt t cx ci).run P w = .ok cv w ∧ EV J lb w v cv := by
  unfold indexAP at h
  split at h
  · rename_i k n
    simp only [EV, VR] at hi; subst hi
    have hd := T.d t
    split at h
    · rename_i e he
      rw [he] at hd
      simp only [] at hd
      obtain ⟨hz, h⟩ := h
      have hsz := size_run (w := w) T (t := e) (by simpa using hz)
      split at h
      · rename_i id lo len
        rw [pl_eq] at h
        obtain ⟨hwd, ⟨h0, h1⟩, hk⟩ := h
        obtain ⟨a', cap, rfl, hl, hc⟩ := hx
        rcases hc with rfl | ⟨blk, base, wd, c, e', fz, hm, rfl, hh, hs⟩
        · omega
        · have hw := wd_of R hwd hm
          refine ⟨_, .pointer (some ⟨blk, base + (lo + n.toNat) * wd + 0, none⟩), hk, ?_, blk, base, wd, hm, rfl⟩
          have : base + lo * wd + n.toNat * tsz C e = base + (lo + n.toNat) * wd + 0 := by rw [← hw, Nat.add_mul]; omega
          simp [Instr.indexAt, asIntOf, run_underlying hd, h0, h1, hsz, Addr.add_lit, this]
      · rename_i g fl wd rows
        obtain ⟨hwd, ⟨h0, h1⟩, hk⟩ := h
        obtain ⟨a', cap, rfl, hl, hf, hc⟩ := hx
        rcases hc with rfl | ⟨blk, off, rfl, hF, hg, hrows⟩
        · simp at h1; omega
        · refine ⟨_, .pointer (some ⟨blk, off + n.toNat * wd + 0, none⟩), hk, ?_, hf, blk, off, rfl, hF, hg, hrows⟩
          simp [Instr.indexAt, asIntOf, run_underlying hd, h0, h1, hsz, Addr.add_lit, hwd]
      · exact h.elim
    · rename_i len e he
      rw [he] at hd
      simp only [] at hd
      obtain ⟨hz, ⟨h0, h1⟩, hk⟩ := h
      have hsz := size_run (w := w) T (t := e) (by simpa using hz)
      obtain ⟨v, hv, hk⟩ := optK_some hk
      obtain ⟨b, o, rfl, hev⟩ := addOff_EV hx hv
      refine ⟨v, _, hk, ?_, hev⟩
      simp [Instr.indexAt, asIntOf, run_underlying hd, Instr.sureAddr, h0, h1, hsz, Addr.add_lit]
    · exact h.elim
  · exact h.elim
theorem byteAt_val {b : ByteArray} {n : Int} (h0 : 0 ≤ n) (h1 : n < (b.size : Int)) : ∃ c, b[n.toNat]? = some c ∧ byteAt b n = (c.toNat : Int) := by
  have h : n.toNat < b.size := by omega
  refine ⟨b[n.toNat], by simp [h], ?_⟩
  simp [byteAt, h]
theorem indexV_sound (T : TyOk C P) {t : Nat} {x ix : AV} {K : AV → Prop} {cx ci : Value} (hx : EV J lb w x cx) (hi : EV J lb w ix ci)
    (h : indexVP C t K x ix) : ∃ v cv, K v ∧ (Instr.index t cx ci).run P w = .ok cv w ∧ VR J w v cv := by
  unfold indexVP at h
  split at h
  · rename_i k n
    simp only [EV, VR] at hi; subst hi
    have hd := T.d t
    split at h
    · rename_i b
      simp only [EV, VR] at hx; subst hx
      obtain ⟨he, ⟨h0, h1⟩, hk⟩ := h
      rw [he] at hd
      simp only [] at hd
      obtain ⟨c, hc, hb⟩ := byteAt_val h0 h1
      exact ⟨_, .int .u8 c.toNat, hk, by simp [Instr.index, asIntOf, run_underlying hd, h0, hc], by simp [VR, hb]⟩
    · rename_i l
      obtain ⟨cs, rfl, hcs⟩ := hx
      split at h
      · rename_i len e he
        rw [he] at hd
        simp only [] at hd
        obtain ⟨hz, ⟨h0, h1⟩, hk⟩ := h
        have hsz := size_run (w := w) T (t := e) (by simpa using hz)
        obtain ⟨v, cv, h2, h3, h4⟩ := part_sound T hcs hk
        exact ⟨v, cv, h2, by simp [Instr.index, asIntOf, run_underlying hd, h0, h1, hsz, h3], h4⟩
      · exact h.elim
    · exact h.elim
  · exact h.elim
end Go.Proofs.Ytmblcloikeobdaa.Ev

namespace Go.Proofs.Ytmblcloikeobdaa.Ev
open Go
set_option linter.unusedVariables false
set_option linter.unusedSimpArgs false
variable {C : Cfg} {P : Program} {J : Inj} {lb : Nat → Nat} {w : World} {a : Act} {st : St}

theorem bounds_run (isS : Bool) (len cap : Nat) (R : Rel J lb w a st) {lo hi : Option Operand} {l h : Int} (hh : bound st (len : Int) hi = some h) (hl : bound st 0 lo = some l)
    (h0 : 0 ≤ l) (h1 : l ≤ h) (h2 : h ≤ (cap : Int)) :
    (Instr.sliceBounds isS len cap (lo.map a.eval) (hi.map a.eval) none).run P w = .ok (l.toNat, h.toNat, cap) w := by
  have hs : ∀ (k : IntKind) (i : Int) (y : Nat) (c : BoundsCode), 0 ≤ i → i ≤ (y : Int) → (Instr.sliceBound (.int k i) y c).run P w = .ok i.toNat w := by
    intro k i y c q0 q1
    simp [Instr.sliceBound, asIntOf, q0, q1]
  rcases bound_val R hh with ⟨rfl, rfl⟩ | ⟨x, k, rfl, hx⟩ <;> rcases bound_val (d := 0) R hl with ⟨rfl, rfl⟩ | ⟨y, k', rfl, hy⟩
  · simp [Instr.sliceBounds]
  · simp [Instr.sliceBounds, hy, hs k' l len _ h0 (by omega)]
  · simp [Instr.sliceBounds, hx, hs k h cap _ (by omega) (by omega)]
  · simp [Instr.sliceBounds, hx, hy, hs k h cap _ (by omega) (by omega), hs k' l h.toNat _ h0 (by omega)]
theorem VRrows_drop : ∀ (rows : List (List AV)) (k wd blk off : Nat), VRrows J w rows wd blk off → VRrows J w (rows.drop k) wd blk (off + k * wd)
  | rows, 0, wd, blk, off, h => by simpa using h
  | [], k + 1, wd, blk, off, h => by simp [VRrows]
  | r :: rows, k + 1, wd, blk, off, h => by
    have := VRrows_drop rows k wd blk (off + wd) h.2
    rwa [show off + wd + k * wd = off + (k + 1) * wd from by rw [Nat.add_mul]; omega] at this
theorem VRrows_take : ∀ (rows : List (List AV)) (k wd blk off : Nat), VRrows J w rows wd blk off → VRrows J w (rows.take k) wd blk off
  | rows, 0, wd, blk, off, h => by simp [VRrows]
  | [], k + 1, wd, blk, off, h => by simp [VRrows]
  | r :: rows, k + 1, wd, blk, off, h => ⟨h.1, VRrows_take rows k wd blk (off + wd) h.2⟩
theorem flat_drop : ∀ (rows : List (List AV)) (k : Nat), flatRows rows = true → flatRows (rows.drop k) = true
  | rows, 0, h => h
  | [], k + 1, h => rfl
  | r :: rows, k + 1, h => by simp [flatRows] at h; exact flat_drop rows k h.2
theorem flat_take : ∀ (rows : List (List AV)) (k : Nat), flatRows rows = true → flatRows (rows.take k) = true
  | rows, 0, h => rfl
  | [], k + 1, h => rfl
  | r :: rows, k + 1, h => by simp [flatRows] at h ⊢; exact ⟨h.1, flat_take rows k h.2⟩
theorem slice_sound (T : TyOk C P) (R : Rel J lb w a st) {t : Nat} {x : AV} {lo hi : Option Operand} {K : AV → Prop} {cx : Value} (hx : EV J lb w x cx)
    (h : sliceP C st t lo hi K x) : ∃ v cv, K v ∧ (Instr.sliceAt t cx (lo.map a.eval) (hi.map a.eval) none).run P w = .ok cv w ∧ VR J w v cv := by
  unfold sliceP at h
  have hd := T.d t
  split at h
  · rename_i he
    rw [he] at hd
    simp only [] at hd
    split at h
    · rename_i b
      simp only [EV, VR] at hx; subst hx
      split at h
      · rename_i hh ll e1 e2
        obtain ⟨⟨h0, h1, h2⟩, hk⟩ := h
        have hb := bounds_run (P := P) false b.size b.size R e1 e2 h0 h1 h2
        refine ⟨_, .string (b.extract ll.toNat hh.toNat), hk, ?_, rfl⟩
        simp [Instr.sliceAt, Instr.slice, run_underlying hd, hb]
      · exact h.elim
    · exact h.elim
  · rename_i e he
    rw [he] at hd
    simp only [] at hd
    obtain ⟨hz, h⟩ := h
    have hsz := size_run (w := w) T (t := e) (by simpa using hz)
    split at h
    · rename_i id l0 len
      split at h
      · rename_i hh ll e1 e2
        rw [pl_eq] at h
        obtain ⟨hwd, ⟨h0, h1, h2⟩, hk⟩ := h
        obtain ⟨a', cap, rfl, hl, hc⟩ := hx
        have hb := bounds_run (P := P) true len cap R e1 e2 h0 h1 (by omega)
        refine ⟨_, .slice (if cap = ll.toNat then a' else a'.map (·.add (ll.toNat * tsz C e))) (hh.toNat - ll.toNat) (cap - ll.toNat), hk, ?_, ?_⟩
        · simp [Instr.sliceAt, Instr.slice, run_underlying hd, hb, hsz]
        · refine ⟨_, _, by rw [show (hh - ll).toNat = hh.toNat - ll.toNat from by omega], by omega, ?_⟩
          by_cases hcl : cap = ll.toNat
          · exact .inl (by omega)
          · rcases hc with rfl | ⟨blk, base, wd, c, e', fz, hm, rfl, hp, hs⟩
            · exact .inl (by omega)
            · have hw := wd_of R hwd hm
              refine .inr ⟨blk, base, wd, c, e', fz, hm, ?_, hp, ?_⟩
              · simp [hcl, Addr.add_lit, ← hw, Nat.add_mul, Nat.add_assoc]
              · rw [show l0 + ll.toNat + (cap - ll.toNat) = l0 + cap from by omega]; exact hs
      · exact h.elim
    · rename_i id l0 len cap
      split at h
      · rename_i hh ll e1 e2
        rw [pl_eq] at h
        obtain ⟨hwd, ⟨h0, h1, h2, h3⟩, hk⟩ := h
        obtain ⟨blk, base, wd, c, e', fz, hm, rfl, hl, hp, hs⟩ := hx
        have hb := bounds_run (P := P) true len cap R e1 e2 h0 h1 (by omega)
        have hcl : ¬ cap = ll.toNat := by omega
        refine ⟨_, .slice ((some (⟨blk, base + l0 * wd, none⟩ : Addr)).map (·.add (ll.toNat * tsz C e))) (hh.toNat - ll.toNat) (cap - ll.toNat), hk, ?_, ?_⟩
        · simp [Instr.sliceAt, Instr.slice, run_underlying hd, hb, hsz, hcl]
        · have hw := wd_of R hwd hm
          refine ⟨blk, base, wd, c, e', fz, hm, ?_, by omega, hp, ?_⟩
          · rw [show (hh - ll).toNat = hh.toNat - ll.toNat from by omega]
            simp [Addr.add_lit, ← hw, Nat.add_mul, Nat.add_assoc]
          · rw [show l0 + ll.toNat + (cap - ll.toNat) = l0 + cap from by omega]; exact hs
      · exact h.elim
    · rename_i g fl wd rows
      split at h
      · rename_i hh ll e1 e2
        obtain ⟨hwd, ⟨h0, h1, h2⟩, hk⟩ := h
        obtain ⟨a', cap, rfl, hl, hf, hc⟩ := hx
        have hb := bounds_run (P := P) true rows.length cap R e1 e2 h0 h1 (by omega)
        have hlen : ((rows.drop ll.toNat).take (hh - ll).toNat).length = hh.toNat - ll.toNat := by simp; omega
        refine ⟨_, .slice (if cap = ll.toNat then a' else a'.map (·.add (ll.toNat * tsz C e))) (hh.toNat - ll.toNat) (cap - ll.toNat), hk, ?_, ?_⟩
        · simp [Instr.sliceAt, Instr.slice, run_underlying hd, hb, hsz]
        · refine ⟨_, _, by rw [hlen], by rw [hlen]; omega, fun q => flat_take _ _ (flat_drop _ _ (hf q)), ?_⟩
          by_cases hcl : cap = ll.toNat
          · refine .inl (List.length_eq_zero_iff.1 ?_)
            rw [hlen]; omega
          · rcases hc with rfl | ⟨blk, off, rfl, hF, hg, hrows⟩
            · exact .inl (by simp)
            · refine .inr ⟨blk, off + ll.toNat * wd, ?_, hF, hg, VRrows_take _ _ _ _ _ (VRrows_drop _ _ _ _ _ hrows)⟩
              simp [hcl, Addr.add_lit, hwd]
      · exact h.elim
    · split at h
      · rename_i hh ll e1 e2
        obtain ⟨⟨rfl, rfl⟩, hk⟩ := h
        obtain ⟨a', rfl⟩ := hx
        have hb := bounds_run (P := P) true 0 0 R e1 e2 (by omega) (by omega) (by omega)
        exact ⟨_, .slice a' 0 0, hk, by simp [Instr.sliceAt, Instr.slice, run_underlying hd, hb, hsz], a', rfl⟩
      · exact h.elim
    · exact h.elim
  · exact h.elim
theorem un_sound {op : UnOp} {x v : AV} {cx : Value} (hx : EV J lb w x cx) (h : un op x = some v) : ∃ cv, (Op.unary op cx).run P w = .ok cv w ∧ VR J w v cv := by
  unfold un at h
  split at h <;> simp at h <;> subst h <;> simp only [EV, VR] at hx <;> subst hx <;> simp [Op.unary, VR, Op.intArith]
/-- The arguments' values, one by one. -/
def EVs (J : Inj) (lb : Nat → Nat) (w : World) : List AV → List Value → Prop
  | [], [] => True
  | x :: l, v :: r => EV J lb w x v ∧ EVs J lb w l r
  | _, _ => False
theorem args_EVs (R : Rel J lb w a st) : ∀ (l : List Operand) (xs : List AV), args? st l = some xs → EVs J lb w xs (l.map a.eval)
  | [], xs, h => by simp [args?, mapO] at h; subst h; trivial
  | o :: l, xs, h => by
    simp only [args?, mapO, Option.bind_eq_some_iff] at h
    obtain ⟨x, hx, r, hr, h⟩ := h
    simp at h; subst h
    exact ⟨arg_EV R o _ hx, args_EVs R l r hr⟩
theorem EVs_VRs : ∀ (l : List AV) (r : List Value), EVs J lb w l r → okvs l = true → VRs J w l r
  | [], [], _, _ => trivial
  | x :: l, v :: r, h, hk => by simp [okvs] at hk; exact ⟨EV_VR h.1 hk.1, EVs_VRs l r h.2 hk.2⟩
  | [], _ :: _, h, _ => h.elim
  | _ :: _, [], h, _ => h.elim
end Go.Proofs.Ytmblcloikeobdaa.Ev

namespace Go.Proofs.Ytmblcloikeobdaa.Ev
open Go
set_option linter.unusedVariables false
set_option linter.unusedSimpArgs false
variable {C : Cfg} {P : Program} {J : Inj} {lb : Nat → Nat} {w : World} {a : Act} {st : St} {o : Oper} {K : AV → St → Prop} {Q : Exit → Act → World → Prop}

theorem op_move (R : Rel J lb w a st) {x : Operand} (e : o.op = .move x ∨ o.op = .assign x) (h : optK (arg st x) fun v => K v st) : o.wp P a w (Nx J w o.dst K) Q := by
  obtain ⟨v, hv, hk⟩ := optK_some h
  refine done_val R (cv := a.eval x) ?_ (arg_EV R x v hv) hk Q
  rcases e with e | e <;> simp [execOp, e]
theorem op_pick (R : Rel J lb w a st) {c x y : Operand} (e : o.op = .pick c x y) (h : match arg st c with
    | some (.k true) => optK (arg st x) fun v => K v st
    | some (.k false) => optK (arg st y) fun v => K v st
    | some (.b z) => (z = true → optK (arg st x) fun v => K v st) ∧ (z = false → optK (arg st y) fun v => K v st)
    | _ => False) : o.wp P a w (Nx J w o.dst K) Q := by
  split at h
  · rename_i hc
    obtain ⟨v, hv, hk⟩ := optK_some h
    have hcv : a.eval c = .bool true := arg_EV R c _ hc
    refine done_val R (cv := a.eval x) ?_ (arg_EV R x v hv) hk Q
    simp [execOp, e, hcv, asBool]
  · rename_i hc
    obtain ⟨v, hv, hk⟩ := optK_some h
    have hcv : a.eval c = .bool false := arg_EV R c _ hc
    refine done_val R (cv := a.eval y) ?_ (arg_EV R y v hv) hk Q
    simp [execOp, e, hcv, asBool]
  · rename_i z hc
    have hcv : a.eval c = .bool z := arg_EV R c _ hc
    cases z
    · obtain ⟨v, hv, hk⟩ := optK_some (h.2 rfl)
      refine done_val R (cv := a.eval y) ?_ (arg_EV R y v hv) hk Q
      simp [execOp, e, hcv, asBool]
    · obtain ⟨v, hv, hk⟩ := optK_some (h.1 rfl)
      refine done_val R (cv := a.eval x) ?_ (arg_EV R x v hv) hk Q
      simp [execOp, e, hcv, asBool]
  · exact h.elim
theorem un_bad {α : Type} {x : Option α} {c : α → Bool} {F : α → Prop} (h : optK x fun p => match c p with
    | true => False
    | false => F p) : optK x F := by
  cases x with
  | none => exact h
  | some p =>
    simp only [optK] at h ⊢
    split at h
    · exact h.elim
    · exact h
theorem op_load (T : TyOk C P) (R : Rel J lb w a st) {t : Nat} {x : Operand} (e : o.op = .load t x) (h : optK (arg st x) fun p => loadP C st t (fun v => K v st) p) : o.wp P a w (Nx J w o.dst K) Q := by
  obtain ⟨p, hp, hk⟩ := optK_some h
  obtain ⟨v, cv, h1, h2, h3⟩ := load_sound T R (arg_EV R x p hp) hk
  exact done_val R (cv := cv) (by simp [execOp, e, h2]) (VR_EV h3) h1 Q
theorem op_nil (R : Rel J lb w a st) {x : Operand} (e : o.op = .nilCheck x) (h : match arg st x with
    | some (.lp s o) => K (.lp s o) st
    | some (.pt id i o) => K (.pt id i o) st
    | some (.rp g fl wd r i o) => K (.rp g fl wd r i o) st
    | _ => False) : o.wp P a w (Nx J w o.dst K) Q := by
  split at h
  · rename_i hc
    have he := arg_EV R x _ hc
    simp only [EV] at he
    refine done_val R (cv := a.eval x) ?_ (arg_EV R x _ hc) h Q
    simp [execOp, e, he]
  · rename_i hc
    obtain ⟨blk, base, wd, hm, he⟩ := arg_EV R x _ hc
    refine done_val R (cv := a.eval x) ?_ (arg_EV R x _ hc) h Q
    simp [execOp, e, he]
  · rename_i hc
    obtain ⟨_, blk, off, he, _⟩ := arg_EV R x _ hc
    refine done_val R (cv := a.eval x) ?_ (arg_EV R x _ hc) h Q
    simp [execOp, e, he]
  · exact h.elim
theorem op_bin (T : TyOk C P) (R : Rel J lb w a st) {op : BinOp} {t t' : Nat} {x y : Operand} (e : o.op = .binOp op t x y t')
    (h : optK (arg st x) fun a => optK (arg st y) fun b => binP C t op (fun v => K v st) a b) : o.wp P a w (Nx J w o.dst K) Q := by
  obtain ⟨p, hp, h⟩ := optK_some h
  obtain ⟨v, hv, h⟩ := optK_some h
  obtain ⟨r, cv, h1, h2, h3⟩ := bin_sound (x := x) (y := y) T R (arg_EV R x p hp) (arg_EV R y v hv) h
  refine done_val R (cv := cv) ?_ (VR_EV h3) h1 Q
  simp only [execOp, e]
  rw [Sem.run_bind, h2]; simp
theorem op_un (R : Rel J lb w a st) {op : UnOp} {t : Nat} {x : Operand} (e : o.op = .unOp op t x) (h : optK (arg st x) fun a => optK (un op a) fun v => K v st) :
    o.wp P a w (Nx J w o.dst K) Q := by
  obtain ⟨p, hp, h⟩ := optK_some h
  obtain ⟨v, hv, h⟩ := optK_some h
  obtain ⟨cv, h1, h2⟩ := un_sound (P := P) (arg_EV R x p hp) hv
  exact done_val R (cv := cv) (by simp [execOp, e, h1]) (VR_EV h2) h Q
theorem op_slice (T : TyOk C P) (R : Rel J lb w a st) {t : Nat} {x : Operand} {lo hi : Option Operand} (e : o.op = .slice t x lo hi none)
    (h : optK (arg st x) fun v => sliceP C st t lo hi (fun v => K v st) v) : o.wp P a w (Nx J w o.dst K) Q := by
  obtain ⟨p, hp, h⟩ := optK_some h
  obtain ⟨v, cv, h1, h2, h3⟩ := slice_sound T R (arg_EV R x p hp) h
  exact done_val R (cv := cv) (by simp [execOp, e, h2]) (VR_EV h3) h1 Q
theorem op_fieldAddr (T : TyOk C P) (R : Rel J lb w a st) {t f : Nat} {x : Operand} (e : o.op = .fieldAddr t x f)
    (h : optK (fieldOff C t f) fun p => (tsz C p.1 != 0) = true ∧ optK (arg st x) fun v => optK (addOff p.2 v) fun v => K v st) : o.wp P a w (Nx J w o.dst K) Q := by
  obtain ⟨⟨ft, off⟩, hf, hz, h⟩ := optK_some h
  obtain ⟨p, hp, g⟩ := optK_some h
  obtain ⟨v, hv, k⟩ := optK_some g
  clear h g
  obtain ⟨F, fd, h1, h2, rfl, rfl⟩ := field_of T hf
  obtain ⟨b, oo, h3, h4⟩ := addOff_EV (arg_EV R x p hp) hv
  have hz' : tsz C fd.type ≠ 0 := by simpa using hz
  refine done_val R (cv := .pointer (some ⟨b, oo + fd.offset, none⟩)) ?_ h4 k Q
  simp [execOp, e, h3, Instr.fieldAt, run_underlying h1, h2, Instr.sureAddr, fieldPlace, size_run T hz', hz', Addr.add_lit]
theorem op_field (T : TyOk C P) (R : Rel J lb w a st) {t f : Nat} {x : Operand} (e : o.op = .field t x f)
    (h : optK (arg st x) fun v => fieldVP C t f (fun v => K v st) v) : o.wp P a w (Nx J w o.dst K) Q := by
  obtain ⟨p, hp, h⟩ := optK_some h
  have hx := arg_EV R x p hp
  unfold fieldVP at h
  split at h
  · obtain ⟨cs, hcv, hcs⟩ := hx
    split at h
    · rename_i ft off hf
      obtain ⟨F, fd, h1, h2, rfl, rfl⟩ := field_of T hf
      obtain ⟨v, cv, h3, h4, h5⟩ := part_sound T hcs h
      exact done_val R (cv := cv) (by simp [execOp, e, hcv, Instr.field, run_underlying h1, h2, asAgg, h4]) (VR_EV h5) h3 Q
    · exact h.elim
  · exact h.elim
theorem op_indexAddr (T : TyOk C P) (R : Rel J lb w a st) {t : Nat} {x ix : Operand} (e : o.op = .indexAddr t x ix)
    (h : optK (arg st x) fun v => optK (arg st ix) fun n => indexAP C st.hp t (fun v => K v st) v n) : o.wp P a w (Nx J w o.dst K) Q := by
  obtain ⟨p, hp, h⟩ := optK_some h
  obtain ⟨n, hn, h⟩ := optK_some h
  obtain ⟨v, cv, h1, h2, h3⟩ := indexA_sound T R (arg_EV R x p hp) (arg_EV R ix n hn) h
  exact done_val R (cv := cv) (by simp [execOp, e, h2]) h3 h1 Q
theorem glob_mem : ∀ {l : List (Nat × Nat × List (List AV))} {g wd : Nat} {rows : List (List AV)}, glob l g = some (wd, rows) → (g, wd, rows) ∈ l
  | [], _, _, _, h => by simp [glob] at h
  | (a, wd', rows') :: l, g, wd, rows, h => by
    simp only [glob] at h
    split at h
    · rename_i e
      simp at e h
      obtain ⟨rfl, rfl⟩ := h
      subst e
      exact List.mem_cons_self
    · exact List.mem_cons_of_mem _ (glob_mem h)
theorem op_global (T : TyOk C P) (hG : J.G = C.gl) (R : Rel J lb w a st) {t g : Nat} {x ix : Operand} (e : o.op = .indexAddr t x ix) (hx : globOf x = some g)
    (h : optK (arg st ix) fun n => indexGP C t g (fun v => K v st) n) : o.wp P a w (Nx J w o.dst K) Q := by
  have hx' : x = .global g := by cases x <;> simp [globOf] at hx; rw [hx]
  subst hx'
  obtain ⟨n, hn, h⟩ := optK_some h
  have hi := arg_EV R ix n hn
  unfold indexGP at h
  split at h
  · rename_i k n
    simp only [EV, VR] at hi
    have hd := T.d t
    split at h
    · rename_i wd rows len e' hg he
      rw [he] at hd
      simp only [] at hd
      obtain ⟨hw, hz, ⟨h0, h1⟩, hk⟩ := h
      have hsz := size_run (w := w) T (t := e') (by simpa using hz)
      obtain ⟨g1, g2, g3, _⟩ := R.inv.gl _ (by rw [hG]; exact glob_mem hg)
      refine done_val R (v := .rp true true wd rows n.toNat 0) (cv := .pointer (some ⟨g, 0 + n.toNat * wd + 0, none⟩)) ?_ ⟨fun _ => g2, g, 0, rfl, g1, by simp, g3⟩ hk Q
      have hgl : a.eval (.global g) = .pointer (some ⟨g, 0, none⟩) := rfl
      simp [execOp, e, hgl, hi, Instr.indexAt, asIntOf, run_underlying hd, Instr.sureAddr, h0, h1, hsz, Addr.add_lit, hw]
    · exact h.elim
  · exact h.elim
theorem op_index (T : TyOk C P) (R : Rel J lb w a st) {t : Nat} {x ix : Operand} (e : o.op = .index t x ix)
    (h : optK (arg st x) fun v => optK (arg st ix) fun n => indexVP C t (fun v => K v st) v n) : o.wp P a w (Nx J w o.dst K) Q := by
  obtain ⟨p, hp, h⟩ := optK_some h
  obtain ⟨n, hn, h⟩ := optK_some h
  obtain ⟨v, cv, h1, h2, h3⟩ := indexV_sound T (arg_EV R x p hp) (arg_EV R ix n hn) h
  exact done_val R (cv := cv) (by simp [execOp, e, h2]) (VR_EV h3) h1 Q
theorem VRs_at : ∀ (l : List AV) (cs : List Value) (n : Nat) (v : AV), VRs J w l cs → l[n]? = some v → ∃ cv, cs[n]? = some cv ∧ VR J w v cv
  | [], _, _, _, _, h => by simp at h
  | x :: l, [], _, _, h, _ => h.elim
  | x :: l, c :: cs, 0, v, h, hn => by simp at hn; subst hn; exact ⟨c, rfl, h.1⟩
  | x :: l, c :: cs, n + 1, v, h, hn => by simp at hn; simpa using VRs_at l cs n v h.2 hn
theorem op_extract (R : Rel J lb w a st) {x : Operand} {n : Nat} (e : o.op = .extract x n)
    (h : optK (arg st x) fun v => match v with | .tp l => optK (at? l n) fun v => K v st | _ => False) : o.wp P a w (Nx J w o.dst K) Q := by
  obtain ⟨p, hp, h⟩ := optK_some h
  have hx := arg_EV R x p hp
  split at h
  · obtain ⟨cs, hcv, hcs⟩ := hx
    obtain ⟨v, hv, h⟩ := optK_some h
    rw [at?_eq] at hv
    obtain ⟨cv, h1, h2⟩ := VRs_at _ _ _ _ hcs hv
    exact done_val R (cv := cv) (by simp [execOp, e, hcv, Instr.extract, h1]) (VR_EV h2) h Q
  · exact h.elim
theorem op_makeFunc (R : Rel J lb w a st) {f : Nat} {first caps : Array Operand} (e : o.op = .makeFunc (.func f) first caps)
    (h : first.size = 0 ∧ optK (args? st caps.toList) fun l => okvs l = true ∧ K (.fn f l) st) : o.wp P a w (Nx J w o.dst K) Q := by
  obtain ⟨h0, h⟩ := h
  obtain ⟨l, hl, hk, h⟩ := optK_some h
  have hv := EVs_VRs _ _ (args_EVs R _ _ hl) hk
  have h0' : first = #[] := Array.eq_empty_of_size_eq_zero h0
  have hc : Array.map a.eval caps = (List.map a.eval caps.toList).toArray := by cases caps; simp
  refine done_val R (v := .fn f l) (cv := .func (.func f) #[] (caps.toList.map a.eval).toArray) ?_ ⟨_, rfl, hv⟩ h Q
  simp [execOp, e, Instr.makeFunc, h0', hc]
theorem lenV_run {x : AV} {n : Int} {ts : Array TypeId} {t ty : Nat} {cx : Value} (T : TyOk C P) (ht : ts[0]? = some t) (hx : EV J lb w x cx) (h : lenV (tyd C t) x = some n) :
    (Builtin.len_ ts ty #[cx]).run P w = .ok (.int .i64 n) w := by
  have hd := T.d t
  unfold lenV at h
  split at h
  · rename_i e
    rw [e] at hd; simp only [] at hd
    simp at h; subst h
    obtain ⟨a', rfl⟩ := hx
    simp [Builtin.len_, ht, run_underlying hd, goInt]
  · rename_i e
    rw [e] at hd; simp only [] at hd
    simp at h; subst h
    obtain ⟨a', cap, rfl, _⟩ := hx
    simp [Builtin.len_, ht, run_underlying hd, goInt]
  · rename_i e
    rw [e] at hd; simp only [] at hd
    simp at h; subst h
    obtain ⟨a', cap, rfl, _⟩ := hx
    simp [Builtin.len_, ht, run_underlying hd, goInt]
  · rename_i e
    rw [e] at hd; simp only [] at hd
    simp at h; subst h
    obtain ⟨_, _, _, _, _, _, _, rfl, _⟩ := hx
    simp [Builtin.len_, ht, run_underlying hd, goInt]
  · rename_i e
    rw [e] at hd; simp only [] at hd
    simp at h; subst h
    simp only [EV, VR] at hx; subst hx
    simp [Builtin.len_, ht, run_underlying hd, goInt]
  · rename_i e
    rw [e] at hd; simp only [] at hd
    simp at h; subst h
    simp [Builtin.len_, ht, run_underlying hd, goInt]
  · simp at h
theorem minmax_run {mx : Bool} {l : List AV} {v : AV} {cs : List Value} {ts : Array TypeId} {ty : TypeId} (hl : EVs J lb w l cs) (h : minmax mx l = some v) :
    ∃ cv, ((if mx then Builtin.max_ ts ty cs.toArray else Builtin.min_ ts ty cs.toArray)).run P w = .ok cv w ∧ VR J w v cv := by
  unfold minmax at h
  split at h
  · rename_i k x k' y
    simp at h; subst h
    match cs, hl with
    | [c1, c2], hl =>
      obtain ⟨h1, h2, _⟩ := hl
      simp only [EV, VR] at h1 h2
      subst h1; subst h2
      cases mx
      · exact ⟨_, by simp [run_min_int2], rfl⟩
      · exact ⟨_, by simp [run_max_int2], rfl⟩
  · simp at h
end Go.Proofs.Ytmblcloikeobdaa.Ev
