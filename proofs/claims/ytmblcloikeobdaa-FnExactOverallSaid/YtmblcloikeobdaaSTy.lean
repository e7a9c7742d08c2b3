/- Contracts: what the functions of this part return, for arguments as each contract says. -/
import Derived.Test.YtmblcloikeobdaaEvD
import Derived.Test.YtmblcloikeobdaaEvTab
set_option linter.constructorNameAsVariable false
set_option linter.unusedVariables false
set_option linter.unusedSimpArgs false
set_option linter.unusedVariables false
set_option maxHeartbeats 4000000
set_option maxRecDepth 20000
set_option linter.unusedSimpArgs false
set_option linter.constructorNameAsVariable false
namespace Go.Proofs.Ytmblcloikeobdaa.Ev
open Go Go.Proofs
attribute [local irreducible] RO Fn IntKind.wrap TriL
def I64 (n : Int) : Prop := -9223372036854775808 ≤ n ∧ n < 9223372036854775808
def iv (n : Int) : List AV := [.i .i64 n]
def sv (s : ByteArray) : List AV := [.s s]
def bv (c : UInt8) : List AV := [.i .u8 (c.toNat : Int)]
abbrev I64s (l : List Int) : Prop := l.length ≤ maxLen ∧ ∀ n ∈ l, I64 n
abbrev Strs (l : List ByteArray) : Prop := l.length ≤ maxLen ∧ ∀ s ∈ l, s.size ≤ maxLen
structure Row where
  key : ByteArray
  kind : Int
  sum : Int
  set : Bool
  last : Int
  n : Int
  min : Int
  max : Int
  total : Int
  dropped : Int
  deriving DecidableEq
def Row.av (r : Row) : List AV := [.s r.key, .i .i64 r.kind, .i .i64 r.sum, .b r.set, .i .i64 r.last, .i .i64 r.n, .i .i64 r.min, .i .i64 r.max, .i .i64 r.total, .i .i64 r.dropped]
structure Row.ok (r : Row) : Prop where
  key : r.key.size ≤ maxLen
  kind : I64 r.kind
  sum : I64 r.sum
  last : I64 r.last
  n : I64 r.n
  min : I64 r.min
  max : I64 r.max
  total : I64 r.total
  dropped : I64 r.dropped
abbrev Rows (l : List Row) : Prop := l.length ≤ maxLen ∧ ∀ r ∈ l, r.ok
structure Op where
  kind : Int
  key : ByteArray
  what : Int
  val : Int
  deriving DecidableEq
def Op.av (o : Op) : List AV := [.i .i64 o.kind, .s o.key, .i .i64 o.what, .i .i64 o.val]
structure Op.ok (o : Op) : Prop where
  kind : I64 o.kind
  key : o.key.size ≤ maxLen
  what : I64 o.what
  val : I64 o.val
abbrev Ops (l : List Op) : Prop := l.length ≤ maxLen ∧ ∀ o ∈ l, o.ok
structure Queue where
  ops : List Op
  deriving DecidableEq
def Queue.av (g : Bool) (q : Queue) : List AV := [.ro g true 4 (q.ops.map Op.av)]
structure Queue.ok (q : Queue) : Prop where
  ops : Ops q.ops
structure Job where
  busy : Bool
  op : Op
  serial : Int
  pc : Int
  k : Int
  slot : Int
  what : Int
  e : Int
  stamp : Int
  old : Int
  flips : Int
  steps : Int
  code : Int
  keys : List Int
  raw : List Int
  deriving DecidableEq
def Job.av (g : Bool) (j : Job) : List AV := [.b j.busy, .i .i64 j.op.kind, .s j.op.key, .i .i64 j.op.what, .i .i64 j.op.val, .i .i64 j.serial, .i .i64 j.pc, .i .i64 j.k, .i .i64 j.slot, .i .i64 j.what, .i .i64 j.e, .i .i64 j.stamp, .i .i64 j.old, .i .i64 j.flips, .i .i64 j.steps, .i .i64 j.code, .ro g true 1 (j.keys.map iv), .ro g true 1 (j.raw.map iv)]
structure Job.ok (j : Job) : Prop where
  op : j.op.ok
  serial : I64 j.serial
  pc : I64 j.pc
  k : I64 j.k
  slot : I64 j.slot
  what : I64 j.what
  e : I64 j.e
  stamp : I64 j.stamp
  old : I64 j.old
  flips : I64 j.flips
  steps : I64 j.steps
  code : I64 j.code
  keys : I64s j.keys
  raw : I64s j.raw
structure Evt where
  kind : Int
  who : Int
  serial : Int
  at_ : Int
  op : Op
  code : Int
  win : Int
  steps : Int
  flips : Int
  rows : List Row
  deriving DecidableEq
def Evt.av (g : Bool) (e : Evt) : List AV := [.i .i64 e.kind, .i .i64 e.who, .i .i64 e.serial, .i .i64 e.at_, .i .i64 e.op.kind, .s e.op.key, .i .i64 e.op.what, .i .i64 e.op.val, .i .i64 e.code, .i .i64 e.win, .i .i64 e.steps, .i .i64 e.flips, .ro g true 10 (e.rows.map Row.av)]
structure Evt.ok (e : Evt) : Prop where
  kind : I64 e.kind
  who : I64 e.who
  serial : I64 e.serial
  at_ : I64 e.at_
  op : e.op.ok
  code : I64 e.code
  win : I64 e.win
  steps : I64 e.steps
  flips : I64 e.flips
  rows : Rows e.rows
structure World' where
  cells : List Int
  jobs : List Job
  todo : List Queue
  log : List Evt
  serial : Int
  now : Int
  deriving DecidableEq
def World'.av (g : Bool) (w : World') : List AV := [.ro g true 1 (w.cells.map iv), .ro g false 18 (w.jobs.map (Job.av g)), .ro g false 1 (w.todo.map (Queue.av g)), .ro g false 13 (w.log.map (Evt.av g)), .i .i64 w.serial, .i .i64 w.now]
structure World'.ok (w : World') : Prop where
  cells : I64s w.cells
  jobs : w.jobs.length ≤ maxLen ∧ ∀ j ∈ w.jobs, j.ok
  todo : w.todo.length ≤ maxLen ∧ ∀ q ∈ w.todo, q.ok
  log : w.log.length ≤ maxLen ∧ ∀ e ∈ w.log, e.ok
  serial : I64 w.serial
  now : I64 w.now
structure Rec where
  key : ByteArray
  what : Int
  val : Int
  deriving DecidableEq
def Rec.av (r : Rec) : List AV := [.s r.key, .i .i64 r.what, .i .i64 r.val]
structure Rec.ok (r : Rec) : Prop where
  key : r.key.size ≤ maxLen
  what : I64 r.what
  val : I64 r.val
structure Send where
  gram : Int
  to : Int
  deriving DecidableEq
def Send.av (x : Send) : List AV := [.i .i64 x.gram, .i .i64 x.to]
structure Send.ok (x : Send) : Prop where
  gram : I64 x.gram
  to : I64 x.to
structure Net where
  grams : List ByteArray
  sends : List Send
  flushes : Int
  picks : List Int
  deriving DecidableEq
def Net.av (g : Bool) (n : Net) : List AV := [.ro g true 1 (n.grams.map sv), .ro g true 2 (n.sends.map Send.av), .i .i64 n.flushes, .ro g true 1 (n.picks.map iv)]
structure Net.ok (n : Net) : Prop where
  grams : Strs n.grams
  sends : n.sends.length ≤ maxLen ∧ ∀ x ∈ n.sends, x.ok
  flushes : I64 n.flushes
  picks : I64s n.picks
def rv (g : Bool) (l : List Row) : List AV := [.ro g true 10 (l.map Row.av)]
abbrev RowsS (l : List (List Row)) : Prop := l.length ≤ maxLen ∧ ∀ r ∈ l, Rows r
theorem wf64 {n : Int} (h : (Lit.int .i64 n).wf = true) : I64 n := by
  simp [Lit.wf, IntKind.min, IntKind.max, IntKind.bits, IntKind.signed] at h
  unfold I64
  omega
theorem wf8 {n : Int} (h : (Lit.int .u8 n).wf = true) : 0 ≤ n ∧ n < 256 := by
  simp [Lit.wf, IntKind.min, IntKind.max, IntKind.bits, IntKind.signed] at h
  omega
theorem Row.ext' {a b : Row} (h1 : a.key = b.key) (h2 : a.kind = b.kind) (h3 : a.sum = b.sum) (h4 : a.set = b.set) (h5 : a.last = b.last) (h6 : a.n = b.n) (h7 : a.min = b.min) (h8 : a.max = b.max) (h9 : a.total = b.total) (h10 : a.dropped = b.dropped) : a = b := by
  cases a; cases b; simp_all
theorem Row.eq_iff {a b : Row} : a = b ↔ a.key = b.key ∧ a.kind = b.kind ∧ a.sum = b.sum ∧ a.set = b.set ∧ a.last = b.last ∧ a.n = b.n ∧ a.min = b.min ∧ a.max = b.max ∧ a.total = b.total ∧ a.dropped = b.dropped := by
  constructor
  · rintro rfl; simp
  · rintro ⟨h1, h2, h3, h4, h5, h6, h7, h8, h9, h10⟩; exact Row.ext' h1 h2 h3 h4 h5 h6 h7 h8 h9 h10
abbrev Row.zero : Row := ⟨⟨#[]⟩, 0, 0, false, 0, 0, 0, 0, 0, 0⟩
theorem eqB_Row (a : Row) (k : ByteArray) (n1 n2 : Int) (b : Bool) (n3 n4 n5 n6 n7 n8 : Int) : (a.key.toList == k.toList && (a.kind == n1 && (a.sum == n2 && (a.set == b && (a.last == n3 && (a.n == n4 && (a.min == n5 && (a.max == n6 && (a.total == n7 && (a.dropped == n8 && true)))))))))) = decide (a = ⟨k, n1, n2, b, n3, n4, n5, n6, n7, n8⟩) := by
  rw [Bool.eq_iff_iff]; simp [Row.eq_iff, toList_inj]
theorem Op.eq_iff {a b : Op} : a = b ↔ a.kind = b.kind ∧ a.key = b.key ∧ a.what = b.what ∧ a.val = b.val := by
  cases a; cases b; simp
theorem eqB_Op (a : Op) (n1 : Int) (k : ByteArray) (n2 n3 : Int) : (a.kind == n1 && (a.key.toList == k.toList && (a.what == n2 && (a.val == n3 && true)))) = decide (a = ⟨n1, k, n2, n3⟩) := by
  rw [Bool.eq_iff_iff]; simp [Op.eq_iff, toList_inj]
theorem Rec.eq_iff {a b : Rec} : a = b ↔ a.key = b.key ∧ a.what = b.what ∧ a.val = b.val := by
  cases a; cases b; simp
theorem eqB_Rec (a : Rec) (k : ByteArray) (n2 n3 : Int) : (a.key.toList == k.toList && (a.what == n2 && (a.val == n3 && true))) = decide (a = ⟨k, n2, n3⟩) := by
  rw [Bool.eq_iff_iff]; simp [Rec.eq_iff, toList_inj]
abbrev rowZ : List AV := [.s ⟨#[]⟩, .i .i64 0, .i .i64 0, .k false, .i .i64 0, .i .i64 0, .i .i64 0, .i .i64 0, .i .i64 0, .i .i64 0]

end Go.Proofs.Ytmblcloikeobdaa.Ev
