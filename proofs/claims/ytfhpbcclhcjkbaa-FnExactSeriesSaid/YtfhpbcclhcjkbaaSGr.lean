/- Contracts: what the functions of this part return, for arguments as each contract says. -/
import Derived.Test.YtfhpbcclhcjkbaaEvD
import Derived.Test.YtfhpbcclhcjkbaaEvTab
import Derived.Test.YtfhpbcclhcjkbaaSTy
import Derived.Test.YtfhpbcclhcjkbaaSKb
import Derived.Test.YtfhpbcclhcjkbaaSRo
import Derived.Test.YtfhpbcclhcjkbaaSCu
import Derived.Test.YtfhpbcclhcjkbaaSCq
import Derived.Test.YtfhpbcclhcjkbaaSCv
set_option linter.constructorNameAsVariable false
set_option linter.unusedVariables false
set_option linter.unusedSimpArgs false
set_option linter.unusedVariables false
set_option maxHeartbeats 4000000
set_option maxRecDepth 20000
set_option linter.unusedSimpArgs false
set_option linter.constructorNameAsVariable false
namespace Go.Proofs.Ytfhpbcclhcjkbaa.Ev
open Go Go.Proofs
attribute [local irreducible] RO Fn IntKind.wrap TriL
def RowK (l : List AV) : Prop := ∃ a : Row, a.ok ∧ a.key.size ≤ 5 ∧ l.map kb = a.av ∧ allSc l = true
theorem rowK_mk {k : ByteArray} {a b : Int} {s : Bool} {c d e f g h : Int} (hk : k.size ≤ 5) (h1 : I64 a) (h2 : I64 b) (h3 : I64 c) (h4 : I64 d) (h5 : I64 e) (h6 : I64 f) (h7 : I64 g) (h8 : I64 h) :
    RowK [.s k, .i .i64 a, .i .i64 b, .b s, .i .i64 c, .i .i64 d, .i .i64 e, .i .i64 f, .i .i64 g, .i .i64 h] :=
  ⟨⟨k, a, b, s, c, d, e, f, g, h⟩, ⟨by simp only [maxLen]; omega, h1, h2, h3, h4, h5, h6, h7, h8⟩, hk, rfl, rfl⟩
theorem rowK_zero : RowK [.s ⟨#[]⟩, .i .i64 0, .i .i64 0, .k false, .i .i64 0, .i .i64 0, .i .i64 0, .i .i64 0, .i .i64 0, .i .i64 0] :=
  ⟨Row.zero, ⟨by show (0:Nat) ≤ maxLen; simp [maxLen], by simp [I64], by simp [I64], by simp [I64], by simp [I64], by simp [I64], by simp [I64], by simp [I64], by simp [I64]⟩, by show (0:Nat) ≤ 5; omega, rfl, rfl⟩
theorem rowK_of {x : Row} (h : x.ok) (hk : x.key.size ≤ 5) : RowK x.av := ⟨x, h, hk, rfl, rfl⟩
theorem rowK_key {x : Row} (h : x.ok) {k : ByteArray} (hk : k.size ≤ 5) : RowK [.s k, .i .i64 x.kind, .i .i64 x.sum, .b x.set, .i .i64 x.last, .i .i64 x.n, .i .i64 x.min, .i .i64 x.max, .i .i64 x.total, .i .i64 x.dropped] :=
  rowK_mk hk h.kind h.sum h.last h.n h.min h.max h.total h.dropped
def row2Q (r : AV) : Prop := ∃ a b : Row, a.ok ∧ b.ok ∧ a.key.size ≤ 5 ∧ b.key.size ≤ 5 ∧ r = .tp [.ag a.av, .ag b.av]
theorem row2_mk {hp : Hp} {l1 l2 : List AV} (h1 : RowK l1) (h2 : RowK l2) : ∃ r, row2Q r ∧ Back hp 4 (.tp [.ag l1, .ag l2]) r := by
  obtain ⟨a, a1, a2, a3, a4⟩ := h1
  obtain ⟨b, b1, b2, b3, b4⟩ := h2
  exact ⟨_, ⟨a, b, a1, b1, a2, b2, rfl⟩, back_tp ⟨back_ag a4 a3, back_ag b4 b3, trivial⟩⟩
def bytesQ (n : Nat) (r : AV) : Prop := ∃ l : List UInt8, l.length ≤ n ∧ r = .ro false true 1 (l.map bv)
theorem u8_back {n : Int} : ([AV.i .u8 (IntKind.u8.wrap n)] : List AV) = bv (UInt8.ofNat (IntKind.u8.wrap n).toNat) := by
  simp only [bv]
  congr 2
  rw [wrap8]; simp; omega

end Go.Proofs.Ytfhpbcclhcjkbaa.Ev
