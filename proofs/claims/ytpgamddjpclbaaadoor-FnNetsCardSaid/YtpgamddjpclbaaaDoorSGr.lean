/- Contracts: what the functions of this part return, for arguments as each contract says. -/
import Derived.Test.YtpgamddjpclbaaaDoorEvD
import Derived.Test.YtpgamddjpclbaaaDoorEvTab
import Derived.Test.YtpgamddjpclbaaaDoorSTy
import Derived.Test.YtpgamddjpclbaaaDoorSKb
import Derived.Test.YtpgamddjpclbaaaDoorSRo
import Derived.Test.YtpgamddjpclbaaaDoorSCu
import Derived.Test.YtpgamddjpclbaaaDoorSCq
import Derived.Test.YtpgamddjpclbaaaDoorSCv
set_option linter.constructorNameAsVariable false
set_option linter.unusedVariables false
set_option linter.unusedSimpArgs false
set_option linter.unusedVariables false
set_option maxHeartbeats 4000000
set_option maxRecDepth 20000
set_option linter.unusedSimpArgs false
set_option linter.constructorNameAsVariable false
namespace Go.Proofs.YtpgamddjpclbaaaDoor.Ev
open Go Go.Proofs
attribute [local irreducible] RO Fn IntKind.wrap TriL
def RowK (l : List AV) : Prop := ∃ a : Row, a.ok ∧ a.key.size ≤ 5 ∧ l.map kb = a.av ∧ allSc l = true
theorem rowK_mk {k : ByteArray} {a b : Int} {s : Bool} {c d e f g h : Int} (hk : k.size ≤ 5) (h1 : I64 a) (h2 : I64 b) (h3 : I64 c) (h4 : I64 d) (h5 : I64 e) (h6 : I64 f) (h7 : I64 g) (h8 : I64 h) :
    RowK [.s k, .i .i64 a, .i .i64 b, .b s, .i .i64 c, .i .i64 d, .i .i64 e, .i .i64 f, .i .i64 g, .i .i64 h] :=
  ⟨⟨k, a, b, s, c, d, e, f, g, h⟩, ⟨by simp only [maxLen]; omega, h1, h2, h3, h4, h5, h6, h7, h8⟩, hk, rfl, rfl⟩
theorem rowK_zero : RowK [.s ⟨#[]⟩, .i .i64 0, .i .i64 0, .k false, .i .i64 0, .i .i64 0, .i .i64 0, .i .i64 0, .i .i64 0, .i .i64 0] :=
  ⟨Row.zero, ⟨by show (0:Nat) ≤ maxLen; simp [maxLen], by simp [I64], by simp [I64], by simp [I64], by simp [I64], by simp [I64], by simp [I64], by simp [I64], by simp [I64]⟩, by show (0:Nat) ≤ 5; omega, rfl, rfl⟩
theorem rowK_of {x : Row} (h : x.ok) (hk : x.key.size ≤ 5) : RowK x.av := ⟨x, h, hk, rfl, rfl⟩
theorem rowK_key {x : Row} (h : x.ok) {k : ByteArray} (hk : k.size ≤ 5) : RowK [.s k, .i .i64 x.kind, .i .i64 x.sum, .b x.set, .i .i64 x.last, .i .i64 x.n, .i .i64 x.min, .i .i64 x.max, .i .i64 x.total, .i .i64 x.dropped] :=
  rowK_mk hk h.kind h.sum h.last h.n h.min h.max h.total h.dropped
def row2Q (r : AV) : Prop := ∃ a b : Row, a.ok ∧ b.ok ∧ a.key.size ≤ 5 ∧ b.key.size ≤ 5 ∧ r = .tp [.ag a.av, .ag b.av]
theorem row2_mk {hp : Hp} {l1 l2 : List AV} (h1 : RowK l1) (h2 : RowK l2) : ∃ r, row2Q r ∧ Back hp 4 (.tp [.ag l1, .ag l2]) r := by
  obtain ⟨a, a1, a2, a3, a4⟩ := h1
  obtain ⟨b, b1, b2, b3, b4⟩ := h2
  exact ⟨_, ⟨a, b, a1, b1, a2, b2, rfl⟩, back_tp ⟨back_ag a4 a3, back_ag b4 b3, trivial⟩⟩
theorem laws_big (code : List UInt8) (hl : code.length ≤ maxLen) : RO Cf Tryd.prog 4 [.ro true true 1 (code.map bv)] (.b (decide (1048576 < code.length))) := by
  refine RO_of Cf_ok ?_
  repeat' first | refine And.intro rfl ?_ | (refine And.intro (fun h => ?_) (fun h => ?_) <;> (try simp only [decide_eq_true_eq, decide_eq_false_iff_not, Bool.not_eq_true', Bool.not_eq_false', Bool.and_eq_true, Bool.or_eq_true, Bool.not_eq_eq_eq_not, Bool.not_true, Bool.not_false, beq_iff_eq, bne_iff_ne, beq_eq_false_iff_ne, bne_eq_false_iff_eq, Nat.not_lt, Int.not_lt, Int.not_le, wrap_byteAt, List.length_map, eqB_Row, eqB_Op, eqB_Rec, toList_inj, toList_nil, ne_eq, Int.toNat_natCast] at h) <;> (try simp only [wrap64] at h) <;> (try (exfalso; first | (cases h; done) | exact h trivial | exact h rfl | omega))) | refine And.intro ⟨by (first | omega | (simp only [wrap64, maxLen, List.length_map, List.length_append, List.length_cons, List.length_nil, Int.toNat_natCast] at *; omega)), by (first | omega | (simp only [wrap64, maxLen, List.length_map, List.length_append, List.length_cons, List.length_nil, Int.toNat_natCast] at *; omega))⟩ ?_ | refine And.intro (show (_ : Int) ≠ 0 by decide) ?_ | refine And.intro ⟨by (first | omega | (simp only [wrap64, maxLen, List.length_map, List.length_append, List.length_cons, List.length_nil, Int.toNat_natCast] at *; omega)), by (first | omega | (simp only [wrap64, maxLen, List.length_map, List.length_append, List.length_cons, List.length_nil, Int.toNat_natCast] at *; omega)), room (by exact rfl) (by (first | omega | (simp only [wrap64, maxLen, List.length_map, List.length_append, List.length_cons, List.length_nil, Int.toNat_natCast] at *; omega))) (by (first | omega | (simp only [wrap64, maxLen, List.length_map, List.length_append, List.length_cons, List.length_nil, Int.toNat_natCast] at *; omega)))⟩ ?_ | refine And.intro (roomN (by exact rfl) (by (first | omega | (simp only [wrap64, maxLen, List.length_map, List.length_append, List.length_cons, List.length_nil, Int.toNat_natCast] at *; omega)))) ?_ | exact trivial | exact rfl | refine Exists.intro _ (And.intro rfl ?_) | refine' cut1 _ ?_ ?_ | refine And.intro (deep_ag (by exact rfl) (by exact rfl)) ?_ | refine And.intro (deep_ag2 (by repeat' first | exact trivial | refine And.intro (by exact rfl) ?_)) ?_ | refine And.intro (deep_sl (by exact rfl) (by first | exact (List.length_map _).symm | assumption | exact rfl | (simp; done))) ?_ | refine And.intro (deep_rows (by intro x hx; repeat' first | exact trivial | refine And.intro (by exact rfl) ?_)) ?_ | refine And.intro (by exact rfl) ?_ | refine And.intro (Or.inl (by exact rfl)) ?_ | refine And.intro (show ByteArray.size _ + ByteArray.size _ ≤ _ from by (first | omega | (simp only [size_mk, size_add, List.size_toArray, List.length_cons, List.length_nil, maxLen] at *; omega))) ?_ | refine Exists.intro _ (And.intro (by with_unfolding_all exact rfl) ?_) | refine And.intro (by decide +kernel) ?_ | refine Exists.intro _ (And.intro (at_map (by (first | omega | (simp only [wrap64, maxLen, List.length_map, List.length_append, List.length_cons, List.length_nil, Int.toNat_natCast] at *; omega)))) ?_) | (refine wrap_id' ?_; (first | omega | (simp only [wrap64, maxLen, List.length_map, List.length_append, List.length_cons, List.length_nil, Int.toNat_natCast] at *; omega))) | refine And.intro ?_ ?_ | fail
  (all_goals first | refine back_k ?_ | refine back_b ?_ | refine back_i ?_ | refine back_s ?_ | (refine back_ag rfl ?_) | skip)
  all_goals (simp only [List.length_map, decide_eq_decide]; omega)
def bytesQ (n : Nat) (r : AV) : Prop := ∃ l : List UInt8, l.length ≤ n ∧ r = .ro false true 1 (l.map bv)
theorem u8_back {n : Int} : ([AV.i .u8 (IntKind.u8.wrap n)] : List AV) = bv (UInt8.ofNat (IntKind.u8.wrap n).toNat) := by
  simp only [bv]
  congr 2
  rw [wrap8]; simp; omega

end Go.Proofs.YtpgamddjpclbaaaDoor.Ev
