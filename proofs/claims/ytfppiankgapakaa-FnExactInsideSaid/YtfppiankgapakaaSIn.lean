/- Contracts: what the functions of this part return, for arguments as each contract says. -/
import Derived.Test.YtfppiankgapakaaEvD
import Derived.Test.YtfppiankgapakaaEvTab
import Derived.Test.YtfppiankgapakaaSTy
import Derived.Test.YtfppiankgapakaaSKb
import Derived.Test.YtfppiankgapakaaSLb
import Derived.Test.YtfppiankgapakaaSOb
import Derived.Test.YtfppiankgapakaaSRw
import Derived.Test.YtfppiankgapakaaSFr
import Derived.Test.YtfppiankgapakaaSEs
import Derived.Test.YtfppiankgapakaaSWd
set_option linter.constructorNameAsVariable false
set_option linter.unusedVariables false
set_option linter.unusedSimpArgs false
set_option linter.unusedVariables false
set_option maxHeartbeats 4000000
set_option maxRecDepth 20000
set_option linter.unusedSimpArgs false
set_option linter.constructorNameAsVariable false
namespace Go.Proofs.Ytfppiankgapakaa.Ev
open Go Go.Proofs
attribute [local irreducible] RO Fn IntKind.wrap TriL
/- the threads inside a buffer -/
def jin (j : Job) : Bool := decide (j.busy = true ∧ j.op.kind = 2 ∧ 4 ≤ j.pc ∧ j.pc ≤ 10)
def inJ (b : Int) (j : Job) : Bool := decide (jin j = true ∧ j.e.tmod 2 = b)
def insN (b : Int) (l : List Job) : Int := ((l.countP (inJ b) : Nat) : Int)
theorem insN_zero (b : Int) (l : List Job) : insN b (l.take 0) = 0 := by rw [List.take_zero]; rfl
theorem insN_yes {b : Int} {l : List Job} {k : Nat} (hk : k < l.length) (h : inJ b l[k] = true) : insN b (l.take (k + 1)) = insN b (l.take k) + 1 := by
  rw [insN, List.take_succ_eq_append_getElem hk, List.countP_append, List.countP_cons, List.countP_nil, h]; rfl
theorem insN_no {b : Int} {l : List Job} {k : Nat} (hk : k < l.length) (h : inJ b l[k] = false) : insN b (l.take (k + 1)) = insN b (l.take k) := by
  rw [insN, List.take_succ_eq_append_getElem hk, List.countP_append, List.countP_cons, List.countP_nil, h]; rfl
theorem insN_bnd (b : Int) (l : List Job) (k : Nat) : 0 ≤ insN b (l.take k) ∧ insN b (l.take k) ≤ k := by
  have h := List.countP_le_length (p := inJ b) (l := l.take k)
  have h2 := List.length_take_le k l
  unfold insN
  omega
theorem spec_l17In (j : Job) : RO Cf Try.prog 17 [.ag (j.av true)] (.b (jin j)) := by
  have w1 := spec_l1In j.pc 4 10
  unfold jin
  refine RO_of Cf_ok ?_
  repeat' first | refine And.intro rfl ?_ | (refine And.intro (fun h => ?_) (fun h => ?_) <;> (try simp only [decide_eq_true_eq, decide_eq_false_iff_not, Bool.not_eq_true', Bool.not_eq_false', Bool.and_eq_true, Bool.or_eq_true, Bool.not_eq_eq_eq_not, Bool.not_true, Bool.not_false, beq_iff_eq, bne_iff_ne, beq_eq_false_iff_ne, bne_eq_false_iff_eq, Nat.not_lt, Int.not_lt, Int.not_le, wrap_byteAt, List.length_map, eqB_Row, eqB_Op, eqB_Rec, toList_inj, toList_nil, ne_eq, Int.toNat_natCast] at h) <;> (try simp only [wrap64] at h) <;> (try (exfalso; first | exact absurd h Bool.false_ne_true | exact absurd h.symm Bool.false_ne_true | exact h trivial | exact h rfl | omega))) | refine And.intro ⟨by (first | omega | (simp only [wrap64, maxLen, List.length_map, List.length_append, List.length_cons, List.length_nil, Int.toNat_natCast] at *; omega)), by (first | omega | (simp only [wrap64, maxLen, List.length_map, List.length_append, List.length_cons, List.length_nil, Int.toNat_natCast] at *; omega))⟩ ?_ | refine And.intro (show (_ : Int) ≠ 0 by decide) ?_ | refine And.intro ⟨by (first | omega | (simp only [wrap64, maxLen, List.length_map, List.length_append, List.length_cons, List.length_nil, Int.toNat_natCast] at *; omega)), by (first | omega | (simp only [wrap64, maxLen, List.length_map, List.length_append, List.length_cons, List.length_nil, Int.toNat_natCast] at *; omega)), room (by exact rfl) (by (first | omega | (simp only [wrap64, maxLen, List.length_map, List.length_append, List.length_cons, List.length_nil, Int.toNat_natCast] at *; omega))) (by (first | omega | (simp only [wrap64, maxLen, List.length_map, List.length_append, List.length_cons, List.length_nil, Int.toNat_natCast] at *; omega)))⟩ ?_ | refine And.intro (roomN (by exact rfl) (by (first | omega | (simp only [wrap64, maxLen, List.length_map, List.length_append, List.length_cons, List.length_nil, Int.toNat_natCast] at *; omega)))) ?_ | exact trivial | exact rfl | refine Exists.intro _ (And.intro rfl ?_) | refine' cut1 _ ?_ ?_ | refine And.intro (deep_ag (by exact rfl) (by exact rfl)) ?_ | refine And.intro (deep_ag2 (by repeat' first | exact trivial | refine And.intro (by exact rfl) ?_)) ?_ | refine And.intro (deep_sl (by exact rfl) (by first | exact (List.length_map _).symm | assumption | exact rfl | (simp; done))) ?_ | refine And.intro (deep_rows (by intro x hx; repeat' first | exact trivial | refine And.intro (by exact rfl) ?_)) ?_ | refine And.intro (by exact rfl) ?_ | refine And.intro (Or.inl (by exact rfl)) ?_ | (refine' Or.inl (Exists.intro _ (And.intro ?_ (Exists.intro _ (And.intro (w1) (And.intro rfl ?_))))); focus ((repeat' first | exact trivial | refine And.intro (deep_ag (by exact rfl) (by exact rfl)) ?_ | refine And.intro (deep_ag2 ?_) ?_ | refine And.intro (deep_sl (by exact rfl) (by first | exact (List.length_map _).symm | assumption | exact rfl | (simp; done))) ?_ | refine And.intro (deep_rows (by intro x hx; repeat' first | exact trivial | refine And.intro (by exact rfl) ?_)) ?_ | refine And.intro (by exact rfl) ?_ | refine And.intro (Or.inl (by exact rfl)) ?_); done)) | refine And.intro (show ByteArray.size _ + ByteArray.size _ ≤ _ from by (first | omega | (simp only [size_mk, size_add, List.size_toArray, List.length_cons, List.length_nil, maxLen] at *; omega))) ?_ | refine Exists.intro _ (And.intro (by with_unfolding_all exact rfl) ?_) | refine And.intro (by decide +kernel) ?_ | refine Exists.intro _ (And.intro (at_map (by (first | omega | (simp only [wrap64, maxLen, List.length_map, List.length_append, List.length_cons, List.length_nil, Int.toNat_natCast] at *; omega)))) ?_) | (refine wrap_id' ?_; (first | omega | (simp only [wrap64, maxLen, List.length_map, List.length_append, List.length_cons, List.length_nil, Int.toNat_natCast] at *; omega))) | refine And.intro ?_ ?_ | fail
  all_goals first
    | (refine congrArg AV.b ?_; rw [Bool.eq_iff_iff]; simp only [decide_eq_true_eq, beq_iff_eq]; simp_all; done)
    | (refine congrArg AV.b ?_; rw [Bool.eq_iff_iff]; simp; done)
    | (refine back_k ?_; symm; rw [decide_eq_true_eq]; omega)
    | (refine back_k ?_; symm; rw [decide_eq_false_iff_not]; rintro ⟨q1, q2, q3, q4⟩; first | omega | (simp_all; done))
   
theorem impl_isInside (j : Job) (b : Int) : RO Cf Try.prog 23 [.ag (j.av true), .i .i64 b] (.b (inJ b j)) := by
  have w1 := impl_within j.pc 4 10
  unfold inJ jin
  refine RO_of Cf_ok ?_
  repeat' first | refine And.intro rfl ?_ | (refine And.intro (fun h => ?_) (fun h => ?_) <;> (try simp only [decide_eq_true_eq, decide_eq_false_iff_not, Bool.not_eq_true', Bool.not_eq_false', Bool.and_eq_true, Bool.or_eq_true, Bool.not_eq_eq_eq_not, Bool.not_true, Bool.not_false, beq_iff_eq, bne_iff_ne, beq_eq_false_iff_ne, bne_eq_false_iff_eq, Nat.not_lt, Int.not_lt, Int.not_le, wrap_byteAt, List.length_map, eqB_Row, eqB_Op, eqB_Rec, toList_inj, toList_nil, ne_eq, Int.toNat_natCast] at h) <;> (try simp only [wrap64] at h) <;> (try (exfalso; first | exact absurd h Bool.false_ne_true | exact absurd h.symm Bool.false_ne_true | exact h trivial | exact h rfl | omega))) | refine And.intro ⟨by (first | omega | (simp only [wrap64, maxLen, List.length_map, List.length_append, List.length_cons, List.length_nil, Int.toNat_natCast] at *; omega)), by (first | omega | (simp only [wrap64, maxLen, List.length_map, List.length_append, List.length_cons, List.length_nil, Int.toNat_natCast] at *; omega))⟩ ?_ | refine And.intro (show (_ : Int) ≠ 0 by decide) ?_ | refine And.intro ⟨by (first | omega | (simp only [wrap64, maxLen, List.length_map, List.length_append, List.length_cons, List.length_nil, Int.toNat_natCast] at *; omega)), by (first | omega | (simp only [wrap64, maxLen, List.length_map, List.length_append, List.length_cons, List.length_nil, Int.toNat_natCast] at *; omega)), room (by exact rfl) (by (first | omega | (simp only [wrap64, maxLen, List.length_map, List.length_append, List.length_cons, List.length_nil, Int.toNat_natCast] at *; omega))) (by (first | omega | (simp only [wrap64, maxLen, List.length_map, List.length_append, List.length_cons, List.length_nil, Int.toNat_natCast] at *; omega)))⟩ ?_ | refine And.intro (roomN (by exact rfl) (by (first | omega | (simp only [wrap64, maxLen, List.length_map, List.length_append, List.length_cons, List.length_nil, Int.toNat_natCast] at *; omega)))) ?_ | exact trivial | exact rfl | refine Exists.intro _ (And.intro rfl ?_) | refine' cut1 _ ?_ ?_ | refine And.intro (deep_ag (by exact rfl) (by exact rfl)) ?_ | refine And.intro (deep_ag2 (by repeat' first | exact trivial | refine And.intro (by exact rfl) ?_)) ?_ | refine And.intro (deep_sl (by exact rfl) (by first | exact (List.length_map _).symm | assumption | exact rfl | (simp; done))) ?_ | refine And.intro (deep_rows (by intro x hx; repeat' first | exact trivial | refine And.intro (by exact rfl) ?_)) ?_ | refine And.intro (by exact rfl) ?_ | refine And.intro (Or.inl (by exact rfl)) ?_ | (refine' Or.inl (Exists.intro _ (And.intro ?_ (Exists.intro _ (And.intro (w1) (And.intro rfl ?_))))); focus ((repeat' first | exact trivial | refine And.intro (deep_ag (by exact rfl) (by exact rfl)) ?_ | refine And.intro (deep_ag2 ?_) ?_ | refine And.intro (deep_sl (by exact rfl) (by first | exact (List.length_map _).symm | assumption | exact rfl | (simp; done))) ?_ | refine And.intro (deep_rows (by intro x hx; repeat' first | exact trivial | refine And.intro (by exact rfl) ?_)) ?_ | refine And.intro (by exact rfl) ?_ | refine And.intro (Or.inl (by exact rfl)) ?_); done)) | refine And.intro (show ByteArray.size _ + ByteArray.size _ ≤ _ from by (first | omega | (simp only [size_mk, size_add, List.size_toArray, List.length_cons, List.length_nil, maxLen] at *; omega))) ?_ | refine Exists.intro _ (And.intro (by with_unfolding_all exact rfl) ?_) | refine And.intro (by decide +kernel) ?_ | refine Exists.intro _ (And.intro (at_map (by (first | omega | (simp only [wrap64, maxLen, List.length_map, List.length_append, List.length_cons, List.length_nil, Int.toNat_natCast] at *; omega)))) ?_) | (refine wrap_id' ?_; (first | omega | (simp only [wrap64, maxLen, List.length_map, List.length_append, List.length_cons, List.length_nil, Int.toNat_natCast] at *; omega))) | refine And.intro ?_ ?_ | fail
  all_goals first
    | (refine congrArg AV.b ?_; rw [Bool.eq_iff_iff]; simp only [decide_eq_true_eq, beq_iff_eq]; simp_all; done)
    | (refine congrArg AV.b ?_; rw [Bool.eq_iff_iff]; simp; done)
    | (refine back_k ?_; symm; rw [decide_eq_true_eq]; omega)
    | (refine back_k ?_; symm; rw [decide_eq_false_iff_not, decide_eq_true_eq]; rintro ⟨⟨q1, q2, q3, q4⟩, q5⟩; first | omega | (simp_all; done))
   

end Go.Proofs.Ytfppiankgapakaa.Ev
