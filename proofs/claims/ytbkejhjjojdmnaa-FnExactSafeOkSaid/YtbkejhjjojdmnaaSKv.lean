/- Contracts: what the functions of this part return, for arguments as each contract says. -/
import Derived.Test.YtbkejhjjojdmnaaEvD
import Derived.Test.YtbkejhjjojdmnaaEvTab
import Derived.Test.YtbkejhjjojdmnaaSTy
import Derived.Test.YtbkejhjjojdmnaaSKt
import Derived.Test.YtbkejhjjojdmnaaSKb
import Derived.Test.YtbkejhjjojdmnaaSSp
import Derived.Test.YtbkejhjjojdmnaaSKq
import Derived.Test.YtbkejhjjojdmnaaSKr
import Derived.Test.YtbkejhjjojdmnaaSKs
set_option linter.constructorNameAsVariable false
set_option linter.unusedVariables false
set_option linter.unusedSimpArgs false
set_option linter.unusedVariables false
set_option maxHeartbeats 4000000
set_option maxRecDepth 20000
set_option linter.unusedSimpArgs false
set_option linter.constructorNameAsVariable false
namespace Go.Proofs.Ytbkejhjjojdmnaa.Ev
open Go Go.Proofs
attribute [local irreducible] RO Fn IntKind.wrap TriL
theorem pkW_Kv : (∀ n : Int, IntKind.i64.wrap n = (n + 9223372036854775808) % 18446744073709551616 - 9223372036854775808) ∧ maxLen = 2 ^ 63 - 1 ∧ (∀ (α β : Type) (f : α → β) (l : List α), (l.map f).length = l.length) ∧ (∀ (α : Type) (a b : List α), (a ++ b).length = a.length + b.length) ∧ (∀ (α : Type) (x : α) (l : List α), (x :: l).length = l.length + 1) ∧ (∀ α : Type, ([] : List α).length = 0) ∧ (∀ n : Nat, (n : Int).toNat = n) := ⟨wrap64, rfl, fun _ _ _ _ => List.length_map _, fun _ _ _ => List.length_append, fun _ _ _ => List.length_cons, fun _ => rfl, Int.toNat_natCast⟩
theorem pow_p (w : Nat) : (0 : Int) < 256 ^ w := Int.pow_pos (by omega)
theorem pow_nn (w : Nat) : (0 : Int) ≤ 256 ^ w := Int.le_of_lt (pow_p w)
def sh8 (n : Int) (w : Nat) : Int := n.fdiv (2 ^ (min (IntKind.i64.wrap (8 * (w : Int))).toNat IntKind.i64.bits))
theorem sh8_eq {n : Int} {w : Nat} (h0 : 0 ≤ n) (h1 : 1 ≤ w) (h4 : w ≤ 4) : sh8 n w = n / 256 ^ w := by
  have e : (2 : Int) ^ (min (IntKind.i64.wrap (8 * (w : Int))).toNat IntKind.i64.bits) = 256 ^ w := by
    rcases (by omega : w = 1 ∨ w = 2 ∨ w = 3 ∨ w = 4) with rfl | rfl | rfl | rfl <;> (rw [wrap_id (by omega) (by omega)]; rfl)
  rw [sh8, e, Int.fdiv_eq_ediv_of_nonneg _ (pow_nn w)]
theorem impl_Fixed_no (n : Int) (hn : I64 n) (w : Nat) (h1 : 1 ≤ w) (h4 : w ≤ 4) (h : n < 0 ∨ ¬ n < 256 ^ w) : RO Cf Try.prog 96 [.i .i64 n, .i .i64 w] (.s ⟨#[]⟩) := by
  have cW := impl_within (w : Int) 1 7
  rw [show decide (1 ≤ (w : Int) ∧ (w : Int) ≤ 7) = true from by simp; omega] at cW
  replace cW := RO_kt cW
  by_cases h0 : n < 0
  · refine RO_of Cf_ok ?_
    repeat' first | refine And.intro rfl ?_ | (refine And.intro (fun h => ?_) (fun h => ?_) <;> (try simp only [decide_eq_true_eq, decide_eq_false_iff_not, Bool.not_eq_true', Bool.not_eq_false', Bool.and_eq_true, Bool.or_eq_true, Bool.not_eq_eq_eq_not, Bool.not_true, Bool.not_false, beq_iff_eq, bne_iff_ne, beq_eq_false_iff_ne, bne_eq_false_iff_eq, Nat.not_lt, Int.not_lt, Int.not_le, wrap_byteAt, List.length_map, eqB_Row, eqB_Op, eqB_Rec, toList_inj, toList_nil, ne_eq, Int.toNat_natCast] at h) <;> (try simp only [wrap64] at h) <;> (try (exfalso; first | exact absurd h Bool.false_ne_true | exact absurd h.symm Bool.false_ne_true | exact h trivial | exact h rfl | omega))) | refine And.intro ⟨by (first | omega | (simp only [pkW_Kv] at *; omega)), by (first | omega | (simp only [pkW_Kv] at *; omega))⟩ ?_ | refine And.intro (show (_ : Int) ≠ 0 by decide) ?_ | refine And.intro ⟨by (first | omega | (simp only [pkW_Kv] at *; omega)), by (first | omega | (simp only [pkW_Kv] at *; omega)), room (by exact rfl) (by (first | omega | (simp only [pkW_Kv] at *; omega))) (by (first | omega | (simp only [pkW_Kv] at *; omega)))⟩ ?_ | refine And.intro (roomN (by exact rfl) (by (first | omega | (simp only [pkW_Kv] at *; omega)))) ?_ | exact trivial | exact rfl | refine Exists.intro _ (And.intro rfl ?_) | refine' cut1 _ ?_ ?_ | refine And.intro (deep_ag (by exact rfl) (by exact rfl)) ?_ | refine And.intro (deep_ag2 (by repeat' first | exact trivial | refine And.intro (by exact rfl) ?_)) ?_ | refine And.intro (deep_sl (by exact rfl) (by first | exact (List.length_map _).symm | assumption | exact rfl | (simp; done))) ?_ | refine And.intro (deep_rows (by intro x hx; repeat' first | exact trivial | refine And.intro (by exact rfl) ?_)) ?_ | refine And.intro (by exact rfl) ?_ | refine And.intro (Or.inl (by exact rfl)) ?_ | refine' Or.inl (Exists.intro _ (And.intro ?_ (Exists.intro _ (And.intro (cW) (And.intro rfl ?_))))) | refine And.intro (show ByteArray.size _ + ByteArray.size _ ≤ _ from by (first | omega | (simp only [size_mk, size_add, List.size_toArray, List.length_cons, List.length_nil, maxLen] at *; omega))) ?_ | refine Exists.intro _ (And.intro (by with_unfolding_all exact rfl) ?_) | refine And.intro (by decide +kernel) ?_ | refine Exists.intro _ (And.intro (at_map (by (first | omega | (simp only [pkW_Kv] at *; omega)))) ?_) | (refine wrap_id' ?_; (first | omega | (simp only [pkW_Kv] at *; omega))) | refine And.intro ?_ ?_ | fail
    all_goals first
      | (exfalso; omega)
      | exact back_s rfl
     
  · have hs := sh8_eq (n := n) (by omega) h1 h4
    have hs2 : ¬ sh8 n w = 0 := by
      rw [hs]
      intro q
      rcases h with h | h
      · omega
      · have hp : (0 : Int) < 256 ^ w := pow_p w
        have := Int.emod_add_mul_ediv n (256 ^ w)
        have := Int.emod_lt_of_pos n hp
        rw [q] at *
        omega
    have hs3 := hs2
    unfold sh8 at hs3
    have hs4 := hs3
    simp only [wrap64] at hs4
    have hS0 : 0 ≤ IntKind.i64.wrap (8 * (w : Int)) := by rw [wrap_id (by omega) (by omega)]; omega
    refine RO_of Cf_ok ?_
    repeat' first | refine And.intro rfl ?_ | (refine And.intro (fun h => ?_) (fun h => ?_) <;> (try simp only [decide_eq_true_eq, decide_eq_false_iff_not, Bool.not_eq_true', Bool.not_eq_false', Bool.and_eq_true, Bool.or_eq_true, Bool.not_eq_eq_eq_not, Bool.not_true, Bool.not_false, beq_iff_eq, bne_iff_ne, beq_eq_false_iff_ne, bne_eq_false_iff_eq, Nat.not_lt, Int.not_lt, Int.not_le, wrap_byteAt, List.length_map, eqB_Row, eqB_Op, eqB_Rec, toList_inj, toList_nil, ne_eq, Int.toNat_natCast] at h) <;> (try simp only [wrap64] at h) <;> (try (exfalso; first | exact absurd h Bool.false_ne_true | exact absurd h.symm Bool.false_ne_true | exact h trivial | exact h rfl | omega))) | refine And.intro ⟨by (first | omega | (simp only [pkW_Kv] at *; omega)), by (first | omega | (simp only [pkW_Kv] at *; omega))⟩ ?_ | refine And.intro (show (_ : Int) ≠ 0 by decide) ?_ | refine And.intro ⟨by (first | omega | (simp only [pkW_Kv] at *; omega)), by (first | omega | (simp only [pkW_Kv] at *; omega)), room (by exact rfl) (by (first | omega | (simp only [pkW_Kv] at *; omega))) (by (first | omega | (simp only [pkW_Kv] at *; omega)))⟩ ?_ | refine And.intro (roomN (by exact rfl) (by (first | omega | (simp only [pkW_Kv] at *; omega)))) ?_ | exact trivial | exact rfl | refine Exists.intro _ (And.intro rfl ?_) | refine' cut1 _ ?_ ?_ | refine And.intro (deep_ag (by exact rfl) (by exact rfl)) ?_ | refine And.intro (deep_ag2 (by repeat' first | exact trivial | refine And.intro (by exact rfl) ?_)) ?_ | refine And.intro (deep_sl (by exact rfl) (by first | exact (List.length_map _).symm | assumption | exact rfl | (simp; done))) ?_ | refine And.intro (deep_rows (by intro x hx; repeat' first | exact trivial | refine And.intro (by exact rfl) ?_)) ?_ | refine And.intro (by exact rfl) ?_ | refine And.intro (Or.inl (by exact rfl)) ?_ | refine' Or.inl (Exists.intro _ (And.intro ?_ (Exists.intro _ (And.intro (cW) (And.intro rfl ?_))))) | refine And.intro hS0 ?_ | refine And.intro (show ByteArray.size _ + ByteArray.size _ ≤ _ from by (first | omega | (simp only [size_mk, size_add, List.size_toArray, List.length_cons, List.length_nil, maxLen] at *; omega))) ?_ | refine Exists.intro _ (And.intro (by with_unfolding_all exact rfl) ?_) | refine And.intro (by decide +kernel) ?_ | refine Exists.intro _ (And.intro (at_map (by (first | omega | (simp only [pkW_Kv] at *; omega)))) ?_) | (refine wrap_id' ?_; (first | omega | (simp only [pkW_Kv] at *; omega))) | refine And.intro ?_ ?_ | fail
    all_goals first
      | exact absurd h hs3
      | exact absurd h hs4
      | (exfalso; omega)
      | exact back_s rfl
     
theorem fx_step {i : Nat} {m : Nat} {suf : List UInt8} {l : List UInt8} (h : fx (i + 1) m ++ suf = l) : fx i (m / 256) ++ (UInt8.ofNat (m % 256) :: suf) = l := by
  rw [← h, fx, List.append_assoc]; rfl
theorem rep_upd (i : Nat) (x : UInt8) (suf : List UInt8) : upd (List.replicate (i + 1) [AV.i .u8 0] ++ suf.map bv) i (bv x) = List.replicate i [AV.i .u8 0] ++ (x :: suf).map bv := by
  rw [upd_eq, List.set_append_left _ _ (by simp), List.replicate_succ', List.set_append_right _ _ (by simp)]
  simp
theorem impl_Fixed (n : Int) (hn : I64 n) (w : Nat) (h1 : 1 ≤ w) (h4 : w ≤ 4) (h0 : 0 ≤ n) (hlt : n < 256 ^ w) : RO Cf Try.prog 96 [.i .i64 n, .i .i64 w] (.s (ofBs (fx w n.toNat))) := by
  have cW := impl_within (w : Int) 1 7
  rw [show decide (1 ≤ (w : Int) ∧ (w : Int) ≤ 7) = true from by simp; omega] at cW
  replace cW := RO_kt cW
  have hs := sh8_eq (n := n) (by omega) h1 h4
  have hs2 : sh8 n w = 0 := by rw [hs]; exact Int.ediv_eq_zero_of_lt h0 hlt
  have hs3 := hs2
  unfold sh8 at hs3
  have hs4 := hs3
  simp only [wrap64] at hs4
  unfold I64 at hn
  have hS0 : 0 ≤ IntKind.i64.wrap (8 * (w : Int)) := by rw [wrap_id (by omega) (by omega)]; omega
  refine RO_of Cf_ok ?_
  repeat' first | refine And.intro rfl ?_ | (refine And.intro (fun h => ?_) (fun h => ?_) <;> (try simp only [decide_eq_true_eq, decide_eq_false_iff_not, Bool.not_eq_true', Bool.not_eq_false', Bool.and_eq_true, Bool.or_eq_true, Bool.not_eq_eq_eq_not, Bool.not_true, Bool.not_false, beq_iff_eq, bne_iff_ne, beq_eq_false_iff_ne, bne_eq_false_iff_eq, Nat.not_lt, Int.not_lt, Int.not_le, wrap_byteAt, List.length_map, eqB_Row, eqB_Op, eqB_Rec, toList_inj, toList_nil, ne_eq, Int.toNat_natCast] at h) <;> (try simp only [wrap64] at h) <;> (try (exfalso; first | exact absurd h Bool.false_ne_true | exact absurd h.symm Bool.false_ne_true | exact h trivial | exact h rfl | omega))) | refine And.intro ⟨by (first | omega | (simp only [pkW_Kv] at *; omega)), by (first | omega | (simp only [pkW_Kv] at *; omega))⟩ ?_ | refine And.intro (show (_ : Int) ≠ 0 by decide) ?_ | refine And.intro ⟨by (first | omega | (simp only [pkW_Kv] at *; omega)), by (first | omega | (simp only [pkW_Kv] at *; omega)), room (by exact rfl) (by (first | omega | (simp only [pkW_Kv] at *; omega))) (by (first | omega | (simp only [pkW_Kv] at *; omega)))⟩ ?_ | refine And.intro (roomN (by exact rfl) (by (first | omega | (simp only [pkW_Kv] at *; omega)))) ?_ | exact trivial | exact rfl | refine Exists.intro _ (And.intro rfl ?_) | refine' cut1 _ ?_ ?_ | refine And.intro (deep_ag (by exact rfl) (by exact rfl)) ?_ | refine And.intro (deep_ag2 (by repeat' first | exact trivial | refine And.intro (by exact rfl) ?_)) ?_ | refine And.intro (deep_sl (by exact rfl) (by first | exact (List.length_map _).symm | assumption | exact rfl | (simp; done))) ?_ | refine And.intro (deep_rows (by intro x hx; repeat' first | exact trivial | refine And.intro (by exact rfl) ?_)) ?_ | refine And.intro (by exact rfl) ?_ | refine And.intro (Or.inl (by exact rfl)) ?_ | refine' Or.inl (Exists.intro _ (And.intro ?_ (Exists.intro _ (And.intro (cW) (And.intro rfl ?_))))) | refine And.intro hS0 ?_ | refine And.intro (show ByteArray.size _ + ByteArray.size _ ≤ _ from by (first | omega | (simp only [size_mk, size_add, List.size_toArray, List.length_cons, List.length_nil, maxLen] at *; omega))) ?_ | refine Exists.intro _ (And.intro (by with_unfolding_all exact rfl) ?_) | refine And.intro (by decide +kernel) ?_ | refine Exists.intro _ (And.intro (at_map (by (first | omega | (simp only [pkW_Kv] at *; omega)))) ?_) | (refine wrap_id' ?_; (first | omega | (simp only [pkW_Kv] at *; omega))) | refine And.intro ?_ ?_ | fail
  all_goals first
    | exact absurd hs3 h
    | exact absurd hs4 h
    | (exfalso; omega)
    | skip
  refine loop_of 96 Cf_ok (fun ((m, i, rows) : Int × Int × List (List AV)) => ⟨[.i .i64 m, .u, .u, .u, .u, .sl 0 0 w, .i .i64 i, .u, .u, .u, .u, .u, .u, .u, .u, .u, .u, .u, .u, .u, .u, .u, .u, .u, .u, .u, .u, .u, .u, .u, .u, .u, .u, .u, .u, .u, .u, .u], [none, none, none, none, none, none, none, none, none, none, none, none, none, none, none, none, none, none, none, none, none, none, none, none, none, none, none, none, none, none, none, none, none, none, none, none, none, none], [some ⟨1, true, rows⟩]⟩)
    (fun (p : Int × Int × List (List AV)) => 0 ≤ p.1 ∧ p.1 ≤ n ∧ ∃ j : Nat, ∃ suf : List UInt8, p.2.1 = (j : Int) - 1 ∧ fx j p.1.toNat ++ suf = fx w n.toNat ∧ p.2.2 = List.replicate j [AV.i .u8 0] ++ suf.map bv ∧ j + suf.length = w) (fun p => (p.2.1 + 1).toNat) ?hc ?_ (_, _, _) ?_
  case hc => decide +kernel
  · rintro ⟨m, i, rows⟩ ⟨e1, e2, j, suf, e3, e4, e5, e6⟩ ih
    simp only [] at e1 e2 e3 e4 e5
    subst e3; subst e5
    have hm : m.fdiv (2 ^ (min (8 : Int).toNat IntKind.i64.bits)) = m / 256 := by
      show m.fdiv 256 = m / 256
      exact Int.fdiv_eq_ediv_of_nonneg m (by omega)
    cases j with
    | zero =>
      rw [fx, List.nil_append] at e4
      subst e4
      have hlen : (List.replicate 0 [AV.i .u8 0] ++ (fx w n.toNat).map bv).length = w := by simp [fx_len]
      repeat' first | refine And.intro rfl ?_ | (refine And.intro (fun h => ?_) (fun h => ?_) <;> (try simp only [decide_eq_true_eq, decide_eq_false_iff_not, Bool.not_eq_true', Bool.not_eq_false', Bool.and_eq_true, Bool.or_eq_true, Bool.not_eq_eq_eq_not, Bool.not_true, Bool.not_false, beq_iff_eq, bne_iff_ne, beq_eq_false_iff_ne, bne_eq_false_iff_eq, Nat.not_lt, Int.not_lt, Int.not_le, wrap_byteAt, List.length_map, eqB_Row, eqB_Op, eqB_Rec, toList_inj, toList_nil, ne_eq, Int.toNat_natCast] at h) <;> (try simp only [wrap64] at h) <;> (try (exfalso; first | exact absurd h Bool.false_ne_true | exact absurd h.symm Bool.false_ne_true | exact h trivial | exact h rfl | omega))) | refine And.intro ⟨by (first | omega | (simp only [pkW_Kv] at *; omega)), by (first | omega | (simp only [pkW_Kv] at *; omega))⟩ ?_ | refine And.intro (show (_ : Int) ≠ 0 by decide) ?_ | refine And.intro ⟨by (first | omega | (simp only [pkW_Kv] at *; omega)), by (first | omega | (simp only [pkW_Kv] at *; omega)), room (by exact rfl) (by (first | omega | (simp only [pkW_Kv] at *; omega))) (by (first | omega | (simp only [pkW_Kv] at *; omega)))⟩ ?_ | refine And.intro (roomN (by exact rfl) (by (first | omega | (simp only [pkW_Kv] at *; omega)))) ?_ | exact trivial | exact rfl | refine Exists.intro _ (And.intro rfl ?_) | refine' cut1 _ ?_ ?_ | refine And.intro (deep_ag (by exact rfl) (by exact rfl)) ?_ | refine And.intro (deep_ag2 (by repeat' first | exact trivial | refine And.intro (by exact rfl) ?_)) ?_ | refine And.intro (deep_sl (by exact rfl) (by first | exact (List.length_map _).symm | assumption | exact rfl | (simp; done))) ?_ | refine And.intro (deep_rows (by intro x hx; repeat' first | exact trivial | refine And.intro (by exact rfl) ?_)) ?_ | refine And.intro (by exact rfl) ?_ | refine And.intro (Or.inl (by exact rfl)) ?_ | (refine' Exists.intro _ (Exists.intro _ (And.intro (show rowsR _ _ _ _ _ from ?_) (And.intro (show bytesOf _ = _ from ?_) ?_)))) | (refine' Exists.intro _ (Exists.intro _ (And.intro (show rowsR _ _ _ _ _ from ?_) (And.intro (show rowsR _ _ _ _ _ from ?_) (And.intro ?_ ?_))))) | (refine cut_full _ ?_; first | assumption | exact (List.length_map _).symm | exact rfl | (simp; done)) | refine roomN (by exact rfl) (by (first | omega | (simp only [pkW_Kv] at *; omega))) | exact bytes_map _ | refine And.intro (show ByteArray.size _ + ByteArray.size _ ≤ _ from by (first | omega | (simp only [size_mk, size_add, List.size_toArray, List.length_cons, List.length_nil, maxLen] at *; omega))) ?_ | refine Exists.intro _ (And.intro (by with_unfolding_all exact rfl) ?_) | refine And.intro (by decide +kernel) ?_ | refine Exists.intro _ (And.intro (at_map (by (first | omega | (simp only [pkW_Kv] at *; omega)))) ?_) | (refine wrap_id' ?_; (first | omega | (simp only [pkW_Kv] at *; omega))) | refine And.intro ?_ ?_ | fail
      all_goals first
        | (exfalso; omega)
        | exact cut_full _ (by simp [fx_len])
        | exact back_s rfl
       
    | succ j =>
      have hlen : (List.replicate (j + 1) [AV.i .u8 0] ++ suf.map bv).length = w := by simp; omega
      have hw : IntKind.i64.wrap (((j + 1 : Nat) : Int) - 1 - 1) = (j : Int) - 1 := by rw [wrap_id (by omega) (by omega)]; omega
      have hjt : (((j + 1 : Nat) : Int) - 1).toNat = j := by omega
      have hat : at? (List.replicate (j + 1) [AV.i .u8 0] ++ suf.map bv) (((j + 1 : Nat) : Int) - 1).toNat = some [AV.i .u8 0] := by
        rw [hjt, at?_eq, List.getElem?_append_left (by simp), List.getElem?_replicate, if_pos (by omega)]
      repeat' first | refine And.intro rfl ?_ | (refine And.intro (fun h => ?_) (fun h => ?_) <;> (try simp only [decide_eq_true_eq, decide_eq_false_iff_not, Bool.not_eq_true', Bool.not_eq_false', Bool.and_eq_true, Bool.or_eq_true, Bool.not_eq_eq_eq_not, Bool.not_true, Bool.not_false, beq_iff_eq, bne_iff_ne, beq_eq_false_iff_ne, bne_eq_false_iff_eq, Nat.not_lt, Int.not_lt, Int.not_le, wrap_byteAt, List.length_map, eqB_Row, eqB_Op, eqB_Rec, toList_inj, toList_nil, ne_eq, Int.toNat_natCast] at h) <;> (try simp only [wrap64] at h) <;> (try (exfalso; first | exact absurd h Bool.false_ne_true | exact absurd h.symm Bool.false_ne_true | exact h trivial | exact h rfl | omega))) | refine And.intro ⟨by (first | omega | (simp only [pkW_Kv] at *; omega)), by (first | omega | (simp only [pkW_Kv] at *; omega))⟩ ?_ | refine And.intro (show (_ : Int) ≠ 0 by decide) ?_ | refine And.intro ⟨by (first | omega | (simp only [pkW_Kv] at *; omega)), by (first | omega | (simp only [pkW_Kv] at *; omega)), room (by exact rfl) (by (first | omega | (simp only [pkW_Kv] at *; omega))) (by (first | omega | (simp only [pkW_Kv] at *; omega)))⟩ ?_ | refine And.intro (roomN (by exact rfl) (by (first | omega | (simp only [pkW_Kv] at *; omega)))) ?_ | exact trivial | exact rfl | refine Exists.intro _ (And.intro rfl ?_) | refine' cut1 _ ?_ ?_ | refine And.intro (deep_ag (by exact rfl) (by exact rfl)) ?_ | refine And.intro (deep_ag2 (by repeat' first | exact trivial | refine And.intro (by exact rfl) ?_)) ?_ | refine And.intro (deep_sl (by exact rfl) (by first | exact (List.length_map _).symm | assumption | exact rfl | (simp; done))) ?_ | refine And.intro (deep_rows (by intro x hx; repeat' first | exact trivial | refine And.intro (by exact rfl) ?_)) ?_ | refine And.intro (by exact rfl) ?_ | refine And.intro (Or.inl (by exact rfl)) ?_ | refine Exists.intro _ (And.intro hat ?_) | refine ih (_, _, _) ?_ | refine And.intro (show ByteArray.size _ + ByteArray.size _ ≤ _ from by (first | omega | (simp only [size_mk, size_add, List.size_toArray, List.length_cons, List.length_nil, maxLen] at *; omega))) ?_ | refine Exists.intro _ (And.intro (by with_unfolding_all exact rfl) ?_) | refine And.intro (by decide +kernel) ?_ | refine Exists.intro _ (And.intro (at_map (by (first | omega | (simp only [pkW_Kv] at *; omega)))) ?_) | (refine wrap_id' ?_; (first | omega | (simp only [pkW_Kv] at *; omega))) | refine And.intro ?_ ?_ | fail
      all_goals first
        | (exfalso; omega)
        | (refine Hold.mk ⟨⟨?_, ?_, j, UInt8.ofNat (m.toNat % 256) :: suf, ?_, ?_, ?_, ?_⟩, ?_⟩
           · simp only [hm]; omega
           · simp only [hm]; omega
           · exact hw
           · simp only [hm]
             rw [show (m / 256).toNat = m.toNat / 256 from by omega]
             exact fx_step e4
           · simp only [hjt]
             rw [← rep_upd]
             congr 1
             simp only [bv]
             congr 2
             rw [wrap8, UInt8.toNat_ofNat']; omega
           · simp; omega
           · simp only [hw]; omega)
       
  · refine ⟨h0, by show n ≤ n; omega, w, [], ?_, by simp, ?_, by simp⟩
    · show IntKind.i64.wrap ((w : Int) - 1) = _
      exact wrap_id (by omega) (by omega)
    · simp; exact .inr rfl
theorem impl_UnpackKey (n : Int) (hn : I64 n) : RO Cf Try.prog 82 [.i .i64 n] (.tp [.s (unpackKey n).1, .b (unpackKey n).2]) := by
  refine RO_of Cf_ok ?_
  repeat' first | refine And.intro rfl ?_ | (refine And.intro (fun h => ?_) (fun h => ?_) <;> (try simp only [decide_eq_true_eq, decide_eq_false_iff_not, Bool.not_eq_true', Bool.not_eq_false', Bool.and_eq_true, Bool.or_eq_true, Bool.not_eq_eq_eq_not, Bool.not_true, Bool.not_false, beq_iff_eq, bne_iff_ne, beq_eq_false_iff_ne, bne_eq_false_iff_eq, Nat.not_lt, Int.not_lt, Int.not_le, wrap_byteAt, List.length_map, eqB_Row, eqB_Op, eqB_Rec, toList_inj, toList_nil, ne_eq, Int.toNat_natCast] at h) <;> (try simp only [wrap64] at h) <;> (try (exfalso; first | exact absurd h Bool.false_ne_true | exact absurd h.symm Bool.false_ne_true | exact h trivial | exact h rfl | omega))) | refine And.intro ⟨by (first | omega | (simp only [pkW_Kv] at *; omega)), by (first | omega | (simp only [pkW_Kv] at *; omega))⟩ ?_ | refine And.intro (show (_ : Int) ≠ 0 by decide) ?_ | refine And.intro ⟨by (first | omega | (simp only [pkW_Kv] at *; omega)), by (first | omega | (simp only [pkW_Kv] at *; omega)), room (by exact rfl) (by (first | omega | (simp only [pkW_Kv] at *; omega))) (by (first | omega | (simp only [pkW_Kv] at *; omega)))⟩ ?_ | refine And.intro (roomN (by exact rfl) (by (first | omega | (simp only [pkW_Kv] at *; omega)))) ?_ | exact trivial | exact rfl | refine Exists.intro _ (And.intro rfl ?_) | refine' cut1 _ ?_ ?_ | refine And.intro (deep_ag (by exact rfl) (by exact rfl)) ?_ | refine And.intro (deep_ag2 (by repeat' first | exact trivial | refine And.intro (by exact rfl) ?_)) ?_ | refine And.intro (deep_sl (by exact rfl) (by first | exact (List.length_map _).symm | assumption | exact rfl | (simp; done))) ?_ | refine And.intro (deep_rows (by intro x hx; repeat' first | exact trivial | refine And.intro (by exact rfl) ?_)) ?_ | refine And.intro (by exact rfl) ?_ | refine And.intro (Or.inl (by exact rfl)) ?_ | refine And.intro (show ByteArray.size _ + ByteArray.size _ ≤ _ from by (first | omega | (simp only [size_mk, size_add, List.size_toArray, List.length_cons, List.length_nil, maxLen] at *; omega))) ?_ | refine Exists.intro _ (And.intro (by with_unfolding_all exact rfl) ?_) | refine And.intro (by decide +kernel) ?_ | refine Exists.intro _ (And.intro (at_map (by (first | omega | (simp only [pkW_Kv] at *; omega)))) ?_) | (refine wrap_id' ?_; (first | omega | (simp only [pkW_Kv] at *; omega))) | refine And.intro ?_ ?_ | fail
  refine loop_of 82 Cf_ok (fun (k : Int) => ⟨[.i .i64 n, .u, .u, .u, .i .i64 k, .u, .u, .u, .u, .u, .u, .u, .u, .u, .u, .u, .u, .u, .u, .u, .u, .u, .u, .u, .u, .u], [none, none, none, none, none, none, none, none, none, none, none, none, none, none, none, none, none, none, none, none, none, none, none, none, none, none], []⟩)
    (fun k => ∃ w : Nat, k = (w : Int) ∧ 1 ≤ w ∧ w ≤ 5 ∧ ∀ v : Nat, 1 ≤ v → v < w → 0 < n → n < 256 ^ v → packKey (ofBs (fx v n.toNat)) ≠ n) (fun k => (5 - k).toNat) ?hc ?_ _ ?_
  case hc => decide +kernel
  · rintro k ⟨w, rfl, h1, h5, hv0⟩ ih
    have hw : IntKind.i64.wrap ((w : Int) + 1) = ((w + 1 : Nat) : Int) := by rw [wrap_id (by omega) (by omega)]; omega
    by_cases h6 : w = 5
    · subst h6
      rw [unpack_no (fun v hv1 hv4 => hv0 v hv1 (by omega))]
      repeat' first | refine And.intro rfl ?_ | (refine And.intro (fun h => ?_) (fun h => ?_) <;> (try simp only [decide_eq_true_eq, decide_eq_false_iff_not, Bool.not_eq_true', Bool.not_eq_false', Bool.and_eq_true, Bool.or_eq_true, Bool.not_eq_eq_eq_not, Bool.not_true, Bool.not_false, beq_iff_eq, bne_iff_ne, beq_eq_false_iff_ne, bne_eq_false_iff_eq, Nat.not_lt, Int.not_lt, Int.not_le, wrap_byteAt, List.length_map, eqB_Row, eqB_Op, eqB_Rec, toList_inj, toList_nil, ne_eq, Int.toNat_natCast] at h) <;> (try simp only [wrap64] at h) <;> (try (exfalso; first | exact absurd h Bool.false_ne_true | exact absurd h.symm Bool.false_ne_true | exact h trivial | exact h rfl | omega))) | refine And.intro ⟨by (first | omega | (simp only [pkW_Kv] at *; omega)), by (first | omega | (simp only [pkW_Kv] at *; omega))⟩ ?_ | refine And.intro (show (_ : Int) ≠ 0 by decide) ?_ | refine And.intro ⟨by (first | omega | (simp only [pkW_Kv] at *; omega)), by (first | omega | (simp only [pkW_Kv] at *; omega)), room (by exact rfl) (by (first | omega | (simp only [pkW_Kv] at *; omega))) (by (first | omega | (simp only [pkW_Kv] at *; omega)))⟩ ?_ | refine And.intro (roomN (by exact rfl) (by (first | omega | (simp only [pkW_Kv] at *; omega)))) ?_ | exact trivial | exact rfl | refine Exists.intro _ (And.intro rfl ?_) | refine' cut1 _ ?_ ?_ | refine And.intro (deep_ag (by exact rfl) (by exact rfl)) ?_ | refine And.intro (deep_ag2 (by repeat' first | exact trivial | refine And.intro (by exact rfl) ?_)) ?_ | refine And.intro (deep_sl (by exact rfl) (by first | exact (List.length_map _).symm | assumption | exact rfl | (simp; done))) ?_ | refine And.intro (deep_rows (by intro x hx; repeat' first | exact trivial | refine And.intro (by exact rfl) ?_)) ?_ | refine And.intro (by exact rfl) ?_ | refine And.intro (Or.inl (by exact rfl)) ?_ | refine And.intro (show ByteArray.size _ + ByteArray.size _ ≤ _ from by (first | omega | (simp only [size_mk, size_add, List.size_toArray, List.length_cons, List.length_nil, maxLen] at *; omega))) ?_ | refine Exists.intro _ (And.intro (by with_unfolding_all exact rfl) ?_) | refine And.intro (by decide +kernel) ?_ | refine Exists.intro _ (And.intro (at_map (by (first | omega | (simp only [pkW_Kv] at *; omega)))) ?_) | (refine wrap_id' ?_; (first | omega | (simp only [pkW_Kv] at *; omega))) | refine And.intro ?_ ?_ | fail
      all_goals first
        | (exfalso; omega)
        | exact back_tp ⟨back_s rfl, back_k rfl, trivial⟩
       
    · by_cases hq : n < 0 ∨ ¬ n < 256 ^ w
      · have c1 := impl_Fixed_no n hn w h1 (by omega) hq
        repeat' first | refine And.intro rfl ?_ | (refine And.intro (fun h => ?_) (fun h => ?_) <;> (try simp only [decide_eq_true_eq, decide_eq_false_iff_not, Bool.not_eq_true', Bool.not_eq_false', Bool.and_eq_true, Bool.or_eq_true, Bool.not_eq_eq_eq_not, Bool.not_true, Bool.not_false, beq_iff_eq, bne_iff_ne, beq_eq_false_iff_ne, bne_eq_false_iff_eq, Nat.not_lt, Int.not_lt, Int.not_le, wrap_byteAt, List.length_map, eqB_Row, eqB_Op, eqB_Rec, toList_inj, toList_nil, ne_eq, Int.toNat_natCast] at h) <;> (try simp only [wrap64] at h) <;> (try (exfalso; first | exact absurd h Bool.false_ne_true | exact absurd h.symm Bool.false_ne_true | exact h trivial | exact h rfl | omega))) | refine And.intro ⟨by (first | omega | (simp only [pkW_Kv] at *; omega)), by (first | omega | (simp only [pkW_Kv] at *; omega))⟩ ?_ | refine And.intro (show (_ : Int) ≠ 0 by decide) ?_ | refine And.intro ⟨by (first | omega | (simp only [pkW_Kv] at *; omega)), by (first | omega | (simp only [pkW_Kv] at *; omega)), room (by exact rfl) (by (first | omega | (simp only [pkW_Kv] at *; omega))) (by (first | omega | (simp only [pkW_Kv] at *; omega)))⟩ ?_ | refine And.intro (roomN (by exact rfl) (by (first | omega | (simp only [pkW_Kv] at *; omega)))) ?_ | exact trivial | exact rfl | refine Exists.intro _ (And.intro rfl ?_) | refine' cut1 _ ?_ ?_ | refine And.intro (deep_ag (by exact rfl) (by exact rfl)) ?_ | refine And.intro (deep_ag2 (by repeat' first | exact trivial | refine And.intro (by exact rfl) ?_)) ?_ | refine And.intro (deep_sl (by exact rfl) (by first | exact (List.length_map _).symm | assumption | exact rfl | (simp; done))) ?_ | refine And.intro (deep_rows (by intro x hx; repeat' first | exact trivial | refine And.intro (by exact rfl) ?_)) ?_ | refine And.intro (by exact rfl) ?_ | refine And.intro (Or.inl (by exact rfl)) ?_ | refine' Or.inl (Exists.intro _ (And.intro ?_ (Exists.intro _ (And.intro (c1) (And.intro rfl ?_))))) | refine ih _ ?_ | refine And.intro (show ByteArray.size _ + ByteArray.size _ ≤ _ from by (first | omega | (simp only [size_mk, size_add, List.size_toArray, List.length_cons, List.length_nil, maxLen] at *; omega))) ?_ | refine Exists.intro _ (And.intro (by with_unfolding_all exact rfl) ?_) | refine And.intro (by decide +kernel) ?_ | refine Exists.intro _ (And.intro (at_map (by (first | omega | (simp only [pkW_Kv] at *; omega)))) ?_) | (refine wrap_id' ?_; (first | omega | (simp only [pkW_Kv] at *; omega))) | refine And.intro ?_ ?_ | fail
        all_goals first
          | (exfalso; omega)
          | (refine Hold.mk ⟨⟨w + 1, hw, by omega, by omega, fun v hv1 hv2 q1 q2 => ?_⟩, by rw [hw]; omega⟩
             by_cases hv : v = w
             · subst hv; exfalso; omega
             · exact hv0 v hv1 (by omega) q1 q2)
         
      · have c1 := impl_Fixed n hn w h1 (by omega) (by omega) (by omega)
        have hsz : (ofBs (fx w n.toNat)).size = w := by rw [← bs_len, bs_ofBs, fx_len]
        have c2 := impl_PackKey (ofBs (fx w n.toNat)) (by omega)
        have hun : 0 < n → packKey (ofBs (fx w n.toNat)) = n → unpackKey n = (ofBs (fx w n.toNat), true) := fun q1 q2 => unpack_at q1 (by omega) (by omega) q2
        obtain ⟨z, hz⟩ : ∃ z, ofBs (fx w n.toNat) = z := ⟨_, rfl⟩
        rw [hz] at hsz hun c1 c2
        obtain ⟨pk, hpk⟩ : ∃ pk, packKey z = pk := ⟨_, rfl⟩
        rw [hpk] at hun c2
        have hzne : ¬ z = ⟨#[]⟩ := fun q => by
          rw [q] at hsz
          have h00 : (⟨#[]⟩ : ByteArray).size = 0 := rfl
          omega
        repeat' first | refine And.intro rfl ?_ | (refine And.intro (fun h => ?_) (fun h => ?_) <;> (try simp only [decide_eq_true_eq, decide_eq_false_iff_not, Bool.not_eq_true', Bool.not_eq_false', Bool.and_eq_true, Bool.or_eq_true, Bool.not_eq_eq_eq_not, Bool.not_true, Bool.not_false, beq_iff_eq, bne_iff_ne, beq_eq_false_iff_ne, bne_eq_false_iff_eq, Nat.not_lt, Int.not_lt, Int.not_le, wrap_byteAt, List.length_map, eqB_Row, eqB_Op, eqB_Rec, toList_inj, toList_nil, ne_eq, Int.toNat_natCast] at h) <;> (try simp only [wrap64] at h) <;> (try (exfalso; first | exact absurd h Bool.false_ne_true | exact absurd h.symm Bool.false_ne_true | exact h trivial | exact h rfl | omega))) | refine And.intro ⟨by (first | omega | (simp only [pkW_Kv] at *; omega)), by (first | omega | (simp only [pkW_Kv] at *; omega))⟩ ?_ | refine And.intro (show (_ : Int) ≠ 0 by decide) ?_ | refine And.intro ⟨by (first | omega | (simp only [pkW_Kv] at *; omega)), by (first | omega | (simp only [pkW_Kv] at *; omega)), room (by exact rfl) (by (first | omega | (simp only [pkW_Kv] at *; omega))) (by (first | omega | (simp only [pkW_Kv] at *; omega)))⟩ ?_ | refine And.intro (roomN (by exact rfl) (by (first | omega | (simp only [pkW_Kv] at *; omega)))) ?_ | exact trivial | exact rfl | refine Exists.intro _ (And.intro rfl ?_) | refine' cut1 _ ?_ ?_ | refine And.intro (deep_ag (by exact rfl) (by exact rfl)) ?_ | refine And.intro (deep_ag2 (by repeat' first | exact trivial | refine And.intro (by exact rfl) ?_)) ?_ | refine And.intro (deep_sl (by exact rfl) (by first | exact (List.length_map _).symm | assumption | exact rfl | (simp; done))) ?_ | refine And.intro (deep_rows (by intro x hx; repeat' first | exact trivial | refine And.intro (by exact rfl) ?_)) ?_ | refine And.intro (by exact rfl) ?_ | refine And.intro (Or.inl (by exact rfl)) ?_ | refine' Or.inl (Exists.intro _ (And.intro ?_ (Exists.intro _ (And.intro (c1) (And.intro rfl ?_))))) | refine' Or.inl (Exists.intro _ (And.intro ?_ (Exists.intro _ (And.intro (c2) (And.intro rfl ?_))))) | refine ih _ ?_ | refine And.intro (show ByteArray.size _ + ByteArray.size _ ≤ _ from by (first | omega | (simp only [size_mk, size_add, List.size_toArray, List.length_cons, List.length_nil, maxLen] at *; omega))) ?_ | refine Exists.intro _ (And.intro (by with_unfolding_all exact rfl) ?_) | refine And.intro (by decide +kernel) ?_ | refine Exists.intro _ (And.intro (at_map (by (first | omega | (simp only [pkW_Kv] at *; omega)))) ?_) | (refine wrap_id' ?_; (first | omega | (simp only [pkW_Kv] at *; omega))) | refine And.intro ?_ ?_ | fail
        all_goals first
          | exact absurd h hzne
          | (exfalso; omega)
          | (rw [hun (by omega) (by omega)]; exact back_tp ⟨back_s rfl, back_k rfl, trivial⟩)
          | (refine Hold.mk ⟨⟨w + 1, hw, by omega, by omega, fun v hv1 hv2 q1 q2 => ?_⟩, by rw [hw]; omega⟩
             by_cases hv : v = w
             · subst hv
               rw [hz, hpk]
               first
                 | omega
                 | (have h00 : z.size = 0 := (by rw [h]; rfl)
                    omega)
             · exact hv0 v hv1 (by omega) q1 q2)
         
  · exact ⟨1, rfl, by omega, by omega, fun v h1 h2 => by omega⟩

end Go.Proofs.Ytbkejhjjojdmnaa.Ev
