/- Contracts: what the functions of this part return, for arguments as each contract says. -/
import Derived.Test.YtbkejhjjojdmnaaEvD
import Derived.Test.YtbkejhjjojdmnaaEvTab
import Derived.Test.YtbkejhjjojdmnaaSTy
import Derived.Test.YtbkejhjjojdmnaaSKt
import Derived.Test.YtbkejhjjojdmnaaSKb
import Derived.Test.YtbkejhjjojdmnaaSSp
import Derived.Test.YtbkejhjjojdmnaaSKq
import Derived.Test.YtbkejhjjojdmnaaSKr
set_option linter.constructorNameAsVariable false
set_option linter.unusedVariables false
set_option linter.unusedSimpArgs false
set_option linter.unusedVariables false
set_option maxHeartbeats 4000000
set_option maxRecDepth 20000
set_option linter.unusedSimpArgs false
set_option linter.constructorNameAsVariable false
namespace Go.Proofs.Ytbkejhjjojdmnaa.Ev
open Go Go.Proofs
attribute [local irreducible] RO Fn IntKind.wrap TriL
theorem pkW_Ks : (∀ n : Int, IntKind.i64.wrap n = (n + 9223372036854775808) % 18446744073709551616 - 9223372036854775808) ∧ maxLen = 2 ^ 63 - 1 ∧ (∀ (α β : Type) (f : α → β) (l : List α), (l.map f).length = l.length) ∧ (∀ (α : Type) (a b : List α), (a ++ b).length = a.length + b.length) ∧ (∀ (α : Type) (x : α) (l : List α), (x :: l).length = l.length + 1) ∧ (∀ α : Type, ([] : List α).length = 0) ∧ (∀ n : Nat, (n : Int).toNat = n) := ⟨wrap64, rfl, fun _ _ _ _ => List.length_map _, fun _ _ _ => List.length_append, fun _ _ _ => List.length_cons, fun _ => rfl, Int.toNat_natCast⟩
theorem bytes_map : ∀ l : List UInt8, bytesOf (l.map bv) = some l
  | [] => rfl
  | x :: l => by
    rw [List.map_cons, bv, bytesOf, bytes_map l]
    show some (UInt8.ofNat ((x.toNat : Int)).toNat :: l) = _
    rw [Int.toNat_natCast, UInt8.ofNat_toNat]
theorem spec_UnpackKey (n : Int) (hn : I64 n) : RO Cf Try.prog 70 [.i .i64 n] (.tp [.s (unpackKey n).1, .b (unpackKey n).2]) := by
  have cI := spec_l1In n 1 4294967295
  by_cases hr : 1 ≤ n ∧ n ≤ 4294967295
  · rw [show decide (1 ≤ n ∧ n ≤ 4294967295) = true from by simpa using hr] at cI
    replace cI := RO_kt cI
    have hsz : (ofBs (dig n.toNat)).size = (dig n.toNat).length := by rw [← bs_len, bs_ofBs]
    have hl4 := dig_len 4 n.toNat (by omega)
    have cK := spec_KeyOk (ofBs (dig n.toNat)) (by omega)
    refine RO_of Cf_ok ?_
    repeat' first | refine And.intro rfl ?_ | (refine And.intro (fun h => ?_) (fun h => ?_) <;> (try simp only [decide_eq_true_eq, decide_eq_false_iff_not, Bool.not_eq_true', Bool.not_eq_false', Bool.and_eq_true, Bool.or_eq_true, Bool.not_eq_eq_eq_not, Bool.not_true, Bool.not_false, beq_iff_eq, bne_iff_ne, beq_eq_false_iff_ne, bne_eq_false_iff_eq, Nat.not_lt, Int.not_lt, Int.not_le, wrap_byteAt, List.length_map, eqB_Row, eqB_Op, eqB_Rec, toList_inj, toList_nil, ne_eq, Int.toNat_natCast] at h) <;> (try simp only [wrap64] at h) <;> (try (exfalso; first | exact absurd h Bool.false_ne_true | exact absurd h.symm Bool.false_ne_true | exact h trivial | exact h rfl | omega))) | refine And.intro ⟨by (first | omega | (simp only [pkW_Ks] at *; omega)), by (first | omega | (simp only [pkW_Ks] at *; omega))⟩ ?_ | refine And.intro (show (_ : Int) ≠ 0 by decide) ?_ | refine And.intro ⟨by (first | omega | (simp only [pkW_Ks] at *; omega)), by (first | omega | (simp only [pkW_Ks] at *; omega)), room (by exact rfl) (by (first | omega | (simp only [pkW_Ks] at *; omega))) (by (first | omega | (simp only [pkW_Ks] at *; omega)))⟩ ?_ | refine And.intro (roomN (by exact rfl) (by (first | omega | (simp only [pkW_Ks] at *; omega)))) ?_ | exact trivial | exact rfl | refine Exists.intro _ (And.intro rfl ?_) | refine' cut1 _ ?_ ?_ | refine And.intro (deep_ag (by exact rfl) (by exact rfl)) ?_ | refine And.intro (deep_ag2 (by repeat' first | exact trivial | refine And.intro (by exact rfl) ?_)) ?_ | refine And.intro (deep_sl (by exact rfl) (by first | exact (List.length_map _).symm | assumption | exact rfl | (simp; done))) ?_ | refine And.intro (deep_rows (by intro x hx; repeat' first | exact trivial | refine And.intro (by exact rfl) ?_)) ?_ | refine And.intro (by exact rfl) ?_ | refine And.intro (Or.inl (by exact rfl)) ?_ | refine' Or.inl (Exists.intro _ (And.intro ?_ (Exists.intro _ (And.intro (cI) (And.intro rfl ?_))))) | refine And.intro (show ByteArray.size _ + ByteArray.size _ ≤ _ from by (first | omega | (simp only [size_mk, size_add, List.size_toArray, List.length_cons, List.length_nil, maxLen] at *; omega))) ?_ | refine Exists.intro _ (And.intro (by with_unfolding_all exact rfl) ?_) | refine And.intro (by decide +kernel) ?_ | refine Exists.intro _ (And.intro (at_map (by (first | omega | (simp only [pkW_Ks] at *; omega)))) ?_) | (refine wrap_id' ?_; (first | omega | (simp only [pkW_Ks] at *; omega))) | refine And.intro ?_ ?_ | fail
    refine loop_of 70 Cf_ok (fun ((m, k, rows) : Int × Nat × List (List AV)) => ⟨[.i .i64 m, .u, .u, .u, .sl 0 0 k, .u, .u, .u, .u, .u, .u, .u, .u, .u, .u, .u, .u, .u, .u, .u, .u, .u, .u, .u, .u], [none, none, none, none, none, none, none, none, none, none, none, none, none, none, none, none, none, none, none, none, none, none, none, none, none], [some ⟨1, true, rows⟩]⟩)
      (fun (p : Int × Nat × List (List AV)) => 0 ≤ p.1 ∧ p.1 ≤ 4294967295 ∧ ∃ l : List UInt8, dig p.1.toNat ++ l = dig n.toNat ∧ p.2.2 = l.map bv ∧ p.2.1 = l.length) (fun p => p.1.toNat) ?hc ?_ (_, _, _) ?_
    case hc => decide +kernel
    · rintro ⟨m, k, rows⟩ ⟨h1, h2, l, h3, h4, h5⟩ ih
      simp only [] at h1 h2 h3 h4 h5
      subst h4; subst h5
      have hll : l.length ≤ 4 := by have := congrArg List.length h3; rw [List.length_append] at this; omega
      have hm : m.tdiv 256 = m / 256 := Int.tdiv_eq_ediv_of_nonneg h1
      have hm2 : m.tmod 256 = m % 256 := Int.tmod_eq_emod_of_nonneg h1
      by_cases h0 : m = 0
      · subst h0
        rw [show (0 : Int).toNat = 0 from rfl, dig_zero, List.nil_append] at h3
        subst h3
        cases hk : keyOk (ofBs (dig n.toNat)) with
        | true =>
          rw [hk] at cK
          replace cK := RO_kt cK
          have hu : unpackKey n = (ofBs (dig n.toNat), true) := by
            rw [unpackKey, if_pos (by rw [unpackOk, hk, Bool.and_true, decide_eq_true_eq]; exact hr)]
          rw [hu]
          repeat' first | refine And.intro rfl ?_ | (refine And.intro (fun h => ?_) (fun h => ?_) <;> (try simp only [decide_eq_true_eq, decide_eq_false_iff_not, Bool.not_eq_true', Bool.not_eq_false', Bool.and_eq_true, Bool.or_eq_true, Bool.not_eq_eq_eq_not, Bool.not_true, Bool.not_false, beq_iff_eq, bne_iff_ne, beq_eq_false_iff_ne, bne_eq_false_iff_eq, Nat.not_lt, Int.not_lt, Int.not_le, wrap_byteAt, List.length_map, eqB_Row, eqB_Op, eqB_Rec, toList_inj, toList_nil, ne_eq, Int.toNat_natCast] at h) <;> (try simp only [wrap64] at h) <;> (try (exfalso; first | exact absurd h Bool.false_ne_true | exact absurd h.symm Bool.false_ne_true | exact h trivial | exact h rfl | omega))) | refine And.intro ⟨by (first | omega | (simp only [pkW_Ks] at *; omega)), by (first | omega | (simp only [pkW_Ks] at *; omega))⟩ ?_ | refine And.intro (show (_ : Int) ≠ 0 by decide) ?_ | refine And.intro ⟨by (first | omega | (simp only [pkW_Ks] at *; omega)), by (first | omega | (simp only [pkW_Ks] at *; omega)), room (by exact rfl) (by (first | omega | (simp only [pkW_Ks] at *; omega))) (by (first | omega | (simp only [pkW_Ks] at *; omega)))⟩ ?_ | refine And.intro (roomN (by exact rfl) (by (first | omega | (simp only [pkW_Ks] at *; omega)))) ?_ | exact trivial | exact rfl | refine Exists.intro _ (And.intro rfl ?_) | refine' cut1 _ ?_ ?_ | refine And.intro (deep_ag (by exact rfl) (by exact rfl)) ?_ | refine And.intro (deep_ag2 (by repeat' first | exact trivial | refine And.intro (by exact rfl) ?_)) ?_ | refine And.intro (deep_sl (by exact rfl) (by first | exact (List.length_map _).symm | assumption | exact rfl | (simp; done))) ?_ | refine And.intro (deep_rows (by intro x hx; repeat' first | exact trivial | refine And.intro (by exact rfl) ?_)) ?_ | refine And.intro (by exact rfl) ?_ | refine And.intro (Or.inl (by exact rfl)) ?_ | (refine' Exists.intro _ (Exists.intro _ (And.intro (show rowsR _ _ _ _ _ from ?_) (And.intro (show bytesOf _ = _ from ?_) ?_)))) | (refine' Exists.intro _ (Exists.intro _ (And.intro (show rowsR _ _ _ _ _ from ?_) (And.intro (show rowsR _ _ _ _ _ from ?_) (And.intro ?_ ?_))))) | (refine cut_full _ ?_; first | assumption | exact (List.length_map _).symm | exact rfl | (simp; done)) | refine roomN (by exact rfl) (by (first | omega | (simp only [pkW_Ks] at *; omega))) | exact bytes_map _ | refine' Or.inl (Exists.intro _ (And.intro ?_ (Exists.intro _ (And.intro (cK) (And.intro rfl ?_))))) | refine And.intro (show ByteArray.size _ + ByteArray.size _ ≤ _ from by (first | omega | (simp only [size_mk, size_add, List.size_toArray, List.length_cons, List.length_nil, maxLen] at *; omega))) ?_ | refine Exists.intro _ (And.intro (by with_unfolding_all exact rfl) ?_) | refine And.intro (by decide +kernel) ?_ | refine Exists.intro _ (And.intro (at_map (by (first | omega | (simp only [pkW_Ks] at *; omega)))) ?_) | (refine wrap_id' ?_; (first | omega | (simp only [pkW_Ks] at *; omega))) | refine And.intro ?_ ?_ | fail
          all_goals first
            | exact back_tp ⟨back_s rfl, back_k rfl, trivial⟩
           
        | false =>
          rw [hk] at cK
          replace cK := RO_kt cK
          have hu : unpackKey n = (⟨#[]⟩, false) := by
            rw [unpackKey, if_neg (by rw [unpackOk, hk]; simp)]
          rw [hu]
          repeat' first | refine And.intro rfl ?_ | (refine And.intro (fun h => ?_) (fun h => ?_) <;> (try simp only [decide_eq_true_eq, decide_eq_false_iff_not, Bool.not_eq_true', Bool.not_eq_false', Bool.and_eq_true, Bool.or_eq_true, Bool.not_eq_eq_eq_not, Bool.not_true, Bool.not_false, beq_iff_eq, bne_iff_ne, beq_eq_false_iff_ne, bne_eq_false_iff_eq, Nat.not_lt, Int.not_lt, Int.not_le, wrap_byteAt, List.length_map, eqB_Row, eqB_Op, eqB_Rec, toList_inj, toList_nil, ne_eq, Int.toNat_natCast] at h) <;> (try simp only [wrap64] at h) <;> (try (exfalso; first | exact absurd h Bool.false_ne_true | exact absurd h.symm Bool.false_ne_true | exact h trivial | exact h rfl | omega))) | refine And.intro ⟨by (first | omega | (simp only [pkW_Ks] at *; omega)), by (first | omega | (simp only [pkW_Ks] at *; omega))⟩ ?_ | refine And.intro (show (_ : Int) ≠ 0 by decide) ?_ | refine And.intro ⟨by (first | omega | (simp only [pkW_Ks] at *; omega)), by (first | omega | (simp only [pkW_Ks] at *; omega)), room (by exact rfl) (by (first | omega | (simp only [pkW_Ks] at *; omega))) (by (first | omega | (simp only [pkW_Ks] at *; omega)))⟩ ?_ | refine And.intro (roomN (by exact rfl) (by (first | omega | (simp only [pkW_Ks] at *; omega)))) ?_ | exact trivial | exact rfl | refine Exists.intro _ (And.intro rfl ?_) | refine' cut1 _ ?_ ?_ | refine And.intro (deep_ag (by exact rfl) (by exact rfl)) ?_ | refine And.intro (deep_ag2 (by repeat' first | exact trivial | refine And.intro (by exact rfl) ?_)) ?_ | refine And.intro (deep_sl (by exact rfl) (by first | exact (List.length_map _).symm | assumption | exact rfl | (simp; done))) ?_ | refine And.intro (deep_rows (by intro x hx; repeat' first | exact trivial | refine And.intro (by exact rfl) ?_)) ?_ | refine And.intro (by exact rfl) ?_ | refine And.intro (Or.inl (by exact rfl)) ?_ | (refine' Exists.intro _ (Exists.intro _ (And.intro (show rowsR _ _ _ _ _ from ?_) (And.intro (show bytesOf _ = _ from ?_) ?_)))) | (refine' Exists.intro _ (Exists.intro _ (And.intro (show rowsR _ _ _ _ _ from ?_) (And.intro (show rowsR _ _ _ _ _ from ?_) (And.intro ?_ ?_))))) | (refine cut_full _ ?_; first | assumption | exact (List.length_map _).symm | exact rfl | (simp; done)) | refine roomN (by exact rfl) (by (first | omega | (simp only [pkW_Ks] at *; omega))) | exact bytes_map _ | refine' Or.inl (Exists.intro _ (And.intro ?_ (Exists.intro _ (And.intro (cK) (And.intro rfl ?_))))) | refine And.intro (show ByteArray.size _ + ByteArray.size _ ≤ _ from by (first | omega | (simp only [size_mk, size_add, List.size_toArray, List.length_cons, List.length_nil, maxLen] at *; omega))) ?_ | refine Exists.intro _ (And.intro (by with_unfolding_all exact rfl) ?_) | refine And.intro (by decide +kernel) ?_ | refine Exists.intro _ (And.intro (at_map (by (first | omega | (simp only [pkW_Ks] at *; omega)))) ?_) | (refine wrap_id' ?_; (first | omega | (simp only [pkW_Ks] at *; omega))) | refine And.intro ?_ ?_ | fail
          all_goals first
            | exact back_tp ⟨back_s rfl, back_k rfl, trivial⟩
           
      · have hstep := dig_step (n := m.toNat) (by omega)
        have hd : m.toNat / 256 = (m / 256).toNat := by omega
        repeat' first | refine And.intro rfl ?_ | (refine And.intro (fun h => ?_) (fun h => ?_) <;> (try simp only [decide_eq_true_eq, decide_eq_false_iff_not, Bool.not_eq_true', Bool.not_eq_false', Bool.and_eq_true, Bool.or_eq_true, Bool.not_eq_eq_eq_not, Bool.not_true, Bool.not_false, beq_iff_eq, bne_iff_ne, beq_eq_false_iff_ne, bne_eq_false_iff_eq, Nat.not_lt, Int.not_lt, Int.not_le, wrap_byteAt, List.length_map, eqB_Row, eqB_Op, eqB_Rec, toList_inj, toList_nil, ne_eq, Int.toNat_natCast] at h) <;> (try simp only [wrap64] at h) <;> (try (exfalso; first | exact absurd h Bool.false_ne_true | exact absurd h.symm Bool.false_ne_true | exact h trivial | exact h rfl | omega))) | refine And.intro ⟨by (first | omega | (simp only [pkW_Ks] at *; omega)), by (first | omega | (simp only [pkW_Ks] at *; omega))⟩ ?_ | refine And.intro (show (_ : Int) ≠ 0 by decide) ?_ | refine And.intro ⟨by (first | omega | (simp only [pkW_Ks] at *; omega)), by (first | omega | (simp only [pkW_Ks] at *; omega)), room (by exact rfl) (by (first | omega | (simp only [pkW_Ks] at *; omega))) (by (first | omega | (simp only [pkW_Ks] at *; omega)))⟩ ?_ | refine And.intro (roomN (by exact rfl) (by (first | omega | (simp only [pkW_Ks] at *; omega)))) ?_ | exact trivial | exact rfl | refine Exists.intro _ (And.intro rfl ?_) | refine' cut1 _ ?_ ?_ | refine And.intro (deep_ag (by exact rfl) (by exact rfl)) ?_ | refine And.intro (deep_ag2 (by repeat' first | exact trivial | refine And.intro (by exact rfl) ?_)) ?_ | refine And.intro (deep_sl (by exact rfl) (by first | exact (List.length_map _).symm | assumption | exact rfl | (simp; done))) ?_ | refine And.intro (deep_rows (by intro x hx; repeat' first | exact trivial | refine And.intro (by exact rfl) ?_)) ?_ | refine And.intro (by exact rfl) ?_ | refine And.intro (Or.inl (by exact rfl)) ?_ | (refine' Exists.intro _ (Exists.intro _ (And.intro (show rowsR _ _ _ _ _ from ?_) (And.intro (show bytesOf _ = _ from ?_) ?_)))) | (refine' Exists.intro _ (Exists.intro _ (And.intro (show rowsR _ _ _ _ _ from ?_) (And.intro (show rowsR _ _ _ _ _ from ?_) (And.intro ?_ ?_))))) | (refine cut_full _ ?_; first | assumption | exact (List.length_map _).symm | exact rfl | (simp; done)) | refine roomN (by exact rfl) (by (first | omega | (simp only [pkW_Ks] at *; omega))) | refine TriL_gh (gh_ren (σ := [2]) (h' := [some ⟨1, true, _⟩]) rfl rfl rfl ⟨Or.inl ⟨rfl, rfl⟩, trivial⟩) (ih (_, _, _) ?_) | refine And.intro (show ByteArray.size _ + ByteArray.size _ ≤ _ from by (first | omega | (simp only [size_mk, size_add, List.size_toArray, List.length_cons, List.length_nil, maxLen] at *; omega))) ?_ | refine Exists.intro _ (And.intro (by with_unfolding_all exact rfl) ?_) | refine And.intro (by decide +kernel) ?_ | refine Exists.intro _ (And.intro (at_map (by (first | omega | (simp only [pkW_Ks] at *; omega)))) ?_) | (refine wrap_id' ?_; (first | omega | (simp only [pkW_Ks] at *; omega))) | refine And.intro ?_ ?_ | fail
        all_goals first
          | (exfalso; omega)
          | (refine Hold.mk ⟨⟨?_, ?_, UInt8.ofNat (m.toNat % 256) :: l, ?_, ?_, ?_⟩, ?_⟩
             · simp only [hm]; rw [wrap_id (by omega) (by omega)]; omega
             · simp only [hm]; rw [wrap_id (by omega) (by omega)]; omega
             · simp only [hm]
               rw [wrap_id (by omega) (by omega), ← h3, hstep, hd, List.append_assoc]; rfl
             · show [AV.i .u8 (IntKind.u8.wrap (m.tmod 256))] :: l.map bv = _
               rw [List.map_cons, hm2]
               congr 1
               simp only [bv]
               congr 2
               rw [wrap8, UInt8.toNat_ofNat']; omega
             · simp; omega
             · simp only [hm]; rw [wrap_id (by omega) (by omega)]; omega)
         
    · refine ⟨by omega, by omega, [], by simp, rfl, rfl⟩
  · rw [show decide (1 ≤ n ∧ n ≤ 4294967295) = false from by simpa using hr] at cI
    replace cI := RO_kt cI
    have hu : unpackKey n = (⟨#[]⟩, false) := by
      rw [unpackKey, if_neg (by rw [unpackOk, Bool.and_eq_true, decide_eq_true_eq]; exact fun h => hr h.1)]
    rw [hu]
    refine RO_of Cf_ok ?_
    repeat' first | refine And.intro rfl ?_ | (refine And.intro (fun h => ?_) (fun h => ?_) <;> (try simp only [decide_eq_true_eq, decide_eq_false_iff_not, Bool.not_eq_true', Bool.not_eq_false', Bool.and_eq_true, Bool.or_eq_true, Bool.not_eq_eq_eq_not, Bool.not_true, Bool.not_false, beq_iff_eq, bne_iff_ne, beq_eq_false_iff_ne, bne_eq_false_iff_eq, Nat.not_lt, Int.not_lt, Int.not_le, wrap_byteAt, List.length_map, eqB_Row, eqB_Op, eqB_Rec, toList_inj, toList_nil, ne_eq, Int.toNat_natCast] at h) <;> (try simp only [wrap64] at h) <;> (try (exfalso; first | exact absurd h Bool.false_ne_true | exact absurd h.symm Bool.false_ne_true | exact h trivial | exact h rfl | omega))) | refine And.intro ⟨by (first | omega | (simp only [pkW_Ks] at *; omega)), by (first | omega | (simp only [pkW_Ks] at *; omega))⟩ ?_ | refine And.intro (show (_ : Int) ≠ 0 by decide) ?_ | refine And.intro ⟨by (first | omega | (simp only [pkW_Ks] at *; omega)), by (first | omega | (simp only [pkW_Ks] at *; omega)), room (by exact rfl) (by (first | omega | (simp only [pkW_Ks] at *; omega))) (by (first | omega | (simp only [pkW_Ks] at *; omega)))⟩ ?_ | refine And.intro (roomN (by exact rfl) (by (first | omega | (simp only [pkW_Ks] at *; omega)))) ?_ | exact trivial | exact rfl | refine Exists.intro _ (And.intro rfl ?_) | refine' cut1 _ ?_ ?_ | refine And.intro (deep_ag (by exact rfl) (by exact rfl)) ?_ | refine And.intro (deep_ag2 (by repeat' first | exact trivial | refine And.intro (by exact rfl) ?_)) ?_ | refine And.intro (deep_sl (by exact rfl) (by first | exact (List.length_map _).symm | assumption | exact rfl | (simp; done))) ?_ | refine And.intro (deep_rows (by intro x hx; repeat' first | exact trivial | refine And.intro (by exact rfl) ?_)) ?_ | refine And.intro (by exact rfl) ?_ | refine And.intro (Or.inl (by exact rfl)) ?_ | refine' Or.inl (Exists.intro _ (And.intro ?_ (Exists.intro _ (And.intro (cI) (And.intro rfl ?_))))) | refine And.intro (show ByteArray.size _ + ByteArray.size _ ≤ _ from by (first | omega | (simp only [size_mk, size_add, List.size_toArray, List.length_cons, List.length_nil, maxLen] at *; omega))) ?_ | refine Exists.intro _ (And.intro (by with_unfolding_all exact rfl) ?_) | refine And.intro (by decide +kernel) ?_ | refine Exists.intro _ (And.intro (at_map (by (first | omega | (simp only [pkW_Ks] at *; omega)))) ?_) | (refine wrap_id' ?_; (first | omega | (simp only [pkW_Ks] at *; omega))) | refine And.intro ?_ ?_ | fail
    all_goals first
      | exact back_tp ⟨back_s rfl, back_k rfl, trivial⟩
     

end Go.Proofs.Ytbkejhjjojdmnaa.Ev
