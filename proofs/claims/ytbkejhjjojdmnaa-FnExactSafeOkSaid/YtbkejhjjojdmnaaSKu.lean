/- Contracts: what the functions of this part return, for arguments as each contract says. -/
import Derived.Test.YtbkejhjjojdmnaaEvD
import Derived.Test.YtbkejhjjojdmnaaEvTab
import Derived.Test.YtbkejhjjojdmnaaSTy
import Derived.Test.YtbkejhjjojdmnaaSKt
import Derived.Test.YtbkejhjjojdmnaaSKb
import Derived.Test.YtbkejhjjojdmnaaSSp
import Derived.Test.YtbkejhjjojdmnaaSKq
import Derived.Test.YtbkejhjjojdmnaaSKr
import Derived.Test.YtbkejhjjojdmnaaSKs
import Derived.Test.YtbkejhjjojdmnaaSKv
set_option linter.constructorNameAsVariable false
set_option linter.unusedVariables false
set_option linter.unusedSimpArgs false
set_option linter.unusedVariables false
set_option maxHeartbeats 4000000
set_option maxRecDepth 20000
set_option linter.unusedSimpArgs false
set_option linter.constructorNameAsVariable false
namespace Go.Proofs.Ytbkejhjjojdmnaa.Ev
open Go Go.Proofs
attribute [local irreducible] RO Fn IntKind.wrap TriL
theorem pkW_Ku : (∀ n : Int, IntKind.i64.wrap n = (n + 9223372036854775808) % 18446744073709551616 - 9223372036854775808) ∧ maxLen = 2 ^ 63 - 1 ∧ (∀ (α β : Type) (f : α → β) (l : List α), (l.map f).length = l.length) ∧ (∀ (α : Type) (a b : List α), (a ++ b).length = a.length + b.length) ∧ (∀ (α : Type) (x : α) (l : List α), (x :: l).length = l.length + 1) ∧ (∀ α : Type, ([] : List α).length = 0) ∧ (∀ n : Nat, (n : Int).toNat = n) := ⟨wrap64, rfl, fun _ _ _ _ => List.length_map _, fun _ _ _ => List.length_append, fun _ _ _ => List.length_cons, fun _ => rfl, Int.toNat_natCast⟩
theorem kw_false {n : Int} (h : ¬ (1 ≤ n ∧ n ≤ 3)) : kw n = ⟨#[]⟩ := (kw_nil n).2 h
theorem impl_Tagged (s : ByteArray) (hs : s.size ≤ 1048576) (kind : Int) (hk : I64 kind) : RO Cf Try.prog 83 [.s s, .i .i64 kind] (.i .i64 (tagged s kind)) := by
  have cK := impl_KeyOk s (by omega)
  have hp := packKey_rng s
  by_cases h0 : keyOk s = true
  · rw [h0] at cK
    replace cK := RO_kt cK
    have cW := impl_KindWord kind
    by_cases h1 : 1 ≤ kind ∧ kind ≤ 3
    · have hne : ¬ kw kind = ⟨#[]⟩ := fun q => (kw_nil kind).1 q h1
      rw [tagged, if_pos ⟨h0, h1⟩]
      have c2 := impl_PackKey s (by omega)
      generalize kw kind = K at *
      generalize packKey s = pk at *
      refine RO_of Cf_ok ?_
      repeat' first | refine And.intro rfl ?_ | (refine And.intro (fun h => ?_) (fun h => ?_) <;> (try simp only [decide_eq_true_eq, decide_eq_false_iff_not, Bool.not_eq_true', Bool.not_eq_false', Bool.and_eq_true, Bool.or_eq_true, Bool.not_eq_eq_eq_not, Bool.not_true, Bool.not_false, beq_iff_eq, bne_iff_ne, beq_eq_false_iff_ne, bne_eq_false_iff_eq, Nat.not_lt, Int.not_lt, Int.not_le, wrap_byteAt, List.length_map, eqB_Row, eqB_Op, eqB_Rec, toList_inj, toList_nil, ne_eq, Int.toNat_natCast] at h) <;> (try simp only [wrap64] at h) <;> (try (exfalso; first | exact absurd h Bool.false_ne_true | exact absurd h.symm Bool.false_ne_true | exact h trivial | exact h rfl | omega))) | refine And.intro ⟨by (first | omega | (simp only [pkW_Ku] at *; omega)), by (first | omega | (simp only [pkW_Ku] at *; omega))⟩ ?_ | refine And.intro (show (_ : Int) ≠ 0 by decide) ?_ | refine And.intro ⟨by (first | omega | (simp only [pkW_Ku] at *; omega)), by (first | omega | (simp only [pkW_Ku] at *; omega)), room (by exact rfl) (by (first | omega | (simp only [pkW_Ku] at *; omega))) (by (first | omega | (simp only [pkW_Ku] at *; omega)))⟩ ?_ | refine And.intro (roomN (by exact rfl) (by (first | omega | (simp only [pkW_Ku] at *; omega)))) ?_ | exact trivial | exact rfl | refine Exists.intro _ (And.intro rfl ?_) | refine' cut1 _ ?_ ?_ | refine And.intro (deep_ag (by exact rfl) (by exact rfl)) ?_ | refine And.intro (deep_ag2 (by repeat' first | exact trivial | refine And.intro (by exact rfl) ?_)) ?_ | refine And.intro (deep_sl (by exact rfl) (by first | exact (List.length_map _).symm | assumption | exact rfl | (simp; done))) ?_ | refine And.intro (deep_rows (by intro x hx; repeat' first | exact trivial | refine And.intro (by exact rfl) ?_)) ?_ | refine And.intro (by exact rfl) ?_ | refine And.intro (Or.inl (by exact rfl)) ?_ | refine' Or.inl (Exists.intro _ (And.intro ?_ (Exists.intro _ (And.intro (cK) (And.intro rfl ?_))))) | refine' Or.inl (Exists.intro _ (And.intro ?_ (Exists.intro _ (And.intro (cW) (And.intro rfl ?_))))) | refine' Or.inl (Exists.intro _ (And.intro ?_ (Exists.intro _ (And.intro (c2) (And.intro rfl ?_))))) | refine And.intro (show ByteArray.size _ + ByteArray.size _ ≤ _ from by (first | omega | (simp only [size_mk, size_add, List.size_toArray, List.length_cons, List.length_nil, maxLen] at *; omega))) ?_ | refine Exists.intro _ (And.intro (by with_unfolding_all exact rfl) ?_) | refine And.intro (by decide +kernel) ?_ | refine Exists.intro _ (And.intro (at_map (by (first | omega | (simp only [pkW_Ku] at *; omega)))) ?_) | (refine wrap_id' ?_; (first | omega | (simp only [pkW_Ku] at *; omega))) | refine And.intro ?_ ?_ | fail
      all_goals first
        | exact absurd h hne
        | (refine back_i ?_
           rw [wrap_id (n := 4 * pk) (by omega) (by omega), wrap_id (by omega) (by omega)])
       
    · rw [kw_false h1] at cW
      rw [tagged, if_neg (fun q => h1 q.2)]
      refine RO_of Cf_ok ?_
      repeat' first | refine And.intro rfl ?_ | (refine And.intro (fun h => ?_) (fun h => ?_) <;> (try simp only [decide_eq_true_eq, decide_eq_false_iff_not, Bool.not_eq_true', Bool.not_eq_false', Bool.and_eq_true, Bool.or_eq_true, Bool.not_eq_eq_eq_not, Bool.not_true, Bool.not_false, beq_iff_eq, bne_iff_ne, beq_eq_false_iff_ne, bne_eq_false_iff_eq, Nat.not_lt, Int.not_lt, Int.not_le, wrap_byteAt, List.length_map, eqB_Row, eqB_Op, eqB_Rec, toList_inj, toList_nil, ne_eq, Int.toNat_natCast] at h) <;> (try simp only [wrap64] at h) <;> (try (exfalso; first | exact absurd h Bool.false_ne_true | exact absurd h.symm Bool.false_ne_true | exact h trivial | exact h rfl | omega))) | refine And.intro ⟨by (first | omega | (simp only [pkW_Ku] at *; omega)), by (first | omega | (simp only [pkW_Ku] at *; omega))⟩ ?_ | refine And.intro (show (_ : Int) ≠ 0 by decide) ?_ | refine And.intro ⟨by (first | omega | (simp only [pkW_Ku] at *; omega)), by (first | omega | (simp only [pkW_Ku] at *; omega)), room (by exact rfl) (by (first | omega | (simp only [pkW_Ku] at *; omega))) (by (first | omega | (simp only [pkW_Ku] at *; omega)))⟩ ?_ | refine And.intro (roomN (by exact rfl) (by (first | omega | (simp only [pkW_Ku] at *; omega)))) ?_ | exact trivial | exact rfl | refine Exists.intro _ (And.intro rfl ?_) | refine' cut1 _ ?_ ?_ | refine And.intro (deep_ag (by exact rfl) (by exact rfl)) ?_ | refine And.intro (deep_ag2 (by repeat' first | exact trivial | refine And.intro (by exact rfl) ?_)) ?_ | refine And.intro (deep_sl (by exact rfl) (by first | exact (List.length_map _).symm | assumption | exact rfl | (simp; done))) ?_ | refine And.intro (deep_rows (by intro x hx; repeat' first | exact trivial | refine And.intro (by exact rfl) ?_)) ?_ | refine And.intro (by exact rfl) ?_ | refine And.intro (Or.inl (by exact rfl)) ?_ | refine' Or.inl (Exists.intro _ (And.intro ?_ (Exists.intro _ (And.intro (cK) (And.intro rfl ?_))))) | refine' Or.inl (Exists.intro _ (And.intro ?_ (Exists.intro _ (And.intro (cW) (And.intro rfl ?_))))) | refine And.intro (show ByteArray.size _ + ByteArray.size _ ≤ _ from by (first | omega | (simp only [size_mk, size_add, List.size_toArray, List.length_cons, List.length_nil, maxLen] at *; omega))) ?_ | refine Exists.intro _ (And.intro (by with_unfolding_all exact rfl) ?_) | refine And.intro (by decide +kernel) ?_ | refine Exists.intro _ (And.intro (at_map (by (first | omega | (simp only [pkW_Ku] at *; omega)))) ?_) | (refine wrap_id' ?_; (first | omega | (simp only [pkW_Ku] at *; omega))) | refine And.intro ?_ ?_ | fail
      all_goals first
        | exact back_i rfl
       
  · rw [show keyOk s = false from by simpa using h0] at cK
    replace cK := RO_kt cK
    rw [tagged, if_neg (fun q => h0 q.1)]
    refine RO_of Cf_ok ?_
    repeat' first | refine And.intro rfl ?_ | (refine And.intro (fun h => ?_) (fun h => ?_) <;> (try simp only [decide_eq_true_eq, decide_eq_false_iff_not, Bool.not_eq_true', Bool.not_eq_false', Bool.and_eq_true, Bool.or_eq_true, Bool.not_eq_eq_eq_not, Bool.not_true, Bool.not_false, beq_iff_eq, bne_iff_ne, beq_eq_false_iff_ne, bne_eq_false_iff_eq, Nat.not_lt, Int.not_lt, Int.not_le, wrap_byteAt, List.length_map, eqB_Row, eqB_Op, eqB_Rec, toList_inj, toList_nil, ne_eq, Int.toNat_natCast] at h) <;> (try simp only [wrap64] at h) <;> (try (exfalso; first | exact absurd h Bool.false_ne_true | exact absurd h.symm Bool.false_ne_true | exact h trivial | exact h rfl | omega))) | refine And.intro ⟨by (first | omega | (simp only [pkW_Ku] at *; omega)), by (first | omega | (simp only [pkW_Ku] at *; omega))⟩ ?_ | refine And.intro (show (_ : Int) ≠ 0 by decide) ?_ | refine And.intro ⟨by (first | omega | (simp only [pkW_Ku] at *; omega)), by (first | omega | (simp only [pkW_Ku] at *; omega)), room (by exact rfl) (by (first | omega | (simp only [pkW_Ku] at *; omega))) (by (first | omega | (simp only [pkW_Ku] at *; omega)))⟩ ?_ | refine And.intro (roomN (by exact rfl) (by (first | omega | (simp only [pkW_Ku] at *; omega)))) ?_ | exact trivial | exact rfl | refine Exists.intro _ (And.intro rfl ?_) | refine' cut1 _ ?_ ?_ | refine And.intro (deep_ag (by exact rfl) (by exact rfl)) ?_ | refine And.intro (deep_ag2 (by repeat' first | exact trivial | refine And.intro (by exact rfl) ?_)) ?_ | refine And.intro (deep_sl (by exact rfl) (by first | exact (List.length_map _).symm | assumption | exact rfl | (simp; done))) ?_ | refine And.intro (deep_rows (by intro x hx; repeat' first | exact trivial | refine And.intro (by exact rfl) ?_)) ?_ | refine And.intro (by exact rfl) ?_ | refine And.intro (Or.inl (by exact rfl)) ?_ | refine' Or.inl (Exists.intro _ (And.intro ?_ (Exists.intro _ (And.intro (cK) (And.intro rfl ?_))))) | refine And.intro (show ByteArray.size _ + ByteArray.size _ ≤ _ from by (first | omega | (simp only [size_mk, size_add, List.size_toArray, List.length_cons, List.length_nil, maxLen] at *; omega))) ?_ | refine Exists.intro _ (And.intro (by with_unfolding_all exact rfl) ?_) | refine And.intro (by decide +kernel) ?_ | refine Exists.intro _ (And.intro (at_map (by (first | omega | (simp only [pkW_Ku] at *; omega)))) ?_) | (refine wrap_id' ?_; (first | omega | (simp only [pkW_Ku] at *; omega))) | refine And.intro ?_ ?_ | fail
    all_goals first
      | exact back_i rfl
     
theorem tm4 (n : Int) (hn : I64 n) : I64 (n.tdiv 4) ∧ I64 (n.tmod 4) := by
  unfold I64 at *
  by_cases h : 0 ≤ n
  · rw [Int.tdiv_eq_ediv_of_nonneg h, Int.tmod_eq_emod_of_nonneg h]; omega
  · obtain ⟨m, rfl⟩ : ∃ m, n = -m := ⟨-n, by omega⟩
    rw [Int.neg_tdiv, Int.neg_tmod, Int.tdiv_eq_ediv_of_nonneg (by omega), Int.tmod_eq_emod_of_nonneg (by omega)]; omega
theorem unpack_size (n : Int) : (unpackKey n).1.size ≤ 4 := by
  cases h : (unpackKey n).2 with
  | true => exact (keyOk_len (unpack_true h).2.2.1).2
  | false =>
    rw [unpackKey] at h ⊢
    split at h
    · cases h
    · rename_i q; rw [if_neg q]; show (0 : Nat) ≤ 4; omega
theorem impl_Untag (n : Int) (hn : I64 n) : RO Cf Try.prog 56 [.i .i64 n] (.tp [.s (untag n).1, .i .i64 (untag n).2]) := by
  have h4 := tm4 n hn
  have hw : IntKind.i64.wrap (n.tdiv 4) = n.tdiv 4 := by have := h4.1; unfold I64 at this; exact wrap_id (by omega) (by omega)
  have cU := impl_UnpackKey (n.tdiv 4) h4.1
  have hsz := unpack_size (n.tdiv 4)
  rw [← hw] at cU
  by_cases hu : (unpackKey (n.tdiv 4)).2 = true
  · have ht := untag_impl hu
    have cT := impl_Tagged (unpackKey (n.tdiv 4)).1 (by omega) (n.tmod 4) h4.2
    have hv : untag n = if 1 ≤ n.tmod 4 ∧ n.tmod 4 ≤ 3 then ((unpackKey (n.tdiv 4)).1, n.tmod 4) else (⟨#[]⟩, 0) := by
      rw [untag]; simp only [hu, true_and]
    rw [hw] at cU
    rw [hu] at cU
    rw [← hw] at cU
    replace cU := RO_ktp cU
    rw [hw] at cU
    generalize tagged (unpackKey (n.tdiv 4)).1 (n.tmod 4) = tg at *
    generalize (unpackKey (n.tdiv 4)).1 = z at *
    generalize untag n = ut at *
    rw [← hw] at cU
    refine RO_of Cf_ok ?_
    repeat' first | refine And.intro rfl ?_ | (refine And.intro (fun h => ?_) (fun h => ?_) <;> (try simp only [decide_eq_true_eq, decide_eq_false_iff_not, Bool.not_eq_true', Bool.not_eq_false', Bool.and_eq_true, Bool.or_eq_true, Bool.not_eq_eq_eq_not, Bool.not_true, Bool.not_false, beq_iff_eq, bne_iff_ne, beq_eq_false_iff_ne, bne_eq_false_iff_eq, Nat.not_lt, Int.not_lt, Int.not_le, wrap_byteAt, List.length_map, eqB_Row, eqB_Op, eqB_Rec, toList_inj, toList_nil, ne_eq, Int.toNat_natCast] at h) <;> (try simp only [wrap64] at h) <;> (try (exfalso; first | exact absurd h Bool.false_ne_true | exact absurd h.symm Bool.false_ne_true | exact h trivial | exact h rfl | omega))) | refine And.intro ⟨by (first | omega | (simp only [pkW_Ku] at *; omega)), by (first | omega | (simp only [pkW_Ku] at *; omega))⟩ ?_ | refine And.intro (show (_ : Int) ≠ 0 by decide) ?_ | refine And.intro ⟨by (first | omega | (simp only [pkW_Ku] at *; omega)), by (first | omega | (simp only [pkW_Ku] at *; omega)), room (by exact rfl) (by (first | omega | (simp only [pkW_Ku] at *; omega))) (by (first | omega | (simp only [pkW_Ku] at *; omega)))⟩ ?_ | refine And.intro (roomN (by exact rfl) (by (first | omega | (simp only [pkW_Ku] at *; omega)))) ?_ | exact trivial | exact rfl | refine Exists.intro _ (And.intro rfl ?_) | refine' cut1 _ ?_ ?_ | refine And.intro (deep_ag (by exact rfl) (by exact rfl)) ?_ | refine And.intro (deep_ag2 (by repeat' first | exact trivial | refine And.intro (by exact rfl) ?_)) ?_ | refine And.intro (deep_sl (by exact rfl) (by first | exact (List.length_map _).symm | assumption | exact rfl | (simp; done))) ?_ | refine And.intro (deep_rows (by intro x hx; repeat' first | exact trivial | refine And.intro (by exact rfl) ?_)) ?_ | refine And.intro (by exact rfl) ?_ | refine And.intro (Or.inl (by exact rfl)) ?_ | refine' Or.inl (Exists.intro _ (And.intro ?_ (Exists.intro _ (And.intro (cU) (And.intro rfl ?_))))) | refine' Or.inl (Exists.intro _ (And.intro ?_ (Exists.intro _ (And.intro (cT) (And.intro rfl ?_))))) | refine And.intro (show ByteArray.size _ + ByteArray.size _ ≤ _ from by (first | omega | (simp only [size_mk, size_add, List.size_toArray, List.length_cons, List.length_nil, maxLen] at *; omega))) ?_ | refine Exists.intro _ (And.intro (by with_unfolding_all exact rfl) ?_) | refine And.intro (by decide +kernel) ?_ | refine Exists.intro _ (And.intro (at_map (by (first | omega | (simp only [pkW_Ku] at *; omega)))) ?_) | (refine wrap_id' ?_; (first | omega | (simp only [pkW_Ku] at *; omega))) | refine And.intro ?_ ?_ | fail
    all_goals first
      | (rw [hv, if_neg (by rw [← ht]; exact h)]; exact back_tp ⟨back_s rfl, back_i rfl, trivial⟩)
      | (rw [hv, if_pos (by rw [← ht]; exact h)]; exact back_tp ⟨back_s rfl, back_i rfl, trivial⟩)
     
  · have hv : untag n = (⟨#[]⟩, 0) := by rw [untag, if_neg (fun q => hu q.1)]
    rw [hw] at cU
    rw [show (unpackKey (n.tdiv 4)).2 = false from by simpa using hu] at cU
    replace cU := RO_ktp cU
    rw [← hw] at cU
    rw [hv]
    refine RO_of Cf_ok ?_
    repeat' first | refine And.intro rfl ?_ | (refine And.intro (fun h => ?_) (fun h => ?_) <;> (try simp only [decide_eq_true_eq, decide_eq_false_iff_not, Bool.not_eq_true', Bool.not_eq_false', Bool.and_eq_true, Bool.or_eq_true, Bool.not_eq_eq_eq_not, Bool.not_true, Bool.not_false, beq_iff_eq, bne_iff_ne, beq_eq_false_iff_ne, bne_eq_false_iff_eq, Nat.not_lt, Int.not_lt, Int.not_le, wrap_byteAt, List.length_map, eqB_Row, eqB_Op, eqB_Rec, toList_inj, toList_nil, ne_eq, Int.toNat_natCast] at h) <;> (try simp only [wrap64] at h) <;> (try (exfalso; first | exact absurd h Bool.false_ne_true | exact absurd h.symm Bool.false_ne_true | exact h trivial | exact h rfl | omega))) | refine And.intro ⟨by (first | omega | (simp only [pkW_Ku] at *; omega)), by (first | omega | (simp only [pkW_Ku] at *; omega))⟩ ?_ | refine And.intro (show (_ : Int) ≠ 0 by decide) ?_ | refine And.intro ⟨by (first | omega | (simp only [pkW_Ku] at *; omega)), by (first | omega | (simp only [pkW_Ku] at *; omega)), room (by exact rfl) (by (first | omega | (simp only [pkW_Ku] at *; omega))) (by (first | omega | (simp only [pkW_Ku] at *; omega)))⟩ ?_ | refine And.intro (roomN (by exact rfl) (by (first | omega | (simp only [pkW_Ku] at *; omega)))) ?_ | exact trivial | exact rfl | refine Exists.intro _ (And.intro rfl ?_) | refine' cut1 _ ?_ ?_ | refine And.intro (deep_ag (by exact rfl) (by exact rfl)) ?_ | refine And.intro (deep_ag2 (by repeat' first | exact trivial | refine And.intro (by exact rfl) ?_)) ?_ | refine And.intro (deep_sl (by exact rfl) (by first | exact (List.length_map _).symm | assumption | exact rfl | (simp; done))) ?_ | refine And.intro (deep_rows (by intro x hx; repeat' first | exact trivial | refine And.intro (by exact rfl) ?_)) ?_ | refine And.intro (by exact rfl) ?_ | refine And.intro (Or.inl (by exact rfl)) ?_ | refine' Or.inl (Exists.intro _ (And.intro ?_ (Exists.intro _ (And.intro (cU) (And.intro rfl ?_))))) | refine And.intro (show ByteArray.size _ + ByteArray.size _ ≤ _ from by (first | omega | (simp only [size_mk, size_add, List.size_toArray, List.length_cons, List.length_nil, maxLen] at *; omega))) ?_ | refine Exists.intro _ (And.intro (by with_unfolding_all exact rfl) ?_) | refine And.intro (by decide +kernel) ?_ | refine Exists.intro _ (And.intro (at_map (by (first | omega | (simp only [pkW_Ku] at *; omega)))) ?_) | (refine wrap_id' ?_; (first | omega | (simp only [pkW_Ku] at *; omega))) | refine And.intro ?_ ?_ | fail
    all_goals first
      | exact back_tp ⟨back_s rfl, back_i rfl, trivial⟩
     
theorem spec_Untag (n : Int) (hn : I64 n) : RO Cf Try.prog 45 [.i .i64 n] (.tp [.s (untag n).1, .i .i64 (untag n).2]) := by
  have h4 := tm4 n hn
  have hw : IntKind.i64.wrap (n.tdiv 4) = n.tdiv 4 := by have := h4.1; unfold I64 at this; exact wrap_id (by omega) (by omega)
  have cI := spec_l1In n 1 17179869183
  by_cases hr : 1 ≤ n ∧ n ≤ 17179869183
  · rw [show decide (1 ≤ n ∧ n ≤ 17179869183) = true from by simpa using hr] at cI
    replace cI := RO_kt cI
    have cU := spec_UnpackKey (n.tdiv 4) h4.1
    have cW := spec_KindWord (n.tmod 4)
    by_cases hu : (unpackKey (n.tdiv 4)).2 = true
    · rw [hu] at cU
      replace cU := RO_ktp cU
      by_cases hk : 1 ≤ n.tmod 4 ∧ n.tmod 4 ≤ 3
      · have hne : ¬ kw (n.tmod 4) = ⟨#[]⟩ := fun q => (kw_nil _).1 q hk
        have hv : untag n = ((unpackKey (n.tdiv 4)).1, n.tmod 4) := by rw [untag, if_pos ⟨hu, hk⟩]
        rw [hv]
        generalize (unpackKey (n.tdiv 4)).1 = z at *
        generalize kw (n.tmod 4) = K at *
        rw [← hw] at cU
        refine RO_of Cf_ok ?_
        repeat' first | refine And.intro rfl ?_ | (refine And.intro (fun h => ?_) (fun h => ?_) <;> (try simp only [decide_eq_true_eq, decide_eq_false_iff_not, Bool.not_eq_true', Bool.not_eq_false', Bool.and_eq_true, Bool.or_eq_true, Bool.not_eq_eq_eq_not, Bool.not_true, Bool.not_false, beq_iff_eq, bne_iff_ne, beq_eq_false_iff_ne, bne_eq_false_iff_eq, Nat.not_lt, Int.not_lt, Int.not_le, wrap_byteAt, List.length_map, eqB_Row, eqB_Op, eqB_Rec, toList_inj, toList_nil, ne_eq, Int.toNat_natCast] at h) <;> (try simp only [wrap64] at h) <;> (try (exfalso; first | exact absurd h Bool.false_ne_true | exact absurd h.symm Bool.false_ne_true | exact h trivial | exact h rfl | omega))) | refine And.intro ⟨by (first | omega | (simp only [pkW_Ku] at *; omega)), by (first | omega | (simp only [pkW_Ku] at *; omega))⟩ ?_ | refine And.intro (show (_ : Int) ≠ 0 by decide) ?_ | refine And.intro ⟨by (first | omega | (simp only [pkW_Ku] at *; omega)), by (first | omega | (simp only [pkW_Ku] at *; omega)), room (by exact rfl) (by (first | omega | (simp only [pkW_Ku] at *; omega))) (by (first | omega | (simp only [pkW_Ku] at *; omega)))⟩ ?_ | refine And.intro (roomN (by exact rfl) (by (first | omega | (simp only [pkW_Ku] at *; omega)))) ?_ | exact trivial | exact rfl | refine Exists.intro _ (And.intro rfl ?_) | refine' cut1 _ ?_ ?_ | refine And.intro (deep_ag (by exact rfl) (by exact rfl)) ?_ | refine And.intro (deep_ag2 (by repeat' first | exact trivial | refine And.intro (by exact rfl) ?_)) ?_ | refine And.intro (deep_sl (by exact rfl) (by first | exact (List.length_map _).symm | assumption | exact rfl | (simp; done))) ?_ | refine And.intro (deep_rows (by intro x hx; repeat' first | exact trivial | refine And.intro (by exact rfl) ?_)) ?_ | refine And.intro (by exact rfl) ?_ | refine And.intro (Or.inl (by exact rfl)) ?_ | refine' Or.inl (Exists.intro _ (And.intro ?_ (Exists.intro _ (And.intro (cI) (And.intro rfl ?_))))) | refine' Or.inl (Exists.intro _ (And.intro ?_ (Exists.intro _ (And.intro (cU) (And.intro rfl ?_))))) | refine' Or.inl (Exists.intro _ (And.intro ?_ (Exists.intro _ (And.intro (cW) (And.intro rfl ?_))))) | refine And.intro (show ByteArray.size _ + ByteArray.size _ ≤ _ from by (first | omega | (simp only [size_mk, size_add, List.size_toArray, List.length_cons, List.length_nil, maxLen] at *; omega))) ?_ | refine Exists.intro _ (And.intro (by with_unfolding_all exact rfl) ?_) | refine And.intro (by decide +kernel) ?_ | refine Exists.intro _ (And.intro (at_map (by (first | omega | (simp only [pkW_Ku] at *; omega)))) ?_) | (refine wrap_id' ?_; (first | omega | (simp only [pkW_Ku] at *; omega))) | refine And.intro ?_ ?_ | fail
        all_goals first
          | exact absurd h hne
          | exact back_tp ⟨back_s rfl, back_i rfl, trivial⟩
         
      · have hv : untag n = (⟨#[]⟩, 0) := by rw [untag, if_neg (fun q => hk q.2)]
        rw [kw_false hk] at cW
        rw [hv]
        generalize (unpackKey (n.tdiv 4)).1 = z at *
        rw [← hw] at cU
        refine RO_of Cf_ok ?_
        repeat' first | refine And.intro rfl ?_ | (refine And.intro (fun h => ?_) (fun h => ?_) <;> (try simp only [decide_eq_true_eq, decide_eq_false_iff_not, Bool.not_eq_true', Bool.not_eq_false', Bool.and_eq_true, Bool.or_eq_true, Bool.not_eq_eq_eq_not, Bool.not_true, Bool.not_false, beq_iff_eq, bne_iff_ne, beq_eq_false_iff_ne, bne_eq_false_iff_eq, Nat.not_lt, Int.not_lt, Int.not_le, wrap_byteAt, List.length_map, eqB_Row, eqB_Op, eqB_Rec, toList_inj, toList_nil, ne_eq, Int.toNat_natCast] at h) <;> (try simp only [wrap64] at h) <;> (try (exfalso; first | exact absurd h Bool.false_ne_true | exact absurd h.symm Bool.false_ne_true | exact h trivial | exact h rfl | omega))) | refine And.intro ⟨by (first | omega | (simp only [pkW_Ku] at *; omega)), by (first | omega | (simp only [pkW_Ku] at *; omega))⟩ ?_ | refine And.intro (show (_ : Int) ≠ 0 by decide) ?_ | refine And.intro ⟨by (first | omega | (simp only [pkW_Ku] at *; omega)), by (first | omega | (simp only [pkW_Ku] at *; omega)), room (by exact rfl) (by (first | omega | (simp only [pkW_Ku] at *; omega))) (by (first | omega | (simp only [pkW_Ku] at *; omega)))⟩ ?_ | refine And.intro (roomN (by exact rfl) (by (first | omega | (simp only [pkW_Ku] at *; omega)))) ?_ | exact trivial | exact rfl | refine Exists.intro _ (And.intro rfl ?_) | refine' cut1 _ ?_ ?_ | refine And.intro (deep_ag (by exact rfl) (by exact rfl)) ?_ | refine And.intro (deep_ag2 (by repeat' first | exact trivial | refine And.intro (by exact rfl) ?_)) ?_ | refine And.intro (deep_sl (by exact rfl) (by first | exact (List.length_map _).symm | assumption | exact rfl | (simp; done))) ?_ | refine And.intro (deep_rows (by intro x hx; repeat' first | exact trivial | refine And.intro (by exact rfl) ?_)) ?_ | refine And.intro (by exact rfl) ?_ | refine And.intro (Or.inl (by exact rfl)) ?_ | refine' Or.inl (Exists.intro _ (And.intro ?_ (Exists.intro _ (And.intro (cI) (And.intro rfl ?_))))) | refine' Or.inl (Exists.intro _ (And.intro ?_ (Exists.intro _ (And.intro (cU) (And.intro rfl ?_))))) | refine' Or.inl (Exists.intro _ (And.intro ?_ (Exists.intro _ (And.intro (cW) (And.intro rfl ?_))))) | refine And.intro (show ByteArray.size _ + ByteArray.size _ ≤ _ from by (first | omega | (simp only [size_mk, size_add, List.size_toArray, List.length_cons, List.length_nil, maxLen] at *; omega))) ?_ | refine Exists.intro _ (And.intro (by with_unfolding_all exact rfl) ?_) | refine And.intro (by decide +kernel) ?_ | refine Exists.intro _ (And.intro (at_map (by (first | omega | (simp only [pkW_Ku] at *; omega)))) ?_) | (refine wrap_id' ?_; (first | omega | (simp only [pkW_Ku] at *; omega))) | refine And.intro ?_ ?_ | fail
        all_goals first
          | exact back_tp ⟨back_s rfl, back_i rfl, trivial⟩
         
    · rw [show (unpackKey (n.tdiv 4)).2 = false from by simpa using hu] at cU
      replace cU := RO_ktp cU
      have hv : untag n = (⟨#[]⟩, 0) := by rw [untag, if_neg (fun q => hu q.1)]
      rw [hv]
      generalize (unpackKey (n.tdiv 4)).1 = z at *
      rw [← hw] at cU
      refine RO_of Cf_ok ?_
      repeat' first | refine And.intro rfl ?_ | (refine And.intro (fun h => ?_) (fun h => ?_) <;> (try simp only [decide_eq_true_eq, decide_eq_false_iff_not, Bool.not_eq_true', Bool.not_eq_false', Bool.and_eq_true, Bool.or_eq_true, Bool.not_eq_eq_eq_not, Bool.not_true, Bool.not_false, beq_iff_eq, bne_iff_ne, beq_eq_false_iff_ne, bne_eq_false_iff_eq, Nat.not_lt, Int.not_lt, Int.not_le, wrap_byteAt, List.length_map, eqB_Row, eqB_Op, eqB_Rec, toList_inj, toList_nil, ne_eq, Int.toNat_natCast] at h) <;> (try simp only [wrap64] at h) <;> (try (exfalso; first | exact absurd h Bool.false_ne_true | exact absurd h.symm Bool.false_ne_true | exact h trivial | exact h rfl | omega))) | refine And.intro ⟨by (first | omega | (simp only [pkW_Ku] at *; omega)), by (first | omega | (simp only [pkW_Ku] at *; omega))⟩ ?_ | refine And.intro (show (_ : Int) ≠ 0 by decide) ?_ | refine And.intro ⟨by (first | omega | (simp only [pkW_Ku] at *; omega)), by (first | omega | (simp only [pkW_Ku] at *; omega)), room (by exact rfl) (by (first | omega | (simp only [pkW_Ku] at *; omega))) (by (first | omega | (simp only [pkW_Ku] at *; omega)))⟩ ?_ | refine And.intro (roomN (by exact rfl) (by (first | omega | (simp only [pkW_Ku] at *; omega)))) ?_ | exact trivial | exact rfl | refine Exists.intro _ (And.intro rfl ?_) | refine' cut1 _ ?_ ?_ | refine And.intro (deep_ag (by exact rfl) (by exact rfl)) ?_ | refine And.intro (deep_ag2 (by repeat' first | exact trivial | refine And.intro (by exact rfl) ?_)) ?_ | refine And.intro (deep_sl (by exact rfl) (by first | exact (List.length_map _).symm | assumption | exact rfl | (simp; done))) ?_ | refine And.intro (deep_rows (by intro x hx; repeat' first | exact trivial | refine And.intro (by exact rfl) ?_)) ?_ | refine And.intro (by exact rfl) ?_ | refine And.intro (Or.inl (by exact rfl)) ?_ | refine' Or.inl (Exists.intro _ (And.intro ?_ (Exists.intro _ (And.intro (cI) (And.intro rfl ?_))))) | refine' Or.inl (Exists.intro _ (And.intro ?_ (Exists.intro _ (And.intro (cU) (And.intro rfl ?_))))) | refine And.intro (show ByteArray.size _ + ByteArray.size _ ≤ _ from by (first | omega | (simp only [size_mk, size_add, List.size_toArray, List.length_cons, List.length_nil, maxLen] at *; omega))) ?_ | refine Exists.intro _ (And.intro (by with_unfolding_all exact rfl) ?_) | refine And.intro (by decide +kernel) ?_ | refine Exists.intro _ (And.intro (at_map (by (first | omega | (simp only [pkW_Ku] at *; omega)))) ?_) | (refine wrap_id' ?_; (first | omega | (simp only [pkW_Ku] at *; omega))) | refine And.intro ?_ ?_ | fail
      all_goals first
        | exact back_tp ⟨back_s rfl, back_i rfl, trivial⟩
       
  · rw [show decide (1 ≤ n ∧ n ≤ 17179869183) = false from by simpa using hr] at cI
    replace cI := RO_kt cI
    rw [untag_spec hr]
    refine RO_of Cf_ok ?_
    repeat' first | refine And.intro rfl ?_ | (refine And.intro (fun h => ?_) (fun h => ?_) <;> (try simp only [decide_eq_true_eq, decide_eq_false_iff_not, Bool.not_eq_true', Bool.not_eq_false', Bool.and_eq_true, Bool.or_eq_true, Bool.not_eq_eq_eq_not, Bool.not_true, Bool.not_false, beq_iff_eq, bne_iff_ne, beq_eq_false_iff_ne, bne_eq_false_iff_eq, Nat.not_lt, Int.not_lt, Int.not_le, wrap_byteAt, List.length_map, eqB_Row, eqB_Op, eqB_Rec, toList_inj, toList_nil, ne_eq, Int.toNat_natCast] at h) <;> (try simp only [wrap64] at h) <;> (try (exfalso; first | exact absurd h Bool.false_ne_true | exact absurd h.symm Bool.false_ne_true | exact h trivial | exact h rfl | omega))) | refine And.intro ⟨by (first | omega | (simp only [pkW_Ku] at *; omega)), by (first | omega | (simp only [pkW_Ku] at *; omega))⟩ ?_ | refine And.intro (show (_ : Int) ≠ 0 by decide) ?_ | refine And.intro ⟨by (first | omega | (simp only [pkW_Ku] at *; omega)), by (first | omega | (simp only [pkW_Ku] at *; omega)), room (by exact rfl) (by (first | omega | (simp only [pkW_Ku] at *; omega))) (by (first | omega | (simp only [pkW_Ku] at *; omega)))⟩ ?_ | refine And.intro (roomN (by exact rfl) (by (first | omega | (simp only [pkW_Ku] at *; omega)))) ?_ | exact trivial | exact rfl | refine Exists.intro _ (And.intro rfl ?_) | refine' cut1 _ ?_ ?_ | refine And.intro (deep_ag (by exact rfl) (by exact rfl)) ?_ | refine And.intro (deep_ag2 (by repeat' first | exact trivial | refine And.intro (by exact rfl) ?_)) ?_ | refine And.intro (deep_sl (by exact rfl) (by first | exact (List.length_map _).symm | assumption | exact rfl | (simp; done))) ?_ | refine And.intro (deep_rows (by intro x hx; repeat' first | exact trivial | refine And.intro (by exact rfl) ?_)) ?_ | refine And.intro (by exact rfl) ?_ | refine And.intro (Or.inl (by exact rfl)) ?_ | refine' Or.inl (Exists.intro _ (And.intro ?_ (Exists.intro _ (And.intro (cI) (And.intro rfl ?_))))) | refine And.intro (show ByteArray.size _ + ByteArray.size _ ≤ _ from by (first | omega | (simp only [size_mk, size_add, List.size_toArray, List.length_cons, List.length_nil, maxLen] at *; omega))) ?_ | refine Exists.intro _ (And.intro (by with_unfolding_all exact rfl) ?_) | refine And.intro (by decide +kernel) ?_ | refine Exists.intro _ (And.intro (at_map (by (first | omega | (simp only [pkW_Ku] at *; omega)))) ?_) | (refine wrap_id' ?_; (first | omega | (simp only [pkW_Ku] at *; omega))) | refine And.intro ?_ ?_ | fail
    all_goals first
      | exact back_tp ⟨back_s rfl, back_i rfl, trivial⟩
     
theorem impl_Probe (s : ByteArray) (hs : s.size ≤ 1048576) (n : Int) (hk : keyOk s = true) (h0 : 0 ≤ n) (h3 : n ≤ 3) : RO Cf Try.prog 98 [.s s, .i .i64 n] (.i .i64 (probe s n)) := by
  have cK := impl_KeyOk s (by omega)
  rw [hk] at cK
  replace cK := RO_kt cK
  have cI := impl_within n 0 3
  rw [show decide (0 ≤ n ∧ n ≤ 3) = true from by simp; omega] at cI
  replace cI := RO_kt cI
  have cH := impl_HashKey s hs
  have hl := hashK_lt (bs s)
  rw [probe, if_pos ⟨hk, h0, h3⟩]
  generalize hashK (bs s) = H at *
  refine RO_of Cf_ok ?_
  repeat' first | refine And.intro rfl ?_ | (refine And.intro (fun h => ?_) (fun h => ?_) <;> (try simp only [decide_eq_true_eq, decide_eq_false_iff_not, Bool.not_eq_true', Bool.not_eq_false', Bool.and_eq_true, Bool.or_eq_true, Bool.not_eq_eq_eq_not, Bool.not_true, Bool.not_false, beq_iff_eq, bne_iff_ne, beq_eq_false_iff_ne, bne_eq_false_iff_eq, Nat.not_lt, Int.not_lt, Int.not_le, wrap_byteAt, List.length_map, eqB_Row, eqB_Op, eqB_Rec, toList_inj, toList_nil, ne_eq, Int.toNat_natCast] at h) <;> (try simp only [wrap64] at h) <;> (try (exfalso; first | exact absurd h Bool.false_ne_true | exact absurd h.symm Bool.false_ne_true | exact h trivial | exact h rfl | omega))) | refine And.intro ⟨by (first | omega | (simp only [pkW_Ku] at *; omega)), by (first | omega | (simp only [pkW_Ku] at *; omega))⟩ ?_ | refine And.intro (show (_ : Int) ≠ 0 by decide) ?_ | refine And.intro ⟨by (first | omega | (simp only [pkW_Ku] at *; omega)), by (first | omega | (simp only [pkW_Ku] at *; omega)), room (by exact rfl) (by (first | omega | (simp only [pkW_Ku] at *; omega))) (by (first | omega | (simp only [pkW_Ku] at *; omega)))⟩ ?_ | refine And.intro (roomN (by exact rfl) (by (first | omega | (simp only [pkW_Ku] at *; omega)))) ?_ | exact trivial | exact rfl | refine Exists.intro _ (And.intro rfl ?_) | refine' cut1 _ ?_ ?_ | refine And.intro (deep_ag (by exact rfl) (by exact rfl)) ?_ | refine And.intro (deep_ag2 (by repeat' first | exact trivial | refine And.intro (by exact rfl) ?_)) ?_ | refine And.intro (deep_sl (by exact rfl) (by first | exact (List.length_map _).symm | assumption | exact rfl | (simp; done))) ?_ | refine And.intro (deep_rows (by intro x hx; repeat' first | exact trivial | refine And.intro (by exact rfl) ?_)) ?_ | refine And.intro (by exact rfl) ?_ | refine And.intro (Or.inl (by exact rfl)) ?_ | refine' Or.inl (Exists.intro _ (And.intro ?_ (Exists.intro _ (And.intro (cK) (And.intro rfl ?_))))) | refine' Or.inl (Exists.intro _ (And.intro ?_ (Exists.intro _ (And.intro (cI) (And.intro rfl ?_))))) | refine' Or.inl (Exists.intro _ (And.intro ?_ (Exists.intro _ (And.intro (cH) (And.intro rfl ?_))))) | refine And.intro (show ByteArray.size _ + ByteArray.size _ ≤ _ from by (first | omega | (simp only [size_mk, size_add, List.size_toArray, List.length_cons, List.length_nil, maxLen] at *; omega))) ?_ | refine Exists.intro _ (And.intro (by with_unfolding_all exact rfl) ?_) | refine And.intro (by decide +kernel) ?_ | refine Exists.intro _ (And.intro (at_map (by (first | omega | (simp only [pkW_Ku] at *; omega)))) ?_) | (refine wrap_id' ?_; (first | omega | (simp only [pkW_Ku] at *; omega))) | refine And.intro ?_ ?_ | fail
  all_goals first
    | (refine back_i ?_
       rw [wrap_id (by omega) (by omega), Int.tmod_eq_emod_of_nonneg (by omega)])
   
theorem spec_Probe (s : ByteArray) (hs : s.size ≤ 1048576) (n : Int) (hk : keyOk s = true) (h0 : 0 ≤ n) (h3 : n ≤ 3) : RO Cf Try.prog 72 [.s s, .i .i64 n] (.i .i64 (probe s n)) := by
  have cK := spec_KeyOk s (by omega)
  rw [hk] at cK
  replace cK := RO_kt cK
  have cI := spec_l1In n 0 3
  rw [show decide (0 ≤ n ∧ n ≤ 3) = true from by simp; omega] at cI
  replace cI := RO_kt cI
  have cH := spec_HashKey s hs
  have hl := hashK_lt (bs s)
  rw [probe, if_pos ⟨hk, h0, h3⟩]
  generalize hashK (bs s) = H at *
  refine RO_of Cf_ok ?_
  repeat' first | refine And.intro rfl ?_ | (refine And.intro (fun h => ?_) (fun h => ?_) <;> (try simp only [decide_eq_true_eq, decide_eq_false_iff_not, Bool.not_eq_true', Bool.not_eq_false', Bool.and_eq_true, Bool.or_eq_true, Bool.not_eq_eq_eq_not, Bool.not_true, Bool.not_false, beq_iff_eq, bne_iff_ne, beq_eq_false_iff_ne, bne_eq_false_iff_eq, Nat.not_lt, Int.not_lt, Int.not_le, wrap_byteAt, List.length_map, eqB_Row, eqB_Op, eqB_Rec, toList_inj, toList_nil, ne_eq, Int.toNat_natCast] at h) <;> (try simp only [wrap64] at h) <;> (try (exfalso; first | exact absurd h Bool.false_ne_true | exact absurd h.symm Bool.false_ne_true | exact h trivial | exact h rfl | omega))) | refine And.intro ⟨by (first | omega | (simp only [pkW_Ku] at *; omega)), by (first | omega | (simp only [pkW_Ku] at *; omega))⟩ ?_ | refine And.intro (show (_ : Int) ≠ 0 by decide) ?_ | refine And.intro ⟨by (first | omega | (simp only [pkW_Ku] at *; omega)), by (first | omega | (simp only [pkW_Ku] at *; omega)), room (by exact rfl) (by (first | omega | (simp only [pkW_Ku] at *; omega))) (by (first | omega | (simp only [pkW_Ku] at *; omega)))⟩ ?_ | refine And.intro (roomN (by exact rfl) (by (first | omega | (simp only [pkW_Ku] at *; omega)))) ?_ | exact trivial | exact rfl | refine Exists.intro _ (And.intro rfl ?_) | refine' cut1 _ ?_ ?_ | refine And.intro (deep_ag (by exact rfl) (by exact rfl)) ?_ | refine And.intro (deep_ag2 (by repeat' first | exact trivial | refine And.intro (by exact rfl) ?_)) ?_ | refine And.intro (deep_sl (by exact rfl) (by first | exact (List.length_map _).symm | assumption | exact rfl | (simp; done))) ?_ | refine And.intro (deep_rows (by intro x hx; repeat' first | exact trivial | refine And.intro (by exact rfl) ?_)) ?_ | refine And.intro (by exact rfl) ?_ | refine And.intro (Or.inl (by exact rfl)) ?_ | refine' Or.inl (Exists.intro _ (And.intro ?_ (Exists.intro _ (And.intro (cK) (And.intro rfl ?_))))) | refine' Or.inl (Exists.intro _ (And.intro ?_ (Exists.intro _ (And.intro (cI) (And.intro rfl ?_))))) | refine' Or.inl (Exists.intro _ (And.intro ?_ (Exists.intro _ (And.intro (cH) (And.intro rfl ?_))))) | refine And.intro (show ByteArray.size _ + ByteArray.size _ ≤ _ from by (first | omega | (simp only [size_mk, size_add, List.size_toArray, List.length_cons, List.length_nil, maxLen] at *; omega))) ?_ | refine Exists.intro _ (And.intro (by with_unfolding_all exact rfl) ?_) | refine And.intro (by decide +kernel) ?_ | refine Exists.intro _ (And.intro (at_map (by (first | omega | (simp only [pkW_Ku] at *; omega)))) ?_) | (refine wrap_id' ?_; (first | omega | (simp only [pkW_Ku] at *; omega))) | refine And.intro ?_ ?_ | fail
  all_goals first
    | (refine back_i ?_
       rw [wrap_id (by omega) (by omega), Int.tmod_eq_emod_of_nonneg (by omega)])
   
theorem probe_rng (s : ByteArray) (n : Int) (hk : keyOk s = true) (h0 : 0 ≤ n) (h3 : n ≤ 3) : 0 ≤ probe s n ∧ probe s n ≤ 3 := by
  rw [probe, if_pos ⟨hk, h0, h3⟩]; omega
theorem impl_KeyCell (n : Int) (h0 : 0 ≤ n) (h3 : n ≤ 3) : RO Cf Try.prog 55 [.i .i64 n] (.i .i64 (3 + n)) := by
  have cI := impl_within n 0 3
  rw [show decide (0 ≤ n ∧ n ≤ 3) = true from by simp; omega] at cI
  replace cI := RO_kt cI
  refine RO_of Cf_ok ?_
  repeat' first | refine And.intro rfl ?_ | (refine And.intro (fun h => ?_) (fun h => ?_) <;> (try simp only [decide_eq_true_eq, decide_eq_false_iff_not, Bool.not_eq_true', Bool.not_eq_false', Bool.and_eq_true, Bool.or_eq_true, Bool.not_eq_eq_eq_not, Bool.not_true, Bool.not_false, beq_iff_eq, bne_iff_ne, beq_eq_false_iff_ne, bne_eq_false_iff_eq, Nat.not_lt, Int.not_lt, Int.not_le, wrap_byteAt, List.length_map, eqB_Row, eqB_Op, eqB_Rec, toList_inj, toList_nil, ne_eq, Int.toNat_natCast] at h) <;> (try simp only [wrap64] at h) <;> (try (exfalso; first | exact absurd h Bool.false_ne_true | exact absurd h.symm Bool.false_ne_true | exact h trivial | exact h rfl | omega))) | refine And.intro ⟨by (first | omega | (simp only [pkW_Ku] at *; omega)), by (first | omega | (simp only [pkW_Ku] at *; omega))⟩ ?_ | refine And.intro (show (_ : Int) ≠ 0 by decide) ?_ | refine And.intro ⟨by (first | omega | (simp only [pkW_Ku] at *; omega)), by (first | omega | (simp only [pkW_Ku] at *; omega)), room (by exact rfl) (by (first | omega | (simp only [pkW_Ku] at *; omega))) (by (first | omega | (simp only [pkW_Ku] at *; omega)))⟩ ?_ | refine And.intro (roomN (by exact rfl) (by (first | omega | (simp only [pkW_Ku] at *; omega)))) ?_ | exact trivial | exact rfl | refine Exists.intro _ (And.intro rfl ?_) | refine' cut1 _ ?_ ?_ | refine And.intro (deep_ag (by exact rfl) (by exact rfl)) ?_ | refine And.intro (deep_ag2 (by repeat' first | exact trivial | refine And.intro (by exact rfl) ?_)) ?_ | refine And.intro (deep_sl (by exact rfl) (by first | exact (List.length_map _).symm | assumption | exact rfl | (simp; done))) ?_ | refine And.intro (deep_rows (by intro x hx; repeat' first | exact trivial | refine And.intro (by exact rfl) ?_)) ?_ | refine And.intro (by exact rfl) ?_ | refine And.intro (Or.inl (by exact rfl)) ?_ | refine' Or.inl (Exists.intro _ (And.intro ?_ (Exists.intro _ (And.intro (cI) (And.intro rfl ?_))))) | refine And.intro (show ByteArray.size _ + ByteArray.size _ ≤ _ from by (first | omega | (simp only [size_mk, size_add, List.size_toArray, List.length_cons, List.length_nil, maxLen] at *; omega))) ?_ | refine Exists.intro _ (And.intro (by with_unfolding_all exact rfl) ?_) | refine And.intro (by decide +kernel) ?_ | refine Exists.intro _ (And.intro (at_map (by (first | omega | (simp only [pkW_Ku] at *; omega)))) ?_) | (refine wrap_id' ?_; (first | omega | (simp only [pkW_Ku] at *; omega))) | refine And.intro ?_ ?_ | fail
  all_goals first
    | exact back_i (wrap_id (by omega) (by omega))
   
theorem spec_KeyCell (n : Int) (h0 : 0 ≤ n) (h3 : n ≤ 3) : RO Cf Try.prog 44 [.i .i64 n] (.i .i64 (3 + n)) := by
  have cI := spec_l1In n 0 3
  rw [show decide (0 ≤ n ∧ n ≤ 3) = true from by simp; omega] at cI
  replace cI := RO_kt cI
  refine RO_of Cf_ok ?_
  repeat' first | refine And.intro rfl ?_ | (refine And.intro (fun h => ?_) (fun h => ?_) <;> (try simp only [decide_eq_true_eq, decide_eq_false_iff_not, Bool.not_eq_true', Bool.not_eq_false', Bool.and_eq_true, Bool.or_eq_true, Bool.not_eq_eq_eq_not, Bool.not_true, Bool.not_false, beq_iff_eq, bne_iff_ne, beq_eq_false_iff_ne, bne_eq_false_iff_eq, Nat.not_lt, Int.not_lt, Int.not_le, wrap_byteAt, List.length_map, eqB_Row, eqB_Op, eqB_Rec, toList_inj, toList_nil, ne_eq, Int.toNat_natCast] at h) <;> (try simp only [wrap64] at h) <;> (try (exfalso; first | exact absurd h Bool.false_ne_true | exact absurd h.symm Bool.false_ne_true | exact h trivial | exact h rfl | omega))) | refine And.intro ⟨by (first | omega | (simp only [pkW_Ku] at *; omega)), by (first | omega | (simp only [pkW_Ku] at *; omega))⟩ ?_ | refine And.intro (show (_ : Int) ≠ 0 by decide) ?_ | refine And.intro ⟨by (first | omega | (simp only [pkW_Ku] at *; omega)), by (first | omega | (simp only [pkW_Ku] at *; omega)), room (by exact rfl) (by (first | omega | (simp only [pkW_Ku] at *; omega))) (by (first | omega | (simp only [pkW_Ku] at *; omega)))⟩ ?_ | refine And.intro (roomN (by exact rfl) (by (first | omega | (simp only [pkW_Ku] at *; omega)))) ?_ | exact trivial | exact rfl | refine Exists.intro _ (And.intro rfl ?_) | refine' cut1 _ ?_ ?_ | refine And.intro (deep_ag (by exact rfl) (by exact rfl)) ?_ | refine And.intro (deep_ag2 (by repeat' first | exact trivial | refine And.intro (by exact rfl) ?_)) ?_ | refine And.intro (deep_sl (by exact rfl) (by first | exact (List.length_map _).symm | assumption | exact rfl | (simp; done))) ?_ | refine And.intro (deep_rows (by intro x hx; repeat' first | exact trivial | refine And.intro (by exact rfl) ?_)) ?_ | refine And.intro (by exact rfl) ?_ | refine And.intro (Or.inl (by exact rfl)) ?_ | refine' Or.inl (Exists.intro _ (And.intro ?_ (Exists.intro _ (And.intro (cI) (And.intro rfl ?_))))) | refine And.intro (show ByteArray.size _ + ByteArray.size _ ≤ _ from by (first | omega | (simp only [size_mk, size_add, List.size_toArray, List.length_cons, List.length_nil, maxLen] at *; omega))) ?_ | refine Exists.intro _ (And.intro (by with_unfolding_all exact rfl) ?_) | refine And.intro (by decide +kernel) ?_ | refine Exists.intro _ (And.intro (at_map (by (first | omega | (simp only [pkW_Ku] at *; omega)))) ?_) | (refine wrap_id' ?_; (first | omega | (simp only [pkW_Ku] at *; omega))) | refine And.intro ?_ ?_ | fail
  all_goals first
    | exact back_i (wrap_id (by omega) (by omega))
   

end Go.Proofs.Ytbkejhjjojdmnaa.Ev
