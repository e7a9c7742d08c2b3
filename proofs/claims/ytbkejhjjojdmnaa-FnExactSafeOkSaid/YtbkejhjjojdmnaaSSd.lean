/- Contracts: what the functions of this part return, for arguments as each contract says. -/
import Derived.Test.YtbkejhjjojdmnaaEvD
import Derived.Test.YtbkejhjjojdmnaaEvTab
import Derived.Test.YtbkejhjjojdmnaaSTy
import Derived.Test.YtbkejhjjojdmnaaSKt
import Derived.Test.YtbkejhjjojdmnaaSKb
import Derived.Test.YtbkejhjjojdmnaaSLb
import Derived.Test.YtbkejhjjojdmnaaSOb
import Derived.Test.YtbkejhjjojdmnaaSRw
import Derived.Test.YtbkejhjjojdmnaaSFr
import Derived.Test.YtbkejhjjojdmnaaSEs
import Derived.Test.YtbkejhjjojdmnaaSWd
import Derived.Test.YtbkejhjjojdmnaaSWk
import Derived.Test.YtbkejhjjojdmnaaSWl
import Derived.Test.YtbkejhjjojdmnaaSWm
import Derived.Test.YtbkejhjjojdmnaaSSp
import Derived.Test.YtbkejhjjojdmnaaSKq
import Derived.Test.YtbkejhjjojdmnaaSKr
import Derived.Test.YtbkejhjjojdmnaaSKs
import Derived.Test.YtbkejhjjojdmnaaSKv
import Derived.Test.YtbkejhjjojdmnaaSKu
import Derived.Test.YtbkejhjjojdmnaaSKy
import Derived.Test.YtbkejhjjojdmnaaSWn
import Derived.Test.YtbkejhjjojdmnaaSWo
import Derived.Test.YtbkejhjjojdmnaaSIn
import Derived.Test.YtbkejhjjojdmnaaSIo
import Derived.Test.YtbkejhjjojdmnaaSSa
set_option linter.constructorNameAsVariable false
set_option linter.unusedVariables false
set_option linter.unusedSimpArgs false
set_option linter.unusedVariables false
set_option maxHeartbeats 4000000
set_option maxRecDepth 20000
set_option linter.unusedSimpArgs false
set_option linter.constructorNameAsVariable false
namespace Go.Proofs.Ytbkejhjjojdmnaa.Ev
open Go Go.Proofs
attribute [local irreducible] RO Fn IntKind.wrap TriL
/- nobody within a window that is drained -/
theorem pkW_Sd : (∀ n : Int, IntKind.i64.wrap n = (n + 9223372036854775808) % 18446744073709551616 - 9223372036854775808) ∧ maxLen = 2 ^ 63 - 1 ∧ (∀ (α β : Type) (f : α → β) (l : List α), (l.map f).length = l.length) ∧ (∀ (α : Type) (a b : List α), (a ++ b).length = a.length + b.length) ∧ (∀ (α : Type) (x : α) (l : List α), (x :: l).length = l.length + 1) ∧ (∀ α : Type, ([] : List α).length = 0) ∧ (∀ n : Nat, (n : Int).toNat = n) := ⟨wrap64, rfl, fun _ _ _ _ => List.length_map _, fun _ _ _ => List.length_append, fun _ _ _ => List.length_cons, fun _ => rfl, Int.toNat_natCast⟩
theorem clash_no {f j : Job} (h : ¬ (f.busy = true ∧ (f.pc = 14 ∨ f.pc = 15))) : clash f j = false := by
  rw [clash, decide_eq_false_iff_not]; rintro ⟨q, _⟩; exact h q
theorem clash_all {f : Job} (h : ¬ (f.busy = true ∧ (f.pc = 14 ∨ f.pc = 15))) (l : List Job) : (l.all fun j => !clash f j) = true := by
  rw [List.all_eq_true]; intro j _; rw [clash_no h]; rfl
theorem inJ_self (j : Job) : inJ (j.e.tmod 2) j = jin j := by
  rw [inJ, Bool.eq_iff_iff, decide_eq_true_eq]; exact ⟨fun h => h.1, fun h => ⟨h, rfl⟩⟩
theorem deep_jobS {hp : Hp} (j : Job) : Deep hp 4 (.ag (j.av true)) (.ag (j.av true)) := by
  unfold Job.av
  exact deep_ag2 ⟨rfl, rfl, rfl, rfl, rfl, rfl, rfl, rfl, rfl, rfl, rfl, rfl, rfl, rfl, rfl, rfl, rfl, rfl, trivial⟩
theorem spec_l17Alone (w : World') (hw : w.ok) (hwo : worldOk w = true) : RO Cf Try.prog 15 [.ag (w.av true)] (.b (alone w.jobs)) := by
  have hj1 := hw.jobs.1
  simp only [maxLen] at hj1
  have hjm : (w.jobs.map (Job.av true)).length = w.jobs.length := List.length_map _
  refine RO_of Cf_ok ?_
  repeat' first | refine And.intro rfl ?_ | (refine And.intro (fun h => ?_) (fun h => ?_) <;> (try simp only [decide_eq_true_eq, decide_eq_false_iff_not, Bool.not_eq_true', Bool.not_eq_false', Bool.and_eq_true, Bool.or_eq_true, Bool.not_eq_eq_eq_not, Bool.not_true, Bool.not_false, beq_iff_eq, bne_iff_ne, beq_eq_false_iff_ne, bne_eq_false_iff_eq, Nat.not_lt, Int.not_lt, Int.not_le, wrap_byteAt, List.length_map, eqB_Row, eqB_Op, eqB_Rec, toList_inj, toList_nil, ne_eq, Int.toNat_natCast] at h) <;> (try simp only [wrap64] at h) <;> (try (exfalso; first | exact absurd h Bool.false_ne_true | exact absurd h.symm Bool.false_ne_true | exact h trivial | exact h rfl | omega))) | refine And.intro ⟨by (first | omega | (simp only [pkW_Sd] at *; omega)), by (first | omega | (simp only [pkW_Sd] at *; omega))⟩ ?_ | refine And.intro (show (_ : Int) ≠ 0 by decide) ?_ | refine And.intro ⟨by (first | omega | (simp only [pkW_Sd] at *; omega)), by (first | omega | (simp only [pkW_Sd] at *; omega)), room (by exact rfl) (by (first | omega | (simp only [pkW_Sd] at *; omega))) (by (first | omega | (simp only [pkW_Sd] at *; omega)))⟩ ?_ | refine And.intro (roomN (by exact rfl) (by (first | omega | (simp only [pkW_Sd] at *; omega)))) ?_ | exact trivial | exact rfl | refine Exists.intro _ (And.intro rfl ?_) | refine' cut1 _ ?_ ?_ | refine And.intro (deep_ag (by exact rfl) (by exact rfl)) ?_ | refine And.intro (deep_ag2 (by repeat' first | exact trivial | refine And.intro (by exact rfl) ?_)) ?_ | refine And.intro (deep_sl (by exact rfl) (by first | exact (List.length_map _).symm | assumption | exact rfl | (simp; done))) ?_ | refine And.intro (deep_rows (by intro x hx; repeat' first | exact trivial | refine And.intro (by exact rfl) ?_)) ?_ | refine And.intro (by exact rfl) ?_ | refine And.intro (Or.inl (by exact rfl)) ?_ | refine And.intro (show ByteArray.size _ + ByteArray.size _ ≤ _ from by (first | omega | (simp only [size_mk, size_add, List.size_toArray, List.length_cons, List.length_nil, maxLen] at *; omega))) ?_ | refine Exists.intro _ (And.intro (by with_unfolding_all exact rfl) ?_) | refine And.intro (by decide +kernel) ?_ | refine Exists.intro _ (And.intro (at_map (by (first | omega | (simp only [pkW_Sd] at *; omega)))) ?_) | (refine wrap_id' ?_; (first | omega | (simp only [pkW_Sd] at *; omega))) | refine And.intro ?_ ?_ | fail
  refine loop_nat 15 Cf_ok w.jobs.length (fun i (_ : Unit) => ⟨[.u, .lp 1 0, .u, .i .i64 i, .u, .u, .u, .u, .u, .u, .u, .u, .u, .u, .u, .u, .u, .u, .u, .u, .u, .u, .u, .u, .u, .u, .u, .u, .u, .u, .u, .u, .u, .u, .u, .u, .u, .u, .u, .u, .u, .u, .u, .u, .u, .u, .u, .u, .u, .u, .u, .u, .u, .u, .u, .u, .u, .u, .u, .u, .u, .u, .u, .u], [none, some (w.av true), none, none, none, none, none, none, none, none, none, none, none, none, none, none, none, none, none, none, none, none, none, none, none, none, none, none, none, none, none, none, none, none, none, none, none, none, none, none, none, none, none, none, none, none, none, none, none, none, none, none, none, none, none, none, none, none, none, none, none, none, none, none], []⟩)
    (fun k _ => ((w.jobs.drop k).all fun f => w.jobs.all fun j => !clash f j) = alone w.jobs) ?hc ?_ ?_ () ?_
  case hc => decide +kernel
  · rintro k _ hk h2 ih
    rw [List.drop_eq_getElem_cons hk, List.all_cons] at h2
    have hat := at_map (f := Job.av true) hk
    have hkind := busy_kind hwo (List.getElem_mem hk)
    have hno := clash_all (f := w.jobs[k]) (l := w.jobs)
    generalize ((w.jobs.drop (k + 1)).all fun f => w.jobs.all fun j => !clash f j) = rest at *
    generalize alone w.jobs = D at *
    generalize w.jobs[k] = f at *
    by_cases hcand : f.busy = true ∧ (f.pc = 14 ∨ f.pc = 15)
    · have hkd := hkind hcand.1 hcand.2
      obtain ⟨hb, hp⟩ := hcand
      clear hno hkind
      repeat' first | refine And.intro rfl ?_ | (refine And.intro (fun h => ?_) (fun h => ?_) <;> (try simp only [decide_eq_true_eq, decide_eq_false_iff_not, Bool.not_eq_true', Bool.not_eq_false', Bool.and_eq_true, Bool.or_eq_true, Bool.not_eq_eq_eq_not, Bool.not_true, Bool.not_false, beq_iff_eq, bne_iff_ne, beq_eq_false_iff_ne, bne_eq_false_iff_eq, Nat.not_lt, Int.not_lt, Int.not_le, wrap_byteAt, List.length_map, eqB_Row, eqB_Op, eqB_Rec, toList_inj, toList_nil, ne_eq, Int.toNat_natCast] at h) <;> (try simp only [wrap64] at h) <;> (try (exfalso; first | exact absurd h Bool.false_ne_true | exact absurd h.symm Bool.false_ne_true | exact h trivial | exact h rfl | omega))) | refine And.intro ⟨by (first | omega | (simp only [pkW_Sd] at *; omega)), by (first | omega | (simp only [pkW_Sd] at *; omega))⟩ ?_ | refine And.intro (show (_ : Int) ≠ 0 by decide) ?_ | refine And.intro ⟨by (first | omega | (simp only [pkW_Sd] at *; omega)), by (first | omega | (simp only [pkW_Sd] at *; omega)), room (by exact rfl) (by (first | omega | (simp only [pkW_Sd] at *; omega))) (by (first | omega | (simp only [pkW_Sd] at *; omega)))⟩ ?_ | refine And.intro (roomN (by exact rfl) (by (first | omega | (simp only [pkW_Sd] at *; omega)))) ?_ | exact trivial | exact rfl | refine Exists.intro _ (And.intro rfl ?_) | refine' cut1 _ ?_ ?_ | refine And.intro (deep_ag (by exact rfl) (by exact rfl)) ?_ | refine And.intro (deep_ag2 (by repeat' first | exact trivial | refine And.intro (by exact rfl) ?_)) ?_ | refine And.intro (deep_sl (by exact rfl) (by first | exact (List.length_map _).symm | assumption | exact rfl | (simp; done))) ?_ | refine And.intro (deep_rows (by intro x hx; repeat' first | exact trivial | refine And.intro (by exact rfl) ?_)) ?_ | refine And.intro (by exact rfl) ?_ | refine And.intro (Or.inl (by exact rfl)) ?_ | refine Exists.intro _ (And.intro hat ?_) | refine And.intro (show ByteArray.size _ + ByteArray.size _ ≤ _ from by (first | omega | (simp only [size_mk, size_add, List.size_toArray, List.length_cons, List.length_nil, maxLen] at *; omega))) ?_ | refine Exists.intro _ (And.intro (by with_unfolding_all exact rfl) ?_) | refine And.intro (by decide +kernel) ?_ | refine Exists.intro _ (And.intro (at_map (by (first | omega | (simp only [pkW_Sd] at *; omega)))) ?_) | (refine wrap_id' ?_; (first | omega | (simp only [pkW_Sd] at *; omega))) | refine And.intro ?_ ?_ | fail
      all_goals first
        | (exfalso; omega)
        | (exfalso; rw [hb] at h; cases h)
        | skip
      all_goals (
        refine loop_nat 15 Cf_ok w.jobs.length (fun i (_ : Unit) => ⟨[.u, .lp 1 0, .u, .i .i64 k, .lp 4 0, .i .i64 i, .u, .u, .u, .u, .u, .u, .u, .u, .u, .u, .u, .u, .u, .u, .u, .u, .u, .u, .u, .u, .u, .u, .u, .u, .u, .u, .u, .u, .u, .u, .u, .u, .u, .u, .u, .u, .u, .u, .u, .u, .u, .u, .u, .u, .u, .u, .u, .u, .u, .u, .u, .u, .u, .u, .u, .u, .u, .u], [none, some (w.av true), none, none, some (f.av true), none, none, none, none, none, none, none, none, none, none, none, none, none, none, none, none, none, none, none, none, none, none, none, none, none, none, none, none, none, none, none, none, none, none, none, none, none, none, none, none, none, none, none, none, none, none, none, none, none, none, none, none, none, none, none, none, none, none, none], []⟩)
          (fun t _ => ((w.jobs.drop t).all fun j => !clash f j) = w.jobs.all fun j => !clash f j) ?hc ?_ ?_ () ?_
        case hc => decide +kernel
        · rintro t _ ht h3 ih2
          rw [List.drop_eq_getElem_cons ht, List.all_cons] at h3
          have hat2 := at_map (f := Job.av true) ht
          have hd : clash f w.jobs[t] = decide ((f.busy = true ∧ (f.pc = 14 ∨ f.pc = 15)) ∧ jin w.jobs[t] = true ∧ w.jobs[t].e = f.e ∧ 5 ≤ w.jobs[t].pc ∧ w.jobs[t].pc ≤ 9) := rfl
          have c1 := spec_l17In w.jobs[t]
          have c2 := spec_l1In w.jobs[t].pc 5 9
          generalize clash f w.jobs[t] = tb at *
          generalize ((w.jobs.drop (t + 1)).all fun j => !clash f j) = rest2 at *
          generalize (w.jobs.all fun j => !clash f j) = A at *
          generalize w.jobs[t] = j at *
          have hgo2 : tb = false → rest2 = A := fun q => by rw [q] at h3; simpa using h3
          have hno2 : tb = true → D = false := fun q => by rw [q] at h3; rw [← h3] at h2; simpa using h2.symm
          clear h3 h2
          generalize jin j = J at *
          repeat' first | refine And.intro rfl ?_ | (refine And.intro (fun h => ?_) (fun h => ?_) <;> (try simp only [decide_eq_true_eq, decide_eq_false_iff_not, Bool.not_eq_true', Bool.not_eq_false', Bool.and_eq_true, Bool.or_eq_true, Bool.not_eq_eq_eq_not, Bool.not_true, Bool.not_false, beq_iff_eq, bne_iff_ne, beq_eq_false_iff_ne, bne_eq_false_iff_eq, Nat.not_lt, Int.not_lt, Int.not_le, wrap_byteAt, List.length_map, eqB_Row, eqB_Op, eqB_Rec, toList_inj, toList_nil, ne_eq, Int.toNat_natCast] at h) <;> (try simp only [wrap64] at h) <;> (try (exfalso; first | exact absurd h Bool.false_ne_true | exact absurd h.symm Bool.false_ne_true | exact h trivial | exact h rfl | omega))) | refine And.intro ⟨by (first | omega | (simp only [pkW_Sd] at *; omega)), by (first | omega | (simp only [pkW_Sd] at *; omega))⟩ ?_ | refine And.intro (show (_ : Int) ≠ 0 by decide) ?_ | refine And.intro ⟨by (first | omega | (simp only [pkW_Sd] at *; omega)), by (first | omega | (simp only [pkW_Sd] at *; omega)), room (by exact rfl) (by (first | omega | (simp only [pkW_Sd] at *; omega))) (by (first | omega | (simp only [pkW_Sd] at *; omega)))⟩ ?_ | refine And.intro (roomN (by exact rfl) (by (first | omega | (simp only [pkW_Sd] at *; omega)))) ?_ | exact trivial | exact rfl | refine Exists.intro _ (And.intro rfl ?_) | refine' cut1 _ ?_ ?_ | refine And.intro (deep_ag (by exact rfl) (by exact rfl)) ?_ | refine And.intro (deep_ag2 (by repeat' first | exact trivial | refine And.intro (by exact rfl) ?_)) ?_ | refine And.intro (deep_sl (by exact rfl) (by first | exact (List.length_map _).symm | assumption | exact rfl | (simp; done))) ?_ | refine And.intro (deep_rows (by intro x hx; repeat' first | exact trivial | refine And.intro (by exact rfl) ?_)) ?_ | refine And.intro (by exact rfl) ?_ | refine And.intro (Or.inl (by exact rfl)) ?_ | refine Exists.intro _ (And.intro hat2 ?_) | (refine' Or.inl (Exists.intro _ (And.intro ?_ (Exists.intro _ (And.intro (c1) (And.intro rfl ?_))))); focus (exact And.intro (deep_jobS j) trivial)) | refine' Or.inl (Exists.intro _ (And.intro ?_ (Exists.intro _ (And.intro (c2) (And.intro rfl ?_))))) | refine ih2 _ () ?_ ?_ | refine And.intro (show ByteArray.size _ + ByteArray.size _ ≤ _ from by (first | omega | (simp only [size_mk, size_add, List.size_toArray, List.length_cons, List.length_nil, maxLen] at *; omega))) ?_ | refine Exists.intro _ (And.intro (by with_unfolding_all exact rfl) ?_) | refine And.intro (by decide +kernel) ?_ | refine Exists.intro _ (And.intro (at_map (by (first | omega | (simp only [pkW_Sd] at *; omega)))) ?_) | (refine wrap_id' ?_; (first | omega | (simp only [pkW_Sd] at *; omega))) | refine And.intro ?_ ?_ | fail
          all_goals first
            | (refine Hold.mk (hgo2 ?_); rw [hd, decide_eq_false_iff_not]; rintro ⟨_, g2, g3, g4, g5⟩; first | omega | (simp_all; done) | (simp_all; omega))
            | exact back_k (hno2 (by rw [hd, decide_eq_true_eq]; refine ⟨⟨hb, hp⟩, ?_, ?_, ?_, ?_⟩ <;> first | assumption | omega)).symm
           
        · rintro _ h3
          rw [List.drop_length] at h3
          have h4 : rest = D := by rw [← h3] at h2; simpa using h2
          clear h2 h3
          repeat' first | refine And.intro rfl ?_ | (refine And.intro (fun h => ?_) (fun h => ?_) <;> (try simp only [decide_eq_true_eq, decide_eq_false_iff_not, Bool.not_eq_true', Bool.not_eq_false', Bool.and_eq_true, Bool.or_eq_true, Bool.not_eq_eq_eq_not, Bool.not_true, Bool.not_false, beq_iff_eq, bne_iff_ne, beq_eq_false_iff_ne, bne_eq_false_iff_eq, Nat.not_lt, Int.not_lt, Int.not_le, wrap_byteAt, List.length_map, eqB_Row, eqB_Op, eqB_Rec, toList_inj, toList_nil, ne_eq, Int.toNat_natCast] at h) <;> (try simp only [wrap64] at h) <;> (try (exfalso; first | exact absurd h Bool.false_ne_true | exact absurd h.symm Bool.false_ne_true | exact h trivial | exact h rfl | omega))) | refine And.intro ⟨by (first | omega | (simp only [pkW_Sd] at *; omega)), by (first | omega | (simp only [pkW_Sd] at *; omega))⟩ ?_ | refine And.intro (show (_ : Int) ≠ 0 by decide) ?_ | refine And.intro ⟨by (first | omega | (simp only [pkW_Sd] at *; omega)), by (first | omega | (simp only [pkW_Sd] at *; omega)), room (by exact rfl) (by (first | omega | (simp only [pkW_Sd] at *; omega))) (by (first | omega | (simp only [pkW_Sd] at *; omega)))⟩ ?_ | refine And.intro (roomN (by exact rfl) (by (first | omega | (simp only [pkW_Sd] at *; omega)))) ?_ | exact trivial | exact rfl | refine Exists.intro _ (And.intro rfl ?_) | refine' cut1 _ ?_ ?_ | refine And.intro (deep_ag (by exact rfl) (by exact rfl)) ?_ | refine And.intro (deep_ag2 (by repeat' first | exact trivial | refine And.intro (by exact rfl) ?_)) ?_ | refine And.intro (deep_sl (by exact rfl) (by first | exact (List.length_map _).symm | assumption | exact rfl | (simp; done))) ?_ | refine And.intro (deep_rows (by intro x hx; repeat' first | exact trivial | refine And.intro (by exact rfl) ?_)) ?_ | refine And.intro (by exact rfl) ?_ | refine And.intro (Or.inl (by exact rfl)) ?_ | refine ih _ () ?_ ?_ | refine And.intro (show ByteArray.size _ + ByteArray.size _ ≤ _ from by (first | omega | (simp only [size_mk, size_add, List.size_toArray, List.length_cons, List.length_nil, maxLen] at *; omega))) ?_ | refine Exists.intro _ (And.intro (by with_unfolding_all exact rfl) ?_) | refine And.intro (by decide +kernel) ?_ | refine Exists.intro _ (And.intro (at_map (by (first | omega | (simp only [pkW_Sd] at *; omega)))) ?_) | (refine wrap_id' ?_; (first | omega | (simp only [pkW_Sd] at *; omega))) | refine And.intro ?_ ?_ | fail
          all_goals first
            | exact Hold.mk h4
           
        · rfl)
    · have h4 : rest = D := by rw [hno hcand] at h2; simpa using h2
      clear h2 hno hkind
      repeat' first | refine And.intro rfl ?_ | (refine And.intro (fun h => ?_) (fun h => ?_) <;> (try simp only [decide_eq_true_eq, decide_eq_false_iff_not, Bool.not_eq_true', Bool.not_eq_false', Bool.and_eq_true, Bool.or_eq_true, Bool.not_eq_eq_eq_not, Bool.not_true, Bool.not_false, beq_iff_eq, bne_iff_ne, beq_eq_false_iff_ne, bne_eq_false_iff_eq, Nat.not_lt, Int.not_lt, Int.not_le, wrap_byteAt, List.length_map, eqB_Row, eqB_Op, eqB_Rec, toList_inj, toList_nil, ne_eq, Int.toNat_natCast] at h) <;> (try simp only [wrap64] at h) <;> (try (exfalso; first | exact absurd h Bool.false_ne_true | exact absurd h.symm Bool.false_ne_true | exact h trivial | exact h rfl | omega))) | refine And.intro ⟨by (first | omega | (simp only [pkW_Sd] at *; omega)), by (first | omega | (simp only [pkW_Sd] at *; omega))⟩ ?_ | refine And.intro (show (_ : Int) ≠ 0 by decide) ?_ | refine And.intro ⟨by (first | omega | (simp only [pkW_Sd] at *; omega)), by (first | omega | (simp only [pkW_Sd] at *; omega)), room (by exact rfl) (by (first | omega | (simp only [pkW_Sd] at *; omega))) (by (first | omega | (simp only [pkW_Sd] at *; omega)))⟩ ?_ | refine And.intro (roomN (by exact rfl) (by (first | omega | (simp only [pkW_Sd] at *; omega)))) ?_ | exact trivial | exact rfl | refine Exists.intro _ (And.intro rfl ?_) | refine' cut1 _ ?_ ?_ | refine And.intro (deep_ag (by exact rfl) (by exact rfl)) ?_ | refine And.intro (deep_ag2 (by repeat' first | exact trivial | refine And.intro (by exact rfl) ?_)) ?_ | refine And.intro (deep_sl (by exact rfl) (by first | exact (List.length_map _).symm | assumption | exact rfl | (simp; done))) ?_ | refine And.intro (deep_rows (by intro x hx; repeat' first | exact trivial | refine And.intro (by exact rfl) ?_)) ?_ | refine And.intro (by exact rfl) ?_ | refine And.intro (Or.inl (by exact rfl)) ?_ | refine Exists.intro _ (And.intro hat ?_) | refine ih _ () ?_ ?_ | refine And.intro (show ByteArray.size _ + ByteArray.size _ ≤ _ from by (first | omega | (simp only [size_mk, size_add, List.size_toArray, List.length_cons, List.length_nil, maxLen] at *; omega))) ?_ | refine Exists.intro _ (And.intro (by with_unfolding_all exact rfl) ?_) | refine And.intro (by decide +kernel) ?_ | refine Exists.intro _ (And.intro (at_map (by (first | omega | (simp only [pkW_Sd] at *; omega)))) ?_) | (refine wrap_id' ?_; (first | omega | (simp only [pkW_Sd] at *; omega))) | refine And.intro ?_ ?_ | fail
      all_goals first
        | exact Hold.mk h4
        | (exfalso; apply hcand; refine ⟨?_, ?_⟩ <;> first | assumption | omega)
       
  · rintro _ h2
    rw [List.drop_length] at h2
    repeat' first | refine And.intro rfl ?_ | (refine And.intro (fun h => ?_) (fun h => ?_) <;> (try simp only [decide_eq_true_eq, decide_eq_false_iff_not, Bool.not_eq_true', Bool.not_eq_false', Bool.and_eq_true, Bool.or_eq_true, Bool.not_eq_eq_eq_not, Bool.not_true, Bool.not_false, beq_iff_eq, bne_iff_ne, beq_eq_false_iff_ne, bne_eq_false_iff_eq, Nat.not_lt, Int.not_lt, Int.not_le, wrap_byteAt, List.length_map, eqB_Row, eqB_Op, eqB_Rec, toList_inj, toList_nil, ne_eq, Int.toNat_natCast] at h) <;> (try simp only [wrap64] at h) <;> (try (exfalso; first | exact absurd h Bool.false_ne_true | exact absurd h.symm Bool.false_ne_true | exact h trivial | exact h rfl | omega))) | refine And.intro ⟨by (first | omega | (simp only [pkW_Sd] at *; omega)), by (first | omega | (simp only [pkW_Sd] at *; omega))⟩ ?_ | refine And.intro (show (_ : Int) ≠ 0 by decide) ?_ | refine And.intro ⟨by (first | omega | (simp only [pkW_Sd] at *; omega)), by (first | omega | (simp only [pkW_Sd] at *; omega)), room (by exact rfl) (by (first | omega | (simp only [pkW_Sd] at *; omega))) (by (first | omega | (simp only [pkW_Sd] at *; omega)))⟩ ?_ | refine And.intro (roomN (by exact rfl) (by (first | omega | (simp only [pkW_Sd] at *; omega)))) ?_ | exact trivial | exact rfl | refine Exists.intro _ (And.intro rfl ?_) | refine' cut1 _ ?_ ?_ | refine And.intro (deep_ag (by exact rfl) (by exact rfl)) ?_ | refine And.intro (deep_ag2 (by repeat' first | exact trivial | refine And.intro (by exact rfl) ?_)) ?_ | refine And.intro (deep_sl (by exact rfl) (by first | exact (List.length_map _).symm | assumption | exact rfl | (simp; done))) ?_ | refine And.intro (deep_rows (by intro x hx; repeat' first | exact trivial | refine And.intro (by exact rfl) ?_)) ?_ | refine And.intro (by exact rfl) ?_ | refine And.intro (Or.inl (by exact rfl)) ?_ | refine And.intro (show ByteArray.size _ + ByteArray.size _ ≤ _ from by (first | omega | (simp only [size_mk, size_add, List.size_toArray, List.length_cons, List.length_nil, maxLen] at *; omega))) ?_ | refine Exists.intro _ (And.intro (by with_unfolding_all exact rfl) ?_) | refine And.intro (by decide +kernel) ?_ | refine Exists.intro _ (And.intro (at_map (by (first | omega | (simp only [pkW_Sd] at *; omega)))) ?_) | (refine wrap_id' ?_; (first | omega | (simp only [pkW_Sd] at *; omega))) | refine And.intro ?_ ?_ | fail
    all_goals first
      | exact back_k h2
     
  · rfl

end Go.Proofs.Ytbkejhjjojdmnaa.Ev
