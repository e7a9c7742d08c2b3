/- Contracts: what the functions of this part return, for arguments as each contract says. -/
import Derived.Test.YtbkejhjjojdmnaaEvD
import Derived.Test.YtbkejhjjojdmnaaEvTab
import Derived.Test.YtbkejhjjojdmnaaSTy
import Derived.Test.YtbkejhjjojdmnaaSKt
import Derived.Test.YtbkejhjjojdmnaaSKb
import Derived.Test.YtbkejhjjojdmnaaSLb
import Derived.Test.YtbkejhjjojdmnaaSOb
import Derived.Test.YtbkejhjjojdmnaaSRw
import Derived.Test.YtbkejhjjojdmnaaSFr
import Derived.Test.YtbkejhjjojdmnaaSEs
import Derived.Test.YtbkejhjjojdmnaaSWd
import Derived.Test.YtbkejhjjojdmnaaSWk
import Derived.Test.YtbkejhjjojdmnaaSWl
import Derived.Test.YtbkejhjjojdmnaaSWm
import Derived.Test.YtbkejhjjojdmnaaSSp
import Derived.Test.YtbkejhjjojdmnaaSKq
import Derived.Test.YtbkejhjjojdmnaaSKr
import Derived.Test.YtbkejhjjojdmnaaSKs
import Derived.Test.YtbkejhjjojdmnaaSKv
import Derived.Test.YtbkejhjjojdmnaaSKu
import Derived.Test.YtbkejhjjojdmnaaSKy
set_option linter.constructorNameAsVariable false
set_option linter.unusedVariables false
set_option linter.unusedSimpArgs false
set_option linter.unusedVariables false
set_option maxHeartbeats 4000000
set_option maxRecDepth 20000
set_option linter.unusedSimpArgs false
set_option linter.constructorNameAsVariable false
namespace Go.Proofs.Ytbkejhjjojdmnaa.Ev
open Go Go.Proofs
attribute [local irreducible] RO Fn IntKind.wrap TriL
/- worlds that are right -/
noncomputable def jobAt (t : Nat) (j : Job) : Bool := if j.busy = true then jobOk j && (decide (j.op.kind = 3) == decide (t = 3)) else zeroJ j
noncomputable def worldOk (w : World') : Bool := cellsOk w.cells && todoOk w.todo && decide ((0 ≤ w.serial ∧ w.serial ≤ 1000000) ∧ (0 ≤ w.now ∧ w.now ≤ 1000000000) ∧ w.jobs.length = 4) && allI jobAt w.jobs 0
structure WorldF (w : World') (W : Bool) : Prop where
  c : cellsOk w.cells = false → W = false
  t : todoOk w.todo = false → W = false
  n : ¬ ((0 ≤ w.serial ∧ w.serial ≤ 1000000) ∧ (0 ≤ w.now ∧ w.now ≤ 1000000000) ∧ w.jobs.length = 4) → W = false
  j : allI jobAt w.jobs 0 = false → W = false
  y : cellsOk w.cells = true → todoOk w.todo = true → ((0 ≤ w.serial ∧ w.serial ≤ 1000000) ∧ (0 ≤ w.now ∧ w.now ≤ 1000000000) ∧ w.jobs.length = 4) → allI jobAt w.jobs 0 = true → W = true
theorem pkW_Wn : (∀ n : Int, IntKind.i64.wrap n = (n + 9223372036854775808) % 18446744073709551616 - 9223372036854775808) ∧ maxLen = 2 ^ 63 - 1 ∧ (∀ (α β : Type) (f : α → β) (l : List α), (l.map f).length = l.length) ∧ (∀ (α : Type) (a b : List α), (a ++ b).length = a.length + b.length) ∧ (∀ (α : Type) (x : α) (l : List α), (x :: l).length = l.length + 1) ∧ (∀ α : Type, ([] : List α).length = 0) ∧ (∀ n : Nat, (n : Int).toNat = n) := ⟨wrap64, rfl, fun _ _ _ _ => List.length_map _, fun _ _ _ => List.length_append, fun _ _ _ => List.length_cons, fun _ => rfl, Int.toNat_natCast⟩
theorem worldF (w : World') : WorldF w (worldOk w) := by
  refine ⟨?_, ?_, ?_, ?_, ?_⟩
  · intro h; rw [worldOk, h]; rfl
  · intro h; rw [worldOk, h]; simp
  · intro h; rw [worldOk, decide_eq_false h]; simp
  · intro h; rw [worldOk, h]; simp
  · intro h1 h2 h3 h4; rw [worldOk, h1, h2, decide_eq_true h3, h4]; rfl
theorem deep_todo {hp : Hp} {d : Nat} (g : Bool) (l : List Queue) : Deep hp (d + 3) (.ro g false 1 (l.map (Queue.av g))) (.ro true false 1 (l.map (Queue.av true))) := by
  refine ⟨_, ?_, rfl⟩
  induction l with
  | nil => exact trivial
  | cons x l ih => exact ⟨⟨rfl, trivial⟩, ih⟩
theorem deep_job1 {hp : Hp} (j : Job) : Deep hp 4 (.ag (j.av true)) (.ag (j.av true)) := by
  unfold Job.av
  exact deep_ag2 ⟨rfl, rfl, rfl, rfl, rfl, rfl, rfl, rfl, rfl, rfl, rfl, rfl, rfl, rfl, rfl, rfl, rfl, rfl, trivial⟩
theorem deep_zero {hp : Hp} : Deep hp 4 (.ag [.k false, .i .i64 0, .s ⟨#[]⟩, .i .i64 0, .i .i64 0, .i .i64 0, .i .i64 0, .i .i64 0, .i .i64 0, .i .i64 0, .i .i64 0, .i .i64 0, .i .i64 0, .i .i64 0, .i .i64 0, .i .i64 0, .nl, .nl]) (.ag [.b false, .i .i64 0, .s ⟨#[]⟩, .i .i64 0, .i .i64 0, .i .i64 0, .i .i64 0, .i .i64 0, .i .i64 0, .i .i64 0, .i .i64 0, .i .i64 0, .i .i64 0, .i .i64 0, .i .i64 0, .i .i64 0, .ro true true 1 [], .ro true true 1 []]) :=
  deep_ag2 ⟨.inl rfl, rfl, rfl, rfl, rfl, rfl, rfl, rfl, rfl, rfl, rfl, rfl, rfl, rfl, rfl, rfl, ⟨_, _, rfl⟩, ⟨_, _, rfl⟩, trivial⟩
theorem jobAt_free {t : Nat} {j : Job} (h : j.busy = false) : jobAt t j = zeroJ j := by
  rw [jobAt, h]; rfl
theorem jobAt_no {t : Nat} {j : Job} (h : j.busy = true) (p : jobOk j = false ∨ ¬ (j.op.kind = 3 ↔ t = 3)) : jobAt t j = false := by
  rw [jobAt, if_pos h]
  rcases p with p | p
  · rw [p]; rfl
  · rw [show (decide (j.op.kind = 3) == decide (t = 3)) = false from by
      by_cases h1 : j.op.kind = 3 <;> by_cases h2 : t = 3 <;> simp_all]
    simp
theorem jobAt_yes {t : Nat} {j : Job} (h : j.busy = true) (p : jobOk j = true) (q : j.op.kind = 3 ↔ t = 3) : jobAt t j = true := by
  rw [jobAt, if_pos h, p]
  by_cases h1 : j.op.kind = 3 <;> by_cases h2 : t = 3 <;> simp_all
theorem impl_WorldOk (w : World') (hw : w.ok) : RO Cf Try.prog 24 [.ag (w.av true)] (.b (worldOk w)) := by
  have cC := impl_CellsOk w.cells hw.cells.1
  have cT := impl_TodoOk w.todo hw.todo
  have hj1 := hw.jobs.1
  simp only [maxLen] at hj1
  have hjm : (w.jobs.map (Job.av true)).length = w.jobs.length := List.length_map _
  have w1 := impl_within w.serial 0 1000000
  have w2 := impl_within w.now 0 1000000000
  have F := worldF w
  obtain ⟨W, hW⟩ : ∃ W, worldOk w = W := ⟨_, rfl⟩
  rw [hW] at F ⊢
  clear hW
  obtain ⟨C, hC⟩ : ∃ C, cellsOk w.cells = C := ⟨_, rfl⟩
  obtain ⟨T, hT⟩ : ∃ T, todoOk w.todo = T := ⟨_, rfl⟩
  obtain ⟨f1, f2, f3, f4, f5⟩ := F
  rw [hC] at cC f1 f5
  rw [hT] at cT f2 f5
  clear hC hT
  refine RO_of Cf_ok ?_
  repeat' first | refine And.intro rfl ?_ | (refine And.intro (fun h => ?_) (fun h => ?_) <;> (try simp only [decide_eq_true_eq, decide_eq_false_iff_not, Bool.not_eq_true', Bool.not_eq_false', Bool.and_eq_true, Bool.or_eq_true, Bool.not_eq_eq_eq_not, Bool.not_true, Bool.not_false, beq_iff_eq, bne_iff_ne, beq_eq_false_iff_ne, bne_eq_false_iff_eq, Nat.not_lt, Int.not_lt, Int.not_le, wrap_byteAt, List.length_map, eqB_Row, eqB_Op, eqB_Rec, toList_inj, toList_nil, ne_eq, Int.toNat_natCast] at h) <;> (try simp only [wrap64] at h) <;> (try (exfalso; first | exact absurd h Bool.false_ne_true | exact absurd h.symm Bool.false_ne_true | exact h trivial | exact h rfl | omega))) | refine And.intro ⟨by (first | omega | (simp only [pkW_Wn] at *; omega)), by (first | omega | (simp only [pkW_Wn] at *; omega))⟩ ?_ | refine And.intro (show (_ : Int) ≠ 0 by decide) ?_ | refine And.intro ⟨by (first | omega | (simp only [pkW_Wn] at *; omega)), by (first | omega | (simp only [pkW_Wn] at *; omega)), room (by exact rfl) (by (first | omega | (simp only [pkW_Wn] at *; omega))) (by (first | omega | (simp only [pkW_Wn] at *; omega)))⟩ ?_ | refine And.intro (roomN (by exact rfl) (by (first | omega | (simp only [pkW_Wn] at *; omega)))) ?_ | exact trivial | exact rfl | refine Exists.intro _ (And.intro rfl ?_) | refine' cut1 _ ?_ ?_ | refine And.intro (deep_ag (by exact rfl) (by exact rfl)) ?_ | refine And.intro (deep_ag2 (by repeat' first | exact trivial | refine And.intro (by exact rfl) ?_)) ?_ | refine And.intro (deep_sl (by exact rfl) (by first | exact (List.length_map _).symm | assumption | exact rfl | (simp; done))) ?_ | refine And.intro (deep_rows (by intro x hx; repeat' first | exact trivial | refine And.intro (by exact rfl) ?_)) ?_ | refine And.intro (by exact rfl) ?_ | refine And.intro (Or.inl (by exact rfl)) ?_ | refine' Or.inl (Exists.intro _ (And.intro ?_ (Exists.intro _ (And.intro (cC) (And.intro rfl ?_))))) | (refine' Or.inl (Exists.intro _ (And.intro ?_ (Exists.intro _ (And.intro (cT) (And.intro rfl ?_))))); focus (exact And.intro (deep_todo true _) trivial)) | (refine' Or.inl (Exists.intro _ (And.intro ?_ (Exists.intro _ (And.intro (w1) (And.intro rfl ?_))))); focus ((repeat' first | exact trivial | refine And.intro (deep_ag (by exact rfl) (by exact rfl)) ?_ | refine And.intro (deep_ag2 ?_) ?_ | refine And.intro (deep_sl (by exact rfl) (by first | exact (List.length_map _).symm | assumption | exact rfl | (simp; done))) ?_ | refine And.intro (deep_rows (by intro x hx; repeat' first | exact trivial | refine And.intro (by exact rfl) ?_)) ?_ | refine And.intro (by exact rfl) ?_ | refine And.intro (Or.inl (by exact rfl)) ?_); done)) | (refine' Or.inl (Exists.intro _ (And.intro ?_ (Exists.intro _ (And.intro (w2) (And.intro rfl ?_))))); focus ((repeat' first | exact trivial | refine And.intro (deep_ag (by exact rfl) (by exact rfl)) ?_ | refine And.intro (deep_ag2 ?_) ?_ | refine And.intro (deep_sl (by exact rfl) (by first | exact (List.length_map _).symm | assumption | exact rfl | (simp; done))) ?_ | refine And.intro (deep_rows (by intro x hx; repeat' first | exact trivial | refine And.intro (by exact rfl) ?_)) ?_ | refine And.intro (by exact rfl) ?_ | refine And.intro (Or.inl (by exact rfl)) ?_); done)) | refine And.intro (show ByteArray.size _ + ByteArray.size _ ≤ _ from by (first | omega | (simp only [size_mk, size_add, List.size_toArray, List.length_cons, List.length_nil, maxLen] at *; omega))) ?_ | refine Exists.intro _ (And.intro (by with_unfolding_all exact rfl) ?_) | refine And.intro (by decide +kernel) ?_ | refine Exists.intro _ (And.intro (at_map (by (first | omega | (simp only [pkW_Wn] at *; omega)))) ?_) | (refine wrap_id' ?_; (first | omega | (simp only [pkW_Wn] at *; omega))) | refine And.intro ?_ ?_ | fail
  all_goals first
    | exact back_k (f1 h).symm
    | exact back_k (f2 h).symm
    | exact back_k (f3 (fun q => h q.1)).symm
    | exact back_k (f3 (fun q => h q.2.1)).symm
    | (refine back_k (f3 ?_).symm; omega)
    | skip
  have hC : C = true := by assumption
  have hT : T = true := by assumption
  have h4 : w.jobs.length = 4 := by omega
  have hbn : (0 ≤ w.serial ∧ w.serial ≤ 1000000) ∧ (0 ≤ w.now ∧ w.now ≤ 1000000000) ∧ w.jobs.length = 4 := ⟨by assumption, by assumption, h4⟩
  have hend := f5 hC hT hbn
  clear f1 f2 f3 f5 cC cT w1 w2
  refine loop_nat 24 Cf_ok w.jobs.length (fun i (_ : Unit) => ⟨[.u, .u, .u, .u, .u, .u, .u, .u, .u, .u, .u, .u, .u, .u, .u, .u, .u, .u, .u, .u, .u, .u, .u, .u, .u, .u, .u, .u, .u, .u, .u, .u, .u, .u, .ro true false 18 (w.jobs.map (Job.av true)), .i .i64 (w.jobs.map (Job.av true)).length, .i .i64 i, .u, .u, .u, .u, .u, .u, .u, .u, .u, .u, .u, .u, .u, .u, .u, .u, .u, .u, .u, .u, .u, .u, .u, .u], [none, none, none, none, none, none, none, none, none, none, none, none, none, none, none, none, none, none, none, none, none, none, none, none, none, none, none, none, none, none, none, none, none, none, none, none, none, none, none, none, none, none, none, none, none, none, none, none, none, none, none, none, none, none, none, none, none, none, none, none, none], []⟩) (fun t _ => allI jobAt (w.jobs.drop t) t = allI jobAt w.jobs 0) ?hc ?_ ?_ () rfl
  case hc => decide +kernel
  · rintro t _ ht h2 ih
    rw [allI_at ht] at h2
    have hat := at_map (f := Job.av true) ht
    have ok := hw.jobs.2 _ (List.getElem_mem ht)
    have hno : jobAt t w.jobs[t] = false → W = false := fun z => f4 (by rw [← h2, z]; rfl)
    have hgo : jobAt t w.jobs[t] = true → allI jobAt (w.jobs.drop (t + 1)) (t + 1) = allI jobAt w.jobs 0 := fun z => by rw [← h2, z, Bool.true_and]
    clear h2 f4 hend
    generalize w.jobs[t] = j at *
    have cJ := impl_JobOk j ok
    have hfree : j.busy = false → RO Cf Try.prog 53 _ _ := fun hb => impl_sameJob j ok hb
    have hj0 : j.busy = false → jobAt t j = zeroJ j := fun hb => jobAt_free hb
    have hjn : j.busy = true → _ → jobAt t j = false := fun hb p => jobAt_no (t := t) hb p
    have hjy : j.busy = true → _ → _ → jobAt t j = true := fun hb p q => jobAt_yes (t := t) hb p q
    by_cases hb : j.busy = true
    · have hjn := hjn hb
      have hjy := hjy hb
      clear hfree hj0
      generalize jobOk j = JB at *
      repeat' first | refine And.intro rfl ?_ | (refine And.intro (fun h => ?_) (fun h => ?_) <;> (try simp only [decide_eq_true_eq, decide_eq_false_iff_not, Bool.not_eq_true', Bool.not_eq_false', Bool.and_eq_true, Bool.or_eq_true, Bool.not_eq_eq_eq_not, Bool.not_true, Bool.not_false, beq_iff_eq, bne_iff_ne, beq_eq_false_iff_ne, bne_eq_false_iff_eq, Nat.not_lt, Int.not_lt, Int.not_le, wrap_byteAt, List.length_map, eqB_Row, eqB_Op, eqB_Rec, toList_inj, toList_nil, ne_eq, Int.toNat_natCast] at h) <;> (try simp only [wrap64] at h) <;> (try (exfalso; first | exact absurd h Bool.false_ne_true | exact absurd h.symm Bool.false_ne_true | exact h trivial | exact h rfl | omega))) | refine And.intro ⟨by (first | omega | (simp only [pkW_Wn] at *; omega)), by (first | omega | (simp only [pkW_Wn] at *; omega))⟩ ?_ | refine And.intro (show (_ : Int) ≠ 0 by decide) ?_ | refine And.intro ⟨by (first | omega | (simp only [pkW_Wn] at *; omega)), by (first | omega | (simp only [pkW_Wn] at *; omega)), room (by exact rfl) (by (first | omega | (simp only [pkW_Wn] at *; omega))) (by (first | omega | (simp only [pkW_Wn] at *; omega)))⟩ ?_ | refine And.intro (roomN (by exact rfl) (by (first | omega | (simp only [pkW_Wn] at *; omega)))) ?_ | exact trivial | exact rfl | refine Exists.intro _ (And.intro rfl ?_) | refine' cut1 _ ?_ ?_ | refine And.intro (deep_ag (by exact rfl) (by exact rfl)) ?_ | refine And.intro (deep_ag2 (by repeat' first | exact trivial | refine And.intro (by exact rfl) ?_)) ?_ | refine And.intro (deep_sl (by exact rfl) (by first | exact (List.length_map _).symm | assumption | exact rfl | (simp; done))) ?_ | refine And.intro (deep_rows (by intro x hx; repeat' first | exact trivial | refine And.intro (by exact rfl) ?_)) ?_ | refine And.intro (by exact rfl) ?_ | refine And.intro (Or.inl (by exact rfl)) ?_ | refine Exists.intro _ (And.intro hat ?_) | (refine' Or.inl (Exists.intro _ (And.intro ?_ (Exists.intro _ (And.intro (cJ) (And.intro rfl ?_))))); focus (exact And.intro (deep_job1 j) trivial)) | refine ih _ () ?_ ?_ | refine And.intro (show ByteArray.size _ + ByteArray.size _ ≤ _ from by (first | omega | (simp only [size_mk, size_add, List.size_toArray, List.length_cons, List.length_nil, maxLen] at *; omega))) ?_ | refine Exists.intro _ (And.intro (by with_unfolding_all exact rfl) ?_) | refine And.intro (by decide +kernel) ?_ | refine Exists.intro _ (And.intro (at_map (by (first | omega | (simp only [pkW_Wn] at *; omega)))) ?_) | (refine wrap_id' ?_; (first | omega | (simp only [pkW_Wn] at *; omega))) | refine And.intro ?_ ?_ | fail
      all_goals first
        | (exfalso; omega)
        | exact back_k (hno (hjn (.inl h))).symm
        | (refine back_k (hno (hjn (.inr ?_))).symm; intro q; apply h; apply beq3'; omega)
        | (have q := beq3 h; refine Hold.mk (hgo (hjy (by assumption) ?_)); omega)
        | (exfalso; simp_all; done)
       
    · have hb : j.busy = false := by simpa using hb
      have cZ := hfree hb
      have hz := hj0 hb
      rw [hz] at hno hgo
      clear hfree hj0 hjn hjy cJ hz
      generalize zeroJ j = Z at *
      repeat' first | refine And.intro rfl ?_ | (refine And.intro (fun h => ?_) (fun h => ?_) <;> (try simp only [decide_eq_true_eq, decide_eq_false_iff_not, Bool.not_eq_true', Bool.not_eq_false', Bool.and_eq_true, Bool.or_eq_true, Bool.not_eq_eq_eq_not, Bool.not_true, Bool.not_false, beq_iff_eq, bne_iff_ne, beq_eq_false_iff_ne, bne_eq_false_iff_eq, Nat.not_lt, Int.not_lt, Int.not_le, wrap_byteAt, List.length_map, eqB_Row, eqB_Op, eqB_Rec, toList_inj, toList_nil, ne_eq, Int.toNat_natCast] at h) <;> (try simp only [wrap64] at h) <;> (try (exfalso; first | exact absurd h Bool.false_ne_true | exact absurd h.symm Bool.false_ne_true | exact h trivial | exact h rfl | omega))) | refine And.intro ⟨by (first | omega | (simp only [pkW_Wn] at *; omega)), by (first | omega | (simp only [pkW_Wn] at *; omega))⟩ ?_ | refine And.intro (show (_ : Int) ≠ 0 by decide) ?_ | refine And.intro ⟨by (first | omega | (simp only [pkW_Wn] at *; omega)), by (first | omega | (simp only [pkW_Wn] at *; omega)), room (by exact rfl) (by (first | omega | (simp only [pkW_Wn] at *; omega))) (by (first | omega | (simp only [pkW_Wn] at *; omega)))⟩ ?_ | refine And.intro (roomN (by exact rfl) (by (first | omega | (simp only [pkW_Wn] at *; omega)))) ?_ | exact trivial | exact rfl | refine Exists.intro _ (And.intro rfl ?_) | refine' cut1 _ ?_ ?_ | refine And.intro (deep_ag (by exact rfl) (by exact rfl)) ?_ | refine And.intro (deep_ag2 (by repeat' first | exact trivial | refine And.intro (by exact rfl) ?_)) ?_ | refine And.intro (deep_sl (by exact rfl) (by first | exact (List.length_map _).symm | assumption | exact rfl | (simp; done))) ?_ | refine And.intro (deep_rows (by intro x hx; repeat' first | exact trivial | refine And.intro (by exact rfl) ?_)) ?_ | refine And.intro (by exact rfl) ?_ | refine And.intro (Or.inl (by exact rfl)) ?_ | refine Exists.intro _ (And.intro hat ?_) | (refine' Or.inl (Exists.intro _ (And.intro ?_ (Exists.intro _ (And.intro (cZ) (And.intro rfl ?_))))); focus (exact And.intro (deep_job1 j) (And.intro deep_zero trivial))) | refine ih _ () ?_ ?_ | refine And.intro (show ByteArray.size _ + ByteArray.size _ ≤ _ from by (first | omega | (simp only [size_mk, size_add, List.size_toArray, List.length_cons, List.length_nil, maxLen] at *; omega))) ?_ | refine Exists.intro _ (And.intro (by with_unfolding_all exact rfl) ?_) | refine And.intro (by decide +kernel) ?_ | refine Exists.intro _ (And.intro (at_map (by (first | omega | (simp only [pkW_Wn] at *; omega)))) ?_) | (refine wrap_id' ?_; (first | omega | (simp only [pkW_Wn] at *; omega))) | refine And.intro ?_ ?_ | fail
      all_goals first
        | (exfalso; omega)
        | exact back_k (hno h).symm
        | exact Hold.mk (hgo h)
        | (exfalso; simp_all; done)
       
  · rintro _ h2
    rw [List.drop_length] at h2
    repeat' first | refine And.intro rfl ?_ | (refine And.intro (fun h => ?_) (fun h => ?_) <;> (try simp only [decide_eq_true_eq, decide_eq_false_iff_not, Bool.not_eq_true', Bool.not_eq_false', Bool.and_eq_true, Bool.or_eq_true, Bool.not_eq_eq_eq_not, Bool.not_true, Bool.not_false, beq_iff_eq, bne_iff_ne, beq_eq_false_iff_ne, bne_eq_false_iff_eq, Nat.not_lt, Int.not_lt, Int.not_le, wrap_byteAt, List.length_map, eqB_Row, eqB_Op, eqB_Rec, toList_inj, toList_nil, ne_eq, Int.toNat_natCast] at h) <;> (try simp only [wrap64] at h) <;> (try (exfalso; first | exact absurd h Bool.false_ne_true | exact absurd h.symm Bool.false_ne_true | exact h trivial | exact h rfl | omega))) | refine And.intro ⟨by (first | omega | (simp only [pkW_Wn] at *; omega)), by (first | omega | (simp only [pkW_Wn] at *; omega))⟩ ?_ | refine And.intro (show (_ : Int) ≠ 0 by decide) ?_ | refine And.intro ⟨by (first | omega | (simp only [pkW_Wn] at *; omega)), by (first | omega | (simp only [pkW_Wn] at *; omega)), room (by exact rfl) (by (first | omega | (simp only [pkW_Wn] at *; omega))) (by (first | omega | (simp only [pkW_Wn] at *; omega)))⟩ ?_ | refine And.intro (roomN (by exact rfl) (by (first | omega | (simp only [pkW_Wn] at *; omega)))) ?_ | exact trivial | exact rfl | refine Exists.intro _ (And.intro rfl ?_) | refine' cut1 _ ?_ ?_ | refine And.intro (deep_ag (by exact rfl) (by exact rfl)) ?_ | refine And.intro (deep_ag2 (by repeat' first | exact trivial | refine And.intro (by exact rfl) ?_)) ?_ | refine And.intro (deep_sl (by exact rfl) (by first | exact (List.length_map _).symm | assumption | exact rfl | (simp; done))) ?_ | refine And.intro (deep_rows (by intro x hx; repeat' first | exact trivial | refine And.intro (by exact rfl) ?_)) ?_ | refine And.intro (by exact rfl) ?_ | refine And.intro (Or.inl (by exact rfl)) ?_ | refine And.intro (show ByteArray.size _ + ByteArray.size _ ≤ _ from by (first | omega | (simp only [size_mk, size_add, List.size_toArray, List.length_cons, List.length_nil, maxLen] at *; omega))) ?_ | refine Exists.intro _ (And.intro (by with_unfolding_all exact rfl) ?_) | refine And.intro (by decide +kernel) ?_ | refine Exists.intro _ (And.intro (at_map (by (first | omega | (simp only [pkW_Wn] at *; omega)))) ?_) | (refine wrap_id' ?_; (first | omega | (simp only [pkW_Wn] at *; omega))) | refine And.intro ?_ ?_ | fail
    all_goals first
      | exact back_k (hend h2.symm).symm
      | (exfalso; omega)
     

end Go.Proofs.Ytbkejhjjojdmnaa.Ev
