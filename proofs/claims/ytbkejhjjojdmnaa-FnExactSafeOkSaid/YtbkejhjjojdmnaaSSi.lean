/- Contracts: what the functions of this part return, for arguments as each contract says. -/
import Derived.Test.YtbkejhjjojdmnaaEvD
import Derived.Test.YtbkejhjjojdmnaaEvTab
import Derived.Test.YtbkejhjjojdmnaaSTy
import Derived.Test.YtbkejhjjojdmnaaSKt
import Derived.Test.YtbkejhjjojdmnaaSKb
import Derived.Test.YtbkejhjjojdmnaaSLb
import Derived.Test.YtbkejhjjojdmnaaSOb
import Derived.Test.YtbkejhjjojdmnaaSRw
import Derived.Test.YtbkejhjjojdmnaaSFr
import Derived.Test.YtbkejhjjojdmnaaSEs
import Derived.Test.YtbkejhjjojdmnaaSWd
import Derived.Test.YtbkejhjjojdmnaaSWk
import Derived.Test.YtbkejhjjojdmnaaSWl
import Derived.Test.YtbkejhjjojdmnaaSWm
import Derived.Test.YtbkejhjjojdmnaaSSp
import Derived.Test.YtbkejhjjojdmnaaSKq
import Derived.Test.YtbkejhjjojdmnaaSKr
import Derived.Test.YtbkejhjjojdmnaaSKs
import Derived.Test.YtbkejhjjojdmnaaSKv
import Derived.Test.YtbkejhjjojdmnaaSKu
import Derived.Test.YtbkejhjjojdmnaaSKy
import Derived.Test.YtbkejhjjojdmnaaSWn
import Derived.Test.YtbkejhjjojdmnaaSWo
import Derived.Test.YtbkejhjjojdmnaaSIn
import Derived.Test.YtbkejhjjojdmnaaSSa
import Derived.Test.YtbkejhjjojdmnaaSIo
import Derived.Test.YtbkejhjjojdmnaaSSb
import Derived.Test.YtbkejhjjojdmnaaSSc
import Derived.Test.YtbkejhjjojdmnaaSSd
set_option linter.constructorNameAsVariable false
set_option linter.unusedVariables false
set_option linter.unusedSimpArgs false
set_option linter.unusedVariables false
set_option maxHeartbeats 4000000
set_option maxRecDepth 20000
set_option linter.unusedSimpArgs false
set_option linter.constructorNameAsVariable false
namespace Go.Proofs.Ytbkejhjjojdmnaa.Ev
open Go Go.Proofs
attribute [local irreducible] RO Fn IntKind.wrap TriL
/- SafeOk -/
theorem pkW_Si : (∀ n : Int, IntKind.i64.wrap n = (n + 9223372036854775808) % 18446744073709551616 - 9223372036854775808) ∧ maxLen = 2 ^ 63 - 1 ∧ (∀ (α β : Type) (f : α → β) (l : List α), (l.map f).length = l.length) ∧ (∀ (α : Type) (a b : List α), (a ++ b).length = a.length + b.length) ∧ (∀ (α : Type) (x : α) (l : List α), (x :: l).length = l.length + 1) ∧ (∀ α : Type, ([] : List α).length = 0) ∧ (∀ n : Nat, (n : Int).toNat = n) := ⟨wrap64, rfl, fun _ _ _ _ => List.length_map _, fun _ _ _ => List.length_append, fun _ _ _ => List.length_cons, fun _ => rfl, Int.toNat_natCast⟩
theorem deep_job {hp : Hp} (g : Bool) (x : Job) : All2 (Deep hp 2) (x.av g) (x.av true) := by
  unfold Job.av
  exact ⟨rfl, rfl, rfl, rfl, rfl, rfl, rfl, rfl, rfl, rfl, rfl, rfl, rfl, rfl, rfl, rfl, rfl, rfl, trivial⟩
theorem deep_queue {hp : Hp} (g : Bool) (x : Queue) : All2 (Deep hp 2) (x.av g) (x.av true) := by
  unfold Queue.av
  exact ⟨rfl, trivial⟩
theorem deep_evt {hp : Hp} (g : Bool) (x : Evt) : All2 (Deep hp 2) (x.av g) (x.av true) := by
  unfold Evt.av
  exact ⟨rfl, rfl, rfl, rfl, rfl, rfl, rfl, rfl, rfl, rfl, rfl, rfl, rfl, trivial⟩
theorem All2_map2 {α : Type} {f g : α → List AV} {R : List AV → List AV → Prop} : ∀ l : List α, (∀ x, R (f x) (g x)) → All2 R (l.map f) (l.map g)
  | [], _ => trivial
  | x :: l, h => ⟨h x, All2_map2 l h⟩
theorem deep_world {hp : Hp} (g : Bool) (w : World') : Deep hp 4 (.ag (w.av g)) (.ag (w.av true)) := by
  unfold World'.av
  exact deep_ag2 ⟨rfl, ⟨_, All2_map2 _ (fun x => deep_job g x), rfl⟩, ⟨_, All2_map2 _ (fun x => deep_queue g x), rfl⟩, ⟨_, All2_map2 _ (fun x => deep_evt g x), rfl⟩, rfl, rfl, trivial⟩
theorem cell_pos {a : List Int} (h : cellsOk a = true) (i : Nat) : 0 ≤ a.getD i 0 := by
  rw [cellsOk, Bool.and_eq_true, List.all_eq_true] at h
  rw [List.getD_eq_getElem?_getD]
  rcases Nat.lt_or_ge i a.length with hi | hi
  · rw [List.getElem?_eq_getElem hi]
    have := h.2 _ (List.getElem_mem hi)
    rw [wordOk, decide_eq_true_eq] at this
    exact this.1
  · rw [List.getElem?_eq_none hi]; exact Int.le_refl 0
theorem at_cell {a : List Int} (hl : a.length = 71) {i : Nat} (hi : i < 71) : at? (a.map iv) i = some (iv (a.getD i 0)) := by
  rw [at_map (by omega : i < a.length), List.getD_eq_getElem?_getD, List.getElem?_eq_getElem (by omega)]; rfl
theorem safe_false {B : Bool} {p : Prop} (h : B = true ↔ p) (q : ¬ p) : B = false := by
  cases B with
  | false => rfl
  | true => exact absurd (h.1 rfl) q
theorem spec_SafeOk (w : World') (hw : w.ok) : RO Cf Try.prog 5 [.ag (w.av true)] (.b (safeOk w)) := by
  have cO := spec_WorldOk w hw
  have cT := spec_TableOk w.cells hw.cells.1
  cases hwo : worldOk w with
  | false =>
    rw [safe_no (fun p => by have := p.o; rw [hwo] at this; cases this)]
    rw [hwo] at cO
    replace cO := RO_kt cO
    refine RO_of Cf_ok ?_
    repeat' first | refine And.intro rfl ?_ | (refine And.intro (fun h => ?_) (fun h => ?_) <;> (try simp only [decide_eq_true_eq, decide_eq_false_iff_not, Bool.not_eq_true', Bool.not_eq_false', Bool.and_eq_true, Bool.or_eq_true, Bool.not_eq_eq_eq_not, Bool.not_true, Bool.not_false, beq_iff_eq, bne_iff_ne, beq_eq_false_iff_ne, bne_eq_false_iff_eq, Nat.not_lt, Int.not_lt, Int.not_le, wrap_byteAt, List.length_map, eqB_Row, eqB_Op, eqB_Rec, toList_inj, toList_nil, ne_eq, Int.toNat_natCast] at h) <;> (try simp only [wrap64] at h) <;> (try (exfalso; first | exact absurd h Bool.false_ne_true | exact absurd h.symm Bool.false_ne_true | exact h trivial | exact h rfl | omega))) | refine And.intro ⟨by (first | omega | (simp only [pkW_Si] at *; omega)), by (first | omega | (simp only [pkW_Si] at *; omega))⟩ ?_ | refine And.intro (show (_ : Int) ≠ 0 by decide) ?_ | refine And.intro ⟨by (first | omega | (simp only [pkW_Si] at *; omega)), by (first | omega | (simp only [pkW_Si] at *; omega)), room (by exact rfl) (by (first | omega | (simp only [pkW_Si] at *; omega))) (by (first | omega | (simp only [pkW_Si] at *; omega)))⟩ ?_ | refine And.intro (roomN (by exact rfl) (by (first | omega | (simp only [pkW_Si] at *; omega)))) ?_ | exact trivial | exact rfl | refine Exists.intro _ (And.intro rfl ?_) | refine' cut1 _ ?_ ?_ | refine And.intro (deep_ag (by exact rfl) (by exact rfl)) ?_ | refine And.intro (deep_ag2 (by repeat' first | exact trivial | refine And.intro (by exact rfl) ?_)) ?_ | refine And.intro (deep_sl (by exact rfl) (by first | exact (List.length_map _).symm | assumption | exact rfl | (simp; done))) ?_ | refine And.intro (deep_rows (by intro x hx; repeat' first | exact trivial | refine And.intro (by exact rfl) ?_)) ?_ | refine And.intro (by exact rfl) ?_ | refine And.intro (Or.inl (by exact rfl)) ?_ | (refine' Or.inl (Exists.intro _ (And.intro ?_ (Exists.intro _ (And.intro (cO) (And.intro rfl ?_))))); focus (exact And.intro (deep_world true w) trivial)) | refine And.intro (show ByteArray.size _ + ByteArray.size _ ≤ _ from by (first | omega | (simp only [size_mk, size_add, List.size_toArray, List.length_cons, List.length_nil, maxLen] at *; omega))) ?_ | refine Exists.intro _ (And.intro (by with_unfolding_all exact rfl) ?_) | refine And.intro (by decide +kernel) ?_ | refine Exists.intro _ (And.intro (at_map (by (first | omega | (simp only [pkW_Si] at *; omega)))) ?_) | (refine wrap_id' ?_; (first | omega | (simp only [pkW_Si] at *; omega))) | refine And.intro ?_ ?_ | fail
    all_goals first
      | exact back_k rfl
     
  | true =>
    rw [hwo] at cO
    replace cO := RO_kt cO
    obtain ⟨hc, hj4, _⟩ := world_cells hwo
    obtain ⟨hlen, hI⟩ := cells_I64 hc
    have cA := spec_l17Alone w hw hwo
    cases hto : tableOk w.cells with
    | false =>
      rw [safe_no (fun p => by have := p.t; rw [hto] at this; cases this)]
      rw [hto] at cT
      replace cT := RO_kt cT
      refine RO_of Cf_ok ?_
      repeat' first | refine And.intro rfl ?_ | (refine And.intro (fun h => ?_) (fun h => ?_) <;> (try simp only [decide_eq_true_eq, decide_eq_false_iff_not, Bool.not_eq_true', Bool.not_eq_false', Bool.and_eq_true, Bool.or_eq_true, Bool.not_eq_eq_eq_not, Bool.not_true, Bool.not_false, beq_iff_eq, bne_iff_ne, beq_eq_false_iff_ne, bne_eq_false_iff_eq, Nat.not_lt, Int.not_lt, Int.not_le, wrap_byteAt, List.length_map, eqB_Row, eqB_Op, eqB_Rec, toList_inj, toList_nil, ne_eq, Int.toNat_natCast] at h) <;> (try simp only [wrap64] at h) <;> (try (exfalso; first | exact absurd h Bool.false_ne_true | exact absurd h.symm Bool.false_ne_true | exact h trivial | exact h rfl | omega))) | refine And.intro ⟨by (first | omega | (simp only [pkW_Si] at *; omega)), by (first | omega | (simp only [pkW_Si] at *; omega))⟩ ?_ | refine And.intro (show (_ : Int) ≠ 0 by decide) ?_ | refine And.intro ⟨by (first | omega | (simp only [pkW_Si] at *; omega)), by (first | omega | (simp only [pkW_Si] at *; omega)), room (by exact rfl) (by (first | omega | (simp only [pkW_Si] at *; omega))) (by (first | omega | (simp only [pkW_Si] at *; omega)))⟩ ?_ | refine And.intro (roomN (by exact rfl) (by (first | omega | (simp only [pkW_Si] at *; omega)))) ?_ | exact trivial | exact rfl | refine Exists.intro _ (And.intro rfl ?_) | refine' cut1 _ ?_ ?_ | refine And.intro (deep_ag (by exact rfl) (by exact rfl)) ?_ | refine And.intro (deep_ag2 (by repeat' first | exact trivial | refine And.intro (by exact rfl) ?_)) ?_ | refine And.intro (deep_sl (by exact rfl) (by first | exact (List.length_map _).symm | assumption | exact rfl | (simp; done))) ?_ | refine And.intro (deep_rows (by intro x hx; repeat' first | exact trivial | refine And.intro (by exact rfl) ?_)) ?_ | refine And.intro (by exact rfl) ?_ | refine And.intro (Or.inl (by exact rfl)) ?_ | (refine' Or.inl (Exists.intro _ (And.intro ?_ (Exists.intro _ (And.intro (cO) (And.intro rfl ?_))))); focus (exact And.intro (deep_world true w) trivial)) | refine' Or.inl (Exists.intro _ (And.intro ?_ (Exists.intro _ (And.intro (cT) (And.intro rfl ?_))))) | refine And.intro (show ByteArray.size _ + ByteArray.size _ ≤ _ from by (first | omega | (simp only [size_mk, size_add, List.size_toArray, List.length_cons, List.length_nil, maxLen] at *; omega))) ?_ | refine Exists.intro _ (And.intro (by with_unfolding_all exact rfl) ?_) | refine And.intro (by decide +kernel) ?_ | refine Exists.intro _ (And.intro (at_map (by (first | omega | (simp only [pkW_Si] at *; omega)))) ?_) | (refine wrap_id' ?_; (first | omega | (simp only [pkW_Si] at *; omega))) | refine And.intro ?_ ?_ | fail
      all_goals first
        | exact back_k rfl
       
    | true =>
      rw [hto] at cT
      replace cT := RO_kt cT
      cases hal : alone w.jobs with
      | false =>
        rw [safe_no (fun p => by have := p.a; rw [hal] at this; cases this)]
        rw [hal] at cA
        replace cA := RO_kt cA
        refine RO_of Cf_ok ?_
        repeat' first | refine And.intro rfl ?_ | (refine And.intro (fun h => ?_) (fun h => ?_) <;> (try simp only [decide_eq_true_eq, decide_eq_false_iff_not, Bool.not_eq_true', Bool.not_eq_false', Bool.and_eq_true, Bool.or_eq_true, Bool.not_eq_eq_eq_not, Bool.not_true, Bool.not_false, beq_iff_eq, bne_iff_ne, beq_eq_false_iff_ne, bne_eq_false_iff_eq, Nat.not_lt, Int.not_lt, Int.not_le, wrap_byteAt, List.length_map, eqB_Row, eqB_Op, eqB_Rec, toList_inj, toList_nil, ne_eq, Int.toNat_natCast] at h) <;> (try simp only [wrap64] at h) <;> (try (exfalso; first | exact absurd h Bool.false_ne_true | exact absurd h.symm Bool.false_ne_true | exact h trivial | exact h rfl | omega))) | refine And.intro ⟨by (first | omega | (simp only [pkW_Si] at *; omega)), by (first | omega | (simp only [pkW_Si] at *; omega))⟩ ?_ | refine And.intro (show (_ : Int) ≠ 0 by decide) ?_ | refine And.intro ⟨by (first | omega | (simp only [pkW_Si] at *; omega)), by (first | omega | (simp only [pkW_Si] at *; omega)), room (by exact rfl) (by (first | omega | (simp only [pkW_Si] at *; omega))) (by (first | omega | (simp only [pkW_Si] at *; omega)))⟩ ?_ | refine And.intro (roomN (by exact rfl) (by (first | omega | (simp only [pkW_Si] at *; omega)))) ?_ | exact trivial | exact rfl | refine Exists.intro _ (And.intro rfl ?_) | refine' cut1 _ ?_ ?_ | refine And.intro (deep_ag (by exact rfl) (by exact rfl)) ?_ | refine And.intro (deep_ag2 (by repeat' first | exact trivial | refine And.intro (by exact rfl) ?_)) ?_ | refine And.intro (deep_sl (by exact rfl) (by first | exact (List.length_map _).symm | assumption | exact rfl | (simp; done))) ?_ | refine And.intro (deep_rows (by intro x hx; repeat' first | exact trivial | refine And.intro (by exact rfl) ?_)) ?_ | refine And.intro (by exact rfl) ?_ | refine And.intro (Or.inl (by exact rfl)) ?_ | (refine' Or.inl (Exists.intro _ (And.intro ?_ (Exists.intro _ (And.intro (cO) (And.intro rfl ?_))))); focus (exact And.intro (deep_world true w) trivial)) | refine' Or.inl (Exists.intro _ (And.intro ?_ (Exists.intro _ (And.intro (cT) (And.intro rfl ?_))))) | (refine' Or.inl (Exists.intro _ (And.intro ?_ (Exists.intro _ (And.intro (cA) (And.intro rfl ?_))))); focus (exact And.intro (deep_world true w) trivial)) | refine And.intro (show ByteArray.size _ + ByteArray.size _ ≤ _ from by (first | omega | (simp only [size_mk, size_add, List.size_toArray, List.length_cons, List.length_nil, maxLen] at *; omega))) ?_ | refine Exists.intro _ (And.intro (by with_unfolding_all exact rfl) ?_) | refine And.intro (by decide +kernel) ?_ | refine Exists.intro _ (And.intro (at_map (by (first | omega | (simp only [pkW_Si] at *; omega)))) ?_) | (refine wrap_id' ?_; (first | omega | (simp only [pkW_Si] at *; omega))) | refine And.intro ?_ ?_ | fail
        all_goals first
          | exact back_k rfl
         
      | true =>
        rw [hal] at cA
        replace cA := RO_kt cA
        have cI := spec_Inside w hw
        have hat0 := at_cell hlen (i := 0) (by omega)
        have hat1 := at_cell hlen (i := 1) (by omega)
        have hat2 := at_cell hlen (i := 2) (by omega)
        have hp0 := cell_pos hc 0
        have hlm : (w.cells.map iv).length = 71 := by rw [List.length_map]; exact hlen
        have d0 := spec_Draining w hw 0
        have d1 := spec_Draining w hw 1
        have b0 := spec_BufClear w.cells hc 0 (by omega) (by omega)
        have b1 := spec_BufClear w.cells hc 1 (by omega) (by omega)
        have i0 := spec_InCell 0 (by omega) (by omega)
        have i1 := spec_InCell 1 (by omega) (by omega)
        have hS : safeOk w = true ↔ w.cells.getD 1 0 = insN 0 w.jobs ∧ w.cells.getD 2 0 = insN 1 w.jobs ∧ (w.cells.getD 0 0 % 2 = 1 → draining w.jobs 0 = true ∨ bufClear w.cells 0 = true) ∧ (w.cells.getD 0 0 % 2 = 0 → draining w.jobs 1 = true ∨ bufClear w.cells 1 = true) := by
          simp only [safeOk, decide_eq_true_eq]
          exact ⟨fun p => ⟨p.n0, p.n1, p.b0, p.b1⟩, fun p => ⟨hwo, hto, hal, p.1, p.2.1, p.2.2.1, p.2.2.2⟩⟩
        have hm : (w.cells.getD 0 0).tmod 2 = w.cells.getD 0 0 % 2 := Int.tmod_eq_emod_of_nonneg hp0
        simp only [Int.toNat_zero, Int.toNat_one] at b0 b1
        generalize safeOk w = B at *
        generalize draining w.jobs 0 = D0 at *
        generalize draining w.jobs 1 = D1 at *
        generalize bufClear w.cells 0 = B0 at *
        generalize bufClear w.cells 1 = B1 at *
        generalize insN 0 w.jobs = n0 at *
        generalize insN 1 w.jobs = n1 at *
        generalize w.cells.getD 0 0 = x0 at *
        generalize w.cells.getD 1 0 = x1 at *
        generalize w.cells.getD 2 0 = x2 at *
        have mod0 : ¬ x0.tmod 2 = ((0 : Nat) : Int) → x0 % 2 = 1 := fun q => by omega
        have mod1 : ¬ x0.tmod 2 = ((1 : Nat) : Int) → x0 % 2 = 0 := fun q => by omega
        refine RO_of Cf_ok ?_
        repeat' first | refine And.intro rfl ?_ | (refine And.intro (fun h => ?_) (fun h => ?_) <;> (try simp only [decide_eq_true_eq, decide_eq_false_iff_not, Bool.not_eq_true', Bool.not_eq_false', Bool.and_eq_true, Bool.or_eq_true, Bool.not_eq_eq_eq_not, Bool.not_true, Bool.not_false, beq_iff_eq, bne_iff_ne, beq_eq_false_iff_ne, bne_eq_false_iff_eq, Nat.not_lt, Int.not_lt, Int.not_le, wrap_byteAt, List.length_map, eqB_Row, eqB_Op, eqB_Rec, toList_inj, toList_nil, ne_eq, Int.toNat_natCast] at h) <;> (try simp only [wrap64] at h) <;> (try (exfalso; first | exact absurd h Bool.false_ne_true | exact absurd h.symm Bool.false_ne_true | exact h trivial | exact h rfl | omega))) | refine And.intro ⟨by (first | omega | (simp only [pkW_Si] at *; omega)), by (first | omega | (simp only [pkW_Si] at *; omega))⟩ ?_ | refine And.intro (show (_ : Int) ≠ 0 by decide) ?_ | refine And.intro ⟨by (first | omega | (simp only [pkW_Si] at *; omega)), by (first | omega | (simp only [pkW_Si] at *; omega)), room (by exact rfl) (by (first | omega | (simp only [pkW_Si] at *; omega))) (by (first | omega | (simp only [pkW_Si] at *; omega)))⟩ ?_ | refine And.intro (roomN (by exact rfl) (by (first | omega | (simp only [pkW_Si] at *; omega)))) ?_ | exact trivial | exact rfl | refine Exists.intro _ (And.intro rfl ?_) | refine' cut1 _ ?_ ?_ | refine And.intro (deep_ag (by exact rfl) (by exact rfl)) ?_ | refine And.intro (deep_ag2 (by repeat' first | exact trivial | refine And.intro (by exact rfl) ?_)) ?_ | refine And.intro (deep_sl (by exact rfl) (by first | exact (List.length_map _).symm | assumption | exact rfl | (simp; done))) ?_ | refine And.intro (deep_rows (by intro x hx; repeat' first | exact trivial | refine And.intro (by exact rfl) ?_)) ?_ | refine And.intro (by exact rfl) ?_ | refine And.intro (Or.inl (by exact rfl)) ?_ | (refine' Or.inl (Exists.intro _ (And.intro ?_ (Exists.intro _ (And.intro (cO) (And.intro rfl ?_))))); focus (exact And.intro (deep_world true w) trivial)) | refine' Or.inl (Exists.intro _ (And.intro ?_ (Exists.intro _ (And.intro (cT) (And.intro rfl ?_))))) | (refine' Or.inl (Exists.intro _ (And.intro ?_ (Exists.intro _ (And.intro (cA) (And.intro rfl ?_))))); focus (exact And.intro (deep_world true w) trivial)) | (refine' Or.inr (Or.inl (And.intro rfl (Exists.intro _ (And.intro ?_ (Exists.intro _ (Exists.intro _ (And.intro (cI) (And.intro rfl ?_)))))))); focus (exact And.intro (deep_world true w) trivial)) | refine And.intro (show ByteArray.size _ + ByteArray.size _ ≤ _ from by (first | omega | (simp only [size_mk, size_add, List.size_toArray, List.length_cons, List.length_nil, maxLen] at *; omega))) ?_ | refine Exists.intro _ (And.intro (by with_unfolding_all exact rfl) ?_) | refine And.intro (by decide +kernel) ?_ | refine Exists.intro _ (And.intro (at_map (by (first | omega | (simp only [pkW_Si] at *; omega)))) ?_) | (refine wrap_id' ?_; (first | omega | (simp only [pkW_Si] at *; omega))) | refine And.intro ?_ ?_ | fail
        refine loop_nat 5 Cf_ok 2 (fun i (_ : Unit) => ⟨[.u, .lp 1 0, .u, .sl 0 0 2, .i .i64 i, .u, .u, .u, .u, .u, .u, .u, .u, .u, .u, .u, .u, .u, .u, .u, .u, .u, .u, .u, .u, .u, .u, .u, .u, .u, .u, .u, .u, .u, .u, .u, .u, .u, .u, .u, .u, .u, .u, .u, .u, .u, .u, .u, .u, .u, .u, .u, .u, .u, .u, .u], [none, some (w.av true), none, none, none, none, none, none, none, none, none, none, none, none, none, none, none, none, none, none, none, none, none, none, none, none, none, none, none, none, none, none, none, none, none, none, none, none, none, none, none, none, none, none, none, none, none, none, none, none, none, none, none, none, none, none], [some ⟨1, true, two (n0, n1)⟩]⟩)
          (fun k _ => (1 ≤ k → x1 = n0 ∧ (x0 % 2 = 1 → D0 = true ∨ B0 = true)) ∧ (2 ≤ k → x2 = n1 ∧ (x0 % 2 = 0 → D1 = true ∨ B1 = true))) ?hc ?_ ?_ () ?_
        case hc => decide +kernel
        · rintro k _ hk h2 ih
          rcases (by omega : k = 0 ∨ k = 1) with rfl | rfl
          · repeat' first | refine And.intro rfl ?_ | (refine And.intro (fun h => ?_) (fun h => ?_) <;> (try simp only [decide_eq_true_eq, decide_eq_false_iff_not, Bool.not_eq_true', Bool.not_eq_false', Bool.and_eq_true, Bool.or_eq_true, Bool.not_eq_eq_eq_not, Bool.not_true, Bool.not_false, beq_iff_eq, bne_iff_ne, beq_eq_false_iff_ne, bne_eq_false_iff_eq, Nat.not_lt, Int.not_lt, Int.not_le, wrap_byteAt, List.length_map, eqB_Row, eqB_Op, eqB_Rec, toList_inj, toList_nil, ne_eq, Int.toNat_natCast] at h) <;> (try simp only [wrap64] at h) <;> (try (exfalso; first | exact absurd h Bool.false_ne_true | exact absurd h.symm Bool.false_ne_true | exact h trivial | exact h rfl | omega))) | refine And.intro ⟨by (first | omega | (simp only [pkW_Si] at *; omega)), by (first | omega | (simp only [pkW_Si] at *; omega))⟩ ?_ | refine And.intro (show (_ : Int) ≠ 0 by decide) ?_ | refine And.intro ⟨by (first | omega | (simp only [pkW_Si] at *; omega)), by (first | omega | (simp only [pkW_Si] at *; omega)), room (by exact rfl) (by (first | omega | (simp only [pkW_Si] at *; omega))) (by (first | omega | (simp only [pkW_Si] at *; omega)))⟩ ?_ | refine And.intro (roomN (by exact rfl) (by (first | omega | (simp only [pkW_Si] at *; omega)))) ?_ | exact trivial | exact rfl | refine Exists.intro _ (And.intro rfl ?_) | refine' cut1 _ ?_ ?_ | refine And.intro (deep_ag (by exact rfl) (by exact rfl)) ?_ | refine And.intro (deep_ag2 (by repeat' first | exact trivial | refine And.intro (by exact rfl) ?_)) ?_ | refine And.intro (deep_sl (by exact rfl) (by first | exact (List.length_map _).symm | assumption | exact rfl | (simp; done))) ?_ | refine And.intro (deep_rows (by intro x hx; repeat' first | exact trivial | refine And.intro (by exact rfl) ?_)) ?_ | refine And.intro (by exact rfl) ?_ | refine And.intro (Or.inl (by exact rfl)) ?_ | refine Exists.intro _ (And.intro hat0 ?_) | refine Exists.intro _ (And.intro hat1 ?_) | refine' Or.inl (Exists.intro _ (And.intro ?_ (Exists.intro _ (And.intro (i0) (And.intro rfl ?_))))) | refine' Or.inl (Exists.intro _ (And.intro ?_ (Exists.intro _ (And.intro (b0) (And.intro rfl ?_))))) | (refine' Or.inl (Exists.intro _ (And.intro ?_ (Exists.intro _ (And.intro (d0) (And.intro rfl ?_))))); focus (exact And.intro (deep_world true w) (And.intro rfl trivial))) | refine ih _ () ?_ ?_ | refine And.intro (show ByteArray.size _ + ByteArray.size _ ≤ _ from by (first | omega | (simp only [size_mk, size_add, List.size_toArray, List.length_cons, List.length_nil, maxLen] at *; omega))) ?_ | refine Exists.intro _ (And.intro (by with_unfolding_all exact rfl) ?_) | refine And.intro (by decide +kernel) ?_ | refine Exists.intro _ (And.intro (at_map (by (first | omega | (simp only [pkW_Si] at *; omega)))) ?_) | (refine wrap_id' ?_; (first | omega | (simp only [pkW_Si] at *; omega))) | refine And.intro ?_ ?_ | fail
            all_goals first
              | (refine back_k (safe_false hS (fun q => ?_)).symm; exact h q.1)
              | (refine back_k (safe_false hS (fun q => ?_)).symm; have q4 := q.2.2.1 (mod0 (by assumption)); rcases q4 with q4 | q4 <;> simp_all; done)
              | (refine Hold.mk ⟨fun _ => ⟨by assumption, fun q => ?_⟩, fun q => absurd q (by omega)⟩; first | exact Or.inr (by assumption) | exact Or.inl (by assumption) | (exfalso; omega))
             
          · repeat' first | refine And.intro rfl ?_ | (refine And.intro (fun h => ?_) (fun h => ?_) <;> (try simp only [decide_eq_true_eq, decide_eq_false_iff_not, Bool.not_eq_true', Bool.not_eq_false', Bool.and_eq_true, Bool.or_eq_true, Bool.not_eq_eq_eq_not, Bool.not_true, Bool.not_false, beq_iff_eq, bne_iff_ne, beq_eq_false_iff_ne, bne_eq_false_iff_eq, Nat.not_lt, Int.not_lt, Int.not_le, wrap_byteAt, List.length_map, eqB_Row, eqB_Op, eqB_Rec, toList_inj, toList_nil, ne_eq, Int.toNat_natCast] at h) <;> (try simp only [wrap64] at h) <;> (try (exfalso; first | exact absurd h Bool.false_ne_true | exact absurd h.symm Bool.false_ne_true | exact h trivial | exact h rfl | omega))) | refine And.intro ⟨by (first | omega | (simp only [pkW_Si] at *; omega)), by (first | omega | (simp only [pkW_Si] at *; omega))⟩ ?_ | refine And.intro (show (_ : Int) ≠ 0 by decide) ?_ | refine And.intro ⟨by (first | omega | (simp only [pkW_Si] at *; omega)), by (first | omega | (simp only [pkW_Si] at *; omega)), room (by exact rfl) (by (first | omega | (simp only [pkW_Si] at *; omega))) (by (first | omega | (simp only [pkW_Si] at *; omega)))⟩ ?_ | refine And.intro (roomN (by exact rfl) (by (first | omega | (simp only [pkW_Si] at *; omega)))) ?_ | exact trivial | exact rfl | refine Exists.intro _ (And.intro rfl ?_) | refine' cut1 _ ?_ ?_ | refine And.intro (deep_ag (by exact rfl) (by exact rfl)) ?_ | refine And.intro (deep_ag2 (by repeat' first | exact trivial | refine And.intro (by exact rfl) ?_)) ?_ | refine And.intro (deep_sl (by exact rfl) (by first | exact (List.length_map _).symm | assumption | exact rfl | (simp; done))) ?_ | refine And.intro (deep_rows (by intro x hx; repeat' first | exact trivial | refine And.intro (by exact rfl) ?_)) ?_ | refine And.intro (by exact rfl) ?_ | refine And.intro (Or.inl (by exact rfl)) ?_ | refine Exists.intro _ (And.intro hat0 ?_) | refine Exists.intro _ (And.intro hat2 ?_) | refine' Or.inl (Exists.intro _ (And.intro ?_ (Exists.intro _ (And.intro (i1) (And.intro rfl ?_))))) | refine' Or.inl (Exists.intro _ (And.intro ?_ (Exists.intro _ (And.intro (b1) (And.intro rfl ?_))))) | (refine' Or.inl (Exists.intro _ (And.intro ?_ (Exists.intro _ (And.intro (d1) (And.intro rfl ?_))))); focus (exact And.intro (deep_world true w) (And.intro rfl trivial))) | refine ih _ () ?_ ?_ | refine And.intro (show ByteArray.size _ + ByteArray.size _ ≤ _ from by (first | omega | (simp only [size_mk, size_add, List.size_toArray, List.length_cons, List.length_nil, maxLen] at *; omega))) ?_ | refine Exists.intro _ (And.intro (by with_unfolding_all exact rfl) ?_) | refine And.intro (by decide +kernel) ?_ | refine Exists.intro _ (And.intro (at_map (by (first | omega | (simp only [pkW_Si] at *; omega)))) ?_) | (refine wrap_id' ?_; (first | omega | (simp only [pkW_Si] at *; omega))) | refine And.intro ?_ ?_ | fail
            all_goals first
              | (refine back_k (safe_false hS (fun q => ?_)).symm; exact h q.2.1)
              | (refine back_k (safe_false hS (fun q => ?_)).symm; have q4 := q.2.2.2 (mod1 (by assumption)); rcases q4 with q4 | q4 <;> simp_all; done)
              | (refine Hold.mk ⟨fun _ => h2.1 (by omega), fun _ => ⟨by assumption, fun q => ?_⟩⟩; first | exact Or.inr (by assumption) | exact Or.inl (by assumption) | (exfalso; omega))
             
        · rintro _ h2
          repeat' first | refine And.intro rfl ?_ | (refine And.intro (fun h => ?_) (fun h => ?_) <;> (try simp only [decide_eq_true_eq, decide_eq_false_iff_not, Bool.not_eq_true', Bool.not_eq_false', Bool.and_eq_true, Bool.or_eq_true, Bool.not_eq_eq_eq_not, Bool.not_true, Bool.not_false, beq_iff_eq, bne_iff_ne, beq_eq_false_iff_ne, bne_eq_false_iff_eq, Nat.not_lt, Int.not_lt, Int.not_le, wrap_byteAt, List.length_map, eqB_Row, eqB_Op, eqB_Rec, toList_inj, toList_nil, ne_eq, Int.toNat_natCast] at h) <;> (try simp only [wrap64] at h) <;> (try (exfalso; first | exact absurd h Bool.false_ne_true | exact absurd h.symm Bool.false_ne_true | exact h trivial | exact h rfl | omega))) | refine And.intro ⟨by (first | omega | (simp only [pkW_Si] at *; omega)), by (first | omega | (simp only [pkW_Si] at *; omega))⟩ ?_ | refine And.intro (show (_ : Int) ≠ 0 by decide) ?_ | refine And.intro ⟨by (first | omega | (simp only [pkW_Si] at *; omega)), by (first | omega | (simp only [pkW_Si] at *; omega)), room (by exact rfl) (by (first | omega | (simp only [pkW_Si] at *; omega))) (by (first | omega | (simp only [pkW_Si] at *; omega)))⟩ ?_ | refine And.intro (roomN (by exact rfl) (by (first | omega | (simp only [pkW_Si] at *; omega)))) ?_ | exact trivial | exact rfl | refine Exists.intro _ (And.intro rfl ?_) | refine' cut1 _ ?_ ?_ | refine And.intro (deep_ag (by exact rfl) (by exact rfl)) ?_ | refine And.intro (deep_ag2 (by repeat' first | exact trivial | refine And.intro (by exact rfl) ?_)) ?_ | refine And.intro (deep_sl (by exact rfl) (by first | exact (List.length_map _).symm | assumption | exact rfl | (simp; done))) ?_ | refine And.intro (deep_rows (by intro x hx; repeat' first | exact trivial | refine And.intro (by exact rfl) ?_)) ?_ | refine And.intro (by exact rfl) ?_ | refine And.intro (Or.inl (by exact rfl)) ?_ | refine And.intro (show ByteArray.size _ + ByteArray.size _ ≤ _ from by (first | omega | (simp only [size_mk, size_add, List.size_toArray, List.length_cons, List.length_nil, maxLen] at *; omega))) ?_ | refine Exists.intro _ (And.intro (by with_unfolding_all exact rfl) ?_) | refine And.intro (by decide +kernel) ?_ | refine Exists.intro _ (And.intro (at_map (by (first | omega | (simp only [pkW_Si] at *; omega)))) ?_) | (refine wrap_id' ?_; (first | omega | (simp only [pkW_Si] at *; omega))) | refine And.intro ?_ ?_ | fail
          all_goals first
            | exact back_k (hS.2 ⟨(h2.1 (by omega)).1, (h2.2 (by omega)).1, (h2.1 (by omega)).2, (h2.2 (by omega)).2⟩).symm
           
        · exact ⟨fun q => absurd q (by omega), fun q => absurd q (by omega)⟩

end Go.Proofs.Ytbkejhjjojdmnaa.Ev
