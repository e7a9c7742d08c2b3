/- Contracts: what the functions of this part return, for arguments as each contract says. -/
import Derived.Test.YthnjhephkbokeaaDoorEvD
import Derived.Test.YthnjhephkbokeaaDoorEvTab
import Derived.Test.YthnjhephkbokeaaDoorSTy
import Derived.Test.YthnjhephkbokeaaDoorSKb
import Derived.Test.YthnjhephkbokeaaDoorSLb
import Derived.Test.YthnjhephkbokeaaDoorSMk
import Derived.Test.YthnjhephkbokeaaDoorSSp
import Derived.Test.YthnjhephkbokeaaDoorSSq
import Derived.Test.YthnjhephkbokeaaDoorSLn
set_option linter.constructorNameAsVariable false
set_option linter.unusedVariables false
set_option linter.unusedSimpArgs false
set_option linter.unusedVariables false
set_option maxHeartbeats 4000000
set_option maxRecDepth 20000
set_option linter.unusedSimpArgs false
set_option linter.constructorNameAsVariable false
namespace Go.Proofs.YthnjhephkbokeaaDoor.Ev
open Go Go.Proofs
attribute [local irreducible] RO Fn IntKind.wrap TriL
theorem filt_len (c : Int) : ∀ l : List UInt8, ((splitB c l).filter fun p => decide (p ≠ [])).length ≤ l.length
  | [] => by simp [splitB]
  | x :: l => by
    have ih := filt_len c l
    rw [splitB]
    by_cases hx : (x.toNat : Int) = c
    · rw [if_pos hx, List.filter_cons, if_neg (by simp), List.length_cons]; omega
    · rw [if_neg hx]
      cases hs : splitB c l with
      | nil => simp
      | cons p ps =>
        rw [hs, List.filter_cons] at ih
        rw [List.filter_cons, if_pos (by simp), List.length_cons, List.length_cons]
        split at ih
        · rw [List.length_cons] at ih; omega
        · omega
theorem linesS_len (s : ByteArray) : (linesS s).length ≤ s.size := by
  have h := filt_len 10 (bs s)
  rw [bs_len] at h
  refine Nat.le_trans ?_ h
  have e : ∀ L : List (List UInt8), ((L.map ofBs).filter fun x => decide (x ≠ ⟨#[]⟩)).length ≤ (L.filter fun p => decide (p ≠ [])).length := by
    intro L
    induction L with
    | nil => simp
    | cons p L ih =>
      rw [List.map_cons, List.filter_cons, List.filter_cons]
      by_cases hp : p = []
      · subst hp
        rw [if_neg (by simp [ofBs]), if_neg (by simp)]; exact ih
      · rw [if_pos (show decide (p ≠ []) = true by simpa using hp)]
        split
        · simpa using ih
        · rw [List.length_cons]; omega
  exact e _
theorem ro_specLinesIn (s : ByteArray) (hs : s.size ≤ 1048576) : RO Cf Tryd.prog 5 [.s s] (.ro false true 1 ((linesS s).map sv)) :=
  RO_of_Fn (spec_LinesIn s hs) ⟨_, cut_full _ (by simp), rfl⟩
theorem ro_implLinesIn (s : ByteArray) (hs : s.size ≤ 1048576) : RO Cf Tryd.prog 6 [.s s] (.ro false true 1 ((linesS s).map sv)) :=
  RO_of_Fn (impl_LinesIn s hs) ⟨_, cut_full _ (by simp), rfl⟩
theorem law_FnExactLinesIn (s : ByteArray) (hs : s.size ≤ maxLen) : RO Cf Tryd.prog 3 [.s s] (.b true) := by
  by_cases h0 : s.size ≤ 1048576
  · have hl := linesS_len s
    have hl1 : (linesS s).length ≤ 9223372036854775807 := by omega
    have hl2 : (linesS s).length ≤ 1048576 := by omega
    refine RO_of Cf_ok ?_
    repeat' first | refine And.intro rfl ?_ | (refine And.intro (fun h => ?_) (fun h => ?_) <;> (try simp only [decide_eq_true_eq, decide_eq_false_iff_not, Bool.not_eq_true', Bool.not_eq_false', Bool.and_eq_true, Bool.or_eq_true, Bool.not_eq_eq_eq_not, Bool.not_true, Bool.not_false, beq_iff_eq, bne_iff_ne, beq_eq_false_iff_ne, bne_eq_false_iff_eq, Nat.not_lt, Int.not_lt, Int.not_le, wrap_byteAt, List.length_map, eqB_Row, eqB_Op, eqB_Rec, toList_inj, toList_nil, ne_eq, Int.toNat_natCast] at h) <;> (try simp only [wrap64] at h) <;> (try (exfalso; first | (cases h; done) | exact h trivial | exact h rfl | omega))) | refine And.intro ⟨by (first | omega | (simp only [wrap64, maxLen, List.length_map, List.length_append, List.length_cons, List.length_nil, Int.toNat_natCast] at *; omega)), by (first | omega | (simp only [wrap64, maxLen, List.length_map, List.length_append, List.length_cons, List.length_nil, Int.toNat_natCast] at *; omega))⟩ ?_ | refine And.intro (show (_ : Int) ≠ 0 by decide) ?_ | refine And.intro ⟨by (first | omega | (simp only [wrap64, maxLen, List.length_map, List.length_append, List.length_cons, List.length_nil, Int.toNat_natCast] at *; omega)), by (first | omega | (simp only [wrap64, maxLen, List.length_map, List.length_append, List.length_cons, List.length_nil, Int.toNat_natCast] at *; omega)), room (by exact rfl) (by (first | omega | (simp only [wrap64, maxLen, List.length_map, List.length_append, List.length_cons, List.length_nil, Int.toNat_natCast] at *; omega))) (by (first | omega | (simp only [wrap64, maxLen, List.length_map, List.length_append, List.length_cons, List.length_nil, Int.toNat_natCast] at *; omega)))⟩ ?_ | refine And.intro (roomN (by exact rfl) (by (first | omega | (simp only [wrap64, maxLen, List.length_map, List.length_append, List.length_cons, List.length_nil, Int.toNat_natCast] at *; omega)))) ?_ | exact trivial | exact rfl | refine Exists.intro _ (And.intro rfl ?_) | refine' cut1 _ ?_ ?_ | refine And.intro (deep_ag (by exact rfl) (by exact rfl)) ?_ | refine And.intro (deep_ag2 (by repeat' first | exact trivial | refine And.intro (by exact rfl) ?_)) ?_ | refine And.intro (deep_sl (by exact rfl) (by first | exact (List.length_map _).symm | assumption | exact rfl | (simp; done))) ?_ | refine And.intro (deep_rows (by intro x hx; repeat' first | exact trivial | refine And.intro (by exact rfl) ?_)) ?_ | refine And.intro (by exact rfl) ?_ | refine And.intro (Or.inl (by exact rfl)) ?_ | refine' Or.inl (Exists.intro _ (And.intro ?_ (Exists.intro _ (And.intro (ro_specLinesIn s h0) (And.intro rfl ?_))))) | refine' Or.inr (Or.inl (And.intro rfl (Exists.intro _ (And.intro ?_ (Exists.intro _ (Exists.intro _ (And.intro (impl_LinesIn s h0) (And.intro rfl ?_)))))))) | refine' Or.inl (Exists.intro _ (And.intro ?_ (Exists.intro _ (And.intro (laws_eqStringS _ _ _ _) (And.intro rfl ?_))))) | assumption | refine' Or.inr (Or.inr (Or.inl (And.intro rfl (And.intro rfl (Exists.intro _ (Exists.intro _ (And.intro (Fn_at1 0 (laws_markStringS (linesS s) hl2 1 (by omega) (by omega)) rfl rfl rfl rfl rfl rfl) ?_))))))) | refine' Or.inl (Exists.intro _ (And.intro ?_ (Exists.intro _ (And.intro (laws_heldStringS 1 (by omega) (by omega) (linesS s).length hl2) (And.intro rfl ?_))))) | refine And.intro (show ByteArray.size _ + ByteArray.size _ ≤ _ from by (first | omega | (simp only [size_mk, size_add, List.size_toArray, List.length_cons, List.length_nil, maxLen] at *; omega))) ?_ | refine Exists.intro _ (And.intro (by with_unfolding_all exact rfl) ?_) | refine And.intro (by decide +kernel) ?_ | refine Exists.intro _ (And.intro (at_map (by (first | omega | (simp only [wrap64, maxLen, List.length_map, List.length_append, List.length_cons, List.length_nil, Int.toNat_natCast] at *; omega)))) ?_) | (refine wrap_id' ?_; (first | omega | (simp only [wrap64, maxLen, List.length_map, List.length_append, List.length_cons, List.length_nil, Int.toNat_natCast] at *; omega))) | refine And.intro ?_ ?_ | fail
    all_goals exact back_k rfl
  · refine RO_of Cf_ok ?_
    repeat' first | refine And.intro rfl ?_ | (refine And.intro (fun h => ?_) (fun h => ?_) <;> (try simp only [decide_eq_true_eq, decide_eq_false_iff_not, Bool.not_eq_true', Bool.not_eq_false', Bool.and_eq_true, Bool.or_eq_true, Bool.not_eq_eq_eq_not, Bool.not_true, Bool.not_false, beq_iff_eq, bne_iff_ne, beq_eq_false_iff_ne, bne_eq_false_iff_eq, Nat.not_lt, Int.not_lt, Int.not_le, wrap_byteAt, List.length_map, eqB_Row, eqB_Op, eqB_Rec, toList_inj, toList_nil, ne_eq, Int.toNat_natCast] at h) <;> (try simp only [wrap64] at h) <;> (try (exfalso; first | (cases h; done) | exact h trivial | exact h rfl | omega))) | refine And.intro ⟨by (first | omega | (simp only [wrap64, maxLen, List.length_map, List.length_append, List.length_cons, List.length_nil, Int.toNat_natCast] at *; omega)), by (first | omega | (simp only [wrap64, maxLen, List.length_map, List.length_append, List.length_cons, List.length_nil, Int.toNat_natCast] at *; omega))⟩ ?_ | refine And.intro (show (_ : Int) ≠ 0 by decide) ?_ | refine And.intro ⟨by (first | omega | (simp only [wrap64, maxLen, List.length_map, List.length_append, List.length_cons, List.length_nil, Int.toNat_natCast] at *; omega)), by (first | omega | (simp only [wrap64, maxLen, List.length_map, List.length_append, List.length_cons, List.length_nil, Int.toNat_natCast] at *; omega)), room (by exact rfl) (by (first | omega | (simp only [wrap64, maxLen, List.length_map, List.length_append, List.length_cons, List.length_nil, Int.toNat_natCast] at *; omega))) (by (first | omega | (simp only [wrap64, maxLen, List.length_map, List.length_append, List.length_cons, List.length_nil, Int.toNat_natCast] at *; omega)))⟩ ?_ | refine And.intro (roomN (by exact rfl) (by (first | omega | (simp only [wrap64, maxLen, List.length_map, List.length_append, List.length_cons, List.length_nil, Int.toNat_natCast] at *; omega)))) ?_ | exact trivial | exact rfl | refine Exists.intro _ (And.intro rfl ?_) | refine' cut1 _ ?_ ?_ | refine And.intro (deep_ag (by exact rfl) (by exact rfl)) ?_ | refine And.intro (deep_ag2 (by repeat' first | exact trivial | refine And.intro (by exact rfl) ?_)) ?_ | refine And.intro (deep_sl (by exact rfl) (by first | exact (List.length_map _).symm | assumption | exact rfl | (simp; done))) ?_ | refine And.intro (deep_rows (by intro x hx; repeat' first | exact trivial | refine And.intro (by exact rfl) ?_)) ?_ | refine And.intro (by exact rfl) ?_ | refine And.intro (Or.inl (by exact rfl)) ?_ | refine And.intro (show ByteArray.size _ + ByteArray.size _ ≤ _ from by (first | omega | (simp only [size_mk, size_add, List.size_toArray, List.length_cons, List.length_nil, maxLen] at *; omega))) ?_ | refine Exists.intro _ (And.intro (by with_unfolding_all exact rfl) ?_) | refine And.intro (by decide +kernel) ?_ | refine Exists.intro _ (And.intro (at_map (by (first | omega | (simp only [wrap64, maxLen, List.length_map, List.length_append, List.length_cons, List.length_nil, Int.toNat_natCast] at *; omega)))) ?_) | (refine wrap_id' ?_; (first | omega | (simp only [wrap64, maxLen, List.length_map, List.length_append, List.length_cons, List.length_nil, Int.toNat_natCast] at *; omega))) | refine And.intro ?_ ?_ | fail
    all_goals exact back_k rfl

end Go.Proofs.YthnjhephkbokeaaDoor.Ev
