/- Contracts: what the functions of this part return, for arguments as each contract says. -/
import Derived.Test.YthnjmaipafmlaaaDoorEvD
import Derived.Test.YthnjmaipafmlaaaDoorEvTab
import Derived.Test.YthnjmaipafmlaaaDoorSTy
import Derived.Test.YthnjmaipafmlaaaDoorSCq
import Derived.Test.YthnjmaipafmlaaaDoorSKb
import Derived.Test.YthnjmaipafmlaaaDoorSLb
import Derived.Test.YthnjmaipafmlaaaDoorSSp
import Derived.Test.YthnjmaipafmlaaaDoorSSq
import Derived.Test.YthnjmaipafmlaaaDoorSLn
import Derived.Test.YthnjmaipafmlaaaDoorSPl
import Derived.Test.YthnjmaipafmlaaaDoorSMk
import Derived.Test.YthnjmaipafmlaaaDoorSMr
import Derived.Test.YthnjmaipafmlaaaDoorSPg
set_option linter.constructorNameAsVariable false
set_option linter.unusedVariables false
set_option linter.unusedSimpArgs false
set_option linter.unusedVariables false
set_option maxHeartbeats 4000000
set_option maxRecDepth 20000
set_option linter.unusedSimpArgs false
set_option linter.constructorNameAsVariable false
namespace Go.Proofs.YthnjmaipafmlaaaDoor.Ev
open Go Go.Proofs
attribute [local irreducible] RO Fn IntKind.wrap TriL
theorem parseG_len (s : ByteArray) (hs : s.size ≤ 1048576) : (parseG s).1.length ≤ 121 ∧ (parseG s).2.length = 6 := by
  rw [parseG]
  split
  · exact ⟨by simp, rfl⟩
  · have h := gramF_ok (linesS s)
    have := linesL_len (bs s)
    rw [bs_len] at this
    refine ⟨?_, h.2.1⟩
    have h1 := h.1
    unfold linesS at h1 ⊢
    omega
theorem back_sl2 {hp : Hp} {d id n wd : Nat} {rows : List (List AV)} (h : at? hp id = some (some ⟨wd, true, rows⟩)) (hn : n = rows.length) : Back hp (d + 1) (.sl id 0 n) (.ro false true wd rows) := by
  subst hn
  simp only [Back, h]
  exact ⟨_, cut_full _ rfl, rfl⟩
theorem ro_specParseGram (s : ByteArray) (hs : s.size ≤ 1048576) : RO Cf Tryd.prog 27 [.s s] (.tp [.ro false true 3 ((parseG s).1.map Rec.av), .ro false true 1 ((parseG s).2.map iv)]) :=
  RO_of_Fn (spec_ParseGram s hs) (back_tp ⟨back_sl2 rfl (by simp), back_sl2 rfl (by rw [List.length_map, (parseG_len s hs).2]), trivial⟩)
theorem ro_implParseGram (s : ByteArray) (hs : s.size ≤ 1048576) : RO Cf Tryd.prog 19 [.s s] (.tp [.ro false true 3 ((parseG s).1.map Rec.av), .ro false true 1 ((parseG s).2.map iv)]) :=
  RO_of_Fn (impl_ParseGram s hs) (back_tp ⟨back_sl2 rfl (by simp), back_sl2 rfl (by rw [List.length_map, (parseG_len s hs).2]), trivial⟩)
theorem law_FnExactParseGram (s : ByteArray) (hs : s.size ≤ maxLen) : RO Cf Tryd.prog 7 [.s s] (.b true) := by
  by_cases h0 : s.size ≤ 1048576
  · have c1 := ro_specParseGram s h0
    have c2 := impl_ParseGram s h0
    obtain ⟨hA, hB⟩ := parseG_len s h0
    obtain ⟨A, B, hAB⟩ : ∃ A B, parseG s = (A, B) := ⟨_, _, rfl⟩
    rw [hAB] at c1 c2 hA hB
    simp only [] at c1 c2 hA hB
    have m2 := laws_markIntS B (by omega) (1 + 3 * A.length) (by omega) (by omega)
    rw [hB] at m2
    have hB6 : 6 = (B.map iv).length := by rw [List.length_map, hB]
    have a1 : A.length ≤ 9223372036854775807 := by omega
    have a2 : B.length ≤ 9223372036854775807 := by omega
    refine RO_of Cf_ok ?_
    repeat' first | refine And.intro rfl ?_ | (refine And.intro (fun h => ?_) (fun h => ?_) <;> (try simp only [decide_eq_true_eq, decide_eq_false_iff_not, Bool.not_eq_true', Bool.not_eq_false', Bool.and_eq_true, Bool.or_eq_true, Bool.not_eq_eq_eq_not, Bool.not_true, Bool.not_false, beq_iff_eq, bne_iff_ne, beq_eq_false_iff_ne, bne_eq_false_iff_eq, Nat.not_lt, Int.not_lt, Int.not_le, wrap_byteAt, List.length_map, eqB_Row, eqB_Op, eqB_Rec, toList_inj, toList_nil, ne_eq, Int.toNat_natCast] at h) <;> (try simp only [wrap64] at h) <;> (try (exfalso; first | (cases h; done) | exact h trivial | exact h rfl | omega))) | refine And.intro ⟨by (first | omega | (simp only [wrap64, maxLen, List.length_map, List.length_append, List.length_cons, List.length_nil, Int.toNat_natCast] at *; omega)), by (first | omega | (simp only [wrap64, maxLen, List.length_map, List.length_append, List.length_cons, List.length_nil, Int.toNat_natCast] at *; omega))⟩ ?_ | refine And.intro (show (_ : Int) ≠ 0 by decide) ?_ | refine And.intro ⟨by (first | omega | (simp only [wrap64, maxLen, List.length_map, List.length_append, List.length_cons, List.length_nil, Int.toNat_natCast] at *; omega)), by (first | omega | (simp only [wrap64, maxLen, List.length_map, List.length_append, List.length_cons, List.length_nil, Int.toNat_natCast] at *; omega)), room (by exact rfl) (by (first | omega | (simp only [wrap64, maxLen, List.length_map, List.length_append, List.length_cons, List.length_nil, Int.toNat_natCast] at *; omega))) (by (first | omega | (simp only [wrap64, maxLen, List.length_map, List.length_append, List.length_cons, List.length_nil, Int.toNat_natCast] at *; omega)))⟩ ?_ | refine And.intro (roomN (by exact rfl) (by (first | omega | (simp only [wrap64, maxLen, List.length_map, List.length_append, List.length_cons, List.length_nil, Int.toNat_natCast] at *; omega)))) ?_ | exact trivial | exact rfl | refine Exists.intro _ (And.intro rfl ?_) | refine' cut1 _ ?_ ?_ | refine And.intro (deep_ag (by exact rfl) (by exact rfl)) ?_ | refine And.intro (deep_ag2 (by repeat' first | exact trivial | refine And.intro (by exact rfl) ?_)) ?_ | refine And.intro (deep_sl (by exact rfl) (by first | exact (List.length_map _).symm | assumption | exact rfl | (simp; done))) ?_ | refine And.intro (deep_rows (by intro x hx; repeat' first | exact trivial | refine And.intro (by exact rfl) ?_)) ?_ | refine And.intro (by exact rfl) ?_ | refine And.intro (Or.inl (by exact rfl)) ?_ | refine' Or.inl (Exists.intro _ (And.intro ?_ (Exists.intro _ (And.intro (c1) (And.intro rfl ?_))))) | refine' Or.inr (Or.inl (And.intro rfl (Exists.intro _ (And.intro ?_ (Exists.intro _ (Exists.intro _ (And.intro (c2) (And.intro rfl ?_)))))))) | refine' Or.inl (Exists.intro _ (And.intro ?_ (Exists.intro _ (And.intro (laws_eqRecS _ _ _ _) (And.intro rfl ?_))))) | refine' Or.inl (Exists.intro _ (And.intro ?_ (Exists.intro _ (And.intro (laws_eqIntS _ _ _ _) (And.intro rfl ?_))))) | assumption | refine' Or.inr (Or.inr (Or.inl (And.intro rfl (And.intro rfl (Exists.intro _ (Exists.intro _ (And.intro (Fn_at1 0 (laws_markRecS A (by omega) 1 (by omega) (by omega)) rfl rfl rfl rfl rfl rfl) ?_))))))) | refine' Or.inr (Or.inr (Or.inl (And.intro rfl (And.intro rfl (Exists.intro _ (Exists.intro _ (And.intro (Fn_at1 1 m2 rfl rfl rfl rfl rfl rfl) ?_))))))) | refine' Or.inl (Exists.intro _ (And.intro ?_ (Exists.intro _ (And.intro (laws_heldRecS 1 (by omega) (by omega) A.length (by omega)) (And.intro rfl ?_))))) | refine' Or.inl (Exists.intro _ (And.intro ?_ (Exists.intro _ (And.intro (laws_heldIntS (1 + 3 * A.length) (by omega) (by omega) 6 (by omega)) (And.intro rfl ?_))))) | refine And.intro (show ByteArray.size _ + ByteArray.size _ ≤ _ from by (first | omega | (simp only [size_mk, size_add, List.size_toArray, List.length_cons, List.length_nil, maxLen] at *; omega))) ?_ | refine Exists.intro _ (And.intro (by with_unfolding_all exact rfl) ?_) | refine And.intro (by decide +kernel) ?_ | refine Exists.intro _ (And.intro (at_map (by (first | omega | (simp only [wrap64, maxLen, List.length_map, List.length_append, List.length_cons, List.length_nil, Int.toNat_natCast] at *; omega)))) ?_) | (refine wrap_id' ?_; (first | omega | (simp only [wrap64, maxLen, List.length_map, List.length_append, List.length_cons, List.length_nil, Int.toNat_natCast] at *; omega))) | refine And.intro ?_ ?_ | fail
    all_goals first | exact back_k rfl
  · refine RO_of Cf_ok ?_
    repeat' first | refine And.intro rfl ?_ | (refine And.intro (fun h => ?_) (fun h => ?_) <;> (try simp only [decide_eq_true_eq, decide_eq_false_iff_not, Bool.not_eq_true', Bool.not_eq_false', Bool.and_eq_true, Bool.or_eq_true, Bool.not_eq_eq_eq_not, Bool.not_true, Bool.not_false, beq_iff_eq, bne_iff_ne, beq_eq_false_iff_ne, bne_eq_false_iff_eq, Nat.not_lt, Int.not_lt, Int.not_le, wrap_byteAt, List.length_map, eqB_Row, eqB_Op, eqB_Rec, toList_inj, toList_nil, ne_eq, Int.toNat_natCast] at h) <;> (try simp only [wrap64] at h) <;> (try (exfalso; first | (cases h; done) | exact h trivial | exact h rfl | omega))) | refine And.intro ⟨by (first | omega | (simp only [wrap64, maxLen, List.length_map, List.length_append, List.length_cons, List.length_nil, Int.toNat_natCast] at *; omega)), by (first | omega | (simp only [wrap64, maxLen, List.length_map, List.length_append, List.length_cons, List.length_nil, Int.toNat_natCast] at *; omega))⟩ ?_ | refine And.intro (show (_ : Int) ≠ 0 by decide) ?_ | refine And.intro ⟨by (first | omega | (simp only [wrap64, maxLen, List.length_map, List.length_append, List.length_cons, List.length_nil, Int.toNat_natCast] at *; omega)), by (first | omega | (simp only [wrap64, maxLen, List.length_map, List.length_append, List.length_cons, List.length_nil, Int.toNat_natCast] at *; omega)), room (by exact rfl) (by (first | omega | (simp only [wrap64, maxLen, List.length_map, List.length_append, List.length_cons, List.length_nil, Int.toNat_natCast] at *; omega))) (by (first | omega | (simp only [wrap64, maxLen, List.length_map, List.length_append, List.length_cons, List.length_nil, Int.toNat_natCast] at *; omega)))⟩ ?_ | refine And.intro (roomN (by exact rfl) (by (first | omega | (simp only [wrap64, maxLen, List.length_map, List.length_append, List.length_cons, List.length_nil, Int.toNat_natCast] at *; omega)))) ?_ | exact trivial | exact rfl | refine Exists.intro _ (And.intro rfl ?_) | refine' cut1 _ ?_ ?_ | refine And.intro (deep_ag (by exact rfl) (by exact rfl)) ?_ | refine And.intro (deep_ag2 (by repeat' first | exact trivial | refine And.intro (by exact rfl) ?_)) ?_ | refine And.intro (deep_sl (by exact rfl) (by first | exact (List.length_map _).symm | assumption | exact rfl | (simp; done))) ?_ | refine And.intro (deep_rows (by intro x hx; repeat' first | exact trivial | refine And.intro (by exact rfl) ?_)) ?_ | refine And.intro (by exact rfl) ?_ | refine And.intro (Or.inl (by exact rfl)) ?_ | refine And.intro (show ByteArray.size _ + ByteArray.size _ ≤ _ from by (first | omega | (simp only [size_mk, size_add, List.size_toArray, List.length_cons, List.length_nil, maxLen] at *; omega))) ?_ | refine Exists.intro _ (And.intro (by with_unfolding_all exact rfl) ?_) | refine And.intro (by decide +kernel) ?_ | refine Exists.intro _ (And.intro (at_map (by (first | omega | (simp only [wrap64, maxLen, List.length_map, List.length_append, List.length_cons, List.length_nil, Int.toNat_natCast] at *; omega)))) ?_) | (refine wrap_id' ?_; (first | omega | (simp only [wrap64, maxLen, List.length_map, List.length_append, List.length_cons, List.length_nil, Int.toNat_natCast] at *; omega))) | refine And.intro ?_ ?_ | fail
    all_goals exact back_k rfl

end Go.Proofs.YthnjmaipafmlaaaDoor.Ev
