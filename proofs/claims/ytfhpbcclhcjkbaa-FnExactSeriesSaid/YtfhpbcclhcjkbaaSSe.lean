/- Contracts: what the functions of this part return, for arguments as each contract says. -/
import Derived.Test.YtfhpbcclhcjkbaaEvD
import Derived.Test.YtfhpbcclhcjkbaaEvTab
import Derived.Test.YtfhpbcclhcjkbaaSTy
import Derived.Test.YtfhpbcclhcjkbaaSKb
import Derived.Test.YtfhpbcclhcjkbaaSLb
import Derived.Test.YtfhpbcclhcjkbaaSRw
import Derived.Test.YtfhpbcclhcjkbaaSFr
import Derived.Test.YtfhpbcclhcjkbaaSTl
import Derived.Test.YtfhpbcclhcjkbaaSRo
import Derived.Test.YtfhpbcclhcjkbaaSCu
import Derived.Test.YtfhpbcclhcjkbaaSCq
import Derived.Test.YtfhpbcclhcjkbaaSCv
import Derived.Test.YtfhpbcclhcjkbaaSGr
import Derived.Test.YtfhpbcclhcjkbaaSFs
import Derived.Test.YtfhpbcclhcjkbaaSLr
import Derived.Test.YtfhpbcclhcjkbaaSMv
set_option linter.constructorNameAsVariable false
set_option linter.unusedVariables false
set_option linter.unusedSimpArgs false
set_option linter.unusedVariables false
set_option maxHeartbeats 4000000
set_option maxRecDepth 20000
set_option linter.unusedSimpArgs false
set_option linter.constructorNameAsVariable false
namespace Go.Proofs.Ytfhpbcclhcjkbaa.Ev
open Go Go.Proofs
attribute [local irreducible] RO Fn IntKind.wrap TriL
def rankOf (l : List Row) (key : ByteArray) : Int := (findRow l key).1.rank
def series (rs : List (List Row)) (key : ByteArray) : List Int := rs.map fun l => rankOf l key
theorem impl_Series (rs : List (List Row)) (hr : RowsS rs) (h8 : rs.length ≤ 1000) (key : ByteArray) : RO Cf Try.prog 7 [.ro true false 1 (rs.map (rv true)), .s key] (.ro false true 1 ((series rs key).map iv)) := by
  refine RO_of Cf_ok ?_
  repeat' first | refine And.intro rfl ?_ | (refine And.intro (fun h => ?_) (fun h => ?_) <;> (try simp only [decide_eq_true_eq, decide_eq_false_iff_not, Bool.not_eq_true', Bool.not_eq_false', Bool.and_eq_true, Bool.or_eq_true, Bool.not_eq_eq_eq_not, Bool.not_true, Bool.not_false, beq_iff_eq, bne_iff_ne, beq_eq_false_iff_ne, bne_eq_false_iff_eq, Nat.not_lt, Int.not_lt, Int.not_le, wrap_byteAt, List.length_map, eqB_Row, eqB_Op, eqB_Rec, toList_inj, toList_nil, ne_eq, Int.toNat_natCast] at h) <;> (try simp only [wrap64] at h) <;> (try (exfalso; first | exact absurd h Bool.false_ne_true | exact absurd h.symm Bool.false_ne_true | exact h trivial | exact h rfl | omega))) | refine And.intro ⟨by (first | omega | (simp only [wrap64, maxLen, List.length_map, List.length_append, List.length_cons, List.length_nil, Int.toNat_natCast] at *; omega)), by (first | omega | (simp only [wrap64, maxLen, List.length_map, List.length_append, List.length_cons, List.length_nil, Int.toNat_natCast] at *; omega))⟩ ?_ | refine And.intro (show (_ : Int) ≠ 0 by decide) ?_ | refine And.intro ⟨by (first | omega | (simp only [wrap64, maxLen, List.length_map, List.length_append, List.length_cons, List.length_nil, Int.toNat_natCast] at *; omega)), by (first | omega | (simp only [wrap64, maxLen, List.length_map, List.length_append, List.length_cons, List.length_nil, Int.toNat_natCast] at *; omega)), room (by exact rfl) (by (first | omega | (simp only [wrap64, maxLen, List.length_map, List.length_append, List.length_cons, List.length_nil, Int.toNat_natCast] at *; omega))) (by (first | omega | (simp only [wrap64, maxLen, List.length_map, List.length_append, List.length_cons, List.length_nil, Int.toNat_natCast] at *; omega)))⟩ ?_ | refine And.intro (roomN (by exact rfl) (by (first | omega | (simp only [wrap64, maxLen, List.length_map, List.length_append, List.length_cons, List.length_nil, Int.toNat_natCast] at *; omega)))) ?_ | exact trivial | exact rfl | refine Exists.intro _ (And.intro rfl ?_) | refine' cut1 _ ?_ ?_ | refine And.intro (deep_ag (by exact rfl) (by exact rfl)) ?_ | refine And.intro (deep_ag2 (by repeat' first | exact trivial | refine And.intro (by exact rfl) ?_)) ?_ | refine And.intro (deep_sl (by exact rfl) (by first | exact (List.length_map _).symm | assumption | exact rfl | (simp; done))) ?_ | refine And.intro (deep_rows (by intro x hx; repeat' first | exact trivial | refine And.intro (by exact rfl) ?_)) ?_ | refine And.intro (by exact rfl) ?_ | refine And.intro (Or.inl (by exact rfl)) ?_ | refine And.intro (show ByteArray.size _ + ByteArray.size _ ≤ _ from by (first | omega | (simp only [size_mk, size_add, List.size_toArray, List.length_cons, List.length_nil, maxLen] at *; omega))) ?_ | refine Exists.intro _ (And.intro (by with_unfolding_all exact rfl) ?_) | refine And.intro (by decide +kernel) ?_ | refine Exists.intro _ (And.intro (at_map (by (first | omega | (simp only [wrap64, maxLen, List.length_map, List.length_append, List.length_cons, List.length_nil, Int.toNat_natCast] at *; omega)))) ?_) | (refine wrap_id' ?_; (first | omega | (simp only [wrap64, maxLen, List.length_map, List.length_append, List.length_cons, List.length_nil, Int.toNat_natCast] at *; omega))) | refine And.intro ?_ ?_ | fail
  refine loop_nat 7 Cf_ok rs.length (fun i ((m, rows) : Nat × List (List AV)) => ⟨[.u, .s key, .u, .u, .u, .sl 0 0 m, .u, .u, .u, .u, .u, .ro true false 1 (rs.map (rv true)), .i .i64 (rs.map (rv true)).length, .i .i64 i, .u, .u, .u, .u, .u, .u, .u, .u, .u, .u, .u, .u, .u, .u, .u, .u], [none, none, none, none, none, none, none, none, none, none, none, none, none, none, none, none, none, none, none, none, none, none, none, none, none, none, none, none, none, none], [some ⟨1, true, rows⟩]⟩)
    (fun k p => p.1 = k ∧ p.2 = (series (rs.take k) key).map iv) ?hc ?_ ?_ (_, _) ?_
  case hc => decide +kernel
  · rintro k ⟨m, rows⟩ hk ⟨e1, e2⟩ ih
    simp only [] at e1 e2
    subst e1; subst e2
    have hat := at_map (f := rv true) hk
    have hrk := hr.2 _ (List.getElem_mem hk)
    have cF := impl_FindRow rs[m] key hrk.1
    have hs : (series (rs.take (m + 1)) key).map iv = (series (rs.take m) key).map iv ++ [iv (rankOf rs[m] key)] := by
      rw [series, List.take_succ_eq_append_getElem hk, List.map_append, List.map_append]; rfl
    have hlen : m = ((series (rs.take m) key).map iv).length := by simp [series]; omega
    have hrk2 : rankOf rs[m] key = (findRow rs[m] key).1.rank := rfl
    rw [hrk2] at hs
    generalize findRow rs[m] key = fr at *
    obtain ⟨r, b⟩ := fr
    simp only [] at cF hs
    have cR := impl_Rank r
    generalize r.rank = rk at *
    repeat' first | refine And.intro rfl ?_ | (refine And.intro (fun h => ?_) (fun h => ?_) <;> (try simp only [decide_eq_true_eq, decide_eq_false_iff_not, Bool.not_eq_true', Bool.not_eq_false', Bool.and_eq_true, Bool.or_eq_true, Bool.not_eq_eq_eq_not, Bool.not_true, Bool.not_false, beq_iff_eq, bne_iff_ne, beq_eq_false_iff_ne, bne_eq_false_iff_eq, Nat.not_lt, Int.not_lt, Int.not_le, wrap_byteAt, List.length_map, eqB_Row, eqB_Op, eqB_Rec, toList_inj, toList_nil, ne_eq, Int.toNat_natCast] at h) <;> (try simp only [wrap64] at h) <;> (try (exfalso; first | exact absurd h Bool.false_ne_true | exact absurd h.symm Bool.false_ne_true | exact h trivial | exact h rfl | omega))) | refine And.intro ⟨by (first | omega | (simp only [wrap64, maxLen, List.length_map, List.length_append, List.length_cons, List.length_nil, Int.toNat_natCast] at *; omega)), by (first | omega | (simp only [wrap64, maxLen, List.length_map, List.length_append, List.length_cons, List.length_nil, Int.toNat_natCast] at *; omega))⟩ ?_ | refine And.intro (show (_ : Int) ≠ 0 by decide) ?_ | refine And.intro ⟨by (first | omega | (simp only [wrap64, maxLen, List.length_map, List.length_append, List.length_cons, List.length_nil, Int.toNat_natCast] at *; omega)), by (first | omega | (simp only [wrap64, maxLen, List.length_map, List.length_append, List.length_cons, List.length_nil, Int.toNat_natCast] at *; omega)), room (by exact rfl) (by (first | omega | (simp only [wrap64, maxLen, List.length_map, List.length_append, List.length_cons, List.length_nil, Int.toNat_natCast] at *; omega))) (by (first | omega | (simp only [wrap64, maxLen, List.length_map, List.length_append, List.length_cons, List.length_nil, Int.toNat_natCast] at *; omega)))⟩ ?_ | refine And.intro (roomN (by exact rfl) (by (first | omega | (simp only [wrap64, maxLen, List.length_map, List.length_append, List.length_cons, List.length_nil, Int.toNat_natCast] at *; omega)))) ?_ | exact trivial | exact rfl | refine Exists.intro _ (And.intro rfl ?_) | refine' cut1 _ ?_ ?_ | refine And.intro (deep_ag (by exact rfl) (by exact rfl)) ?_ | refine And.intro (deep_ag2 (by repeat' first | exact trivial | refine And.intro (by exact rfl) ?_)) ?_ | refine And.intro (deep_sl (by exact rfl) (by first | exact (List.length_map _).symm | assumption | exact rfl | (simp; done))) ?_ | refine And.intro (deep_rows (by intro x hx; repeat' first | exact trivial | refine And.intro (by exact rfl) ?_)) ?_ | refine And.intro (by exact rfl) ?_ | refine And.intro (Or.inl (by exact rfl)) ?_ | refine Exists.intro _ (And.intro hat ?_) | refine' Or.inl (Exists.intro _ (And.intro ?_ (Exists.intro _ (And.intro (cF) (And.intro rfl ?_))))) | refine' Or.inl (Exists.intro _ (And.intro ?_ (Exists.intro _ (And.intro (cR) (And.intro rfl ?_))))) | (refine' Exists.intro _ (Exists.intro _ (And.intro (show rowsR _ _ _ _ _ from ?_) (And.intro (show bytesOf _ = _ from ?_) ?_)))) | (refine' Exists.intro _ (Exists.intro _ (And.intro (show rowsR _ _ _ _ _ from ?_) (And.intro (show rowsR _ _ _ _ _ from ?_) (And.intro ?_ ?_))))) | (refine cut_full _ ?_; first | assumption | exact (List.length_map _).symm | exact rfl | (simp; done)) | refine roomN (by exact rfl) (by (first | omega | (simp only [wrap64, maxLen, List.length_map, List.length_append, List.length_cons, List.length_nil, Int.toNat_natCast] at *; omega))) | exact cut_full _ hlen | refine TriL_gh (gh_ren (σ := [2]) (h' := [some ⟨1, true, _⟩]) rfl rfl rfl ⟨Or.inl ⟨rfl, rfl⟩, trivial⟩) (ih _ (_, _) ?_ ?_) | refine And.intro (show ByteArray.size _ + ByteArray.size _ ≤ _ from by (first | omega | (simp only [size_mk, size_add, List.size_toArray, List.length_cons, List.length_nil, maxLen] at *; omega))) ?_ | refine Exists.intro _ (And.intro (by with_unfolding_all exact rfl) ?_) | refine And.intro (by decide +kernel) ?_ | refine Exists.intro _ (And.intro (at_map (by (first | omega | (simp only [wrap64, maxLen, List.length_map, List.length_append, List.length_cons, List.length_nil, Int.toNat_natCast] at *; omega)))) ?_) | (refine wrap_id' ?_; (first | omega | (simp only [wrap64, maxLen, List.length_map, List.length_append, List.length_cons, List.length_nil, Int.toNat_natCast] at *; omega))) | refine And.intro ?_ ?_ | fail
    all_goals first
      | (exfalso; omega)
      | exact Hold.mk ⟨by simp [series]; omega, hs.symm⟩
     
  · rintro ⟨m, rows⟩ ⟨e1, e2⟩
    simp only [] at e1 e2
    subst e1; subst e2
    rw [List.take_length]
    repeat' first | refine And.intro rfl ?_ | (refine And.intro (fun h => ?_) (fun h => ?_) <;> (try simp only [decide_eq_true_eq, decide_eq_false_iff_not, Bool.not_eq_true', Bool.not_eq_false', Bool.and_eq_true, Bool.or_eq_true, Bool.not_eq_eq_eq_not, Bool.not_true, Bool.not_false, beq_iff_eq, bne_iff_ne, beq_eq_false_iff_ne, bne_eq_false_iff_eq, Nat.not_lt, Int.not_lt, Int.not_le, wrap_byteAt, List.length_map, eqB_Row, eqB_Op, eqB_Rec, toList_inj, toList_nil, ne_eq, Int.toNat_natCast] at h) <;> (try simp only [wrap64] at h) <;> (try (exfalso; first | exact absurd h Bool.false_ne_true | exact absurd h.symm Bool.false_ne_true | exact h trivial | exact h rfl | omega))) | refine And.intro ⟨by (first | omega | (simp only [wrap64, maxLen, List.length_map, List.length_append, List.length_cons, List.length_nil, Int.toNat_natCast] at *; omega)), by (first | omega | (simp only [wrap64, maxLen, List.length_map, List.length_append, List.length_cons, List.length_nil, Int.toNat_natCast] at *; omega))⟩ ?_ | refine And.intro (show (_ : Int) ≠ 0 by decide) ?_ | refine And.intro ⟨by (first | omega | (simp only [wrap64, maxLen, List.length_map, List.length_append, List.length_cons, List.length_nil, Int.toNat_natCast] at *; omega)), by (first | omega | (simp only [wrap64, maxLen, List.length_map, List.length_append, List.length_cons, List.length_nil, Int.toNat_natCast] at *; omega)), room (by exact rfl) (by (first | omega | (simp only [wrap64, maxLen, List.length_map, List.length_append, List.length_cons, List.length_nil, Int.toNat_natCast] at *; omega))) (by (first | omega | (simp only [wrap64, maxLen, List.length_map, List.length_append, List.length_cons, List.length_nil, Int.toNat_natCast] at *; omega)))⟩ ?_ | refine And.intro (roomN (by exact rfl) (by (first | omega | (simp only [wrap64, maxLen, List.length_map, List.length_append, List.length_cons, List.length_nil, Int.toNat_natCast] at *; omega)))) ?_ | exact trivial | exact rfl | refine Exists.intro _ (And.intro rfl ?_) | refine' cut1 _ ?_ ?_ | refine And.intro (deep_ag (by exact rfl) (by exact rfl)) ?_ | refine And.intro (deep_ag2 (by repeat' first | exact trivial | refine And.intro (by exact rfl) ?_)) ?_ | refine And.intro (deep_sl (by exact rfl) (by first | exact (List.length_map _).symm | assumption | exact rfl | (simp; done))) ?_ | refine And.intro (deep_rows (by intro x hx; repeat' first | exact trivial | refine And.intro (by exact rfl) ?_)) ?_ | refine And.intro (by exact rfl) ?_ | refine And.intro (Or.inl (by exact rfl)) ?_ | refine And.intro (show ByteArray.size _ + ByteArray.size _ ≤ _ from by (first | omega | (simp only [size_mk, size_add, List.size_toArray, List.length_cons, List.length_nil, maxLen] at *; omega))) ?_ | refine Exists.intro _ (And.intro (by with_unfolding_all exact rfl) ?_) | refine And.intro (by decide +kernel) ?_ | refine Exists.intro _ (And.intro (at_map (by (first | omega | (simp only [wrap64, maxLen, List.length_map, List.length_append, List.length_cons, List.length_nil, Int.toNat_natCast] at *; omega)))) ?_) | (refine wrap_id' ?_; (first | omega | (simp only [wrap64, maxLen, List.length_map, List.length_append, List.length_cons, List.length_nil, Int.toNat_natCast] at *; omega))) | refine And.intro ?_ ?_ | fail
    all_goals first
      | exact back_sl rfl (by simp [series])
     
  · exact ⟨rfl, rfl⟩
theorem ser_back {hp : Hp} {k : Nat} {rows : List (List AV)} {rs : List (List Row)} {key : ByteArray} (h1 : at? hp 1 = some (some ⟨1, false, rows⟩)) (h2 : k = rows.length) (h3 : All2 (All2 (Back hp 2)) rows (rs.map (rv false))) : Back hp 4 (.tp [.sl 1 0 k, .s key]) (.tp [.ro false false 1 (rs.map (rv false)), .s key]) := by
  refine back_tp ⟨?_, back_s rfl, trivial⟩
  rw [Back, h1]
  exact ⟨rows, cut_full _ h2, by rw [if_neg (show ¬ (false = true) from Bool.false_ne_true)]; exact ⟨_, h3, rfl⟩⟩
def serQ (r : AV) : Prop := ∃ (rs : List (List Row)) (key : ByteArray), RowsS rs ∧ rs.length ≤ 4 ∧ r = .tp [.ro false false 1 (rs.map (rv false)), .s key]
theorem rep_ok {L : List Row} (h1 : ∀ a ∈ L, Row.ok a) (h2 : L.length ≤ 4) : Rows L := ⟨by simp only [maxLen]; omega, h1⟩
def movQ (r : AV) : Prop := ∃ (l : List Int) (n : Int), Small l ∧ (-1000 ≤ n ∧ n ≤ 1000) ∧ r = .tp [.ro false true 1 (l.map iv), .i .i64 n]
theorem mov_back {hp : Hp} {id k : Nat} {l : List Int} {n : Int} (h1 : at? hp id = some (some ⟨1, true, l.map iv⟩)) (h2 : k = l.length) : Back hp 4 (.tp [.sl id 0 k, .i .i64 n]) (.tp [.ro false true 1 (l.map iv), .i .i64 n]) :=
  back_tp ⟨back_sl h1 (by simpa using h2), back_i rfl, trivial⟩
end Go.Proofs.Ytfhpbcclhcjkbaa.Ev
