/- Contracts: what the functions of this part return, for arguments as each contract says. -/
import Derived.Test.YtmblcloikeobdaaEvD
import Derived.Test.YtmblcloikeobdaaEvTab
import Derived.Test.YtmblcloikeobdaaSTy
import Derived.Test.YtmblcloikeobdaaSKt
import Derived.Test.YtmblcloikeobdaaSKb
import Derived.Test.YtmblcloikeobdaaSLb
import Derived.Test.YtmblcloikeobdaaSRw
import Derived.Test.YtmblcloikeobdaaSFr
import Derived.Test.YtmblcloikeobdaaSMk
import Derived.Test.YtmblcloikeobdaaSTl
import Derived.Test.YtmblcloikeobdaaSDh
import Derived.Test.YtmblcloikeobdaaSIs
import Derived.Test.YtmblcloikeobdaaSMp
import Derived.Test.YtmblcloikeobdaaSMq
import Derived.Test.YtmblcloikeobdaaSMt
import Derived.Test.YtmblcloikeobdaaSMu
import Derived.Test.YtmblcloikeobdaaSMw
import Derived.Test.YtmblcloikeobdaaSOv
set_option linter.constructorNameAsVariable false
set_option linter.unusedVariables false
set_option linter.unusedSimpArgs false
set_option linter.unusedVariables false
set_option maxHeartbeats 4000000
set_option maxRecDepth 20000
set_option linter.unusedSimpArgs false
set_option linter.constructorNameAsVariable false
namespace Go.Proofs.Ytmblcloikeobdaa.Ev
open Go Go.Proofs
attribute [local irreducible] RO Fn IntKind.wrap TriL
/- the law of Overall, second part -/
theorem szRows_sub {x : List Row} {n : Int} (h0 : 0 ≤ n) (h : 0 ≤ szRows x n) : szRows x n + x.length ≤ n := by
  unfold szRows szL at *
  split at h
  · omega
  · rename_i q
    rw [if_neg q]
    have := (szAll_le' szLe_szRow x (n - x.length) (by omega)).1
    omega
theorem szSum : ∀ (l : List (List Row)) (n : Int), 0 ≤ n → 0 ≤ szAll szRows l n → ((l.map List.length).sum : Int) ≤ n
  | [], n, h, _ => by simpa using h
  | x :: l, n, h0, h => by
    rw [szAll_cons] at h
    by_cases h1 : szRows x n < 0
    · rw [if_pos h1] at h; omega
    · rw [if_neg h1] at h
      have h2 := szRows_sub (x := x) h0 (by omega)
      have h3 := szSum l _ (by omega) h
      rw [List.map_cons, List.sum_cons]
      push_cast at *
      omega
theorem deep_SS0 {hp : Hp} {l : List (List Row)} (h : SSat hp l) : Deep hp 4 (.sl 0 0 l.length) (.ro true false 1 (l.map (rv true))) := by
  have := deep_SS h []
  rwa [List.append_nil] at this
theorem deep_rss {hp : Hp} {d : Nat} (l : List (List Row)) : Deep hp (d + 3) (.ro false false 1 (l.map (rv false))) (.ro true false 1 (l.map (rv true))) :=
  ⟨_, All2_map (fun x _ => (show All2 (Deep hp (d + 2)) [.ro false true 10 (x.map Row.av)] [.ro true true 10 (x.map Row.av)] from ⟨rfl, trivial⟩)), rfl⟩
theorem deep_flat {hp : Hp} {id n wd : Nat} {rows : List (List AV)} (h : at? hp id = some (some ⟨wd, true, rows⟩)) (hn : n = rows.length) : Deep hp 4 (.sl id 0 n) (.ro true true wd rows) := by
  rw [Deep, h]
  exact ⟨_, cut_full _ hn, rfl⟩
theorem law_FnExactOverall (rs : List (List Row)) (hr : RowsS rs) : RO Cf Try.prog 3 [.ro true false 1 (rs.map (rv true))] (.b true) := by
  have hz := laws_szRowSS rs 1048576 hr (by omega) (by omega)
  obtain ⟨_, l1⟩ := szL_le' szLe_szRows rs 1048576 (by omega)
  by_cases h0 : szL szRows rs 1048576 < 0
  · refine RO_of Cf_ok ?_
    repeat' first | refine And.intro rfl ?_ | (refine And.intro (fun h => ?_) (fun h => ?_) <;> (try simp only [decide_eq_true_eq, decide_eq_false_iff_not, Bool.not_eq_true', Bool.not_eq_false', Bool.and_eq_true, Bool.or_eq_true, Bool.not_eq_eq_eq_not, Bool.not_true, Bool.not_false, beq_iff_eq, bne_iff_ne, beq_eq_false_iff_ne, bne_eq_false_iff_eq, Nat.not_lt, Int.not_lt, Int.not_le, wrap_byteAt, List.length_map, eqB_Row, eqB_Op, eqB_Rec, toList_inj, toList_nil, ne_eq, Int.toNat_natCast] at h) <;> (try simp only [wrap64] at h) <;> (try (exfalso; first | exact absurd h Bool.false_ne_true | exact absurd h.symm Bool.false_ne_true | exact h trivial | exact h rfl | omega))) | refine And.intro ⟨by (first | omega | (simp only [wrap64, maxLen, List.length_map, List.length_append, List.length_cons, List.length_nil, Int.toNat_natCast] at *; omega)), by (first | omega | (simp only [wrap64, maxLen, List.length_map, List.length_append, List.length_cons, List.length_nil, Int.toNat_natCast] at *; omega))⟩ ?_ | refine And.intro (show (_ : Int) ≠ 0 by decide) ?_ | refine And.intro ⟨by (first | omega | (simp only [wrap64, maxLen, List.length_map, List.length_append, List.length_cons, List.length_nil, Int.toNat_natCast] at *; omega)), by (first | omega | (simp only [wrap64, maxLen, List.length_map, List.length_append, List.length_cons, List.length_nil, Int.toNat_natCast] at *; omega)), room (by exact rfl) (by (first | omega | (simp only [wrap64, maxLen, List.length_map, List.length_append, List.length_cons, List.length_nil, Int.toNat_natCast] at *; omega))) (by (first | omega | (simp only [wrap64, maxLen, List.length_map, List.length_append, List.length_cons, List.length_nil, Int.toNat_natCast] at *; omega)))⟩ ?_ | refine And.intro (roomN (by exact rfl) (by (first | omega | (simp only [wrap64, maxLen, List.length_map, List.length_append, List.length_cons, List.length_nil, Int.toNat_natCast] at *; omega)))) ?_ | exact trivial | exact rfl | refine Exists.intro _ (And.intro rfl ?_) | refine' cut1 _ ?_ ?_ | refine And.intro (deep_ag (by exact rfl) (by exact rfl)) ?_ | refine And.intro (deep_ag2 (by repeat' first | exact trivial | refine And.intro (by exact rfl) ?_)) ?_ | refine And.intro (deep_sl (by exact rfl) (by first | exact (List.length_map _).symm | assumption | exact rfl | (simp; done))) ?_ | refine And.intro (deep_rows (by intro x hx; repeat' first | exact trivial | refine And.intro (by exact rfl) ?_)) ?_ | refine And.intro (by exact rfl) ?_ | refine And.intro (Or.inl (by exact rfl)) ?_ | refine' Or.inl (Exists.intro _ (And.intro ?_ (Exists.intro _ (And.intro (hz) (And.intro rfl ?_))))) | refine And.intro (show ByteArray.size _ + ByteArray.size _ ≤ _ from by (first | omega | (simp only [size_mk, size_add, List.size_toArray, List.length_cons, List.length_nil, maxLen] at *; omega))) ?_ | refine Exists.intro _ (And.intro (by with_unfolding_all exact rfl) ?_) | refine And.intro (by decide +kernel) ?_ | refine Exists.intro _ (And.intro (at_map (by (first | omega | (simp only [wrap64, maxLen, List.length_map, List.length_append, List.length_cons, List.length_nil, Int.toNat_natCast] at *; omega)))) ?_) | (refine wrap_id' ?_; (first | omega | (simp only [wrap64, maxLen, List.length_map, List.length_append, List.length_cons, List.length_nil, Int.toNat_natCast] at *; omega))) | refine And.intro ?_ ?_ | fail
    all_goals first | exact back_k rfl
  · obtain ⟨l2, l3⟩ := l1 (by omega)
    have l4 : ∀ r ∈ rs, r.length ≤ 1048576 := fun r hx => by
      obtain ⟨m, a, b, c⟩ := l3 r hx
      have := (szRows_le r m b c).1
      omega
    have hsum : (rs.map List.length).sum ≤ 1048576 := by
      have h5 : 0 ≤ szAll szRows rs (1048576 - rs.length) := by
        unfold szL at h0
        rw [if_neg (by omega)] at h0
        omega
      have := szSum rs _ (by omega) h5
      omega
    have hrl : rs.length ≤ 1048576 := by omega
    have hlm : (rs.map List.length).length = rs.length := List.length_map _
    have hS := overR_len rs rs.length (Nat.le_refl _)
    rw [List.take_length] at hS
    have hS2 := sum_le (l := rs.map List.length) rs.length
    have c1 := ro_toRowSS rs hrl l4
    have c2 := own_toRowSS rs hrl l4
    have c3 := ro_specOverall rs hsum hrl
    have c4 := impl_OverallF rs hsum hrl
    have c5 := ro_implOverall rs hsum hrl
    have hSl : (overR rs).length ≤ 1048576 := by omega
    have c6 := laws_eqRowS (overR rs) (overR rs) (by omega) (by omega)
    rw [decide_eq_true rfl] at c6
    replace c6 := RO_kt c6
    have c7 := laws_eqRowSS rs rs hr hr
    rw [decide_eq_true rfl] at c7
    replace c7 := RO_kt c7
    have c8 := laws_markRowS (overR rs) hSl 1 (by omega) (by omega)
    have c9 := laws_heldRowS 1 (by omega) (by omega) (overR rs).length hSl
    have cMk := fun (H : Hp) (h : SSm H (rs.map List.length)) => own_markRowSS H (rs.map List.length) hsum (by omega) h 1 (by omega) (by omega)
    rw [hlm] at cMk
    have hmi : (mRow 1 (overR rs).length).length = (overR rs).length := mRow_len _ _
    have hm2 : ((overR rs).map Row.av).length = (overR rs).length := List.length_map _
    generalize overR rs = S at *
    generalize (rs.map List.length).sum = tot at *
    generalize szL szRows rs 1048576 = z at *
    clear l1 l3
    refine RO_of Cf_ok ?_
    repeat' first | refine And.intro rfl ?_ | (refine And.intro (fun h => ?_) (fun h => ?_) <;> (try simp only [decide_eq_true_eq, decide_eq_false_iff_not, Bool.not_eq_true', Bool.not_eq_false', Bool.and_eq_true, Bool.or_eq_true, Bool.not_eq_eq_eq_not, Bool.not_true, Bool.not_false, beq_iff_eq, bne_iff_ne, beq_eq_false_iff_ne, bne_eq_false_iff_eq, Nat.not_lt, Int.not_lt, Int.not_le, wrap_byteAt, List.length_map, eqB_Row, eqB_Op, eqB_Rec, toList_inj, toList_nil, ne_eq, Int.toNat_natCast] at h) <;> (try simp only [wrap64] at h) <;> (try (exfalso; first | exact absurd h Bool.false_ne_true | exact absurd h.symm Bool.false_ne_true | exact h trivial | exact h rfl | omega))) | refine And.intro ⟨by (first | omega | (simp only [wrap64, maxLen, List.length_map, List.length_append, List.length_cons, List.length_nil, Int.toNat_natCast] at *; omega)), by (first | omega | (simp only [wrap64, maxLen, List.length_map, List.length_append, List.length_cons, List.length_nil, Int.toNat_natCast] at *; omega))⟩ ?_ | refine And.intro (show (_ : Int) ≠ 0 by decide) ?_ | refine And.intro ⟨by (first | omega | (simp only [wrap64, maxLen, List.length_map, List.length_append, List.length_cons, List.length_nil, Int.toNat_natCast] at *; omega)), by (first | omega | (simp only [wrap64, maxLen, List.length_map, List.length_append, List.length_cons, List.length_nil, Int.toNat_natCast] at *; omega)), room (by exact rfl) (by (first | omega | (simp only [wrap64, maxLen, List.length_map, List.length_append, List.length_cons, List.length_nil, Int.toNat_natCast] at *; omega))) (by (first | omega | (simp only [wrap64, maxLen, List.length_map, List.length_append, List.length_cons, List.length_nil, Int.toNat_natCast] at *; omega)))⟩ ?_ | refine And.intro (roomN (by exact rfl) (by (first | omega | (simp only [wrap64, maxLen, List.length_map, List.length_append, List.length_cons, List.length_nil, Int.toNat_natCast] at *; omega)))) ?_ | exact trivial | exact rfl | refine Exists.intro _ (And.intro rfl ?_) | refine' cut1 _ ?_ ?_ | refine And.intro (deep_ag (by exact rfl) (by exact rfl)) ?_ | refine And.intro (deep_ag2 (by repeat' first | exact trivial | refine And.intro (by exact rfl) ?_)) ?_ | refine And.intro (deep_sl (by exact rfl) (by first | exact (List.length_map _).symm | assumption | exact rfl | (simp; done))) ?_ | refine And.intro (deep_rows (by intro x hx; repeat' first | exact trivial | refine And.intro (by exact rfl) ?_)) ?_ | refine And.intro (by exact rfl) ?_ | refine And.intro (Or.inl (by exact rfl)) ?_ | refine' Or.inl (Exists.intro _ (And.intro ?_ (Exists.intro _ (And.intro (hz) (And.intro rfl ?_))))) | (have _q := mkB; refine' Or.inl (Exists.intro _ (And.intro ?_ (Exists.intro _ (And.intro (c1) (And.intro rfl ?_)))))) | (have _q := mkA; refine' Or.inr (Or.inr (Or.inr (Or.inr (And.intro rfl (And.intro rfl (Exists.intro _ (And.intro (c2) ?_)))))))) | (rintro _ H0 ⟨rfl, (hSS : SSat _ rs)⟩; have mkB : True := trivial; refine flH_mk ?_) | (refine' Or.inl (Exists.intro _ (And.intro ?_ (Exists.intro _ (And.intro (c1) (And.intro rfl ?_))))) <;> have mkA : True := trivial) | refine' Or.inl (Exists.intro _ (And.intro ?_ (Exists.intro _ (And.intro (c3) (And.intro rfl ?_))))) | (have _q := mkG; refine' Or.inl (Exists.intro _ (And.intro ?_ (Exists.intro _ (And.intro (c5) (And.intro rfl ?_)))))) | (refine' Or.inr (Or.inl (And.intro rfl (Exists.intro _ (And.intro ?_ (Exists.intro _ (Exists.intro _ (And.intro (c4) (And.intro rfl ?_)))))))); (focus (exact And.intro (deep_SS0 hSS) trivial)); have mkG : True := trivial) | refine nk_mk ?_ | refine flH_mk ?_ | (refine' Or.inl (Exists.intro _ (And.intro ?_ (Exists.intro _ (And.intro (c6) (And.intro rfl ?_))))); focus (first | exact And.intro (deep_flat at_appE hm2.symm) (And.intro rfl trivial) | exact And.intro (deep_flat hg1 hm2.symm) (And.intro rfl trivial) | exact And.intro rfl (And.intro rfl trivial))) | (refine' Or.inl (Exists.intro _ (And.intro ?_ (Exists.intro _ (And.intro (c7) (And.intro rfl ?_))))); focus (exact And.intro (deep_SS hSS _) (And.intro (deep_rss rs) trivial))) | (refine' Or.inr (Or.inr (Or.inr (Or.inr (And.intro rfl (And.intro rfl (Exists.intro _ (And.intro (cMk _ (SSm_of hSS _)) ?_)))))))) | (rintro _ H1 ⟨rfl, (hl1 : H1.length = _), hk1⟩; have hg1 : at? H1 H0.length = some (some ⟨10, true, S.map Row.av⟩) := (by rw [hk1 _ (by have := hSS.len; omega)]; exact at_appE); refine flH_mk ?_) | refine' Or.inr (Or.inr (Or.inl (And.intro rfl (And.intro rfl (Exists.intro _ (Exists.intro _ (And.intro (Fn_at1 H0.length c8 (by have := at_lt hg1; simpa using this) (ren1 _ _ _ _) hg1 rfl rfl rfl) ?_))))))) | refine fl_mk ?_ | (refine' Or.inl (Exists.intro _ (And.intro ?_ (Exists.intro _ (And.intro (c9) (And.intro rfl ?_))))); focus (exact And.intro (deep_flat (at_updS (at_lt hg1)) (by rw [List.length_map]; exact hmi.symm)) (And.intro rfl trivial))) | refine And.intro (show ByteArray.size _ + ByteArray.size _ ≤ _ from by (first | omega | (simp only [size_mk, size_add, List.size_toArray, List.length_cons, List.length_nil, maxLen] at *; omega))) ?_ | refine Exists.intro _ (And.intro (by with_unfolding_all exact rfl) ?_) | refine And.intro (by decide +kernel) ?_ | refine Exists.intro _ (And.intro (at_map (by (first | omega | (simp only [wrap64, maxLen, List.length_map, List.length_append, List.length_cons, List.length_nil, Int.toNat_natCast] at *; omega)))) ?_) | (refine wrap_id' ?_; (first | omega | (simp only [wrap64, maxLen, List.length_map, List.length_append, List.length_cons, List.length_nil, Int.toNat_natCast] at *; omega))) | refine And.intro ?_ ?_ | fail
    all_goals first
      | exact back_k rfl
     

end Go.Proofs.Ytmblcloikeobdaa.Ev
