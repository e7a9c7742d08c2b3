/- Contracts: what the functions of this part return, for arguments as each contract says. -/
import Derived.Test.YtfppiankgapakaaEvD
import Derived.Test.YtfppiankgapakaaEvTab
import Derived.Test.YtfppiankgapakaaSTy
import Derived.Test.YtfppiankgapakaaSKt
import Derived.Test.YtfppiankgapakaaSKb
import Derived.Test.YtfppiankgapakaaSLb
import Derived.Test.YtfppiankgapakaaSOb
import Derived.Test.YtfppiankgapakaaSRw
import Derived.Test.YtfppiankgapakaaSFr
import Derived.Test.YtfppiankgapakaaSEs
import Derived.Test.YtfppiankgapakaaSWd
import Derived.Test.YtfppiankgapakaaSIn
import Derived.Test.YtfppiankgapakaaSIo
import Derived.Test.YtfppiankgapakaaSMk
import Derived.Test.YtfppiankgapakaaSTl
import Derived.Test.YtfppiankgapakaaSDh
import Derived.Test.YtfppiankgapakaaSDg
import Derived.Test.YtfppiankgapakaaSMo
import Derived.Test.YtfppiankgapakaaSDj
import Derived.Test.YtfppiankgapakaaSDk
import Derived.Test.YtfppiankgapakaaSDm
import Derived.Test.YtfppiankgapakaaSDn
import Derived.Test.YtfppiankgapakaaSDo
import Derived.Test.YtfppiankgapakaaSDp
set_option linter.constructorNameAsVariable false
set_option linter.unusedVariables false
set_option linter.unusedSimpArgs false
set_option linter.unusedVariables false
set_option maxHeartbeats 4000000
set_option maxRecDepth 20000
set_option linter.unusedSimpArgs false
set_option linter.constructorNameAsVariable false
namespace Go.Proofs.Ytfppiankgapakaa.Ev
open Go Go.Proofs
attribute [local irreducible] RO Fn IntKind.wrap TriL
/- the law of Inside -/
theorem deep_job {hp : Hp} (g : Bool) (x : Job) : All2 (Deep hp 2) (x.av g) (x.av true) := by
  unfold Job.av
  exact ⟨rfl, rfl, rfl, rfl, rfl, rfl, rfl, rfl, rfl, rfl, rfl, rfl, rfl, rfl, rfl, rfl, rfl, rfl, trivial⟩
theorem deep_queue {hp : Hp} (g : Bool) (x : Queue) : All2 (Deep hp 2) (x.av g) (x.av true) := by
  unfold Queue.av
  exact ⟨rfl, trivial⟩
theorem deep_evt {hp : Hp} (g : Bool) (x : Evt) : All2 (Deep hp 2) (x.av g) (x.av true) := by
  unfold Evt.av
  exact ⟨rfl, rfl, rfl, rfl, rfl, rfl, rfl, rfl, rfl, rfl, rfl, rfl, rfl, trivial⟩
theorem All2_map2 {α : Type} {f g : α → List AV} {R : List AV → List AV → Prop} : ∀ l : List α, (∀ x, R (f x) (g x)) → All2 R (l.map f) (l.map g)
  | [], _ => trivial
  | x :: l, h => ⟨h x, All2_map2 l h⟩
theorem deep_world {hp : Hp} (g : Bool) (w : World') : Deep hp 4 (.ag (w.av g)) (.ag (w.av true)) := by
  unfold World'.av
  exact deep_ag2 ⟨rfl, ⟨_, All2_map2 _ (fun x => deep_job g x), rfl⟩, ⟨_, All2_map2 _ (fun x => deep_queue g x), rfl⟩, ⟨_, All2_map2 _ (fun x => deep_evt g x), rfl⟩, rfl, rfl, trivial⟩
theorem szRows_sub {x : List Row} {n : Int} (h0 : 0 ≤ n) (h : 0 ≤ szRows x n) : szRows x n + x.length ≤ n := by
  unfold szRows szL at *
  split at h
  · omega
  · rename_i q
    rw [if_neg q]
    have := (szAll_le' szLe_szRow x (n - x.length) (by omega)).1
    omega
theorem szAll_sum {α : Type} {f : α → Int → Int} {g : α → Nat} (hf : ∀ x n, 0 ≤ n → 0 ≤ f x n → f x n + g x ≤ n) : ∀ (l : List α) (n : Int), 0 ≤ n → 0 ≤ szAll f l n → ((l.map g).sum : Int) ≤ n
  | [], n, h, _ => by simpa using h
  | x :: l, n, h0, h => by
    rw [szAll_cons] at h
    by_cases h1 : f x n < 0
    · rw [if_pos h1] at h; omega
    · rw [if_neg h1] at h
      have h2 := hf x n h0 (by omega)
      have h3 := szAll_sum hf l _ (by omega) h
      rw [List.map_cons, List.sum_cons]
      push_cast at *
      omega
theorem szL_sum {α : Type} {f : α → Int → Int} {g : α → Nat} (hf : ∀ x n, 0 ≤ n → 0 ≤ f x n → f x n + g x ≤ n) (l : List α) (n : Int) (h0 : 0 ≤ n) (h : 0 ≤ szL f l n) : ((l.map g).sum : Int) ≤ n := by
  unfold szL at h
  split at h
  · omega
  · have := szAll_sum hf l _ (by omega) h
    omega
theorem szJob_sub (x : Job) (n : Int) (h0 : 0 ≤ n) (h : 0 ≤ szJob x n) : szJob x n + (jobSz x : Nat) ≤ n := by
  unfold jobSz
  simp only [szJob] at *
  split at h
  · omega
  rename_i q1
  rw [if_neg q1]
  split at h
  · omega
  rename_i q2
  rw [if_neg q2]
  split at h
  · omega
  rename_i q3
  rw [if_neg q3]
  have a1 := szN_le _ _ (Int.not_lt.1 q1)
  have a2 := szN_le _ _ (Int.not_lt.1 q2)
  have a3 := szN_le _ _ (Int.not_lt.1 q3)
  push_cast
  omega
theorem szQueue_sub (x : Queue) (n : Int) (h0 : 0 ≤ n) (h : 0 ≤ szQueue x n) : szQueue x n + (queueSz x : Nat) ≤ n := by
  unfold szQueue queueSz at *
  split at h
  · omega
  rename_i q
  rw [if_neg q]
  unfold szL at *
  split at h
  · omega
  rename_i q2
  rw [if_neg q2]
  have := (szAll_le' szLe_szOp x.ops (n - x.ops.length) (by omega)).1
  omega
theorem szEv_sub (x : Evt) (n : Int) (h0 : 0 ≤ n) (h : 0 ≤ szEv x n) : szEv x n + (evSz x : Nat) ≤ n := by
  unfold szEv evSz at *
  split at h
  · omega
  rename_i q
  rw [if_neg q]
  split at h
  · omega
  rename_i q2
  rw [if_neg q2]
  have a1 := szN_le _ _ (Int.not_lt.1 q)
  have := szRows_sub (x := x.rows) (Int.not_lt.1 q) (Int.not_lt.1 q2)
  omega
theorem szWorld_sums (w : World') (h : 0 ≤ szWorld w 1048576) : (w.jobs.map jobSz).sum ≤ 1048576 ∧ (w.todo.map queueSz).sum ≤ 1048576 ∧ (w.log.map evSz).sum ≤ 1048576 := by
  simp only [szWorld] at h
  split at h
  · omega
  rename_i h1
  split at h
  · omega
  rename_i h2
  split at h
  · omega
  rename_i h3
  split at h
  · omega
  rename_i h4
  obtain ⟨a1, a2⟩ := szN_le _ _ (by omega : 0 ≤ szN w.cells.length 1048576)
  have b1 := szL_sum szJob_sub w.jobs _ (by omega) (Int.not_lt.1 h2)
  have b2 := (szL_le' szLe_szJob w.jobs (szN w.cells.length 1048576) (by omega)).1
  have c1 := szL_sum szQueue_sub w.todo _ (by omega) (Int.not_lt.1 h3)
  have c2 := (szL_le' szLe_szQueue w.todo (szL szJob w.jobs (szN w.cells.length 1048576)) (by omega)).1
  have d1 := szL_sum szEv_sub w.log _ (by omega) (Int.not_lt.1 h4)
  exact ⟨by omega, by omega, by omega⟩
theorem deep_flat {hp : Hp} {id n wd : Nat} {rows : List (List AV)} (h : at? hp id = some (some ⟨wd, true, rows⟩)) (hn : n = rows.length) : Deep hp 4 (.sl id 0 n) (.ro true true wd rows) := deep_flatD h hn
theorem ro_implInside (w : World') (hw : w.ok) : RO Cf Try.prog 7 [.ag (w.av true)] (.ro false true 1 (([insN 0 w.jobs, insN 1 w.jobs] : List Int).map iv)) :=
  RO_of_Fn (impl_Inside w hw) ⟨_, cut_full _ rfl, rfl⟩
theorem ro_specInside (w : World') (hw : w.ok) : RO Cf Try.prog 5 [.ag (w.av true)] (.ro false true 1 (([insN 0 w.jobs, insN 1 w.jobs] : List Int).map iv)) :=
  RO_of_Fn (spec_Inside w hw) ⟨_, cut_full _ rfl, rfl⟩
theorem own_implInside (w : World') (hw : w.ok) : Fn Cf Try.prog 7 [.ag (w.av true)] [] (.sl 0 0 2) [some ⟨1, true, ([insN 0 w.jobs, insN 1 w.jobs] : List Int).map iv⟩] := impl_Inside w hw
theorem law_FnExactInside (w : World') (hw : w.ok) : RO Cf Try.prog 3 [.ag (w.av true)] (.b true) := by
  have hz := laws_szWorld w hw 1048576 (by omega) (by omega)
  by_cases h0 : szWorld w 1048576 < 0
  · generalize szWorld w 1048576 = z at *
    refine RO_of Cf_ok ?_
    repeat' first | refine And.intro rfl ?_ | (refine And.intro (fun h => ?_) (fun h => ?_) <;> (try simp only [decide_eq_true_eq, decide_eq_false_iff_not, Bool.not_eq_true', Bool.not_eq_false', Bool.and_eq_true, Bool.or_eq_true, Bool.not_eq_eq_eq_not, Bool.not_true, Bool.not_false, beq_iff_eq, bne_iff_ne, beq_eq_false_iff_ne, bne_eq_false_iff_eq, Nat.not_lt, Int.not_lt, Int.not_le, wrap_byteAt, List.length_map, eqB_Row, eqB_Op, eqB_Rec, toList_inj, toList_nil, ne_eq, Int.toNat_natCast] at h) <;> (try simp only [wrap64] at h) <;> (try (exfalso; first | exact absurd h Bool.false_ne_true | exact absurd h.symm Bool.false_ne_true | exact h trivial | exact h rfl | omega))) | refine And.intro ⟨by (first | omega | (simp only [wrap64, maxLen, List.length_map, List.length_append, List.length_cons, List.length_nil, Int.toNat_natCast] at *; omega)), by (first | omega | (simp only [wrap64, maxLen, List.length_map, List.length_append, List.length_cons, List.length_nil, Int.toNat_natCast] at *; omega))⟩ ?_ | refine And.intro (show (_ : Int) ≠ 0 by decide) ?_ | refine And.intro ⟨by (first | omega | (simp only [wrap64, maxLen, List.length_map, List.length_append, List.length_cons, List.length_nil, Int.toNat_natCast] at *; omega)), by (first | omega | (simp only [wrap64, maxLen, List.length_map, List.length_append, List.length_cons, List.length_nil, Int.toNat_natCast] at *; omega)), room (by exact rfl) (by (first | omega | (simp only [wrap64, maxLen, List.length_map, List.length_append, List.length_cons, List.length_nil, Int.toNat_natCast] at *; omega))) (by (first | omega | (simp only [wrap64, maxLen, List.length_map, List.length_append, List.length_cons, List.length_nil, Int.toNat_natCast] at *; omega)))⟩ ?_ | refine And.intro (roomN (by exact rfl) (by (first | omega | (simp only [wrap64, maxLen, List.length_map, List.length_append, List.length_cons, List.length_nil, Int.toNat_natCast] at *; omega)))) ?_ | exact trivial | exact rfl | refine Exists.intro _ (And.intro rfl ?_) | refine' cut1 _ ?_ ?_ | refine And.intro (deep_ag (by exact rfl) (by exact rfl)) ?_ | refine And.intro (deep_ag2 (by repeat' first | exact trivial | refine And.intro (by exact rfl) ?_)) ?_ | refine And.intro (deep_sl (by exact rfl) (by first | exact (List.length_map _).symm | assumption | exact rfl | (simp; done))) ?_ | refine And.intro (deep_rows (by intro x hx; repeat' first | exact trivial | refine And.intro (by exact rfl) ?_)) ?_ | refine And.intro (by exact rfl) ?_ | refine And.intro (Or.inl (by exact rfl)) ?_ | (refine' Or.inl (Exists.intro _ (And.intro ?_ (Exists.intro _ (And.intro (hz) (And.intro rfl ?_))))); focus (exact And.intro (deep_world true w) (And.intro rfl trivial))) | refine And.intro (show ByteArray.size _ + ByteArray.size _ ≤ _ from by (first | omega | (simp only [size_mk, size_add, List.size_toArray, List.length_cons, List.length_nil, maxLen] at *; omega))) ?_ | refine Exists.intro _ (And.intro (by with_unfolding_all exact rfl) ?_) | refine And.intro (by decide +kernel) ?_ | refine Exists.intro _ (And.intro (at_map (by (first | omega | (simp only [wrap64, maxLen, List.length_map, List.length_append, List.length_cons, List.length_nil, Int.toNat_natCast] at *; omega)))) ?_) | (refine wrap_id' ?_; (first | omega | (simp only [wrap64, maxLen, List.length_map, List.length_append, List.length_cons, List.length_nil, Int.toNat_natCast] at *; omega))) | refine And.intro ?_ ?_ | fail
    all_goals exact back_k rfl
  · obtain ⟨l1, l2, l3, l4, l5, l6, l7⟩ := szWorld_small w (by omega)
    obtain ⟨s1, s2, s3⟩ := szWorld_sums w (by omega)
    have c1 := ro_toWorld w l1 l2 l3 l4 l5 l6 l7
    have c2 := own_toWorld w l1 l2 l3 l4 l5 l6 l7
    have c3 := ro_specInside w hw
    have c4 := own_implInside w hw
    have c5 := ro_implInside w hw
    have c7 := laws_eqWorld w w hw hw
    rw [decide_eq_true rfl] at c7
    replace c7 := RO_kt c7
    have cMk := fun (H : Hp) (b2 b3 : Nat) (h : WAt H w b2 b3) => own_markWorld H w b2 b3 h l1 l2 l4 l6 s1 s2 s3
    have hSl : ([insN 0 w.jobs, insN 1 w.jobs] : List Int).length = 2 := rfl
    generalize ([insN 0 w.jobs, insN 1 w.jobs] : List Int) = S at *
    have hm2 : (S.map iv).length = 2 := by rw [List.length_map]; exact hSl
    have c6 := laws_eqIntS S S (by omega) (by omega)
    rw [decide_eq_true rfl] at c6
    replace c6 := RO_kt c6
    have c8 := laws_markIntS S (by omega) 1 (by omega) (by omega)
    have c9 := laws_heldIntS 1 (by omega) (by omega) 2 (by omega)
    rw [hSl] at c8
    have hmi : (mInt 1 2).length = 2 := mInt_len _ _
    generalize szWorld w 1048576 = z at *
    clear l1 l2 l3 l4 l5 l6 l7 s1 s2 s3
    refine RO_of Cf_ok ?_
    repeat' first | refine And.intro rfl ?_ | (refine And.intro (fun h => ?_) (fun h => ?_) <;> (try simp only [decide_eq_true_eq, decide_eq_false_iff_not, Bool.not_eq_true', Bool.not_eq_false', Bool.and_eq_true, Bool.or_eq_true, Bool.not_eq_eq_eq_not, Bool.not_true, Bool.not_false, beq_iff_eq, bne_iff_ne, beq_eq_false_iff_ne, bne_eq_false_iff_eq, Nat.not_lt, Int.not_lt, Int.not_le, wrap_byteAt, List.length_map, eqB_Row, eqB_Op, eqB_Rec, toList_inj, toList_nil, ne_eq, Int.toNat_natCast] at h) <;> (try simp only [wrap64] at h) <;> (try (exfalso; first | exact absurd h Bool.false_ne_true | exact absurd h.symm Bool.false_ne_true | exact h trivial | exact h rfl | omega))) | refine And.intro ⟨by (first | omega | (simp only [wrap64, maxLen, List.length_map, List.length_append, List.length_cons, List.length_nil, Int.toNat_natCast] at *; omega)), by (first | omega | (simp only [wrap64, maxLen, List.length_map, List.length_append, List.length_cons, List.length_nil, Int.toNat_natCast] at *; omega))⟩ ?_ | refine And.intro (show (_ : Int) ≠ 0 by decide) ?_ | refine And.intro ⟨by (first | omega | (simp only [wrap64, maxLen, List.length_map, List.length_append, List.length_cons, List.length_nil, Int.toNat_natCast] at *; omega)), by (first | omega | (simp only [wrap64, maxLen, List.length_map, List.length_append, List.length_cons, List.length_nil, Int.toNat_natCast] at *; omega)), room (by exact rfl) (by (first | omega | (simp only [wrap64, maxLen, List.length_map, List.length_append, List.length_cons, List.length_nil, Int.toNat_natCast] at *; omega))) (by (first | omega | (simp only [wrap64, maxLen, List.length_map, List.length_append, List.length_cons, List.length_nil, Int.toNat_natCast] at *; omega)))⟩ ?_ | refine And.intro (roomN (by exact rfl) (by (first | omega | (simp only [wrap64, maxLen, List.length_map, List.length_append, List.length_cons, List.length_nil, Int.toNat_natCast] at *; omega)))) ?_ | exact trivial | exact rfl | refine Exists.intro _ (And.intro rfl ?_) | refine' cut1 _ ?_ ?_ | refine And.intro (deep_ag (by exact rfl) (by exact rfl)) ?_ | refine And.intro (deep_ag2 (by repeat' first | exact trivial | refine And.intro (by exact rfl) ?_)) ?_ | refine And.intro (deep_sl (by exact rfl) (by first | exact (List.length_map _).symm | assumption | exact rfl | (simp; done))) ?_ | refine And.intro (deep_rows (by intro x hx; repeat' first | exact trivial | refine And.intro (by exact rfl) ?_)) ?_ | refine And.intro (by exact rfl) ?_ | refine And.intro (Or.inl (by exact rfl)) ?_ | (refine' Or.inl (Exists.intro _ (And.intro ?_ (Exists.intro _ (And.intro (hz) (And.intro rfl ?_))))); focus (exact And.intro (deep_world true w) (And.intro rfl trivial))) | (have _q := mkB; (refine' Or.inl (Exists.intro _ (And.intro ?_ (Exists.intro _ (And.intro (c1) (And.intro rfl ?_))))); focus (exact And.intro (deep_world true w) trivial))) | (have _q := mkA; refine' Or.inr (Or.inr (Or.inr (Or.inr (And.intro rfl (And.intro rfl (Exists.intro _ (And.intro (c2) ?_)))))))) | (rintro _ H0 ⟨b2, b3, rfl, (hW : WAt _ _ _ _)⟩; have mkB : True := trivial; refine flH_mk ?_) | ((refine' Or.inl (Exists.intro _ (And.intro ?_ (Exists.intro _ (And.intro (c1) (And.intro rfl ?_))))); (focus (exact And.intro (deep_world true w) trivial))); have mkA : True := trivial) | (refine' Or.inl (Exists.intro _ (And.intro ?_ (Exists.intro _ (And.intro (c3) (And.intro rfl ?_))))); focus (exact And.intro (deep_world false w) trivial)) | (have _q := mkG; (refine' Or.inl (Exists.intro _ (And.intro ?_ (Exists.intro _ (And.intro (c5) (And.intro rfl ?_))))); focus (exact And.intro (deep_world false w) trivial))) | (refine' Or.inr (Or.inl (And.intro rfl (Exists.intro _ (And.intro ?_ (Exists.intro _ (Exists.intro _ (And.intro (c4) (And.intro rfl ?_)))))))); (focus (exact And.intro (deep_W hW) trivial)); have mkG : True := trivial) | refine nk_mk ?_ | refine flH_mk ?_ | (refine' Or.inl (Exists.intro _ (And.intro ?_ (Exists.intro _ (And.intro (c6) (And.intro rfl ?_))))); focus (first | exact And.intro (deep_flat at_appE hm2.symm) (And.intro rfl trivial) | exact And.intro (deep_flat hg1 hm2.symm) (And.intro rfl trivial) | exact And.intro rfl (And.intro rfl trivial))) | (refine' Or.inl (Exists.intro _ (And.intro ?_ (Exists.intro _ (And.intro (c7) (And.intro rfl ?_))))); focus (exact And.intro (deep_W (WAt_app hW)) (And.intro (deep_world false w) trivial))) | refine' Or.inr (Or.inr (Or.inr (Or.inr (And.intro rfl (And.intro rfl (Exists.intro _ (And.intro (cMk _ b2 b3 (WAt_app hW)) ?_))))))) | (rintro _ H1 ⟨⟨kk, rfl, hkk0, hkk1⟩, (hl1 : List.length H1 = _), hk1⟩; have hg1 : at? H1 H0.length = some (some ⟨1, true, S.map iv⟩) := (by rw [hk1 _ (by have := hW.log.len; omega)]; exact at_appE); refine flH_mk ?_) | refine' Or.inr (Or.inr (Or.inl (And.intro rfl (And.intro rfl (Exists.intro _ (Exists.intro _ (And.intro (Fn_at1 H0.length c8 (by have := at_lt hg1; simpa using this) (ren1 _ _ _ _) hg1 rfl rfl rfl) ?_))))))) | refine fl_mk ?_ | (refine' Or.inl (Exists.intro _ (And.intro ?_ (Exists.intro _ (And.intro (c9) (And.intro rfl ?_))))); focus (exact And.intro (deep_flat (at_updS (at_lt hg1)) (by rw [List.length_map]; exact hmi.symm)) (And.intro rfl trivial))) | refine And.intro (show ByteArray.size _ + ByteArray.size _ ≤ _ from by (first | omega | (simp only [size_mk, size_add, List.size_toArray, List.length_cons, List.length_nil, maxLen] at *; omega))) ?_ | refine Exists.intro _ (And.intro (by with_unfolding_all exact rfl) ?_) | refine And.intro (by decide +kernel) ?_ | refine Exists.intro _ (And.intro (at_map (by (first | omega | (simp only [wrap64, maxLen, List.length_map, List.length_append, List.length_cons, List.length_nil, Int.toNat_natCast] at *; omega)))) ?_) | (refine wrap_id' ?_; (first | omega | (simp only [wrap64, maxLen, List.length_map, List.length_append, List.length_cons, List.length_nil, Int.toNat_natCast] at *; omega))) | refine And.intro ?_ ?_ | fail
    all_goals first
      | exact back_k rfl
     

end Go.Proofs.Ytfppiankgapakaa.Ev
