/- Contracts: what the functions of this part return, for arguments as each contract says. -/
import Derived.Test.YtfppiankgapakaaEvD
import Derived.Test.YtfppiankgapakaaEvTab
import Derived.Test.YtfppiankgapakaaSTy
import Derived.Test.YtfppiankgapakaaSKb
import Derived.Test.YtfppiankgapakaaSLb
import Derived.Test.YtfppiankgapakaaSRw
import Derived.Test.YtfppiankgapakaaSFr
import Derived.Test.YtfppiankgapakaaSMk
import Derived.Test.YtfppiankgapakaaSTl
import Derived.Test.YtfppiankgapakaaSDh
import Derived.Test.YtfppiankgapakaaSOb
import Derived.Test.YtfppiankgapakaaSEs
import Derived.Test.YtfppiankgapakaaSDg
import Derived.Test.YtfppiankgapakaaSWd
import Derived.Test.YtfppiankgapakaaSMo
import Derived.Test.YtfppiankgapakaaSDj
import Derived.Test.YtfppiankgapakaaSDk
import Derived.Test.YtfppiankgapakaaSDm
import Derived.Test.YtfppiankgapakaaSDn
import Derived.Test.YtfppiankgapakaaSDo
set_option linter.constructorNameAsVariable false
set_option linter.unusedVariables false
set_option linter.unusedSimpArgs false
set_option linter.unusedVariables false
set_option maxHeartbeats 4000000
set_option maxRecDepth 20000
set_option linter.unusedSimpArgs false
set_option linter.constructorNameAsVariable false
namespace Go.Proofs.Ytfppiankgapakaa.Ev
open Go Go.Proofs
attribute [local irreducible] RO Fn IntKind.wrap TriL
/- a world of one's own -/
def wAg (w : World') (b2 b3 : Nat) : AV := .ag [.sl 0 0 w.cells.length, .sl 1 0 w.jobs.length, .sl b2 0 w.todo.length, .sl b3 0 w.log.length, .i .i64 w.serial, .i .i64 w.now]
structure WAt (hp : Hp) (w : World') (b2 b3 : Nat) : Prop where
  cells : at? hp 0 = some (some ⟨1, true, w.cells.map iv⟩)
  jobs : LAt 2 18 jobRow jobObs hp 1 w.jobs
  todo : LAt 1 1 queueRow queueObs hp b2 w.todo
  log : LAt 1 13 evRow evObs hp b3 w.log
  e2 : b2 = 2 + 2 * w.jobs.length
  e3 : b3 = b2 + 1 + w.todo.length
structure WQ (w : World') (r : AV) (hp : Hp) : Prop where
  ex : ∃ b2 b3, r = wAg w b2 b3 ∧ WAt hp w b2 b3
theorem W_mk {w : World'} {H1 H2 H3 : Hp} (hl1 : H1.length = 1 + 1 + 2 * w.jobs.length) (hk1 : ∀ i, i < 1 → at? H1 i = at? [some (⟨1, true, w.cells.map iv⟩ : Ob)] i) (hA1 : LAt 2 18 jobRow jobObs H1 1 w.jobs)
    (hl2 : H2.length = H1.length + 1 + 1 * w.todo.length) (hk2 : ∀ i, i < H1.length → at? H2 i = at? H1 i) (hA2 : LAt 1 1 queueRow queueObs H2 H1.length w.todo)
    (hl3 : H3.length = H2.length + 1 + 1 * w.log.length) (hk3 : ∀ i, i < H2.length → at? H3 i = at? H2 i) (hA3 : LAt 1 13 evRow evObs H3 H2.length w.log) : WAt H3 w H1.length H2.length := by
  have e0 : at? H1 0 = some (some ⟨1, true, w.cells.map iv⟩) := hk1 0 (by omega)
  have e1 : at? H2 0 = some (some ⟨1, true, w.cells.map iv⟩) := by rw [hk2 0 (by omega)]; exact e0
  have e2 : at? H3 0 = some (some ⟨1, true, w.cells.map iv⟩) := by rw [hk3 0 (by omega)]; exact e1
  refine ⟨e2, LAt_keep hA1 (fun _ => rfl) (fun i q1 q2 => ?_) (by omega), LAt_keep hA2 (fun _ => rfl) (fun i q1 q2 => hk3 i (by omega)) (by omega), hA3, by omega, by omega⟩
  rw [hk3 i (by omega), hk2 i (by omega)]
theorem own_toWorld (w : World') (h1 : w.cells.length ≤ 1048576) (h2 : w.jobs.length ≤ 1048576) (h3 : ∀ j ∈ w.jobs, smallJob j) (h4 : w.todo.length ≤ 1048576) (h5 : ∀ j ∈ w.todo, smallQueue j) (h6 : w.log.length ≤ 1048576) (h7 : ∀ j ∈ w.log, smallEv j) :
    Fx Cf Try.prog 6 [.ag (w.av true)] [] (WQ w) := by
  have c1 := laws_toIntS w.cells h1
  refine Fx_of Cf_ok ?_
  repeat' first | refine And.intro rfl ?_ | (refine And.intro (fun h => ?_) (fun h => ?_) <;> (try simp only [decide_eq_true_eq, decide_eq_false_iff_not, Bool.not_eq_true', Bool.not_eq_false', Bool.and_eq_true, Bool.or_eq_true, Bool.not_eq_eq_eq_not, Bool.not_true, Bool.not_false, beq_iff_eq, bne_iff_ne, beq_eq_false_iff_ne, bne_eq_false_iff_eq, Nat.not_lt, Int.not_lt, Int.not_le, wrap_byteAt, List.length_map, eqB_Row, eqB_Op, eqB_Rec, toList_inj, toList_nil, ne_eq, Int.toNat_natCast] at h) <;> (try simp only [wrap64] at h) <;> (try (exfalso; first | exact absurd h Bool.false_ne_true | exact absurd h.symm Bool.false_ne_true | exact h trivial | exact h rfl | omega))) | refine And.intro ⟨by (first | omega | (simp only [wrap64, maxLen, List.length_map, List.length_append, List.length_cons, List.length_nil, Int.toNat_natCast] at *; omega)), by (first | omega | (simp only [wrap64, maxLen, List.length_map, List.length_append, List.length_cons, List.length_nil, Int.toNat_natCast] at *; omega))⟩ ?_ | refine And.intro (show (_ : Int) ≠ 0 by decide) ?_ | refine And.intro ⟨by (first | omega | (simp only [wrap64, maxLen, List.length_map, List.length_append, List.length_cons, List.length_nil, Int.toNat_natCast] at *; omega)), by (first | omega | (simp only [wrap64, maxLen, List.length_map, List.length_append, List.length_cons, List.length_nil, Int.toNat_natCast] at *; omega)), room (by exact rfl) (by (first | omega | (simp only [wrap64, maxLen, List.length_map, List.length_append, List.length_cons, List.length_nil, Int.toNat_natCast] at *; omega))) (by (first | omega | (simp only [wrap64, maxLen, List.length_map, List.length_append, List.length_cons, List.length_nil, Int.toNat_natCast] at *; omega)))⟩ ?_ | refine And.intro (roomN (by exact rfl) (by (first | omega | (simp only [wrap64, maxLen, List.length_map, List.length_append, List.length_cons, List.length_nil, Int.toNat_natCast] at *; omega)))) ?_ | exact trivial | exact rfl | refine Exists.intro _ (And.intro rfl ?_) | refine' cut1 _ ?_ ?_ | refine And.intro (deep_ag (by exact rfl) (by exact rfl)) ?_ | refine And.intro (deep_ag2 (by repeat' first | exact trivial | refine And.intro (by exact rfl) ?_)) ?_ | refine And.intro (deep_sl (by exact rfl) (by first | exact (List.length_map _).symm | assumption | exact rfl | (simp; done))) ?_ | refine And.intro (deep_rows (by intro x hx; repeat' first | exact trivial | refine And.intro (by exact rfl) ?_)) ?_ | refine And.intro (by exact rfl) ?_ | refine And.intro (Or.inl (by exact rfl)) ?_ | refine' Or.inr (Or.inl (And.intro rfl (Exists.intro _ (And.intro ?_ (Exists.intro _ (Exists.intro _ (And.intro (c1) (And.intro rfl ?_)))))))) | refine' Or.inr (Or.inr (Or.inr (Or.inr (And.intro rfl (And.intro rfl (Exists.intro _ (And.intro (own_toJobS [some ⟨1, true, w.cells.map iv⟩] w.jobs h2 h3) ?_))))))) | (rintro _ H1 ⟨rfl, (hl1 : List.length H1 = _), hk1, (hA1 : LAt 2 18 jobRow jobObs _ _ _)⟩; refine flH_mk ?_) | refine' Or.inr (Or.inr (Or.inr (Or.inr (And.intro rfl (And.intro rfl (Exists.intro _ (And.intro (own_toQueueS H1 w.todo h4 h5) ?_))))))) | (rintro _ H2 ⟨rfl, (hl2 : List.length H2 = _), hk2, (hA2 : LAt 1 1 queueRow queueObs _ _ _)⟩; refine flH_mk ?_) | refine' Or.inr (Or.inr (Or.inr (Or.inr (And.intro rfl (And.intro rfl (Exists.intro _ (And.intro (own_toEvS H2 w.log h6 h7) ?_))))))) | (rintro _ H3 ⟨rfl, (hl3 : List.length H3 = _), hk3, (hA3 : LAt 1 13 evRow evObs _ _ _)⟩; refine flH_mk ?_) | refine And.intro (show ByteArray.size _ + ByteArray.size _ ≤ _ from by (first | omega | (simp only [size_mk, size_add, List.size_toArray, List.length_cons, List.length_nil, maxLen] at *; omega))) ?_ | refine Exists.intro _ (And.intro (by with_unfolding_all exact rfl) ?_) | refine And.intro (by decide +kernel) ?_ | refine Exists.intro _ (And.intro (at_map (by (first | omega | (simp only [wrap64, maxLen, List.length_map, List.length_append, List.length_cons, List.length_nil, Int.toNat_natCast] at *; omega)))) ?_) | (refine wrap_id' ?_; (first | omega | (simp only [wrap64, maxLen, List.length_map, List.length_append, List.length_cons, List.length_nil, Int.toNat_natCast] at *; omega))) | refine And.intro ?_ ?_ | fail
  all_goals first
    | exact WQ.mk ⟨H1.length, H2.length, rfl, W_mk hl1 hk1 hA1 hl2 hk2 hA2 hl3 hk3 hA3⟩
   
theorem deep_flatD {hp : Hp} {id n wd d : Nat} {rows : List (List AV)} (h : at? hp id = some (some ⟨wd, true, rows⟩)) (hn : n = rows.length) : Deep hp (d + 1) (.sl id 0 n) (.ro true true wd rows) := by
  rw [Deep, h]
  exact ⟨_, cut_full _ hn, rfl⟩
theorem deep_L {α : Type} {m wd : Nat} {own : α → Nat → List AV} {objs : α → List Ob} {hp : Hp} {b d : Nat} {l : List α} (h : LAt m wd own objs hp b l) (avT : α → List AV)
    (hd : ∀ j (hj : j < l.length), (∀ i (hi : i < (objs l[j]).length), at? hp (b + 1 + m * j + i) = some (some (objs l[j])[i])) → All2 (Deep hp d) (own l[j] (b + 1 + m * j)) (avT l[j])) : Deep hp (d + 1) (.sl b 0 l.length) (.ro true false wd (l.map avT)) := by
  obtain ⟨rows, h0, h1, h2⟩ := h.out
  rw [Deep, h0]
  refine ⟨rows, cut_full _ h1.symm, ?_⟩
  rw [if_neg (show ¬ (false = true) from Bool.false_ne_true)]
  refine ⟨_, All2_of_at (by rw [List.length_map]; exact h1) ?_, rfl⟩
  intro j x y q1 q2
  have hj : j < l.length := by have := at_lt q2; rw [List.length_map] at this; exact this
  obtain ⟨g1, g2⟩ := h2 j hj
  rw [g1] at q1
  rw [at_map hj] at q2
  cases q1; cases q2
  exact hd j hj g2
theorem deep_W {hp : Hp} {w : World'} {b2 b3 : Nat} (h : WAt hp w b2 b3) : Deep hp 4 (wAg w b2 b3) (.ag (w.av true)) := by
  unfold wAg World'.av
  refine deep_ag2 ⟨deep_flatD h.cells (by rw [List.length_map]), ?_, ?_, ?_, rfl, rfl, trivial⟩
  · refine deep_L h.jobs (Job.av true) (fun j hj g => ?_)
    have g0 := g 0 (by show 0 < 2; omega)
    have g1 := g 1 (by show 1 < 2; omega)
    unfold jobRow Job.av
    exact ⟨rfl, rfl, rfl, rfl, rfl, rfl, rfl, rfl, rfl, rfl, rfl, rfl, rfl, rfl, rfl, rfl, deep_flatD g0 (by rw [List.length_map]), deep_flatD g1 (by rw [List.length_map]), trivial⟩
  · refine deep_L h.todo (Queue.av true) (fun j hj g => ?_)
    have g0 := g 0 (by show 0 < 1; omega)
    unfold queueRow Queue.av
    exact ⟨deep_flatD g0 (by rw [List.length_map]), trivial⟩
  · refine deep_L h.log (Evt.av true) (fun j hj g => ?_)
    have g0 := g 0 (by show 0 < 1; omega)
    unfold evRow Evt.av
    exact ⟨rfl, rfl, rfl, rfl, rfl, rfl, rfl, rfl, rfl, rfl, rfl, rfl, deep_flatD g0 (by rw [List.length_map]), trivial⟩
theorem WAt_keep {hp hp' : Hp} {w : World'} {b2 b3 : Nat} (h : WAt hp w b2 b3) (hk : ∀ i, i < hp.length → at? hp' i = at? hp i) (hl : hp.length ≤ hp'.length) : WAt hp' w b2 b3 := by
  have q1 := h.jobs.len; have q2 := h.todo.len; have q3 := h.log.len
  exact ⟨by rw [hk 0 (by omega)]; exact h.cells, LAt_keep h.jobs (fun _ => rfl) (fun i _ _ => hk i (by omega)) (by omega), LAt_keep h.todo (fun _ => rfl) (fun i _ _ => hk i (by omega)) (by omega), LAt_keep h.log (fun _ => rfl) (fun i _ _ => hk i (by omega)) (by omega), h.e2, h.e3⟩
theorem WAt_app {hp X : Hp} {w : World'} {b2 b3 : Nat} (h : WAt hp w b2 b3) : WAt (hp ++ X) w b2 b3 := WAt_keep h (fun i hi => at_appL hi) (by rw [List.length_append]; omega)
structure MQ (H : Hp) (n : Nat) (r : AV) (hp : Hp) : Prop where
  ex : ∃ k : Int, r = .i .i64 k ∧ 0 < k ∧ k ≤ 1073741824
  len : hp.length = H.length
  keep : ∀ i, n ≤ i → at? hp i = at? H i
theorem own_markWorld (H : Hp) (w : World') (b2 b3 : Nat) (h : WAt H w b2 b3) (h1 : w.cells.length ≤ 1048576) (h2 : w.jobs.length ≤ 1048576) (h4 : w.todo.length ≤ 1048576) (h6 : w.log.length ≤ 1048576)
    (s1 : (w.jobs.map jobSz).sum ≤ 1048576) (s2 : (w.todo.map queueSz).sum ≤ 1048576) (s3 : (w.log.map evSz).sum ≤ 1048576) :
    Fx Cf Try.prog 10 [wAg w b2 b3, .i .i64 1] H (MQ H (b3 + 1 + w.log.length)) := by
  have c1 := markI_at (n := w.cells.length) rfl h.cells h1 1 (by omega) (by omega)
  have q1 := h.jobs.len; have q2 := h.todo.len; have q3 := h.log.len
  have e2 := h.e2; have e3 := h.e3
  have hA1 : ∀ X, LAt 2 18 jobRow jobObs (upd H 0 X) 1 w.jobs := fun X => LAt_keep h.jobs (fun _ => rfl) (fun i q _ => at_updN (by omega)) (by rw [len_upd]; omega)
  have hA2 : ∀ X, LAt 1 1 queueRow queueObs (upd H 0 X) b2 w.todo := fun X => LAt_keep h.todo (fun _ => rfl) (fun i q _ => at_updN (by omega)) (by rw [len_upd]; omega)
  have hA3 : ∀ X, LAt 1 13 evRow evObs (upd H 0 X) b3 w.log := fun X => LAt_keep h.log (fun _ => rfl) (fun i q _ => at_updN (by omega)) (by rw [len_upd]; omega)
  unfold wAg
  refine Fx_of Cf_ok ?_
  repeat' first | refine And.intro rfl ?_ | (refine And.intro (fun h => ?_) (fun h => ?_) <;> (try simp only [decide_eq_true_eq, decide_eq_false_iff_not, Bool.not_eq_true', Bool.not_eq_false', Bool.and_eq_true, Bool.or_eq_true, Bool.not_eq_eq_eq_not, Bool.not_true, Bool.not_false, beq_iff_eq, bne_iff_ne, beq_eq_false_iff_ne, bne_eq_false_iff_eq, Nat.not_lt, Int.not_lt, Int.not_le, wrap_byteAt, List.length_map, eqB_Row, eqB_Op, eqB_Rec, toList_inj, toList_nil, ne_eq, Int.toNat_natCast] at h) <;> (try simp only [wrap64] at h) <;> (try (exfalso; first | exact absurd h Bool.false_ne_true | exact absurd h.symm Bool.false_ne_true | exact h trivial | exact h rfl | omega))) | refine And.intro ⟨by (first | omega | (simp only [wrap64, maxLen, List.length_map, List.length_append, List.length_cons, List.length_nil, Int.toNat_natCast] at *; omega)), by (first | omega | (simp only [wrap64, maxLen, List.length_map, List.length_append, List.length_cons, List.length_nil, Int.toNat_natCast] at *; omega))⟩ ?_ | refine And.intro (show (_ : Int) ≠ 0 by decide) ?_ | refine And.intro ⟨by (first | omega | (simp only [wrap64, maxLen, List.length_map, List.length_append, List.length_cons, List.length_nil, Int.toNat_natCast] at *; omega)), by (first | omega | (simp only [wrap64, maxLen, List.length_map, List.length_append, List.length_cons, List.length_nil, Int.toNat_natCast] at *; omega)), room (by exact rfl) (by (first | omega | (simp only [wrap64, maxLen, List.length_map, List.length_append, List.length_cons, List.length_nil, Int.toNat_natCast] at *; omega))) (by (first | omega | (simp only [wrap64, maxLen, List.length_map, List.length_append, List.length_cons, List.length_nil, Int.toNat_natCast] at *; omega)))⟩ ?_ | refine And.intro (roomN (by exact rfl) (by (first | omega | (simp only [wrap64, maxLen, List.length_map, List.length_append, List.length_cons, List.length_nil, Int.toNat_natCast] at *; omega)))) ?_ | exact trivial | exact rfl | refine Exists.intro _ (And.intro rfl ?_) | refine' cut1 _ ?_ ?_ | refine And.intro (deep_ag (by exact rfl) (by exact rfl)) ?_ | refine And.intro (deep_ag2 (by repeat' first | exact trivial | refine And.intro (by exact rfl) ?_)) ?_ | refine And.intro (deep_sl (by exact rfl) (by first | exact (List.length_map _).symm | assumption | exact rfl | (simp; done))) ?_ | refine And.intro (deep_rows (by intro x hx; repeat' first | exact trivial | refine And.intro (by exact rfl) ?_)) ?_ | refine And.intro (by exact rfl) ?_ | refine And.intro (Or.inl (by exact rfl)) ?_ | refine flH_mk ?_ | refine' Or.inr (Or.inr (Or.inl (And.intro rfl (And.intro rfl (Exists.intro _ (Exists.intro _ (And.intro (c1) ?_))))))) | refine' Or.inr (Or.inr (Or.inr (Or.inr (And.intro rfl (And.intro rfl (Exists.intro _ (And.intro (own_markJobS _ 1 w.jobs (hA1 _) h2 s1 _ (by omega) (by omega)) ?_))))))) | (rintro _ H1 ⟨rfl, (hl1 : List.length H1 = _), (hk1 : ∀ i, (i < 1 ∨ _) → _)⟩; have hB2 := LAt_keep (hp' := H1) (hA2 _) (fun _ => rfl) (fun i q _ => hk1 i (by omega)) (by rw [hl1, len_upd]; omega); have hB3 := LAt_keep (hp' := H1) (hA3 _) (fun _ => rfl) (fun i q _ => hk1 i (by omega)) (by rw [hl1, len_upd]; omega); refine flH_mk ?_) | refine' Or.inr (Or.inr (Or.inr (Or.inr (And.intro rfl (And.intro rfl (Exists.intro _ (And.intro (own_markQueueS H1 b2 w.todo hB2 h4 s2 _ (by omega) (by omega)) ?_))))))) | (rintro _ H2 ⟨rfl, (hl2 : List.length H2 = _), (hk2 : ∀ i, (i < b2 ∨ _) → _)⟩; have hC3 := LAt_keep (hp' := H2) hB3 (fun _ => rfl) (fun i q _ => hk2 i (by omega)) (by rw [hl2, hl1, len_upd]; omega); refine flH_mk ?_) | refine' Or.inr (Or.inr (Or.inr (Or.inr (And.intro rfl (And.intro rfl (Exists.intro _ (And.intro (own_markEvS H2 b3 w.log hC3 h6 s3 _ (by omega) (by omega)) ?_))))))) | (rintro _ H3 ⟨rfl, (hl3 : List.length H3 = _), (hk3 : ∀ i, (i < b3 ∨ _) → _)⟩; refine flH_mk ?_) | refine fl_mk ?_ | refine And.intro (show ByteArray.size _ + ByteArray.size _ ≤ _ from by (first | omega | (simp only [size_mk, size_add, List.size_toArray, List.length_cons, List.length_nil, maxLen] at *; omega))) ?_ | refine Exists.intro _ (And.intro (by with_unfolding_all exact rfl) ?_) | refine And.intro (by decide +kernel) ?_ | refine Exists.intro _ (And.intro (at_map (by (first | omega | (simp only [wrap64, maxLen, List.length_map, List.length_append, List.length_cons, List.length_nil, Int.toNat_natCast] at *; omega)))) ?_) | (refine wrap_id' ?_; (first | omega | (simp only [wrap64, maxLen, List.length_map, List.length_append, List.length_cons, List.length_nil, Int.toNat_natCast] at *; omega))) | refine And.intro ?_ ?_ | fail
  all_goals first
    | (refine MQ.mk ⟨_, rfl, by omega, by omega⟩ (by rw [hl3, hl2, hl1, len_upd]) (fun i hi => ?_)
       rw [hk3 i (by omega), hk2 i (by omega), hk1 i (by omega), at_updN (by omega)])
   

end Go.Proofs.Ytfppiankgapakaa.Ev
