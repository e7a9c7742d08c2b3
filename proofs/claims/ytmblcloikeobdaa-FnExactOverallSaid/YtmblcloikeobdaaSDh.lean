/- Contracts: what the functions of this part return, for arguments as each contract says. -/
import Derived.Test.YtmblcloikeobdaaEvD
import Derived.Test.YtmblcloikeobdaaEvTab
import Derived.Test.YtmblcloikeobdaaSTy
import Derived.Test.YtmblcloikeobdaaSKb
import Derived.Test.YtmblcloikeobdaaSLb
import Derived.Test.YtmblcloikeobdaaSRw
import Derived.Test.YtmblcloikeobdaaSFr
import Derived.Test.YtmblcloikeobdaaSMk
import Derived.Test.YtmblcloikeobdaaSTl
set_option linter.constructorNameAsVariable false
set_option linter.unusedVariables false
set_option linter.unusedSimpArgs false
set_option linter.unusedVariables false
set_option maxHeartbeats 4000000
set_option maxRecDepth 20000
set_option linter.unusedSimpArgs false
set_option linter.constructorNameAsVariable false
namespace Go.Proofs.Ytmblcloikeobdaa.Ev
open Go Go.Proofs
attribute [local irreducible] RO Fn IntKind.wrap TriL
/- memory within memory: lists of lists of one's own -/
theorem nk_mk {n : Nat} {K : Nat → Prop} (h : K n) : nk n K := by rw [nk_eq]; exact h
theorem flH_mk {l : Hp} {K : Hp → Prop} (h : K l) : flH l K := by rw [flH_eq]; exact h
theorem fl_mk {α : Type} {l : List α} {K : List α → Prop} (h : K l) : fl l K := by rw [fl_eq]; exact h
theorem updK_mk {α : Type} {l : List α} {n : Nat} {v : α} {K : List α → Prop} (h : K (upd l n v)) : updK l n v K := by rw [updK_eq]; exact h
theorem wd_at {hp : Hp} {id sz : Nat} {ob : Ob} (h : at? hp id = some (some ob)) (e : ob.wd = sz) : wdOk hp id sz := by
  unfold wdOk; rw [h]; exact e
theorem ld_mk {C : Cfg} {e : List AV} {b : List (Option (List AV))} {hp : Hp} {t id i o : Nat} {ob : Ob} {K : AV → Prop} (h : at? hp id = some (some ob)) (k : ∃ row, at? ob.rows i = some row ∧ cutK C t o row K) : loadP C ⟨e, b, hp⟩ t K (.pt id i o) := by
  simp only [loadP, h]; exact k
theorem at_lt {α : Type} {l : List α} {i : Nat} {x : α} (h : at? l i = some x) : i < l.length := by
  rw [at?_eq] at h; exact (List.getElem?_eq_some_iff.1 h).1
theorem at_updS {α : Type} {l : List α} {i : Nat} {x : α} (h : i < l.length) : at? (upd l i x) i = some x := by
  rw [at?_eq, upd_eq, List.getElem?_set_self h]
theorem at_updN {α : Type} {l : List α} {i j : Nat} {x : α} (h : i ≠ j) : at? (upd l i x) j = at? l j := by
  rw [at?_eq, at?_eq, upd_eq, List.getElem?_set_ne h]
theorem at_appL {α : Type} {l r : List α} {i : Nat} (h : i < l.length) : at? (l ++ r) i = at? l i := by
  rw [at?_eq, at?_eq, List.getElem?_append_left h]
theorem at_appE {α : Type} {l : List α} {x : α} : at? (l ++ [x]) l.length = some x := by
  rw [at?_eq, List.getElem?_append_right (Nat.le_refl _), Nat.sub_self]; rfl
theorem at_appX {α : Type} {l : List α} {x : α} {i : Nat} (h : i = l.length) : at? (l ++ [x]) i = some x := by
  subst h; exact at_appE
theorem All2_of_at {α β : Type} {R : α → β → Prop} : ∀ {l : List α} {r : List β}, l.length = r.length → (∀ j x y, at? l j = some x → at? r j = some y → R x y) → All2 R l r
  | [], [], _, _ => trivial
  | [], _ :: _, h, _ => by simp at h
  | _ :: _, [], h, _ => by simp at h
  | x :: l, y :: r, h, k => ⟨k 0 x y rfl rfl, All2_of_at (by simpa using h) (fun j a b q1 q2 => k (j + 1) a b q1 q2)⟩
structure SP (l : List (List Row)) (k : Nat) (rows : List (List AV)) (T : Hp) : Prop where
  r : rows.length = l.length
  t : T.length = k
  done : ∀ j (h : j < l.length), j < k → at? rows j = some [.sl (j + 1) 0 l[j].length] ∧ at? T j = some (some ⟨10, true, l[j].map Row.av⟩)
  todo : ∀ j, k ≤ j → j < l.length → at? rows j = some [.nl]
theorem SP_zero (l : List (List Row)) {n : Nat} (h : n = l.length) : SP l 0 (List.replicate n [.nl]) [] :=
  ⟨by rw [List.length_replicate]; exact h, rfl, fun j _ q => absurd q (by omega), fun j _ q => by rw [at?_eq, List.getElem?_replicate, if_pos (by omega)]⟩
theorem SP_step {l : List (List Row)} {k : Nat} {rows : List (List AV)} {T : Hp} (h : SP l k rows T) (hk : k < l.length) {i n : Nat} (hi : i = T.length + 1) (hn : n = l[k].length) :
    SP l (k + 1) (upd rows k [.sl i 0 n]) (T ++ [some ⟨10, true, l[k].map Row.av⟩]) := by
  have ht := h.t
  refine ⟨by rw [upd_eq, List.length_set]; exact h.r, by rw [List.length_append]; simp [ht], ?_, ?_⟩
  · intro j hj hjk
    by_cases e : j = k
    · subst e
      refine ⟨?_, ?_⟩
      · rw [at_updS (by rw [h.r]; exact hj), hi, ht, hn]
      · exact at_appX ht.symm
    · obtain ⟨q1, q2⟩ := h.done j hj (by omega)
      exact ⟨by rw [at_updN (Ne.symm e)]; exact q1, by rw [at_appL (by omega)]; exact q2⟩
  · intro j h1 h2
    rw [at_updN (by omega)]
    exact h.todo j (by omega) h2
structure SSat (hp : Hp) (l : List (List Row)) : Prop where
  len : hp.length = l.length + 1
  out : ∃ rows, at? hp 0 = some (some ⟨1, false, rows⟩) ∧ rows.length = l.length ∧ ∀ j (h : j < l.length), at? rows j = some [.sl (j + 1) 0 l[j].length] ∧ at? hp (j + 1) = some (some ⟨10, true, l[j].map Row.av⟩)
theorem SP_end {l : List (List Row)} {rows : List (List AV)} {T : Hp} (h : SP l l.length rows T) : SSat (some ⟨1, false, rows⟩ :: T) l := by
  refine ⟨by rw [List.length_cons, h.t], rows, rfl, h.r, fun j hj => ?_⟩
  obtain ⟨q1, q2⟩ := h.done j hj hj
  exact ⟨q1, q2⟩
theorem own_toRowSS (l : List (List Row)) (hl : l.length ≤ 1048576) (hr : ∀ r ∈ l, r.length ≤ 1048576) : Fx Cf Try.prog 6 [.ro true false 1 (l.map (rv true))] [] (fun r hp => r = .sl 0 0 l.length ∧ SSat hp l) := by
  have hlm : (l.map (rv true)).length = l.length := List.length_map _
  refine Fx_of Cf_ok ?_
  repeat' first | refine And.intro rfl ?_ | (refine And.intro (fun h => ?_) (fun h => ?_) <;> (try simp only [decide_eq_true_eq, decide_eq_false_iff_not, Bool.not_eq_true', Bool.not_eq_false', Bool.and_eq_true, Bool.or_eq_true, Bool.not_eq_eq_eq_not, Bool.not_true, Bool.not_false, beq_iff_eq, bne_iff_ne, beq_eq_false_iff_ne, bne_eq_false_iff_eq, Nat.not_lt, Int.not_lt, Int.not_le, wrap_byteAt, List.length_map, eqB_Row, eqB_Op, eqB_Rec, toList_inj, toList_nil, ne_eq, Int.toNat_natCast] at h) <;> (try simp only [wrap64] at h) <;> (try (exfalso; first | exact absurd h Bool.false_ne_true | exact absurd h.symm Bool.false_ne_true | exact h trivial | exact h rfl | omega))) | refine And.intro ⟨by (first | omega | (simp only [wrap64, maxLen, List.length_map, List.length_append, List.length_cons, List.length_nil, Int.toNat_natCast] at *; omega)), by (first | omega | (simp only [wrap64, maxLen, List.length_map, List.length_append, List.length_cons, List.length_nil, Int.toNat_natCast] at *; omega))⟩ ?_ | refine And.intro (show (_ : Int) ≠ 0 by decide) ?_ | refine And.intro ⟨by (first | omega | (simp only [wrap64, maxLen, List.length_map, List.length_append, List.length_cons, List.length_nil, Int.toNat_natCast] at *; omega)), by (first | omega | (simp only [wrap64, maxLen, List.length_map, List.length_append, List.length_cons, List.length_nil, Int.toNat_natCast] at *; omega)), room (by exact rfl) (by (first | omega | (simp only [wrap64, maxLen, List.length_map, List.length_append, List.length_cons, List.length_nil, Int.toNat_natCast] at *; omega))) (by (first | omega | (simp only [wrap64, maxLen, List.length_map, List.length_append, List.length_cons, List.length_nil, Int.toNat_natCast] at *; omega)))⟩ ?_ | refine And.intro (roomN (by exact rfl) (by (first | omega | (simp only [wrap64, maxLen, List.length_map, List.length_append, List.length_cons, List.length_nil, Int.toNat_natCast] at *; omega)))) ?_ | exact trivial | exact rfl | refine Exists.intro _ (And.intro rfl ?_) | refine' cut1 _ ?_ ?_ | refine And.intro (deep_ag (by exact rfl) (by exact rfl)) ?_ | refine And.intro (deep_ag2 (by repeat' first | exact trivial | refine And.intro (by exact rfl) ?_)) ?_ | refine And.intro (deep_sl (by exact rfl) (by first | exact (List.length_map _).symm | assumption | exact rfl | (simp; done))) ?_ | refine And.intro (deep_rows (by intro x hx; repeat' first | exact trivial | refine And.intro (by exact rfl) ?_)) ?_ | refine And.intro (by exact rfl) ?_ | refine And.intro (Or.inl (by exact rfl)) ?_ | refine And.intro (show ByteArray.size _ + ByteArray.size _ ≤ _ from by (first | omega | (simp only [size_mk, size_add, List.size_toArray, List.length_cons, List.length_nil, maxLen] at *; omega))) ?_ | refine Exists.intro _ (And.intro (by with_unfolding_all exact rfl) ?_) | refine And.intro (by decide +kernel) ?_ | refine Exists.intro _ (And.intro (at_map (by (first | omega | (simp only [wrap64, maxLen, List.length_map, List.length_append, List.length_cons, List.length_nil, Int.toNat_natCast] at *; omega)))) ?_) | (refine wrap_id' ?_; (first | omega | (simp only [wrap64, maxLen, List.length_map, List.length_append, List.length_cons, List.length_nil, Int.toNat_natCast] at *; omega))) | refine And.intro ?_ ?_ | fail
  refine loop_nat 6 Cf_ok l.length (fun i (p : List (List AV) × Hp) => ⟨[.ro true false 1 (l.map (rv true)), .u, .u, .sl 0 0 (l.map (rv true)).length, .i .i64 i, .u, .u, .u, .u, .u, .u, .u, .u, .u, .u, .u, .u, .u, .u, .u, .u, .u, .u], [none, none, none, none, none, none, none, none, none, none, none, none, none, none, none, none, none, none, none, none, none, none, none], some ⟨1, false, p.1⟩ :: p.2⟩)
    (fun k p => SP l k p.1 p.2) ?hc ?_ ?_ (_, _) ?_
  case hc => decide +kernel
  · rintro k ⟨rows, T⟩ hk h2 ih
    simp only [] at h2
    have hat : at? rows k = some [.nl] := h2.todo k (Nat.le_refl _) hk
    have hat2 := at_map (f := rv true) hk
    have hrk := hr _ (List.getElem_mem hk)
    have hstep := SP_step h2 hk (i := T.length + 1) rfl rfl
    have cT := laws_toRowS l[k] hrk
    repeat' first | refine And.intro rfl ?_ | (refine And.intro (fun h => ?_) (fun h => ?_) <;> (try simp only [decide_eq_true_eq, decide_eq_false_iff_not, Bool.not_eq_true', Bool.not_eq_false', Bool.and_eq_true, Bool.or_eq_true, Bool.not_eq_eq_eq_not, Bool.not_true, Bool.not_false, beq_iff_eq, bne_iff_ne, beq_eq_false_iff_ne, bne_eq_false_iff_eq, Nat.not_lt, Int.not_lt, Int.not_le, wrap_byteAt, List.length_map, eqB_Row, eqB_Op, eqB_Rec, toList_inj, toList_nil, ne_eq, Int.toNat_natCast] at h) <;> (try simp only [wrap64] at h) <;> (try (exfalso; first | exact absurd h Bool.false_ne_true | exact absurd h.symm Bool.false_ne_true | exact h trivial | exact h rfl | omega))) | refine And.intro ⟨by (first | omega | (simp only [wrap64, maxLen, List.length_map, List.length_append, List.length_cons, List.length_nil, Int.toNat_natCast] at *; omega)), by (first | omega | (simp only [wrap64, maxLen, List.length_map, List.length_append, List.length_cons, List.length_nil, Int.toNat_natCast] at *; omega))⟩ ?_ | refine And.intro (show (_ : Int) ≠ 0 by decide) ?_ | refine And.intro ⟨by (first | omega | (simp only [wrap64, maxLen, List.length_map, List.length_append, List.length_cons, List.length_nil, Int.toNat_natCast] at *; omega)), by (first | omega | (simp only [wrap64, maxLen, List.length_map, List.length_append, List.length_cons, List.length_nil, Int.toNat_natCast] at *; omega)), room (by exact rfl) (by (first | omega | (simp only [wrap64, maxLen, List.length_map, List.length_append, List.length_cons, List.length_nil, Int.toNat_natCast] at *; omega))) (by (first | omega | (simp only [wrap64, maxLen, List.length_map, List.length_append, List.length_cons, List.length_nil, Int.toNat_natCast] at *; omega)))⟩ ?_ | refine And.intro (roomN (by exact rfl) (by (first | omega | (simp only [wrap64, maxLen, List.length_map, List.length_append, List.length_cons, List.length_nil, Int.toNat_natCast] at *; omega)))) ?_ | exact trivial | exact rfl | refine Exists.intro _ (And.intro rfl ?_) | refine' cut1 _ ?_ ?_ | refine And.intro (deep_ag (by exact rfl) (by exact rfl)) ?_ | refine And.intro (deep_ag2 (by repeat' first | exact trivial | refine And.intro (by exact rfl) ?_)) ?_ | refine And.intro (deep_sl (by exact rfl) (by first | exact (List.length_map _).symm | assumption | exact rfl | (simp; done))) ?_ | refine And.intro (deep_rows (by intro x hx; repeat' first | exact trivial | refine And.intro (by exact rfl) ?_)) ?_ | refine And.intro (by exact rfl) ?_ | refine And.intro (Or.inl (by exact rfl)) ?_ | refine Exists.intro _ (And.intro hat2 ?_) | refine' Or.inr (Or.inl (And.intro rfl (Exists.intro _ (And.intro ?_ (Exists.intro _ (Exists.intro _ (And.intro (cT) (And.intro rfl ?_)))))))) | refine nk_mk ?_ | refine flH_mk ?_ | refine fl_mk ?_ | refine updK_mk ?_ | refine Exists.intro _ (And.intro hat ?_) | refine ih _ (_, _) ?_ ?_ | refine And.intro (show ByteArray.size _ + ByteArray.size _ ≤ _ from by (first | omega | (simp only [size_mk, size_add, List.size_toArray, List.length_cons, List.length_nil, maxLen] at *; omega))) ?_ | refine Exists.intro _ (And.intro (by with_unfolding_all exact rfl) ?_) | refine And.intro (by decide +kernel) ?_ | refine Exists.intro _ (And.intro (at_map (by (first | omega | (simp only [wrap64, maxLen, List.length_map, List.length_append, List.length_cons, List.length_nil, Int.toNat_natCast] at *; omega)))) ?_) | (refine wrap_id' ?_; (first | omega | (simp only [wrap64, maxLen, List.length_map, List.length_append, List.length_cons, List.length_nil, Int.toNat_natCast] at *; omega))) | refine And.intro ?_ ?_ | fail
    all_goals first
      | exact Hold.mk hstep
     
  · rintro ⟨rows, T⟩ h2
    simp only [] at h2
    repeat' first | refine And.intro rfl ?_ | (refine And.intro (fun h => ?_) (fun h => ?_) <;> (try simp only [decide_eq_true_eq, decide_eq_false_iff_not, Bool.not_eq_true', Bool.not_eq_false', Bool.and_eq_true, Bool.or_eq_true, Bool.not_eq_eq_eq_not, Bool.not_true, Bool.not_false, beq_iff_eq, bne_iff_ne, beq_eq_false_iff_ne, bne_eq_false_iff_eq, Nat.not_lt, Int.not_lt, Int.not_le, wrap_byteAt, List.length_map, eqB_Row, eqB_Op, eqB_Rec, toList_inj, toList_nil, ne_eq, Int.toNat_natCast] at h) <;> (try simp only [wrap64] at h) <;> (try (exfalso; first | exact absurd h Bool.false_ne_true | exact absurd h.symm Bool.false_ne_true | exact h trivial | exact h rfl | omega))) | refine And.intro ⟨by (first | omega | (simp only [wrap64, maxLen, List.length_map, List.length_append, List.length_cons, List.length_nil, Int.toNat_natCast] at *; omega)), by (first | omega | (simp only [wrap64, maxLen, List.length_map, List.length_append, List.length_cons, List.length_nil, Int.toNat_natCast] at *; omega))⟩ ?_ | refine And.intro (show (_ : Int) ≠ 0 by decide) ?_ | refine And.intro ⟨by (first | omega | (simp only [wrap64, maxLen, List.length_map, List.length_append, List.length_cons, List.length_nil, Int.toNat_natCast] at *; omega)), by (first | omega | (simp only [wrap64, maxLen, List.length_map, List.length_append, List.length_cons, List.length_nil, Int.toNat_natCast] at *; omega)), room (by exact rfl) (by (first | omega | (simp only [wrap64, maxLen, List.length_map, List.length_append, List.length_cons, List.length_nil, Int.toNat_natCast] at *; omega))) (by (first | omega | (simp only [wrap64, maxLen, List.length_map, List.length_append, List.length_cons, List.length_nil, Int.toNat_natCast] at *; omega)))⟩ ?_ | refine And.intro (roomN (by exact rfl) (by (first | omega | (simp only [wrap64, maxLen, List.length_map, List.length_append, List.length_cons, List.length_nil, Int.toNat_natCast] at *; omega)))) ?_ | exact trivial | exact rfl | refine Exists.intro _ (And.intro rfl ?_) | refine' cut1 _ ?_ ?_ | refine And.intro (deep_ag (by exact rfl) (by exact rfl)) ?_ | refine And.intro (deep_ag2 (by repeat' first | exact trivial | refine And.intro (by exact rfl) ?_)) ?_ | refine And.intro (deep_sl (by exact rfl) (by first | exact (List.length_map _).symm | assumption | exact rfl | (simp; done))) ?_ | refine And.intro (deep_rows (by intro x hx; repeat' first | exact trivial | refine And.intro (by exact rfl) ?_)) ?_ | refine And.intro (by exact rfl) ?_ | refine And.intro (Or.inl (by exact rfl)) ?_ | refine And.intro (show ByteArray.size _ + ByteArray.size _ ≤ _ from by (first | omega | (simp only [size_mk, size_add, List.size_toArray, List.length_cons, List.length_nil, maxLen] at *; omega))) ?_ | refine Exists.intro _ (And.intro (by with_unfolding_all exact rfl) ?_) | refine And.intro (by decide +kernel) ?_ | refine Exists.intro _ (And.intro (at_map (by (first | omega | (simp only [wrap64, maxLen, List.length_map, List.length_append, List.length_cons, List.length_nil, Int.toNat_natCast] at *; omega)))) ?_) | (refine wrap_id' ?_; (first | omega | (simp only [wrap64, maxLen, List.length_map, List.length_append, List.length_cons, List.length_nil, Int.toNat_natCast] at *; omega))) | refine And.intro ?_ ?_ | fail
    all_goals first
      | (rw [hlm]; done)
      | exact SP_end h2
     
  · exact SP_zero l (by rw [hlm]; rfl)
theorem deep_SS {hp : Hp} {l : List (List Row)} (h : SSat hp l) (X : Hp) : Deep (hp ++ X) 4 (.sl 0 0 l.length) (.ro true false 1 (l.map (rv true))) := by
  obtain ⟨rows, h0, h1, h2⟩ := h.out
  have hl := h.len
  rw [Deep, at_appL (by omega), h0]
  refine ⟨rows, cut_full _ h1.symm, ?_⟩
  rw [if_neg (show ¬ (false = true) from Bool.false_ne_true)]
  refine ⟨_, All2_of_at (by rw [List.length_map]; exact h1) ?_, rfl⟩
  intro j x y q1 q2
  have hj : j < l.length := by have := at_lt q2; rw [List.length_map] at this; exact this
  obtain ⟨g1, g2⟩ := h2 j hj
  rw [g1] at q1
  rw [at_map hj] at q2
  cases q1; cases q2
  refine ⟨?_, trivial⟩
  rw [Deep, at_appL (by omega), g2]
  exact ⟨_, cut_full _ (by rw [List.length_map]), rfl⟩
structure SSm (hp : Hp) (lens : List Nat) : Prop where
  len : lens.length + 1 ≤ hp.length
  out : ∃ rows, at? hp 0 = some (some ⟨1, false, rows⟩) ∧ rows.length = lens.length ∧ ∀ j (h : j < lens.length), at? rows j = some [.sl (j + 1) 0 lens[j]] ∧ ∃ L : List Row, L.length = lens[j] ∧ at? hp (j + 1) = some (some ⟨10, true, L.map Row.av⟩)
theorem SSm_of {hp : Hp} {l : List (List Row)} (h : SSat hp l) (X : Hp) : SSm (hp ++ X) (l.map List.length) := by
  obtain ⟨rows, h0, h1, h2⟩ := h.out
  have hl := h.len
  refine ⟨by rw [List.length_append, List.length_map]; omega, rows, by rw [at_appL (by omega)]; exact h0, by rw [List.length_map]; exact h1, fun j hj => ?_⟩
  rw [List.length_map] at hj
  obtain ⟨g1, g2⟩ := h2 j hj
  refine ⟨by rw [g1, List.getElem_map], l[j], by rw [List.getElem_map], by rw [at_appL (by omega)]; exact g2⟩
theorem SSm_upd {hp : Hp} {lens : List Nat} (h : SSm hp lens) {k : Nat} (hk : k < lens.length) {M : List Row} (hM : M.length = lens[k]) : SSm (upd hp (k + 1) (some ⟨10, true, M.map Row.av⟩)) lens := by
  obtain ⟨rows, h0, h1, h2⟩ := h.out
  have hl := h.len
  refine ⟨by rw [upd_eq, List.length_set]; exact hl, rows, by rw [at_updN (by omega)]; exact h0, h1, fun j hj => ?_⟩
  obtain ⟨g1, L, g2, g3⟩ := h2 j hj
  by_cases e : j = k
  · subst e
    exact ⟨g1, M, hM, at_updS (by omega)⟩
  · exact ⟨g1, L, g2, by rw [at_updN (by omega)]; exact g3⟩
theorem ren1 (i n : Nat) (k : IntKind) (z : Int) : renL (idx [i]) [.sl i 0 n, .i k z] = [.sl 0 0 n, .i k z] := by
  simp [renL, ren, idx]
theorem mark_at {hp : Hp} {i n : Nat} {L : List Row} (hn : L.length = n) (h : at? hp i = some (some ⟨10, true, L.map Row.av⟩)) (h20 : n ≤ 1048576) (k0 : Int) (h0 : 0 < k0) (h1 : k0 ≤ 1073741824) :
    Fn Cf Try.prog 11 [.sl i 0 n, .i .i64 k0] hp (.i .i64 (k0 + 10 * n)) (upd hp i (some ⟨10, true, (mRow k0 n).map Row.av⟩)) := by
  subst hn
  exact Fn_at1 i (laws_markRowS L h20 k0 h0 h1) (by have := at_lt h; simpa using this) (ren1 _ _ _ _) h rfl rfl rfl
theorem sum_take {l : List Nat} {k : Nat} (hk : k < l.length) : (l.take (k + 1)).sum = (l.take k).sum + l[k] := by
  rw [List.take_succ_eq_append_getElem hk, List.sum_append]; simp
theorem sum_le {l : List Nat} (k : Nat) : (l.take k).sum ≤ l.sum := by
  have : (l.take k).sum + (l.drop k).sum = l.sum := by rw [← List.sum_append, List.take_append_drop]
  omega
theorem own_markRowSS (hp : Hp) (lens : List Nat) (hl : lens.sum ≤ 1048576) (hn : lens.length ≤ 1048576) (h : SSm hp lens) (k0 : Int) (h0 : 0 < k0) (h1 : k0 ≤ 1000) :
    Fx Cf Try.prog 10 [.sl 0 0 lens.length, .i .i64 k0] hp (fun r hp' => r = .i .i64 (k0 + 10 * (lens.sum : Int)) ∧ hp'.length = hp.length ∧ ∀ i, lens.length < i → at? hp' i = at? hp i) := by
  refine Fx_of Cf_ok ?_
  repeat' first | refine And.intro rfl ?_ | (refine And.intro (fun h => ?_) (fun h => ?_) <;> (try simp only [decide_eq_true_eq, decide_eq_false_iff_not, Bool.not_eq_true', Bool.not_eq_false', Bool.and_eq_true, Bool.or_eq_true, Bool.not_eq_eq_eq_not, Bool.not_true, Bool.not_false, beq_iff_eq, bne_iff_ne, beq_eq_false_iff_ne, bne_eq_false_iff_eq, Nat.not_lt, Int.not_lt, Int.not_le, wrap_byteAt, List.length_map, eqB_Row, eqB_Op, eqB_Rec, toList_inj, toList_nil, ne_eq, Int.toNat_natCast] at h) <;> (try simp only [wrap64] at h) <;> (try (exfalso; first | exact absurd h Bool.false_ne_true | exact absurd h.symm Bool.false_ne_true | exact h trivial | exact h rfl | omega))) | refine And.intro ⟨by (first | omega | (simp only [wrap64, maxLen, List.length_map, List.length_append, List.length_cons, List.length_nil, Int.toNat_natCast] at *; omega)), by (first | omega | (simp only [wrap64, maxLen, List.length_map, List.length_append, List.length_cons, List.length_nil, Int.toNat_natCast] at *; omega))⟩ ?_ | refine And.intro (show (_ : Int) ≠ 0 by decide) ?_ | refine And.intro ⟨by (first | omega | (simp only [wrap64, maxLen, List.length_map, List.length_append, List.length_cons, List.length_nil, Int.toNat_natCast] at *; omega)), by (first | omega | (simp only [wrap64, maxLen, List.length_map, List.length_append, List.length_cons, List.length_nil, Int.toNat_natCast] at *; omega)), room (by exact rfl) (by (first | omega | (simp only [wrap64, maxLen, List.length_map, List.length_append, List.length_cons, List.length_nil, Int.toNat_natCast] at *; omega))) (by (first | omega | (simp only [wrap64, maxLen, List.length_map, List.length_append, List.length_cons, List.length_nil, Int.toNat_natCast] at *; omega)))⟩ ?_ | refine And.intro (roomN (by exact rfl) (by (first | omega | (simp only [wrap64, maxLen, List.length_map, List.length_append, List.length_cons, List.length_nil, Int.toNat_natCast] at *; omega)))) ?_ | exact trivial | exact rfl | refine Exists.intro _ (And.intro rfl ?_) | refine' cut1 _ ?_ ?_ | refine And.intro (deep_ag (by exact rfl) (by exact rfl)) ?_ | refine And.intro (deep_ag2 (by repeat' first | exact trivial | refine And.intro (by exact rfl) ?_)) ?_ | refine And.intro (deep_sl (by exact rfl) (by first | exact (List.length_map _).symm | assumption | exact rfl | (simp; done))) ?_ | refine And.intro (deep_rows (by intro x hx; repeat' first | exact trivial | refine And.intro (by exact rfl) ?_)) ?_ | refine And.intro (by exact rfl) ?_ | refine And.intro (Or.inl (by exact rfl)) ?_ | refine flH_mk ?_ | refine And.intro (show ByteArray.size _ + ByteArray.size _ ≤ _ from by (first | omega | (simp only [size_mk, size_add, List.size_toArray, List.length_cons, List.length_nil, maxLen] at *; omega))) ?_ | refine Exists.intro _ (And.intro (by with_unfolding_all exact rfl) ?_) | refine And.intro (by decide +kernel) ?_ | refine Exists.intro _ (And.intro (at_map (by (first | omega | (simp only [wrap64, maxLen, List.length_map, List.length_append, List.length_cons, List.length_nil, Int.toNat_natCast] at *; omega)))) ?_) | (refine wrap_id' ?_; (first | omega | (simp only [wrap64, maxLen, List.length_map, List.length_append, List.length_cons, List.length_nil, Int.toNat_natCast] at *; omega))) | refine And.intro ?_ ?_ | fail
  refine loop_nat 10 Cf_ok lens.length (fun i (p : Int × Hp) => ⟨[.sl 0 0 lens.length, .i .i64 p.1, .u, .u, .u, .i .i64 i, .u, .u, .u, .u, .u, .u, .u, .u, .u, .u, .u, .u, .u], [none, none, none, none, none, none, none, none, none, none, none, none, none, none, none, none, none, none, none], p.2⟩)
    (fun k p => p.1 = k0 + 10 * ((lens.take k).sum : Int) ∧ p.2.length = hp.length ∧ (∀ i, lens.length < i → at? p.2 i = at? hp i) ∧ SSm p.2 lens) ?hc ?_ ?_ (_, _) ?_
  case hc => decide +kernel
  · rintro k ⟨m, H⟩ hk ⟨e1, e2, e3, e4⟩ ih
    simp only [] at e1 e2 e3 e4
    have hs := sum_take hk
    have hs2 := sum_le (l := lens) (k + 1)
    obtain ⟨rows, g0, g1, g2⟩ := e4.out
    obtain ⟨g3, L, g4, g5⟩ := g2 k hk
    have cM := mark_at g4 g5 (by omega) m (by omega) (by omega)
    have hSS := SSm_upd e4 hk (M := mRow m lens[k]) (mRow_len _ _)
    have hkr : k < rows.length := by omega
    dsimp only
    repeat' first | refine And.intro rfl ?_ | (refine And.intro (fun h => ?_) (fun h => ?_) <;> (try simp only [decide_eq_true_eq, decide_eq_false_iff_not, Bool.not_eq_true', Bool.not_eq_false', Bool.and_eq_true, Bool.or_eq_true, Bool.not_eq_eq_eq_not, Bool.not_true, Bool.not_false, beq_iff_eq, bne_iff_ne, beq_eq_false_iff_ne, bne_eq_false_iff_eq, Nat.not_lt, Int.not_lt, Int.not_le, wrap_byteAt, List.length_map, eqB_Row, eqB_Op, eqB_Rec, toList_inj, toList_nil, ne_eq, Int.toNat_natCast] at h) <;> (try simp only [wrap64] at h) <;> (try (exfalso; first | exact absurd h Bool.false_ne_true | exact absurd h.symm Bool.false_ne_true | exact h trivial | exact h rfl | omega))) | refine And.intro ⟨by (first | omega | (simp only [wrap64, maxLen, List.length_map, List.length_append, List.length_cons, List.length_nil, Int.toNat_natCast] at *; omega)), by (first | omega | (simp only [wrap64, maxLen, List.length_map, List.length_append, List.length_cons, List.length_nil, Int.toNat_natCast] at *; omega))⟩ ?_ | refine And.intro (show (_ : Int) ≠ 0 by decide) ?_ | refine And.intro ⟨by (first | omega | (simp only [wrap64, maxLen, List.length_map, List.length_append, List.length_cons, List.length_nil, Int.toNat_natCast] at *; omega)), by (first | omega | (simp only [wrap64, maxLen, List.length_map, List.length_append, List.length_cons, List.length_nil, Int.toNat_natCast] at *; omega)), room (by exact rfl) (by (first | omega | (simp only [wrap64, maxLen, List.length_map, List.length_append, List.length_cons, List.length_nil, Int.toNat_natCast] at *; omega))) (by (first | omega | (simp only [wrap64, maxLen, List.length_map, List.length_append, List.length_cons, List.length_nil, Int.toNat_natCast] at *; omega)))⟩ ?_ | refine And.intro (roomN (by exact rfl) (by (first | omega | (simp only [wrap64, maxLen, List.length_map, List.length_append, List.length_cons, List.length_nil, Int.toNat_natCast] at *; omega)))) ?_ | exact trivial | exact rfl | refine Exists.intro _ (And.intro rfl ?_) | refine' cut1 _ ?_ ?_ | refine And.intro (deep_ag (by exact rfl) (by exact rfl)) ?_ | refine And.intro (deep_ag2 (by repeat' first | exact trivial | refine And.intro (by exact rfl) ?_)) ?_ | refine And.intro (deep_sl (by exact rfl) (by first | exact (List.length_map _).symm | assumption | exact rfl | (simp; done))) ?_ | refine And.intro (deep_rows (by intro x hx; repeat' first | exact trivial | refine And.intro (by exact rfl) ?_)) ?_ | refine And.intro (by exact rfl) ?_ | refine And.intro (Or.inl (by exact rfl)) ?_ | refine And.intro (wd_at g0 rfl) ?_ | refine ld_mk g0 ?_ | refine Exists.intro _ (And.intro g3 ?_) | refine' Or.inr (Or.inr (Or.inl (And.intro rfl (And.intro rfl (Exists.intro _ (Exists.intro _ (And.intro (cM) ?_))))))) | refine nk_mk ?_ | refine flH_mk ?_ | refine fl_mk ?_ | refine updK_mk ?_ | refine ih _ (_, _) ?_ ?_ | refine And.intro (show ByteArray.size _ + ByteArray.size _ ≤ _ from by (first | omega | (simp only [size_mk, size_add, List.size_toArray, List.length_cons, List.length_nil, maxLen] at *; omega))) ?_ | refine Exists.intro _ (And.intro (by with_unfolding_all exact rfl) ?_) | refine And.intro (by decide +kernel) ?_ | refine Exists.intro _ (And.intro (at_map (by (first | omega | (simp only [wrap64, maxLen, List.length_map, List.length_append, List.length_cons, List.length_nil, Int.toNat_natCast] at *; omega)))) ?_) | (refine wrap_id' ?_; (first | omega | (simp only [wrap64, maxLen, List.length_map, List.length_append, List.length_cons, List.length_nil, Int.toNat_natCast] at *; omega))) | refine And.intro ?_ ?_ | fail
    all_goals first
      | exact Hold.mk ⟨by rw [e1, hs]; push_cast; omega, by rw [upd_eq, List.length_set]; exact e2, fun i hi => by rw [at_updN (by omega)]; exact e3 i hi, hSS⟩
     
  · rintro ⟨m, H⟩ ⟨e1, e2, e3, e4⟩
    simp only [] at e1 e2 e3 e4
    rw [List.take_length] at e1
    repeat' first | refine And.intro rfl ?_ | (refine And.intro (fun h => ?_) (fun h => ?_) <;> (try simp only [decide_eq_true_eq, decide_eq_false_iff_not, Bool.not_eq_true', Bool.not_eq_false', Bool.and_eq_true, Bool.or_eq_true, Bool.not_eq_eq_eq_not, Bool.not_true, Bool.not_false, beq_iff_eq, bne_iff_ne, beq_eq_false_iff_ne, bne_eq_false_iff_eq, Nat.not_lt, Int.not_lt, Int.not_le, wrap_byteAt, List.length_map, eqB_Row, eqB_Op, eqB_Rec, toList_inj, toList_nil, ne_eq, Int.toNat_natCast] at h) <;> (try simp only [wrap64] at h) <;> (try (exfalso; first | exact absurd h Bool.false_ne_true | exact absurd h.symm Bool.false_ne_true | exact h trivial | exact h rfl | omega))) | refine And.intro ⟨by (first | omega | (simp only [wrap64, maxLen, List.length_map, List.length_append, List.length_cons, List.length_nil, Int.toNat_natCast] at *; omega)), by (first | omega | (simp only [wrap64, maxLen, List.length_map, List.length_append, List.length_cons, List.length_nil, Int.toNat_natCast] at *; omega))⟩ ?_ | refine And.intro (show (_ : Int) ≠ 0 by decide) ?_ | refine And.intro ⟨by (first | omega | (simp only [wrap64, maxLen, List.length_map, List.length_append, List.length_cons, List.length_nil, Int.toNat_natCast] at *; omega)), by (first | omega | (simp only [wrap64, maxLen, List.length_map, List.length_append, List.length_cons, List.length_nil, Int.toNat_natCast] at *; omega)), room (by exact rfl) (by (first | omega | (simp only [wrap64, maxLen, List.length_map, List.length_append, List.length_cons, List.length_nil, Int.toNat_natCast] at *; omega))) (by (first | omega | (simp only [wrap64, maxLen, List.length_map, List.length_append, List.length_cons, List.length_nil, Int.toNat_natCast] at *; omega)))⟩ ?_ | refine And.intro (roomN (by exact rfl) (by (first | omega | (simp only [wrap64, maxLen, List.length_map, List.length_append, List.length_cons, List.length_nil, Int.toNat_natCast] at *; omega)))) ?_ | exact trivial | exact rfl | refine Exists.intro _ (And.intro rfl ?_) | refine' cut1 _ ?_ ?_ | refine And.intro (deep_ag (by exact rfl) (by exact rfl)) ?_ | refine And.intro (deep_ag2 (by repeat' first | exact trivial | refine And.intro (by exact rfl) ?_)) ?_ | refine And.intro (deep_sl (by exact rfl) (by first | exact (List.length_map _).symm | assumption | exact rfl | (simp; done))) ?_ | refine And.intro (deep_rows (by intro x hx; repeat' first | exact trivial | refine And.intro (by exact rfl) ?_)) ?_ | refine And.intro (by exact rfl) ?_ | refine And.intro (Or.inl (by exact rfl)) ?_ | refine And.intro (show ByteArray.size _ + ByteArray.size _ ≤ _ from by (first | omega | (simp only [size_mk, size_add, List.size_toArray, List.length_cons, List.length_nil, maxLen] at *; omega))) ?_ | refine Exists.intro _ (And.intro (by with_unfolding_all exact rfl) ?_) | refine And.intro (by decide +kernel) ?_ | refine Exists.intro _ (And.intro (at_map (by (first | omega | (simp only [wrap64, maxLen, List.length_map, List.length_append, List.length_cons, List.length_nil, Int.toNat_natCast] at *; omega)))) ?_) | (refine wrap_id' ?_; (first | omega | (simp only [wrap64, maxLen, List.length_map, List.length_append, List.length_cons, List.length_nil, Int.toNat_natCast] at *; omega))) | refine And.intro ?_ ?_ | fail
    all_goals first
      | exact congrArg (AV.i IntKind.i64) e1
      | exact e2
      | exact e3
     
  · exact ⟨by simp, rfl, fun _ _ => rfl, h⟩

end Go.Proofs.Ytmblcloikeobdaa.Ev
