/- Contracts: what the functions of this part return, for arguments as each contract says. -/
import Derived.Test.YtggmbhmpkkpfeaaEvD
import Derived.Test.YtggmbhmpkkpfeaaEvTab
import Derived.Test.YtggmbhmpkkpfeaaSTy
import Derived.Test.YtggmbhmpkkpfeaaSKb
import Derived.Test.YtggmbhmpkkpfeaaSLb
import Derived.Test.YtggmbhmpkkpfeaaSRw
import Derived.Test.YtggmbhmpkkpfeaaSFr
import Derived.Test.YtggmbhmpkkpfeaaSMk
import Derived.Test.YtggmbhmpkkpfeaaSTl
set_option linter.constructorNameAsVariable false
set_option linter.unusedVariables false
set_option linter.unusedSimpArgs false
set_option linter.unusedVariables false
set_option maxHeartbeats 4000000
set_option maxRecDepth 20000
set_option linter.unusedSimpArgs false
set_option linter.constructorNameAsVariable false
namespace Go.Proofs.Ytggmbhmpkkpfeaa.Ev
open Go Go.Proofs
attribute [local irreducible] RO Fn IntKind.wrap TriL
/- memory within memory: lists of lists of one's own -/
theorem nk_mk {n : Nat} {K : Nat → Prop} (h : K n) : nk n K := by rw [nk_eq]; exact h
theorem flH_mk {l : Hp} {K : Hp → Prop} (h : K l) : flH l K := by rw [flH_eq]; exact h
theorem fl_mk {α : Type} {l : List α} {K : List α → Prop} (h : K l) : fl l K := by rw [fl_eq]; exact h
theorem updK_mk {α : Type} {l : List α} {n : Nat} {v : α} {K : List α → Prop} (h : K (upd l n v)) : updK l n v K := by rw [updK_eq]; exact h
theorem wd_at {hp : Hp} {id sz : Nat} {ob : Ob} (h : at? hp id = some (some ob)) (e : ob.wd = sz) : wdOk hp id sz := by
  unfold wdOk; rw [h]; exact e
theorem ld_mk {C : Cfg} {e : List AV} {b : List (Option (List AV))} {hp : Hp} {t id i o : Nat} {ob : Ob} {K : AV → Prop} (h : at? hp id = some (some ob)) (k : ∃ row, at? ob.rows i = some row ∧ cutK C t o row K) : loadP C ⟨e, b, hp⟩ t K (.pt id i o) := by
  simp only [loadP, h]; exact k
theorem at_lt {α : Type} {l : List α} {i : Nat} {x : α} (h : at? l i = some x) : i < l.length := by
  rw [at?_eq] at h; exact (List.getElem?_eq_some_iff.1 h).1
theorem at_updS {α : Type} {l : List α} {i : Nat} {x : α} (h : i < l.length) : at? (upd l i x) i = some x := by
  rw [at?_eq, upd_eq, List.getElem?_set_self h]
theorem at_updN {α : Type} {l : List α} {i j : Nat} {x : α} (h : i ≠ j) : at? (upd l i x) j = at? l j := by
  rw [at?_eq, at?_eq, upd_eq, List.getElem?_set_ne h]
theorem at_appL {α : Type} {l r : List α} {i : Nat} (h : i < l.length) : at? (l ++ r) i = at? l i := by
  rw [at?_eq, at?_eq, List.getElem?_append_left h]
theorem at_appE {α : Type} {l : List α} {x : α} : at? (l ++ [x]) l.length = some x := by
  rw [at?_eq, List.getElem?_append_right (Nat.le_refl _), Nat.sub_self]; rfl
theorem at_appX {α : Type} {l : List α} {x : α} {i : Nat} (h : i = l.length) : at? (l ++ [x]) i = some x := by
  subst h; exact at_appE
theorem All2_of_at {α β : Type} {R : α → β → Prop} : ∀ {l : List α} {r : List β}, l.length = r.length → (∀ j x y, at? l j = some x → at? r j = some y → R x y) → All2 R l r
  | [], [], _, _ => trivial
  | [], _ :: _, h, _ => by simp at h
  | _ :: _, [], h, _ => by simp at h
  | x :: l, y :: r, h, k => ⟨k 0 x y rfl rfl, All2_of_at (by simpa using h) (fun j a b q1 q2 => k (j + 1) a b q1 q2)⟩
structure SP (l : List (List Row)) (k : Nat) (rows : List (List AV)) (T : Hp) : Prop where
  r : rows.length = l.length
  t : T.length = k
  done : ∀ j (h : j < l.length), j < k → at? rows j = some [.sl (j + 1) 0 l[j].length] ∧ at? T j = some (some ⟨10, true, l[j].map Row.av⟩)
  todo : ∀ j, k ≤ j → j < l.length → at? rows j = some [.nl]
theorem SP_zero (l : List (List Row)) {n : Nat} (h : n = l.length) : SP l 0 (List.replicate n [.nl]) [] :=
  ⟨by rw [List.length_replicate]; exact h, rfl, fun j _ q => absurd q (by omega), fun j _ q => by rw [at?_eq, List.getElem?_replicate, if_pos (by omega)]⟩
theorem SP_step {l : List (List Row)} {k : Nat} {rows : List (List AV)} {T : Hp} (h : SP l k rows T) (hk : k < l.length) {i n : Nat} (hi : i = T.length + 1) (hn : n = l[k].length) :
    SP l (k + 1) (upd rows k [.sl i 0 n]) (T ++ [some ⟨10, true, l[k].map Row.av⟩]) := by
  have ht := h.t
  refine ⟨by rw [upd_eq, List.length_set]; exact h.r, by rw [List.length_append]; simp [ht], ?_, ?_⟩
  · intro j hj hjk
    by_cases e : j = k
    · subst e
      refine ⟨?_, ?_⟩
      · rw [at_updS (by rw [h.r]; exact hj), hi, ht, hn]
      · exact at_appX ht.symm
    · obtain ⟨q1, q2⟩ := h.done j hj (by omega)
      exact ⟨by rw [at_updN (Ne.symm e)]; exact q1, by rw [at_appL (by omega)]; exact q2⟩
  · intro j h1 h2
    rw [at_updN (by omega)]
    exact h.todo j (by omega) h2
structure SSat (hp : Hp) (l : List (List Row)) : Prop where
  len : hp.length = l.length + 1
  out : ∃ rows, at? hp 0 = some (some ⟨1, false, rows⟩) ∧ rows.length = l.length ∧ ∀ j (h : j < l.length), at? rows j = some [.sl (j + 1) 0 l[j].length] ∧ at? hp (j + 1) = some (some ⟨10, true, l[j].map Row.av⟩)
theorem SP_end {l : List (List Row)} {rows : List (List AV)} {T : Hp} (h : SP l l.length rows T) : SSat (some ⟨1, false, rows⟩ :: T) l := by
  refine ⟨by rw [List.length_cons, h.t], rows, rfl, h.r, fun j hj => ?_⟩
  obtain ⟨q1, q2⟩ := h.done j hj hj
  exact ⟨q1, q2⟩
theorem deep_SS {hp : Hp} {l : List (List Row)} (h : SSat hp l) (X : Hp) : Deep (hp ++ X) 4 (.sl 0 0 l.length) (.ro true false 1 (l.map (rv true))) := by
  obtain ⟨rows, h0, h1, h2⟩ := h.out
  have hl := h.len
  rw [Deep, at_appL (by omega), h0]
  refine ⟨rows, cut_full _ h1.symm, ?_⟩
  rw [if_neg (show ¬ (false = true) from Bool.false_ne_true)]
  refine ⟨_, All2_of_at (by rw [List.length_map]; exact h1) ?_, rfl⟩
  intro j x y q1 q2
  have hj : j < l.length := by have := at_lt q2; rw [List.length_map] at this; exact this
  obtain ⟨g1, g2⟩ := h2 j hj
  rw [g1] at q1
  rw [at_map hj] at q2
  cases q1; cases q2
  refine ⟨?_, trivial⟩
  rw [Deep, at_appL (by omega), g2]
  exact ⟨_, cut_full _ (by rw [List.length_map]), rfl⟩
structure SSm (hp : Hp) (lens : List Nat) : Prop where
  len : lens.length + 1 ≤ hp.length
  out : ∃ rows, at? hp 0 = some (some ⟨1, false, rows⟩) ∧ rows.length = lens.length ∧ ∀ j (h : j < lens.length), at? rows j = some [.sl (j + 1) 0 lens[j]] ∧ ∃ L : List Row, L.length = lens[j] ∧ at? hp (j + 1) = some (some ⟨10, true, L.map Row.av⟩)
theorem SSm_of {hp : Hp} {l : List (List Row)} (h : SSat hp l) (X : Hp) : SSm (hp ++ X) (l.map List.length) := by
  obtain ⟨rows, h0, h1, h2⟩ := h.out
  have hl := h.len
  refine ⟨by rw [List.length_append, List.length_map]; omega, rows, by rw [at_appL (by omega)]; exact h0, by rw [List.length_map]; exact h1, fun j hj => ?_⟩
  rw [List.length_map] at hj
  obtain ⟨g1, g2⟩ := h2 j hj
  refine ⟨by rw [g1, List.getElem_map], l[j], by rw [List.getElem_map], by rw [at_appL (by omega)]; exact g2⟩
theorem SSm_upd {hp : Hp} {lens : List Nat} (h : SSm hp lens) {k : Nat} (hk : k < lens.length) {M : List Row} (hM : M.length = lens[k]) : SSm (upd hp (k + 1) (some ⟨10, true, M.map Row.av⟩)) lens := by
  obtain ⟨rows, h0, h1, h2⟩ := h.out
  have hl := h.len
  refine ⟨by rw [upd_eq, List.length_set]; exact hl, rows, by rw [at_updN (by omega)]; exact h0, h1, fun j hj => ?_⟩
  obtain ⟨g1, L, g2, g3⟩ := h2 j hj
  by_cases e : j = k
  · subst e
    exact ⟨g1, M, hM, at_updS (by omega)⟩
  · exact ⟨g1, L, g2, by rw [at_updN (by omega)]; exact g3⟩
theorem ren1 (i n : Nat) (k : IntKind) (z : Int) : renL (idx [i]) [.sl i 0 n, .i k z] = [.sl 0 0 n, .i k z] := by
  simp [renL, ren, idx]
theorem mark_at {hp : Hp} {i n : Nat} {L : List Row} (hn : L.length = n) (h : at? hp i = some (some ⟨10, true, L.map Row.av⟩)) (h20 : n ≤ 1048576) (k0 : Int) (h0 : 0 < k0) (h1 : k0 ≤ 1073741824) :
    Fn Cf Try.prog 9 [.sl i 0 n, .i .i64 k0] hp (.i .i64 (k0 + 10 * n)) (upd hp i (some ⟨10, true, (mRow k0 n).map Row.av⟩)) := by
  subst hn
  exact Fn_at1 i (laws_markRowS L h20 k0 h0 h1) (by have := at_lt h; simpa using this) (ren1 _ _ _ _) h rfl rfl rfl
theorem sum_take {l : List Nat} {k : Nat} (hk : k < l.length) : (l.take (k + 1)).sum = (l.take k).sum + l[k] := by
  rw [List.take_succ_eq_append_getElem hk, List.sum_append]; simp
theorem sum_le {l : List Nat} (k : Nat) : (l.take k).sum ≤ l.sum := by
  have : (l.take k).sum + (l.drop k).sum = l.sum := by rw [← List.sum_append, List.take_append_drop]
  omega
end Go.Proofs.Ytggmbhmpkkpfeaa.Ev
