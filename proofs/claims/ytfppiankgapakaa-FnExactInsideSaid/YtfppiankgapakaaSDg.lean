/- Contracts: what the functions of this part return, for arguments as each contract says. -/
import Derived.Test.YtfppiankgapakaaEvD
import Derived.Test.YtfppiankgapakaaEvTab
import Derived.Test.YtfppiankgapakaaSTy
import Derived.Test.YtfppiankgapakaaSKb
import Derived.Test.YtfppiankgapakaaSLb
import Derived.Test.YtfppiankgapakaaSRw
import Derived.Test.YtfppiankgapakaaSFr
import Derived.Test.YtfppiankgapakaaSMk
import Derived.Test.YtfppiankgapakaaSTl
import Derived.Test.YtfppiankgapakaaSDh
set_option linter.constructorNameAsVariable false
set_option linter.unusedVariables false
set_option linter.unusedSimpArgs false
set_option linter.unusedVariables false
set_option maxHeartbeats 4000000
set_option maxRecDepth 20000
set_option linter.unusedSimpArgs false
set_option linter.constructorNameAsVariable false
namespace Go.Proofs.Ytfppiankgapakaa.Ev
open Go Go.Proofs
attribute [local irreducible] RO Fn IntKind.wrap TriL
/- lists whose members hold memory, of one's own -/
theorem st_mk {C : Cfg} {e : List AV} {bx : List (Option (List AV))} {hp : Hp} {t id i o : Nat} {v : AV} {ob : Ob} {row c : List AV} {K : St → Prop} (h : at? hp id = some (some ob)) (hc : (cellvs (leaves v) && (leaves v).length == tsz C t && tsz C t != 0) = true)
    (hf : (!ob.fl || allSc (leaves v)) = true) (hr : at? ob.rows i = some row) (ho : over (leaves v) o row = some c) (k : K ⟨e, bx, upd hp id (some ⟨ob.wd, ob.fl, upd ob.rows i c⟩)⟩) : storeP C ⟨e, bx, hp⟩ t v K (.pt id i o) := by
  simp only [storeP, h]
  refine ⟨hc, hf, row, hr, ?_⟩
  rw [ho]
  simp only [fl_eq, updK_eq]
  exact k
theorem st_mk2 {e : List AV} {bx : List (Option (List AV))} {hp : Hp} {id i o : Nat} {v : AV} {ob : Ob} {row c : List AV} {K : St → Prop} (h : at? hp id = some (some ob))
    (hf : (!ob.fl || allSc (leaves v)) = true) (hr : at? ob.rows i = some row) (ho : over (leaves v) o row = some c) (k : K ⟨e, bx, upd hp id (some ⟨ob.wd, ob.fl, upd ob.rows i c⟩)⟩) : (match at? (St.mk e bx hp).hp id with
    | some (some ob) => (!ob.fl || allSc (leaves v)) = true ∧ ∃ row, at? ob.rows i = some row ∧ match over (leaves v) o row with
      | some c => match (St.mk e bx hp) with | ⟨e, b, h⟩ => fl c fun c => updK h id (some ⟨ob.wd, ob.fl, upd ob.rows i c⟩) fun h => K ⟨e, b, h⟩
      | none => False
    | _ => False) := by
  simp only [h]
  refine ⟨hf, row, hr, ?_⟩
  rw [ho]
  simp only [fl_eq, updK_eq]
  exact k
theorem at_appR {α : Type} {l r : List α} {i : Nat} {x : α} (h : at? r i = some x) : at? (l ++ r) (l.length + i) = some x := by
  rw [at?_eq] at *
  rw [List.getElem?_append_right (by omega), show l.length + i - l.length = i from by omega]; exact h
theorem mul_lt' {m j k : Nat} (h : j < k) : m * j + m ≤ m * k := by
  have := Nat.mul_le_mul_left m (show j + 1 ≤ k from h)
  rwa [Nat.mul_succ] at this
structure LAt {α : Type} (m wd : Nat) (own : α → Nat → List AV) (objs : α → List Ob) (hp : Hp) (b : Nat) (l : List α) : Prop where
  len : b + 1 + m * l.length ≤ hp.length
  out : ∃ rows, at? hp b = some (some ⟨wd, false, rows⟩) ∧ rows.length = l.length ∧ ∀ j (h : j < l.length), at? rows j = some (own l[j] (b + 1 + m * j)) ∧ ∀ i (hi : i < (objs l[j]).length), at? hp (b + 1 + m * j + i) = some (some (objs l[j])[i])
theorem LAt_keep {α : Type} {m wd : Nat} {own : α → Nat → List AV} {objs : α → List Ob} {hp hp' : Hp} {b : Nat} {l : List α} (h : LAt m wd own objs hp b l) (hm : ∀ x, (objs x).length = m)
    (hk : ∀ i, b ≤ i → i < b + 1 + m * l.length → at? hp' i = at? hp i) (hl : b + 1 + m * l.length ≤ hp'.length) : LAt m wd own objs hp' b l := by
  obtain ⟨rows, h0, h1, h2⟩ := h.out
  refine ⟨hl, rows, by rw [hk b (Nat.le_refl _) (by omega)]; exact h0, h1, fun j hj => ?_⟩
  obtain ⟨g1, g2⟩ := h2 j hj
  refine ⟨g1, fun i hi => ?_⟩
  have := mul_lt' (m := m) hj
  have := hm l[j]
  rw [hk _ (by omega) (by omega)]
  exact g2 i hi
structure LP {α : Type} (m wd : Nat) (own : α → Nat → List AV) (objs : α → List Ob) (z : List AV) (h0 : Hp) (l : List α) (k : Nat) (rows : List (List AV)) (H : Hp) : Prop where
  len : H.length = h0.length + 1 + m * k
  keep : ∀ i, i < h0.length → at? H i = at? h0 i
  out : at? H h0.length = some (some ⟨wd, false, rows⟩)
  rl : rows.length = l.length
  done : ∀ j (h : j < l.length), j < k → at? rows j = some (own l[j] (h0.length + 1 + m * j)) ∧ ∀ i (hi : i < (objs l[j]).length), at? H (h0.length + 1 + m * j + i) = some (some (objs l[j])[i])
  todo : ∀ j, k ≤ j → j < l.length → at? rows j = some z
theorem LP_zero {α : Type} {m wd : Nat} {own : α → Nat → List AV} {objs : α → List Ob} {z : List AV} {h0 : Hp} {l : List α} {n : Nat} (h : n = l.length) : LP m wd own objs z h0 l 0 (List.replicate n z) (h0 ++ [some ⟨wd, false, List.replicate n z⟩]) :=
  ⟨by rw [List.length_append]; simp, fun i hi => at_appL hi, at_appE, by rw [List.length_replicate]; exact h, fun j _ q => absurd q (by omega), fun j _ q => by rw [at?_eq, List.getElem?_replicate, if_pos (by omega)]⟩
theorem LP_step {α : Type} {m wd : Nat} {own : α → Nat → List AV} {objs : α → List Ob} {z : List AV} {h0 : Hp} {l : List α} {k : Nat} {rows : List (List AV)} {H : Hp} (h : LP m wd own objs z h0 l k rows H) (hm : ∀ x, (objs x).length = m) (hk : k < l.length) :
    LP m wd own objs z h0 l (k + 1) (upd rows k (own l[k] H.length)) (upd (H ++ (objs l[k]).map some) h0.length (some ⟨wd, false, upd rows k (own l[k] H.length)⟩)) := by
  have hl := h.len
  have hmk := hm l[k]
  have hrl := h.rl
  refine ⟨?_, ?_, ?_, ?_, ?_, ?_⟩
  · rw [upd_eq, List.length_set, List.length_append, List.length_map, hmk, hl, Nat.mul_succ]; omega
  · intro i hi
    rw [at_updN (by omega), at_appL (by omega)]; exact h.keep i hi
  · exact at_updS (by rw [List.length_append]; omega)
  · rw [upd_eq, List.length_set]; exact hrl
  · intro j hj hjk
    by_cases e : j = k
    · subst e
      refine ⟨by rw [at_updS (by omega), hl], fun i hi => ?_⟩
      rw [at_updN (by omega), ← hl]
      refine at_appR ?_
      rw [at?_eq, List.getElem?_map, List.getElem?_eq_getElem hi]; rfl
    · obtain ⟨q1, q2⟩ := h.done j hj (by omega)
      refine ⟨by rw [at_updN (Ne.symm e)]; exact q1, fun i hi => ?_⟩
      have := mul_lt' (m := m) (show j < k by omega)
      have := hm l[j]
      rw [at_updN (by omega), at_appL (by omega)]
      exact q2 i hi
  · intro j h1 h2
    rw [at_updN (by omega)]
    exact h.todo j (by omega) h2
theorem LP_end {α : Type} {m wd : Nat} {own : α → Nat → List AV} {objs : α → List Ob} {z : List AV} {h0 : Hp} {l : List α} {rows : List (List AV)} {H : Hp} (h : LP m wd own objs z h0 l l.length rows H) : LAt m wd own objs H h0.length l :=
  ⟨by rw [h.len]; exact Nat.le_refl _, rows, h.out, h.rl, fun j hj => h.done j hj hj⟩
structure LM {α : Type} (m wd : Nat) (own : α → Nat → List AV) (objs : α → List Ob) (H0 : Hp) (b : Nat) (l : List α) (k : Nat) (H : Hp) : Prop where
  len : H.length = H0.length
  bnd : b + 1 + m * l.length ≤ H0.length
  out : ∃ rows, at? H b = some (some ⟨wd, false, rows⟩) ∧ rows.length = l.length ∧ ∀ j (h : j < l.length), k ≤ j → at? rows j = some (own l[j] (b + 1 + m * j)) ∧ ∀ i (hi : i < (objs l[j]).length), at? H (b + 1 + m * j + i) = some (some (objs l[j])[i])
  keep : ∀ i, (i < b ∨ b + 1 + m * l.length ≤ i) → at? H i = at? H0 i
theorem LM_zero {α : Type} {m wd : Nat} {own : α → Nat → List AV} {objs : α → List Ob} {H0 : Hp} {b : Nat} {l : List α} (h : LAt m wd own objs H0 b l) : LM m wd own objs H0 b l 0 H0 := by
  obtain ⟨rows, h0, h1, h2⟩ := h.out
  exact ⟨rfl, h.len, ⟨rows, h0, h1, fun j hj _ => h2 j hj⟩, fun _ _ => rfl⟩
theorem LM_step {α : Type} {m wd : Nat} {own : α → Nat → List AV} {objs : α → List Ob} {H0 H H' : Hp} {b : Nat} {l : List α} {k : Nat} {c : List AV} {rows : List (List AV)} (h : LM m wd own objs H0 b l k H) (hm : ∀ x, (objs x).length = m) (hk : k < l.length)
    (hr : at? H b = some (some ⟨wd, false, rows⟩)) (h1 : H'.length = H.length) (h2 : at? H' b = some (some ⟨wd, false, upd rows k c⟩)) (h3 : ∀ i, i ≠ b → (i < b + 1 + m * k ∨ b + 1 + m * k + m ≤ i) → at? H' i = at? H i) : LM m wd own objs H0 b l (k + 1) H' := by
  obtain ⟨rows', g0, g1, g2⟩ := h.out
  rw [hr] at g0
  cases g0
  have hb := h.bnd
  refine ⟨h1.trans h.len, hb, ⟨_, h2, by rw [upd_eq, List.length_set]; exact g1, fun j hj hkj => ?_⟩, fun i hi => ?_⟩
  · obtain ⟨q1, q2⟩ := g2 j hj (by omega)
    refine ⟨by rw [at_updN (by omega)]; exact q1, fun i hi => ?_⟩
    have := mul_lt' (m := m) (show k < j by omega)
    rw [h3 _ (by omega) (Or.inr (by omega))]
    exact q2 i hi
  · have := mul_lt' (m := m) hk
    rw [h3 i (by omega) (by omega)]
    exact h.keep i hi

end Go.Proofs.Ytfppiankgapakaa.Ev
