import Derived.Test.YtjkgjpaodccgbaaPFnExactMovingx2
namespace Go.Proofs.Ytjkgjpaodccgbaa.Pure
open Go.RowKit Go.Proofs.Ytjkgjpaodccgbaa.PFnExactMoving Go.Proofs.YtjkgjpaodccgbaaW.PrintWords Go.Proofs.YtjkgjpaodccgbaaW.PrintLast Go.Proofs.YtjkgjpaodccgbaaW.PrintMore
set_option linter.unusedVariables false
set_option linter.unusedSimpArgs false
namespace Mov
theorem w64 {n : Int} (h0 : -9223372036854775808 ≤ n) (h1 : n < 9223372036854775808) : wrap64 n = n := by unfold wrap64; omega
theorem wadd (a b : Int) : wrap64 (wrap64 a + b) = wrap64 (a + b) := by unfold wrap64; omega
theorem wsub (a b : Int) : wrap64 (wrap64 a - b) = wrap64 (a - b) := by unfold wrap64; omega
theorem rdn (l : List Int) (i : Nat) : rd l (i : Int) = l.getD i 0 := rfl
theorem toInt_l0 (x : List Int) (hx : x.length ≤ 1048576) : ∀ (d k i : Nat) (y : List Int), x.length - i = d → d < k → i ≤ x.length → y.length = x.length → (∀ j, j < i → y.getD j 0 = x.getD j 0) → laws_toIntS.l0 k x y (i : Int) = some x
  | d, 0, i, y, _, hk, _, _, _ => by omega
  | d, k + 1, i, y, hd, hk, hi, hl, hy => by
    unfold laws_toIntS.l0
    by_cases h : i < x.length
    · rw [if_pos (by omega), if_pos (by omega), if_pos (by rw [hl]; omega), w64 (by omega) (by omega)]
      have := toInt_l0 x hx (d - 1) k (i + 1) (y.set i (rd x i)) (by omega) (by omega) (by omega) (by simp [hl]) (by
        intro j hj
        by_cases e : j = i
        · subst e; simp [rdn, hl, h]
        · have hne : i ≠ j := fun q => e q.symm
          have := hy j (by omega)
          simpa [List.getD_eq_getElem?_getD, List.getElem?_set_ne hne] using this)
      simpa using this
    · rw [if_neg (by omega)]
      congr 1
      apply List.ext_getElem?
      intro j
      by_cases hj : j < x.length
      · have := hy j (by omega)
        simp only [List.getD_eq_getElem?_getD] at this
        rw [List.getElem?_eq_getElem (by omega), List.getElem?_eq_getElem hj] at this ⊢
        simpa using this
      · rw [List.getElem?_eq_none (by omega), List.getElem?_eq_none (by omega)]
theorem toInt (x : List Int) (hx : x.length ≤ 1048576) (k : Nat) (hk : x.length < k) : laws_toIntS.f k x = some x := by
  unfold laws_toIntS.f
  rw [if_pos (by omega), if_pos (by simp; omega)]
  exact toInt_l0 x hx _ k 0 _ rfl (by omega) (by omega) (by simp) (by simp)
theorem eq_l0 (x : List Int) (hx : x.length ≤ 1048576) : ∀ (d k i : Nat), x.length - i = d → d < k → laws_eqIntS.l0 k x x (i : Int) = some true
  | d, 0, i, _, hk => by omega
  | d, k + 1, i, hd, hk => by
    unfold laws_eqIntS.l0
    by_cases h : i < x.length
    · rw [if_pos (by omega), if_pos (by omega), if_pos (by omega), if_pos rfl, w64 (by omega) (by omega)]
      have := eq_l0 x hx (d - 1) k (i + 1) (by omega) (by omega)
      simpa using this
    · rw [if_neg (by omega)]
theorem eqs (x : List Int) (hx : x.length ≤ 1048576) (k : Nat) (hk : x.length < k) : laws_eqIntS.f k x x = some true := by
  unfold laws_eqIntS.f
  rw [if_pos rfl]
  exact eq_l0 x hx _ k 0 rfl (by omega)
theorem mark_l0 : ∀ (d k i : Nat) (x : List Int) , x.length ≤ 1048576 → x.length - i = d → d < k → i ≤ x.length → (∀ j, j < i → x.getD j 0 = (j : Int) + 1) →
    ∃ y, laws_markIntS.l0 k x ((i : Int) + 1) (i : Int) = some ((x.length : Int) + 1, y) ∧ y.length = x.length ∧ ∀ j, j < x.length → y.getD j 0 = (j : Int) + 1
  | d, 0, i, x, _, _, hk, _, _ => by omega
  | d, k + 1, i, x, hx, hd, hk, hi, hy => by
    unfold laws_markIntS.l0
    by_cases h : i < x.length
    · rw [if_pos (by omega), if_pos (by omega), w64 (by omega) (by omega), w64 (by omega) (by omega)]
      have := mark_l0 (d - 1) k (i + 1) (x.set i ((i : Int) + 1)) (by simpa using hx) (by simp; omega) (by omega) (by simp; omega) (by
        intro j hj
        by_cases e : j = i
        · subst e; simp [h]
        · have hne : i ≠ j := fun q => e q.symm
          have := hy j (by omega)
          simpa [List.getD_eq_getElem?_getD, List.getElem?_set_ne hne] using this)
      simpa using this
    · rw [if_neg (by omega)]
      have : i = x.length := by omega
      subst this
      exact ⟨x, rfl, rfl, hy⟩
theorem mark (x : List Int) (hx : x.length ≤ 1048576) (k : Nat) (hk : x.length < k) :
    ∃ y, laws_markIntS.f k x 1 = some ((x.length : Int) + 1, y) ∧ y.length = x.length ∧ ∀ j, j < x.length → y.getD j 0 = (j : Int) + 1 := by
  have := mark_l0 x.length k 0 x hx rfl hk (by omega) (by simp)
  simpa [laws_markIntS.f] using this
theorem held_l0 (y : List Int) (hx : y.length ≤ 1048576) (hy : ∀ j, j < y.length → y.getD j 0 = (j : Int) + 1) : ∀ (d k i : Nat), y.length - i = d → d < k → i ≤ y.length →
    laws_heldIntS.l0 k y ((i : Int) + 1) (i : Int) = some ((y.length : Int) + 1)
  | d, 0, i, _, hk, _ => by omega
  | d, k + 1, i, hd, hk, hi => by
    unfold laws_heldIntS.l0
    by_cases h : i < y.length
    · rw [if_pos (by omega), if_pos (by omega), rdn, if_pos (hy i h), w64 (by omega) (by omega), w64 (by omega) (by omega)]
      have := held_l0 y hx hy (d - 1) k (i + 1) (by omega) (by omega) (by omega)
      simpa using this
    · rw [if_neg (by omega)]
      have : i = y.length := by omega
      rw [this]
theorem held (y : List Int) (hx : y.length ≤ 1048576) (hy : ∀ j, j < y.length → y.getD j 0 = (j : Int) + 1) (k : Nat) (hk : y.length < k) : laws_heldIntS.f k y 1 = some ((y.length : Int) + 1) := by
  have := held_l0 y hx hy y.length k 0 rfl hk (by omega)
  simpa [laws_heldIntS.f] using this
/-! The window's sum. -/
def T (l : List Int) (i : Nat) : Int := (l.take i).foldl (· + ·) 0
theorem T_succ (l : List Int) (i : Nat) (h : i < l.length) : T l (i + 1) = T l i + l.getD i 0 := by
  unfold T
  rw [List.take_add_one, List.foldl_append]
  simp [h]
def lo (n : Int) (i : Nat) : Nat := (i - n + 1).toNat
/-- What stands at place i. -/
def W (l : List Int) (n : Int) (i : Nat) : Int := if n > 0 then wrap64 (T l (i + 1) - T l (lo n i)) else 0
def out (l : List Int) (n : Int) (i : Nat) : List Int := (List.range i).map (W l n)
theorem out_succ (l : List Int) (n : Int) (i : Nat) : out l n (i + 1) = out l n i ++ [W l n i] := by simp [out, List.range_succ]
theorem spec_l1 (l : List Int) (hl : l.length ≤ 1048576) (n : Int) (hn : n ≤ 9223372036854775807) (o : List Int) (ho : o.length ≤ 1048576) (i : Nat) (hi : i < l.length) (hpos : n > 0) (r : List Int)
    (h : ∃ k, spec_Moving.l0 k l n (o ++ [W l n i]) ((i : Int) + 1) = some r) : ∀ (d j : Nat), i + 1 - j = d → lo n i ≤ j → j ≤ i + 1 → ∃ k, spec_Moving.l1 k l n o (i : Int) (wrap64 (T l j - T l (lo n i))) (j : Int) = some r
  | 0, j, hd, h1, h2 => by
    obtain ⟨k, hk⟩ := h
    refine ⟨k + 1, ?_⟩
    have : j = i + 1 := by omega
    subst this
    unfold spec_Moving.l1
    rw [if_neg (by omega), if_pos (by omega), w64 (n := (i : Int) + 1) (by omega) (by omega)]
    rw [W, if_pos hpos] at hk
    exact hk
  | d + 1, j, hd, h1, h2 => by
    obtain ⟨k, hk⟩ := spec_l1 l hl n hn o ho i hi hpos r h d (j + 1) (by omega) (by omega) (by omega)
    refine ⟨k + 1, ?_⟩
    unfold spec_Moving.l1
    rw [if_pos (by omega), if_pos hpos, if_pos (by omega), if_pos (by omega), wadd, w64 (n := (j : Int) + 1) (by omega) (by omega), rdn]
    have e : T l j - T l (lo n i) + l.getD j 0 = T l (j + 1) - T l (lo n i) := by rw [T_succ l j (by omega)]; omega
    rw [e]
    exact_mod_cast hk
theorem spec_l0 (l : List Int) (hl : l.length ≤ 1048576) (n : Int) (hn : n ≤ 9223372036854775807) (hn0 : -9223372036854775808 ≤ n) : ∀ (d i : Nat), l.length - i = d → i ≤ l.length → ∃ k, spec_Moving.l0 k l n (out l n i) (i : Int) = some (out l n l.length)
  | 0, i, hd, hi => by
    refine ⟨1, ?_⟩
    have : i = l.length := by omega
    subst this
    unfold spec_Moving.l0
    rw [if_neg (by omega)]
  | d + 1, i, hd, hi => by
    have ih := spec_l0 l hl n hn hn0 d (i + 1) (by omega) (by omega)
    rw [out_succ] at ih
    have hol : (out l n i).length ≤ 1048576 := by simp [out]; omega
    by_cases hpos : n > 0
    · have h1 : wrap64 (wrap64 ((i : Int) - n) + 1) = (i : Int) - n + 1 := by rw [wadd, w64 (by omega) (by omega)]
      have h2 : mx 0 ((i : Int) - n + 1) = ((lo n i : Nat) : Int) := by
        unfold mx lo
        split <;> omega
      obtain ⟨k, hk⟩ := spec_l1 l hl n hn (out l n i) hol i (by omega) hpos _ (by exact_mod_cast ih) (i + 1 - lo n i) (lo n i) rfl (Nat.le_refl _) (by unfold lo; omega)
      refine ⟨k + 1, ?_⟩
      unfold spec_Moving.l0
      rw [if_pos (by omega), h1, h2]
      rw [Int.sub_self, w64 (n := 0) (by omega) (by omega)] at hk
      exact hk
    · obtain ⟨k, hk⟩ := ih
      rw [W, if_neg hpos] at hk
      refine ⟨k + 2, ?_⟩
      unfold spec_Moving.l0
      rw [if_pos (by omega)]
      unfold spec_Moving.l1
      have fin : (if (out l n i).length < 17592186044416 then (spec_Moving.l0 k l n (out l n i ++ [0]) (wrap64 ((i : Int) + 1))) else none) = some (out l n l.length) := by
        rw [if_pos (by omega), w64 (by omega) (by omega)]
        exact_mod_cast hk
      simp only [if_neg hpos]
      split <;> exact fin
theorem impl_l0 (l : List Int) (hl : l.length ≤ 1048576) (n : Int) (hn : n ≤ 9223372036854775807) (hn0 : -9223372036854775808 ≤ n) : ∀ (d i : Nat) (s : Int), l.length - i = d → i ≤ l.length →
    (n > 0 → s = wrap64 (T l i - T l ((i : Int) - n).toNat)) → ∃ k, impl_Moving.l0 k l n (out l n i) s l (l.length : Int) (i : Int) = some (out l n l.length)
  | 0, i, s, hd, hi, hs => by
    refine ⟨1, ?_⟩
    have : i = l.length := by omega
    subst this
    unfold impl_Moving.l0
    rw [if_neg (by omega)]
  | d + 1, i, s, hd, hi, hs => by
    have hol : (out l n i).length ≤ 1048576 := by simp [out]; omega
    have hT := T_succ l i (by omega)
    by_cases hpos : n > 0
    · have hs := hs hpos
      by_cases hge : (i : Int) ≥ n
      · have hj : ((i : Int) - n) = (((i : Int) - n).toNat : Int) := by omega
        have hT2 := T_succ l ((i : Int) - n).toNat (by omega)
        have e1 : (((i + 1 : Nat) : Int) - n).toNat = ((i : Int) - n).toNat + 1 := by omega
        have e2 : lo n i = ((i : Int) - n).toNat + 1 := by unfold lo; omega
        have hv : wrap64 (wrap64 (s + rd l (i : Int)) - rd l ((i : Int) - n)) = W l n i := by
          rw [W, if_pos hpos, hs, wadd, wsub, rdn, hj, rdn, e2]
          congr 1
          simp only [Int.toNat_natCast]
          omega
        obtain ⟨k, hk⟩ := impl_l0 l hl n hn hn0 d (i + 1) (W l n i) (by omega) (by omega) (by
          intro _
          rw [W, if_pos hpos, e1, e2])
        rw [out_succ] at hk
        refine ⟨k + 1, ?_⟩
        unfold impl_Moving.l0
        rw [if_pos (by omega), if_pos (by omega), if_pos (by omega), if_neg (by omega), if_pos hge, w64 (n := (i : Int) - n) (by omega) (by omega), if_pos (by omega), if_pos (by omega), if_pos (by omega), hv, w64 (n := (i : Int) + 1) (by omega) (by omega)]
        exact_mod_cast hk
      · have e1 : (((i + 1 : Nat) : Int) - n).toNat = 0 := by omega
        have e2 : lo n i = 0 := by unfold lo; omega
        have e3 : ((i : Int) - n).toNat = 0 := by omega
        have hv : wrap64 (s + rd l (i : Int)) = W l n i := by
          rw [W, if_pos hpos, hs, wadd, rdn, e2, e3]
          congr 1
          omega
        obtain ⟨k, hk⟩ := impl_l0 l hl n hn hn0 d (i + 1) (W l n i) (by omega) (by omega) (by
          intro _
          rw [W, if_pos hpos, e1, e2])
        rw [out_succ] at hk
        refine ⟨k + 1, ?_⟩
        unfold impl_Moving.l0
        rw [if_pos (by omega), if_pos (by omega), if_pos (by omega), if_neg (by omega), if_neg hge, if_pos (by omega), hv, w64 (n := (i : Int) + 1) (by omega) (by omega)]
        exact_mod_cast hk
    · obtain ⟨k, hk⟩ := impl_l0 l hl n hn hn0 d (i + 1) s (by omega) (by omega) (fun h => absurd h hpos)
      rw [out_succ, W, if_neg hpos] at hk
      refine ⟨k + 1, ?_⟩
      unfold impl_Moving.l0
      rw [if_pos (by omega), if_pos (by omega), if_pos (by omega), if_pos (by omega), if_pos (by omega), w64 (n := (i : Int) + 1) (by omega) (by omega)]
      exact_mod_cast hk
theorem upTo {f : Nat → Option (List Int)} (hm : ∀ k, LeO (f k) (f (k + 1))) {r : List Int} {k0 : Nat} (h : f k0 = some r) : ∀ k, k0 ≤ k → f k = some r := by
  intro k hk
  induction hk with
  | refl => exact h
  | step _ ih => exact hm _ _ ih
end Mov
open Mov in
theorem FnExactMoving : laws_FnExactMoving.Pure := by
  intro l a hlen _ _ ha
  simp only [Lit.wf, IntKind.min, IntKind.max, IntKind.signed, IntKind.bits, Bool.and_eq_true, decide_eq_true_eq, if_true] at ha
  by_cases hbig : (l.length : Int) > 1048576
  · exact ⟨0, by unfold laws_FnExactMoving.f; rw [if_pos hbig]⟩
  have hl : l.length ≤ 1048576 := by omega
  obtain ⟨k1, h1⟩ := spec_l0 l hl a (by omega) (by omega) l.length 0 rfl (by omega)
  obtain ⟨k2, h2⟩ := impl_l0 l hl a (by omega) (by omega) l.length 0 0 rfl (by omega) (by
    intro h
    have : ((0 : Nat) : Int) - a = -a := by omega
    rw [show (((0 : Nat) : Int) - a).toNat = 0 from by omega, Int.sub_self, w64 (n := 0) (by omega) (by omega)])
  have g1 : spec_Moving.f k1 l a = some (out l a l.length) := h1
  have g2 : impl_Moving.f k2 l a = some (out l a l.length) := h2
  have hol : (out l a l.length).length = l.length := by simp [out]
  obtain ⟨y, m1, m2, m3⟩ := Mov.mark (out l a l.length) (by omega) (k1 + k2 + l.length + 1) (by omega)
  obtain ⟨z, n1, n2, n3⟩ := Mov.mark l hl (k1 + k2 + l.length + 2) (by omega)
  have sp := fun k => upTo (f := fun k => spec_Moving.f k l a) (fun k => spec_Moving.mono l a k) g1 k
  have im := fun k => upTo (f := fun k => impl_Moving.f k l a) (fun k => impl_Moving.mono l a k) g2 k
  have hd := held y (by omega) (by rw [m2]; exact m3) (k1 + k2 + l.length + 1) (by omega)
  have hj : laws_FnExactMoving.j0 (k1 + k2 + l.length + 1 + 1) l a (out l a l.length) (out l a l.length) false = some true := by
    simp only [laws_FnExactMoving.j0]
    rw [if_neg (by simp), m1]
    simp only [Option.bind_some, hd, m2]
    rw [if_neg (by omega), if_pos trivial, toInt l hl _ (by omega)]
    simp only [Option.bind_some]
    rw [im _ (by omega)]
    simp only [Option.bind_some]
    rw [eqs _ (by omega) _ (by omega)]
    simp only [Option.bind_some]
    rw [if_pos trivial, if_neg (by omega), if_pos trivial]
  refine ⟨k1 + k2 + l.length + 2, ?_⟩
  unfold laws_FnExactMoving.f
  rw [if_neg hbig, toInt l hl _ (by omega)]
  simp only [Option.bind_some]
  rw [sp _ (by omega), im _ (by omega)]
  simp only [Option.bind_some]
  rw [eqs _ (by omega) _ (by omega)]
  simp only [Option.bind_some]
  rw [if_pos trivial, eqs l (by omega) _ (by omega)]
  simp only [Option.bind_some]
  rw [if_pos trivial, n1]
  simp only [Option.bind_some]
  rw [if_neg (by omega)]
  simpa using hj
end Go.Proofs.Ytjkgjpaodccgbaa.Pure
