/- Contracts: what the functions of this part return, for arguments as each contract says. -/
import Derived.Test.YtlcodlnldcidoaaDoorEvD
import Derived.Test.YtlcodlnldcidoaaDoorEvTab
import Derived.Test.YtlcodlnldcidoaaDoorSTy
import Derived.Test.YtlcodlnldcidoaaDoorSKb
import Derived.Test.YtlcodlnldcidoaaDoorSLb
import Derived.Test.YtlcodlnldcidoaaDoorSIt
import Derived.Test.YtlcodlnldcidoaaDoorSRo
import Derived.Test.YtlcodlnldcidoaaDoorSSw
import Derived.Test.YtlcodlnldcidoaaDoorSVi
import Derived.Test.YtlcodlnldcidoaaDoorSPl
import Derived.Test.YtlcodlnldcidoaaDoorSVa
import Derived.Test.YtlcodlnldcidoaaDoorSSp
import Derived.Test.YtlcodlnldcidoaaDoorSSq
import Derived.Test.YtlcodlnldcidoaaDoorSLn
import Derived.Test.YtlcodlnldcidoaaDoorSLi
set_option linter.constructorNameAsVariable false
set_option linter.unusedVariables false
set_option linter.unusedSimpArgs false
set_option linter.unusedVariables false
set_option maxHeartbeats 4000000
set_option maxRecDepth 20000
set_option linter.unusedSimpArgs false
set_option linter.constructorNameAsVariable false
namespace Go.Proofs.YtlcodlnldcidoaaDoor.Ev
open Go Go.Proofs
attribute [local irreducible] RO Fn IntKind.wrap TriL
theorem idx_pre {c : Int} {x : UInt8} (hx : (x.toNat : Int) = c) (r : List UInt8) : ∀ (p : List UInt8) (k : Int), cntB c p = 0 → idxB c (p ++ x :: r) k = k + p.length
  | [], k, _ => by rw [List.nil_append, idxB_cons, if_pos hx]; simp
  | y :: p, k, h => by
    simp only [cntB] at h
    by_cases hy : (y.toNat : Int) = c
    · rw [if_pos hy] at h; omega
    · rw [if_neg hy] at h
      rw [List.cons_append, idxB_cons, if_neg hy, idx_pre hx r p (k + 1) (by omega), List.length_cons]; omega
theorem idx_get {c : Int} : ∀ (l : List UInt8) (k : Int) (n : Nat), 0 ≤ k → idxB c l k = k + n → ∃ x : UInt8, (x.toNat : Int) = c ∧ n < l.length ∧ l = l.take n ++ x :: l.drop (n + 1)
  | [], k, n, hk, h => by simp [idxB] at h; omega
  | y :: l, k, n, hk, h => by
    rw [idxB_cons] at h
    by_cases hy : (y.toNat : Int) = c
    · rw [if_pos hy] at h
      have : n = 0 := by omega
      subst this
      exact ⟨y, hy, by simp, by simp⟩
    · rw [if_neg hy] at h
      have hr := idxB_rng c l (k + 1)
      cases n with
      | zero => omega
      | succ n =>
        obtain ⟨x, h1, h2, h3⟩ := idx_get (c := c) l (k + 1) n (by omega) (by omega)
        refine ⟨x, h1, by simp; omega, ?_⟩
        rw [List.take_succ_cons, List.drop_succ_cons, List.cons_append, ← h3]
theorem key_no {s : ByteArray} (h : keyOk s = true) {c : Int} (hc : keyB c = false) : cntB c (bs s) = 0 := by
  rw [keyOk, Bool.and_eq_true] at h
  have h := h.1
  generalize bs s = l at h
  induction l with
  | nil => rfl
  | cons x l ih =>
    rw [List.all_cons, Bool.and_eq_true] at h
    have h1 := h.1
    rw [cntB, if_neg (by intro e; rw [e, hc] at h1; exact absurd h1 (by simp)), ih h.2]
theorem digs_no {c : Int} (hc : dig c = false) : ∀ l : List UInt8, digs l = true → cntB c l = 0
  | [], _ => rfl
  | x :: l, h => by
    rw [digs, List.all_cons, Bool.and_eq_true] at h
    have h1 := h.1
    have := digs_no hc l h.2
    rw [cntB, if_neg (by intro e; rw [e, hc] at h1; exact absurd h1 (by simp)), this]
theorem readV_digs {s : ByteArray} (h : (readV s).2 = true) : digs (bs s) = true := by
  rw [readV] at h
  split at h
  · rename_i q; exact q.2.2.1
  · exact absurd h (by simp)
theorem bs_inj' {a b : ByteArray} (h : bs a = bs b) : a = b := bs_inj.1 h
theorem bs_ext' (s : ByteArray) (a b : Nat) : bs (s.extract a b) = ((bs s).drop a).take (b - a) := bs_extract _ _ _
/-- What a line's text is, where its parts are told. -/
theorem parse_parts {s key mid : ByteArray} {w : ByteArray} (hs : bs s = bs key ++ 58 :: (bs mid ++ 124 :: bs w)) (hk : keyOk key = true) (hw : kindOf w ≠ 0) (hv : (readV mid).2 = true) : parseL s = (⟨key, kindOf w, (readV mid).1⟩, 0) := by
  have n1 := key_no hk (c := 58) (by decide)
  have n2 := digs_no (c := 124) (by decide) _ (readV_digs hv)
  have i1 : idxB 58 (bs s) 0 = key.size := by rw [hs, idx_pre (by rfl) _ _ _ n1, bs_len]; omega
  have hz : s.size = key.size + 1 + mid.size + 1 + w.size := by
    rw [← bs_len, hs]; simp only [List.length_append, List.length_cons, bs_len]; omega
  have d1 : (bs s).drop (key.size + 1) = bs mid ++ 124 :: bs w := by
    rw [hs, ← bs_len key, ← List.drop_drop]
    simp
  have e1 : s.extract 0 key.size = key := bs_inj' (by rw [bs_ext', hs, List.drop_zero, Nat.sub_zero, ← bs_len key]; simp)
  have e2 : s.extract (key.size + 1) (key.size + 1 + mid.size) = mid := bs_inj' (by rw [bs_ext', d1, show key.size + 1 + mid.size - (key.size + 1) = (bs mid).length by rw [bs_len]; omega]; simp)
  have e3 : s.extract (key.size + 1 + mid.size + 1) s.size = w := bs_inj' (by
    rw [bs_ext', show key.size + 1 + mid.size + 1 = (key.size + 1) + (mid.size + 1) by omega, ← List.drop_drop, d1, ← bs_len mid]
    rw [List.take_of_length_le]
    · simp
    · simp only [List.length_drop, List.length_append, List.length_cons, bs_len]; omega)
  have t1 : ((key.size : Int) + 1).toNat = key.size + 1 := by omega
  rw [parseL, i1, t1, d1, idx_pre (by rfl) _ _ _ n2, bs_len, parseK]
  have t2 : ((key.size : Int) + 1 + mid.size + 1).toNat = key.size + 1 + mid.size + 1 := by omega
  have t3 : ((key.size : Int) + 1 + mid.size).toNat = key.size + 1 + mid.size := by omega
  rw [if_neg (by omega), if_neg (by omega), t2, t3, t1, Int.toNat_natCast, e1, e2, e3, if_neg (by rw [hk]; simp), if_neg hw, if_neg (by rw [hv]; simp)]
/-- The parts of a line that is read. -/
theorem parse_split {s : ByteArray} {r : Rec} (h : parseL s = (r, 0)) : ∃ mid w : ByteArray, bs s = bs r.key ++ 58 :: (bs mid ++ 124 :: bs w) ∧ keyOk r.key = true ∧ kindOf w = r.what ∧ kindOf w ≠ 0 ∧ readV mid = (r.val, true) := by
  rw [parseL] at h
  have r1 := idxB_rng 58 (bs s) 0
  have r2 := idxB_rng 124 ((bs s).drop (idxB 58 (bs s) 0 + 1).toNat) (idxB 58 (bs s) 0 + 1)
  rw [List.length_drop] at r2
  rw [bs_len] at r1 r2
  generalize hi : idxB 58 (bs s) 0 = i at *
  generalize hk : idxB 124 ((bs s).drop (i + 1).toNat) (i + 1) = k at *
  rw [parseK] at h
  split at h
  · exact absurd (congrArg Prod.snd h) (by simp)
  split at h
  · exact absurd (congrArg Prod.snd h) (by simp)
  split at h
  · exact absurd (congrArg Prod.snd h) (by simp)
  split at h
  · exact absurd (congrArg Prod.snd h) (by simp)
  split at h
  · exact absurd (congrArg Prod.snd h) (by simp)
  rename_i q1 q2 q3 q4 q5
  have hr := congrArg Prod.fst h
  simp only [] at hr
  obtain ⟨x, x1, x2, x3⟩ := idx_get (bs s) 0 i.toNat (Int.le_refl _) (by rw [hi]; omega)
  obtain ⟨y, y1, y2, y3⟩ := idx_get ((bs s).drop (i + 1).toNat) (i + 1) (k - (i + 1)).toNat (by omega) (by rw [hk]; omega)
  rw [bs_len] at x2
  have hx : x = 58 := UInt8.toNat_inj.1 (by show x.toNat = 58; omega)
  have hy : y = 124 := UInt8.toNat_inj.1 (by show y.toNat = 124; omega)
  refine ⟨s.extract (i + 1).toNat k.toNat, s.extract (k + 1).toNat s.size, ?_, ?_, ?_, q4, ?_⟩
  · rw [← hr]
    show bs s = bs (s.extract 0 i.toNat) ++ _
    rw [bs_ext', bs_ext', bs_ext', List.drop_zero, Nat.sub_zero]
    conv => lhs; rw [x3]
    rw [hx]
    congr 2
    rw [show i.toNat + 1 = (i + 1).toNat by omega]
    conv => lhs; rw [y3]
    rw [hy, show k.toNat - (i + 1).toNat = (k - (i + 1)).toNat by omega]
    congr 2
    rw [List.drop_drop, show (i + 1).toNat + ((k - (i + 1)).toNat + 1) = (k + 1).toNat by omega, List.take_of_length_le]
    rw [List.length_drop, bs_len]; omega
  · rw [← hr]
    show keyOk (s.extract 0 i.toNat) = true
    simpa using q3
  · rw [← hr]
  · rw [← hr]
    refine Prod.ext rfl ?_
    show (readV _).2 = true
    simpa using q5
theorem kw_kindOf {w : ByteArray} (h : kindOf w ≠ 0) : kw (kindOf w) = w ∧ 1 ≤ kindOf w ∧ kindOf w ≤ 3 := by
  have hr := kindOf_rng w
  have h3 : kindOf w = 1 ∨ kindOf w = 2 ∨ kindOf w = 3 := by omega
  exact ⟨(kindOf_lem w _ h3).2 rfl, by omega, by omega⟩
theorem kindOf_kw' {n : Int} (h : 1 ≤ n ∧ n ≤ 3) : kindOf (kw n) = n := (kindOf_lem _ n (by omega)).1 rfl
theorem lineIs_parts {s mid : ByteArray} {r : Rec} (hs : bs s = bs r.key ++ 58 :: (bs mid ++ 124 :: bs (kw r.what))) (hk : keyOk r.key = true) (hw : 1 ≤ r.what ∧ r.what ≤ 3) : lineIs s r = valueIs mid r.val := by
  have hR : bs (restL s r) = bs mid ++ 124 :: bs (kw r.what) := by
    rw [restL, bs_ext', List.take_of_length_le (by rw [List.length_drop, bs_len]; omega), hs, ← bs_len r.key, show (bs r.key).length + 1 = (bs r.key).length + 1 from rfl, ← List.drop_drop]
    simp
  have hRl : (restL s r).size = mid.size + 1 + (kw r.what).size := by
    rw [← bs_len, hR]; simp only [List.length_append, List.length_cons, bs_len]; omega
  have hM : midL s r = mid := bs_inj' (by
    rw [midL, bs_ext', hRl, hR, List.drop_zero, Nat.sub_zero, show mid.size + 1 + (kw r.what).size - ((kw r.what).size + 1) = (bs mid).length by rw [bs_len]; omega]; simp)
  rw [lineIs_yes hk hw ?_ ?_, hM]
  · rw [preS, decide_eq_true_iff, bs_append, hs]
    exact ⟨bs mid ++ 124 :: bs (kw r.what), by simp; rfl⟩
  · rw [suf, decide_eq_true_iff, bs_append, hR]
    exact ⟨bs mid, rfl⟩
theorem lineIs_split {s : ByteArray} {r : Rec} (h : lineIs s r = true) : ∃ mid : ByteArray, bs s = bs r.key ++ 58 :: (bs mid ++ 124 :: bs (kw r.what)) ∧ keyOk r.key = true ∧ (1 ≤ r.what ∧ r.what ≤ 3) ∧ valueIs mid r.val = true := by
  simp only [lineIs, Bool.and_eq_true, decide_eq_true_eq] at h
  obtain ⟨⟨⟨⟨h1, h2⟩, h3⟩, h4⟩, h5⟩ := h
  rw [preS, decide_eq_true_iff, bs_append] at h3
  obtain ⟨t, ht⟩ := h3
  rw [suf, decide_eq_true_iff, bs_append] at h4
  obtain ⟨m, hm⟩ := h4
  have hs : bs s = bs r.key ++ 58 :: t := by rw [← ht, List.append_assoc]; rfl
  have hR : bs (restL s r) = t := by
    rw [restL, bs_ext', List.take_of_length_le (by rw [List.length_drop, bs_len]; omega), hs, ← bs_len r.key, ← List.drop_drop]
    simp
  rw [hR] at hm
  have hm' : t = m ++ 124 :: bs (kw r.what) := by rw [← hm]; rfl
  have hM : bs (ofBs m) = m := bs_ofBs m
  refine ⟨ofBs m, by rw [hM, hs, hm'], h1, h2, ?_⟩
  have := lineIs_parts (s := s) (mid := ofBs m) (r := r) (by rw [hM, hs, hm']) h1 h2
  rw [← this]
  simp only [lineIs, Bool.and_eq_true, decide_eq_true_eq]
  refine ⟨⟨⟨⟨h1, h2⟩, ?_⟩, ?_⟩, h5⟩
  · rw [preS, decide_eq_true_iff, bs_append]; exact ⟨t, ht⟩
  · rw [suf, decide_eq_true_iff, bs_append, hR]; exact ⟨m, hm⟩
theorem lineIs_parse (s : ByteArray) (r : Rec) : lineIs s r = decide (parseL s = (r, 0)) := by
  rw [Bool.eq_iff_iff, decide_eq_true_iff]
  constructor
  · intro h
    obtain ⟨mid, h1, h2, h3, h4⟩ := lineIs_split h
    rw [valueIs_read, Bool.and_eq_true, decide_eq_true_iff] at h4
    rw [parse_parts h1 h2 (by rw [kindOf_kw' h3]; omega) h4.1, kindOf_kw' h3, h4.2]
  · intro h
    obtain ⟨mid, w, h1, h2, h3, h4, h5⟩ := parse_split h
    obtain ⟨k1, k2, k3⟩ := kw_kindOf h4
    rw [h3] at k1 k2 k3
    rw [lineIs_parts (mid := mid) (by rw [k1]; exact h1) h2 ⟨k2, k3⟩, valueIs_read, h5]
    simp

end Go.Proofs.YtlcodlnldcidoaaDoor.Ev
