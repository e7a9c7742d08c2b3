/- Contracts: what the functions of this part return, for arguments as each contract says. -/
import Derived.Test.YtpgamddjpclbaaaDoorEvD
import Derived.Test.YtpgamddjpclbaaaDoorEvTab
import Derived.Test.YtpgamddjpclbaaaDoorSTy
import Derived.Test.YtpgamddjpclbaaaDoorSSp
import Derived.Test.YtpgamddjpclbaaaDoorSSq
set_option linter.constructorNameAsVariable false
set_option linter.unusedVariables false
set_option linter.unusedSimpArgs false
set_option linter.unusedVariables false
set_option maxHeartbeats 4000000
set_option maxRecDepth 20000
set_option linter.unusedSimpArgs false
set_option linter.constructorNameAsVariable false
namespace Go.Proofs.YtpgamddjpclbaaaDoor.Ev
open Go Go.Proofs
attribute [local irreducible] RO Fn IntKind.wrap TriL
theorem ro_Split1 (s0 : ByteArray) (c : UInt8) (hs : s0.size ≤ 1048576) : RO Cf Tryd.prog 39 [.s s0, .s (one c)] (.ro false true 1 ((splitS c.toNat s0).map sv)) :=
  RO_of_Fn (strings_Split1 s0 c hs) ⟨_, cut_full _ (by simp), rfl⟩
theorem splitB_pre {c : Int} {x : UInt8} (hx : (x.toNat : Int) = c) (r : List UInt8) : ∀ {p : List UInt8}, cntB c p = 0 → splitB c (p ++ x :: r) = p :: splitB c r
  | [], _ => by rw [List.nil_append, splitB, if_pos hx]
  | y :: p, h => by
    simp only [cntB] at h
    by_cases hy : (y.toNat : Int) = c
    · rw [if_pos hy] at h; omega
    · rw [if_neg hy] at h
      rw [List.cons_append, splitB, if_neg hy, splitB_pre hx r (by omega)]
theorem cntB_app (c : Int) : ∀ a b : List UInt8, cntB c (a ++ b) = cntB c a + cntB c b
  | [], b => by simp [cntB]
  | x :: a, b => by rw [List.cons_append, cntB, cntB, cntB_app c a b]; omega
def linesL (l : List UInt8) : List ByteArray := ((splitB 10 l).map ofBs).filter fun x => decide (x ≠ ⟨#[]⟩)
def linesS (s : ByteArray) : List ByteArray := linesL (bs s)
theorem linesL_len (l : List UInt8) : (linesL l).length ≤ l.length + 1 := by
  have h1 : cntB 10 l ≤ l.length := by
    induction l with
    | nil => simp [cntB]
    | cons x l ih => simp only [cntB, List.length_cons]; split <;> omega
  have := List.length_filter_le (fun x => decide (x ≠ (⟨#[]⟩ : ByteArray))) ((splitB 10 l).map ofBs)
  rw [List.length_map, splitB_len] at this
  unfold linesL; omega
theorem impl_LinesIn (s : ByteArray) (hs : s.size ≤ 1048576) : Fn Cf Tryd.prog 27 [.s s] [] (.sl 0 0 (linesS s).length) [some ⟨1, true, (linesS s).map sv⟩] := by
  obtain ⟨L, hL⟩ : ∃ L, L = splitS 10 s := ⟨_, rfl⟩
  have hlen : L.length ≤ 1048577 := by
    have : ∀ l : List UInt8, cntB 10 l ≤ l.length := by
      intro l; induction l with
      | nil => simp [cntB]
      | cons x l ih => simp only [cntB, List.length_cons]; split <;> omega
    have := this (bs s)
    rw [hL, splitS, List.length_map, splitB_len]
    rw [bs_len] at this; omega
  have hR : linesS s = L.filter fun x => decide (x ≠ ⟨#[]⟩) := by rw [hL]; rfl
  have hc := ro_Split1 s 10 hs
  rw [show (((10 : UInt8).toNat : Nat) : Int) = 10 from rfl, ← hL] at hc
  rw [hR]
  refine Fn_of Cf_ok ?_
  repeat' first | refine And.intro rfl ?_ | (refine And.intro (fun h => ?_) (fun h => ?_) <;> (try simp only [decide_eq_true_eq, decide_eq_false_iff_not, Bool.not_eq_true', Bool.not_eq_false', Bool.and_eq_true, Bool.or_eq_true, Bool.not_eq_eq_eq_not, Bool.not_true, Bool.not_false, beq_iff_eq, bne_iff_ne, beq_eq_false_iff_ne, bne_eq_false_iff_eq, Nat.not_lt, Int.not_lt, Int.not_le, wrap_byteAt, List.length_map, eqB_Row, eqB_Op, eqB_Rec, toList_inj, toList_nil, ne_eq, Int.toNat_natCast] at h) <;> (try simp only [wrap64] at h) <;> (try (exfalso; first | (cases h; done) | exact h trivial | exact h rfl | omega))) | refine And.intro ⟨by (first | omega | (simp only [wrap64, maxLen, List.length_map, List.length_append, List.length_cons, List.length_nil, Int.toNat_natCast] at *; omega)), by (first | omega | (simp only [wrap64, maxLen, List.length_map, List.length_append, List.length_cons, List.length_nil, Int.toNat_natCast] at *; omega))⟩ ?_ | refine And.intro (show (_ : Int) ≠ 0 by decide) ?_ | refine And.intro ⟨by (first | omega | (simp only [wrap64, maxLen, List.length_map, List.length_append, List.length_cons, List.length_nil, Int.toNat_natCast] at *; omega)), by (first | omega | (simp only [wrap64, maxLen, List.length_map, List.length_append, List.length_cons, List.length_nil, Int.toNat_natCast] at *; omega)), room (by exact rfl) (by (first | omega | (simp only [wrap64, maxLen, List.length_map, List.length_append, List.length_cons, List.length_nil, Int.toNat_natCast] at *; omega))) (by (first | omega | (simp only [wrap64, maxLen, List.length_map, List.length_append, List.length_cons, List.length_nil, Int.toNat_natCast] at *; omega)))⟩ ?_ | refine And.intro (roomN (by exact rfl) (by (first | omega | (simp only [wrap64, maxLen, List.length_map, List.length_append, List.length_cons, List.length_nil, Int.toNat_natCast] at *; omega)))) ?_ | exact trivial | exact rfl | refine Exists.intro _ (And.intro rfl ?_) | refine' cut1 _ ?_ ?_ | refine And.intro (deep_ag (by exact rfl) (by exact rfl)) ?_ | refine And.intro (deep_ag2 (by repeat' first | exact trivial | refine And.intro (by exact rfl) ?_)) ?_ | refine And.intro (deep_sl (by exact rfl) (by first | exact (List.length_map _).symm | assumption | exact rfl | (simp; done))) ?_ | refine And.intro (deep_rows (by intro x hx; repeat' first | exact trivial | refine And.intro (by exact rfl) ?_)) ?_ | refine And.intro (by exact rfl) ?_ | refine And.intro (Or.inl (by exact rfl)) ?_ | refine' Or.inl (Exists.intro _ (And.intro ?_ (Exists.intro _ (And.intro (hc) (And.intro rfl ?_))))) | refine And.intro (show ByteArray.size _ + ByteArray.size _ ≤ _ from by (first | omega | (simp only [size_mk, size_add, List.size_toArray, List.length_cons, List.length_nil, maxLen] at *; omega))) ?_ | refine Exists.intro _ (And.intro (by with_unfolding_all exact rfl) ?_) | refine And.intro (by decide +kernel) ?_ | refine Exists.intro _ (And.intro (at_map (by (first | omega | (simp only [wrap64, maxLen, List.length_map, List.length_append, List.length_cons, List.length_nil, Int.toNat_natCast] at *; omega)))) ?_) | (refine wrap_id' ?_; (first | omega | (simp only [wrap64, maxLen, List.length_map, List.length_append, List.length_cons, List.length_nil, Int.toNat_natCast] at *; omega))) | refine And.intro ?_ ?_ | fail
  refine loop_nat 27 Cf_ok L.length (fun i (p : Nat × List (List AV)) => ⟨[.u, .u, .u, .sl 0 0 p.1, .u, .u, .u, .u, .ro false true 1 (L.map sv), .i .i64 (L.map sv).length, .i .i64 i, .u, .u, .u, .u, .u, .u, .u, .u, .u, .u, .u], [none, none, none, none, none, none, none, none, none, none, none, none, none, none, none, none, none, none, none, none, none, none], [some ⟨1, true, p.2⟩]⟩)
    (fun k p => p.1 = p.2.length ∧ p.2 = ((L.take k).filter fun x => decide (x ≠ ⟨#[]⟩)).map sv) ?hc ?_ ?_ (_, _) ?_
  case hc => decide +kernel
  · rintro k ⟨n, rows⟩ hk ⟨h2, h3⟩ ih
    simp only [] at h2 h3
    have h4 : rows.length ≤ k := by rw [h3, List.length_map]; exact flt_len
    have hf := flt_take (p := fun x : ByteArray => decide (x ≠ ⟨#[]⟩)) hk
    repeat' first | refine And.intro rfl ?_ | (refine And.intro (fun h => ?_) (fun h => ?_) <;> (try simp only [decide_eq_true_eq, decide_eq_false_iff_not, Bool.not_eq_true', Bool.not_eq_false', Bool.and_eq_true, Bool.or_eq_true, Bool.not_eq_eq_eq_not, Bool.not_true, Bool.not_false, beq_iff_eq, bne_iff_ne, beq_eq_false_iff_ne, bne_eq_false_iff_eq, Nat.not_lt, Int.not_lt, Int.not_le, wrap_byteAt, List.length_map, eqB_Row, eqB_Op, eqB_Rec, toList_inj, toList_nil, ne_eq, Int.toNat_natCast] at h) <;> (try simp only [wrap64] at h) <;> (try (exfalso; first | (cases h; done) | exact h trivial | exact h rfl | omega))) | refine And.intro ⟨by (first | omega | (simp only [wrap64, maxLen, List.length_map, List.length_append, List.length_cons, List.length_nil, Int.toNat_natCast] at *; omega)), by (first | omega | (simp only [wrap64, maxLen, List.length_map, List.length_append, List.length_cons, List.length_nil, Int.toNat_natCast] at *; omega))⟩ ?_ | refine And.intro (show (_ : Int) ≠ 0 by decide) ?_ | refine And.intro ⟨by (first | omega | (simp only [wrap64, maxLen, List.length_map, List.length_append, List.length_cons, List.length_nil, Int.toNat_natCast] at *; omega)), by (first | omega | (simp only [wrap64, maxLen, List.length_map, List.length_append, List.length_cons, List.length_nil, Int.toNat_natCast] at *; omega)), room (by exact rfl) (by (first | omega | (simp only [wrap64, maxLen, List.length_map, List.length_append, List.length_cons, List.length_nil, Int.toNat_natCast] at *; omega))) (by (first | omega | (simp only [wrap64, maxLen, List.length_map, List.length_append, List.length_cons, List.length_nil, Int.toNat_natCast] at *; omega)))⟩ ?_ | refine And.intro (roomN (by exact rfl) (by (first | omega | (simp only [wrap64, maxLen, List.length_map, List.length_append, List.length_cons, List.length_nil, Int.toNat_natCast] at *; omega)))) ?_ | exact trivial | exact rfl | refine Exists.intro _ (And.intro rfl ?_) | refine' cut1 _ ?_ ?_ | refine And.intro (deep_ag (by exact rfl) (by exact rfl)) ?_ | refine And.intro (deep_ag2 (by repeat' first | exact trivial | refine And.intro (by exact rfl) ?_)) ?_ | refine And.intro (deep_sl (by exact rfl) (by first | exact (List.length_map _).symm | assumption | exact rfl | (simp; done))) ?_ | refine And.intro (deep_rows (by intro x hx; repeat' first | exact trivial | refine And.intro (by exact rfl) ?_)) ?_ | refine And.intro (by exact rfl) ?_ | refine And.intro (Or.inl (by exact rfl)) ?_ | (refine' Exists.intro _ (Exists.intro _ (And.intro (show rowsR _ _ _ _ _ from ?_) (And.intro (show bytesOf _ = _ from ?_) ?_)))) | (refine' Exists.intro _ (Exists.intro _ (And.intro (show rowsR _ _ _ _ _ from ?_) (And.intro (show rowsR _ _ _ _ _ from ?_) (And.intro ?_ ?_))))) | (refine cut_full _ ?_; first | assumption | exact (List.length_map _).symm | exact rfl | (simp; done)) | refine roomN (by exact rfl) (by (first | omega | (simp only [wrap64, maxLen, List.length_map, List.length_append, List.length_cons, List.length_nil, Int.toNat_natCast] at *; omega))) | refine ih _ (_, _) ?_ ?_ | refine TriL_gh (gh_ren (σ := [2]) (h' := [some ⟨1, true, _⟩]) rfl rfl rfl ⟨Or.inl ⟨rfl, rfl⟩, trivial⟩) (ih _ (_, _) ?_ ?_) | refine And.intro (show ByteArray.size _ + ByteArray.size _ ≤ _ from by (first | omega | (simp only [size_mk, size_add, List.size_toArray, List.length_cons, List.length_nil, maxLen] at *; omega))) ?_ | refine Exists.intro _ (And.intro (by with_unfolding_all exact rfl) ?_) | refine And.intro (by decide +kernel) ?_ | refine Exists.intro _ (And.intro (at_map (by (first | omega | (simp only [wrap64, maxLen, List.length_map, List.length_append, List.length_cons, List.length_nil, Int.toNat_natCast] at *; omega)))) ?_) | (refine wrap_id' ?_; (first | omega | (simp only [wrap64, maxLen, List.length_map, List.length_append, List.length_cons, List.length_nil, Int.toNat_natCast] at *; omega))) | refine And.intro ?_ ?_ | fail
    · refine Hold.mk ⟨by simp, ?_⟩
      show rows ++ [sv L[k]] = _
      rw [hf, if_pos (by simpa using h), List.map_append, h3]; rfl
    · refine Hold.mk ⟨h2, ?_⟩
      show rows = _
      rw [hf, if_neg (by simpa using h), List.append_nil, h3]
  · rintro ⟨n, rows⟩ ⟨h2, h3⟩
    simp only [] at h2 h3
    rw [List.take_length] at h3
    repeat' first | refine And.intro rfl ?_ | (refine And.intro (fun h => ?_) (fun h => ?_) <;> (try simp only [decide_eq_true_eq, decide_eq_false_iff_not, Bool.not_eq_true', Bool.not_eq_false', Bool.and_eq_true, Bool.or_eq_true, Bool.not_eq_eq_eq_not, Bool.not_true, Bool.not_false, beq_iff_eq, bne_iff_ne, beq_eq_false_iff_ne, bne_eq_false_iff_eq, Nat.not_lt, Int.not_lt, Int.not_le, wrap_byteAt, List.length_map, eqB_Row, eqB_Op, eqB_Rec, toList_inj, toList_nil, ne_eq, Int.toNat_natCast] at h) <;> (try simp only [wrap64] at h) <;> (try (exfalso; first | (cases h; done) | exact h trivial | exact h rfl | omega))) | refine And.intro ⟨by (first | omega | (simp only [wrap64, maxLen, List.length_map, List.length_append, List.length_cons, List.length_nil, Int.toNat_natCast] at *; omega)), by (first | omega | (simp only [wrap64, maxLen, List.length_map, List.length_append, List.length_cons, List.length_nil, Int.toNat_natCast] at *; omega))⟩ ?_ | refine And.intro (show (_ : Int) ≠ 0 by decide) ?_ | refine And.intro ⟨by (first | omega | (simp only [wrap64, maxLen, List.length_map, List.length_append, List.length_cons, List.length_nil, Int.toNat_natCast] at *; omega)), by (first | omega | (simp only [wrap64, maxLen, List.length_map, List.length_append, List.length_cons, List.length_nil, Int.toNat_natCast] at *; omega)), room (by exact rfl) (by (first | omega | (simp only [wrap64, maxLen, List.length_map, List.length_append, List.length_cons, List.length_nil, Int.toNat_natCast] at *; omega))) (by (first | omega | (simp only [wrap64, maxLen, List.length_map, List.length_append, List.length_cons, List.length_nil, Int.toNat_natCast] at *; omega)))⟩ ?_ | refine And.intro (roomN (by exact rfl) (by (first | omega | (simp only [wrap64, maxLen, List.length_map, List.length_append, List.length_cons, List.length_nil, Int.toNat_natCast] at *; omega)))) ?_ | exact trivial | exact rfl | refine Exists.intro _ (And.intro rfl ?_) | refine' cut1 _ ?_ ?_ | refine And.intro (deep_ag (by exact rfl) (by exact rfl)) ?_ | refine And.intro (deep_ag2 (by repeat' first | exact trivial | refine And.intro (by exact rfl) ?_)) ?_ | refine And.intro (deep_sl (by exact rfl) (by first | exact (List.length_map _).symm | assumption | exact rfl | (simp; done))) ?_ | refine And.intro (deep_rows (by intro x hx; repeat' first | exact trivial | refine And.intro (by exact rfl) ?_)) ?_ | refine And.intro (by exact rfl) ?_ | refine And.intro (Or.inl (by exact rfl)) ?_ | refine And.intro (show ByteArray.size _ + ByteArray.size _ ≤ _ from by (first | omega | (simp only [size_mk, size_add, List.size_toArray, List.length_cons, List.length_nil, maxLen] at *; omega))) ?_ | refine Exists.intro _ (And.intro (by with_unfolding_all exact rfl) ?_) | refine And.intro (by decide +kernel) ?_ | refine Exists.intro _ (And.intro (at_map (by (first | omega | (simp only [wrap64, maxLen, List.length_map, List.length_append, List.length_cons, List.length_nil, Int.toNat_natCast] at *; omega)))) ?_) | (refine wrap_id' ?_; (first | omega | (simp only [wrap64, maxLen, List.length_map, List.length_append, List.length_cons, List.length_nil, Int.toNat_natCast] at *; omega))) | refine And.intro ?_ ?_ | fail
    · rw [h2, h3, List.length_map]
    · rw [h3]
  · exact ⟨rfl, by simp⟩
theorem linesL_one {p : List UInt8} (h : cntB 10 p = 0) : linesL p = if p = [] then [] else [ofBs p] := by
  rw [linesL, splitB_none h]
  by_cases hp : p = []
  · subst hp; rw [if_pos rfl]; decide
  · rw [if_neg hp, List.map_cons, List.map_nil, List.filter_cons, if_pos, List.filter_nil]
    simp only [decide_eq_true_eq]
    intro e
    apply hp
    rw [← bs_ofBs p, e]; rfl
theorem linesL_cons {p r : List UInt8} {x : UInt8} (hx : (x.toNat : Int) = 10) (h : cntB 10 p = 0) : linesL (p ++ x :: r) = (if p = [] then [] else [ofBs p]) ++ linesL r := by
  rw [← linesL_one h]
  simp only [linesL]
  rw [splitB_pre hx r h, splitB_none h, List.map_cons, List.map_cons, List.map_nil, List.filter_cons, List.filter_cons]
  split <;> simp
theorem lines_end {l : List UInt8} {f k : Nat} (hk : k = l.length) (hf : f ≤ k) (h : cntB 10 ((l.drop f).take (k - f)) = 0) : linesL (l.drop f) = if f < k then [ofBs ((l.drop f).take (k - f))] else [] := by
  have e : (l.drop f).take (k - f) = l.drop f := List.take_of_length_le (by rw [List.length_drop]; omega)
  rw [e] at h ⊢
  rw [linesL_one h]
  by_cases q : f < k
  · rw [if_pos q, if_neg]
    intro e2
    have := congrArg List.length e2
    rw [List.length_drop] at this; simp at this; omega
  · rw [if_neg q, if_pos (List.drop_eq_nil_of_le (by omega))]
theorem lines_mid {l : List UInt8} {f k : Nat} (hk : k < l.length) (hx : (l[k].toNat : Int) = 10) (hf : f ≤ k) (h : cntB 10 ((l.drop f).take (k - f)) = 0) : linesL (l.drop f) = (if f < k then [ofBs ((l.drop f).take (k - f))] else []) ++ linesL (l.drop (k + 1)) := by
  have e : l.drop f = (l.drop f).take (k - f) ++ l[k] :: l.drop (k + 1) := by
    conv => lhs; rw [← List.take_append_drop (k - f) (l.drop f)]
    rw [List.drop_drop, show f + (k - f) = k by omega, List.drop_eq_getElem_cons hk]
  conv => lhs; rw [e]
  rw [linesL_cons hx h]
  congr 1
  by_cases q : f < k
  · rw [if_pos q, if_neg]
    intro e2
    have := congrArg List.length e2
    rw [List.length_take, List.length_drop] at this; simp at this; omega
  · rw [if_neg q, if_pos]
    rw [show k - f = 0 by omega]; rfl
theorem take_more {l : List UInt8} {f k : Nat} (hk : k < l.length) (hx : ¬ (l[k].toNat : Int) = 10) (hf : f ≤ k) (h : cntB 10 ((l.drop f).take (k - f)) = 0) : cntB 10 ((l.drop f).take (k + 1 - f)) = 0 := by
  rw [show k + 1 - f = (k - f) + 1 by omega, List.take_succ_eq_append_getElem (by rw [List.length_drop]; omega), cntB_app, h]
  have e : (l.drop f)[k - f]'(by rw [List.length_drop]; omega) = l[k] := by
    rw [List.getElem_drop]; congr 1; omega
  rw [e]
  simp [cntB, hx]
theorem ext_ofBs (s : ByteArray) (f k : Nat) : s.extract f k = ofBs (((bs s).drop f).take (k - f)) := by
  rw [← bs_inj, bs_ofBs, bs_extract]
theorem spec_LinesIn (s : ByteArray) (hs : s.size ≤ 1048576) : Fn Cf Tryd.prog 20 [.s s] [] (.sl 0 0 (linesS s).length) [some ⟨1, true, (linesS s).map sv⟩] := by
  refine Fn_of Cf_ok ?_
  repeat' first | refine And.intro rfl ?_ | (refine And.intro (fun h => ?_) (fun h => ?_) <;> (try simp only [decide_eq_true_eq, decide_eq_false_iff_not, Bool.not_eq_true', Bool.not_eq_false', Bool.and_eq_true, Bool.or_eq_true, Bool.not_eq_eq_eq_not, Bool.not_true, Bool.not_false, beq_iff_eq, bne_iff_ne, beq_eq_false_iff_ne, bne_eq_false_iff_eq, Nat.not_lt, Int.not_lt, Int.not_le, wrap_byteAt, List.length_map, eqB_Row, eqB_Op, eqB_Rec, toList_inj, toList_nil, ne_eq, Int.toNat_natCast] at h) <;> (try simp only [wrap64] at h) <;> (try (exfalso; first | (cases h; done) | exact h trivial | exact h rfl | omega))) | refine And.intro ⟨by (first | omega | (simp only [wrap64, maxLen, List.length_map, List.length_append, List.length_cons, List.length_nil, Int.toNat_natCast] at *; omega)), by (first | omega | (simp only [wrap64, maxLen, List.length_map, List.length_append, List.length_cons, List.length_nil, Int.toNat_natCast] at *; omega))⟩ ?_ | refine And.intro (show (_ : Int) ≠ 0 by decide) ?_ | refine And.intro ⟨by (first | omega | (simp only [wrap64, maxLen, List.length_map, List.length_append, List.length_cons, List.length_nil, Int.toNat_natCast] at *; omega)), by (first | omega | (simp only [wrap64, maxLen, List.length_map, List.length_append, List.length_cons, List.length_nil, Int.toNat_natCast] at *; omega)), room (by exact rfl) (by (first | omega | (simp only [wrap64, maxLen, List.length_map, List.length_append, List.length_cons, List.length_nil, Int.toNat_natCast] at *; omega))) (by (first | omega | (simp only [wrap64, maxLen, List.length_map, List.length_append, List.length_cons, List.length_nil, Int.toNat_natCast] at *; omega)))⟩ ?_ | refine And.intro (roomN (by exact rfl) (by (first | omega | (simp only [wrap64, maxLen, List.length_map, List.length_append, List.length_cons, List.length_nil, Int.toNat_natCast] at *; omega)))) ?_ | exact trivial | exact rfl | refine Exists.intro _ (And.intro rfl ?_) | refine' cut1 _ ?_ ?_ | refine And.intro (deep_ag (by exact rfl) (by exact rfl)) ?_ | refine And.intro (deep_ag2 (by repeat' first | exact trivial | refine And.intro (by exact rfl) ?_)) ?_ | refine And.intro (deep_sl (by exact rfl) (by first | exact (List.length_map _).symm | assumption | exact rfl | (simp; done))) ?_ | refine And.intro (deep_rows (by intro x hx; repeat' first | exact trivial | refine And.intro (by exact rfl) ?_)) ?_ | refine And.intro (by exact rfl) ?_ | refine And.intro (Or.inl (by exact rfl)) ?_ | refine And.intro (show ByteArray.size _ + ByteArray.size _ ≤ _ from by (first | omega | (simp only [size_mk, size_add, List.size_toArray, List.length_cons, List.length_nil, maxLen] at *; omega))) ?_ | refine Exists.intro _ (And.intro (by with_unfolding_all exact rfl) ?_) | refine And.intro (by decide +kernel) ?_ | refine Exists.intro _ (And.intro (at_map (by (first | omega | (simp only [wrap64, maxLen, List.length_map, List.length_append, List.length_cons, List.length_nil, Int.toNat_natCast] at *; omega)))) ?_) | (refine wrap_id' ?_; (first | omega | (simp only [wrap64, maxLen, List.length_map, List.length_append, List.length_cons, List.length_nil, Int.toNat_natCast] at *; omega))) | refine And.intro ?_ ?_ | fail
  refine loop_nat 20 Cf_ok (s.size + 1) (fun i (p : Nat × List (List AV) × Int) => ⟨[.s s, .u, .u, .sl 0 0 p.1, .i .i64 p.2.2, .i .i64 i, .u, .u, .u, .u, .u, .u, .u, .u, .u, .u, .u, .u, .u, .u, .u, .u, .u, .u, .u, .u, .u, .u, .u, .u, .u, .u, .u, .u, .u, .u], [none, none, none, none, none, none, none, none, none, none, none, none, none, none, none, none, none, none, none, none, none, none, none, none, none, none, none, none, none, none, none, none, none, none, none, none], [some ⟨1, true, p.2.1⟩]⟩)
    (fun k p => p.1 = p.2.1.length ∧ ∃ (dn : List ByteArray) (f : Nat), p.2.2 = f ∧ f ≤ k ∧ dn.length ≤ f ∧ p.2.1 = dn.map sv ∧ (k ≤ s.size → linesS s = dn ++ linesL ((bs s).drop f)) ∧ (k = s.size + 1 → linesS s = dn) ∧ cntB 10 (((bs s).drop f).take (k - f)) = 0) ?hc ?_ ?_ (_, _, _) ?_
  case hc => decide +kernel
  · rintro k ⟨n, rows, fr⟩ hk ⟨h1, dn, f, h2, h3, h4, h5, h6, h7, h8⟩ ih
    simp only [] at h1 h2 h5
    subst h2
    have h9 : rows.length ≤ k := by rw [h5, List.length_map]; omega
    have w1 : IntKind.i64.wrap ((k : Int) + 1) = ((k + 1 : Nat) : Int) := by rw [wrap_id (by omega) (by omega)]; omega
    have nxt : ∀ (rows' : List (List AV)) (n' : Nat) (dn' : List ByteArray), rows' = dn'.map sv → n' = rows'.length → dn'.length ≤ k + 1 → (k < s.size → linesS s = dn' ++ linesL ((bs s).drop (k + 1))) → (k = s.size → linesS s = dn') →
        Hold (n' = rows'.length ∧ ∃ (dn : List ByteArray) (f : Nat), IntKind.i64.wrap ((k : Int) + 1) = f ∧ f ≤ k + 1 ∧ dn.length ≤ f ∧ rows' = dn.map sv ∧ (k + 1 ≤ s.size → linesS s = dn ++ linesL ((bs s).drop f)) ∧ (k + 1 = s.size + 1 → linesS s = dn) ∧ cntB 10 (((bs s).drop f).take (k + 1 - f)) = 0) := by
      intro rows' n' dn' q1 q2 q3 q4 q5
      exact Hold.mk ⟨q2, dn', k + 1, w1, Nat.le_refl _, q3, q1, fun q => q4 (by omega), fun q => q5 (by omega), by simp [cntB]⟩
    have app : ∀ q : List UInt8, q = ((bs s).drop f).take (k - f) → rows ++ [sv (s.extract f k)] = (dn ++ [ofBs q]).map sv := by
      rintro q rfl; rw [List.map_append, h5, ext_ofBs]; rfl
    have apl : ∀ q : ByteArray, (dn ++ [q]).length ≤ k + 1 ↔ dn.length ≤ k := by intro q; simp
    repeat' first | refine And.intro rfl ?_ | (refine And.intro (fun h => ?_) (fun h => ?_) <;> (try simp only [decide_eq_true_eq, decide_eq_false_iff_not, Bool.not_eq_true', Bool.not_eq_false', Bool.and_eq_true, Bool.or_eq_true, Bool.not_eq_eq_eq_not, Bool.not_true, Bool.not_false, beq_iff_eq, bne_iff_ne, beq_eq_false_iff_ne, bne_eq_false_iff_eq, Nat.not_lt, Int.not_lt, Int.not_le, wrap_byteAt, List.length_map, eqB_Row, eqB_Op, eqB_Rec, toList_inj, toList_nil, ne_eq, Int.toNat_natCast] at h) <;> (try simp only [wrap64] at h) <;> (try (exfalso; first | (cases h; done) | exact h trivial | exact h rfl | omega))) | refine And.intro ⟨by (first | omega | (simp only [wrap64, maxLen, List.length_map, List.length_append, List.length_cons, List.length_nil, Int.toNat_natCast] at *; omega)), by (first | omega | (simp only [wrap64, maxLen, List.length_map, List.length_append, List.length_cons, List.length_nil, Int.toNat_natCast] at *; omega))⟩ ?_ | refine And.intro (show (_ : Int) ≠ 0 by decide) ?_ | refine And.intro ⟨by (first | omega | (simp only [wrap64, maxLen, List.length_map, List.length_append, List.length_cons, List.length_nil, Int.toNat_natCast] at *; omega)), by (first | omega | (simp only [wrap64, maxLen, List.length_map, List.length_append, List.length_cons, List.length_nil, Int.toNat_natCast] at *; omega)), room (by exact rfl) (by (first | omega | (simp only [wrap64, maxLen, List.length_map, List.length_append, List.length_cons, List.length_nil, Int.toNat_natCast] at *; omega))) (by (first | omega | (simp only [wrap64, maxLen, List.length_map, List.length_append, List.length_cons, List.length_nil, Int.toNat_natCast] at *; omega)))⟩ ?_ | refine And.intro (roomN (by exact rfl) (by (first | omega | (simp only [wrap64, maxLen, List.length_map, List.length_append, List.length_cons, List.length_nil, Int.toNat_natCast] at *; omega)))) ?_ | exact trivial | exact rfl | refine Exists.intro _ (And.intro rfl ?_) | refine' cut1 _ ?_ ?_ | refine And.intro (deep_ag (by exact rfl) (by exact rfl)) ?_ | refine And.intro (deep_ag2 (by repeat' first | exact trivial | refine And.intro (by exact rfl) ?_)) ?_ | refine And.intro (deep_sl (by exact rfl) (by first | exact (List.length_map _).symm | assumption | exact rfl | (simp; done))) ?_ | refine And.intro (deep_rows (by intro x hx; repeat' first | exact trivial | refine And.intro (by exact rfl) ?_)) ?_ | refine And.intro (by exact rfl) ?_ | refine And.intro (Or.inl (by exact rfl)) ?_ | (refine' Exists.intro _ (Exists.intro _ (And.intro (show rowsR _ _ _ _ _ from ?_) (And.intro (show bytesOf _ = _ from ?_) ?_)))) | (refine' Exists.intro _ (Exists.intro _ (And.intro (show rowsR _ _ _ _ _ from ?_) (And.intro (show rowsR _ _ _ _ _ from ?_) (And.intro ?_ ?_))))) | (refine cut_full _ ?_; first | assumption | exact (List.length_map _).symm | exact rfl | (simp; done)) | refine roomN (by exact rfl) (by (first | omega | (simp only [wrap64, maxLen, List.length_map, List.length_append, List.length_cons, List.length_nil, Int.toNat_natCast] at *; omega))) | refine ih _ (_, _, _) ?_ ?_ | refine ih (IntKind.i64.wrap ((k:Int)+1)) (n, rows, IntKind.i64.wrap ((k:Int)+1)) ?_ ?_ | refine TriL_gh (gh_ren (σ := [2]) (h' := [some ⟨1, true, _⟩]) rfl rfl rfl ⟨Or.inl ⟨rfl, rfl⟩, trivial⟩) (ih _ (_, _, _) ?_ ?_) | refine And.intro (show ByteArray.size _ + ByteArray.size _ ≤ _ from by (first | omega | (simp only [size_mk, size_add, List.size_toArray, List.length_cons, List.length_nil, maxLen] at *; omega))) ?_ | refine Exists.intro _ (And.intro (by with_unfolding_all exact rfl) ?_) | refine And.intro (by decide +kernel) ?_ | refine Exists.intro _ (And.intro (at_map (by (first | omega | (simp only [wrap64, maxLen, List.length_map, List.length_append, List.length_cons, List.length_nil, Int.toNat_natCast] at *; omega)))) ?_) | (refine wrap_id' ?_; (first | omega | (simp only [wrap64, maxLen, List.length_map, List.length_append, List.length_cons, List.length_nil, Int.toNat_natCast] at *; omega))) | refine And.intro ?_ ?_ | fail
    · have hk2 : k < (bs s).length := by rw [bs_len]; omega
      have hx : ((bs s)[k].toNat : Int) = 10 := by rw [← byteAt_eq (by omega)]; assumption
      have e := lines_mid hk2 hx h3 h8
      rw [if_pos (by omega)] at e
      refine nxt (rows ++ [sv (s.extract f k)]) _ (dn ++ [ofBs (((bs s).drop f).take (k - f))]) (app _ rfl) (by simp) (by simp; omega) (fun q => ?_) (fun q => by omega)
      rw [h6 (by omega), e, List.append_assoc]
    · have hk2 : k < (bs s).length := by rw [bs_len]; omega
      have hx : ((bs s)[k].toNat : Int) = 10 := by rw [← byteAt_eq (by omega)]; assumption
      have e := lines_mid hk2 hx h3 h8
      rw [if_neg (by omega)] at e
      refine nxt rows _ dn h5 h1 (by omega) (fun q => ?_) (fun q => by omega)
      rw [h6 (by omega), e, List.nil_append]
    · have hk2 : k < (bs s).length := by rw [bs_len]; omega
      have hx : ¬ ((bs s)[k].toNat : Int) = 10 := by rw [← byteAt_eq (by omega)]; exact h
      exact Hold.mk ⟨h1, dn, f, rfl, by omega, h4, h5, fun q => h6 (by omega), fun q => by omega, take_more hk2 hx h3 h8⟩
    · have e := lines_end (l := bs s) (k := k) (f := f) (by rw [bs_len]; omega) h3 h8
      rw [if_pos (by omega)] at e
      refine nxt (rows ++ [sv (s.extract f k)]) _ (dn ++ [ofBs (((bs s).drop f).take (k - f))]) (app _ rfl) (by simp) (by simp; omega) (fun q => by omega) (fun q => ?_)
      rw [h6 (by omega), e]
    · have e := lines_end (l := bs s) (k := k) (f := f) (by rw [bs_len]; omega) h3 h8
      rw [if_neg (by omega)] at e
      refine nxt rows _ dn h5 h1 (by omega) (fun q => by omega) (fun q => ?_)
      rw [h6 (by omega), e, List.append_nil]
  · rintro ⟨n, rows, fr⟩ ⟨h1, dn, f, h2, h3, h4, h5, h6, h7, h8⟩
    simp only [] at h1 h2 h5
    have h9 := h7 rfl
    repeat' first | refine And.intro rfl ?_ | (refine And.intro (fun h => ?_) (fun h => ?_) <;> (try simp only [decide_eq_true_eq, decide_eq_false_iff_not, Bool.not_eq_true', Bool.not_eq_false', Bool.and_eq_true, Bool.or_eq_true, Bool.not_eq_eq_eq_not, Bool.not_true, Bool.not_false, beq_iff_eq, bne_iff_ne, beq_eq_false_iff_ne, bne_eq_false_iff_eq, Nat.not_lt, Int.not_lt, Int.not_le, wrap_byteAt, List.length_map, eqB_Row, eqB_Op, eqB_Rec, toList_inj, toList_nil, ne_eq, Int.toNat_natCast] at h) <;> (try simp only [wrap64] at h) <;> (try (exfalso; first | (cases h; done) | exact h trivial | exact h rfl | omega))) | refine And.intro ⟨by (first | omega | (simp only [wrap64, maxLen, List.length_map, List.length_append, List.length_cons, List.length_nil, Int.toNat_natCast] at *; omega)), by (first | omega | (simp only [wrap64, maxLen, List.length_map, List.length_append, List.length_cons, List.length_nil, Int.toNat_natCast] at *; omega))⟩ ?_ | refine And.intro (show (_ : Int) ≠ 0 by decide) ?_ | refine And.intro ⟨by (first | omega | (simp only [wrap64, maxLen, List.length_map, List.length_append, List.length_cons, List.length_nil, Int.toNat_natCast] at *; omega)), by (first | omega | (simp only [wrap64, maxLen, List.length_map, List.length_append, List.length_cons, List.length_nil, Int.toNat_natCast] at *; omega)), room (by exact rfl) (by (first | omega | (simp only [wrap64, maxLen, List.length_map, List.length_append, List.length_cons, List.length_nil, Int.toNat_natCast] at *; omega))) (by (first | omega | (simp only [wrap64, maxLen, List.length_map, List.length_append, List.length_cons, List.length_nil, Int.toNat_natCast] at *; omega)))⟩ ?_ | refine And.intro (roomN (by exact rfl) (by (first | omega | (simp only [wrap64, maxLen, List.length_map, List.length_append, List.length_cons, List.length_nil, Int.toNat_natCast] at *; omega)))) ?_ | exact trivial | exact rfl | refine Exists.intro _ (And.intro rfl ?_) | refine' cut1 _ ?_ ?_ | refine And.intro (deep_ag (by exact rfl) (by exact rfl)) ?_ | refine And.intro (deep_ag2 (by repeat' first | exact trivial | refine And.intro (by exact rfl) ?_)) ?_ | refine And.intro (deep_sl (by exact rfl) (by first | exact (List.length_map _).symm | assumption | exact rfl | (simp; done))) ?_ | refine And.intro (deep_rows (by intro x hx; repeat' first | exact trivial | refine And.intro (by exact rfl) ?_)) ?_ | refine And.intro (by exact rfl) ?_ | refine And.intro (Or.inl (by exact rfl)) ?_ | refine And.intro (show ByteArray.size _ + ByteArray.size _ ≤ _ from by (first | omega | (simp only [size_mk, size_add, List.size_toArray, List.length_cons, List.length_nil, maxLen] at *; omega))) ?_ | refine Exists.intro _ (And.intro (by with_unfolding_all exact rfl) ?_) | refine And.intro (by decide +kernel) ?_ | refine Exists.intro _ (And.intro (at_map (by (first | omega | (simp only [wrap64, maxLen, List.length_map, List.length_append, List.length_cons, List.length_nil, Int.toNat_natCast] at *; omega)))) ?_) | (refine wrap_id' ?_; (first | omega | (simp only [wrap64, maxLen, List.length_map, List.length_append, List.length_cons, List.length_nil, Int.toNat_natCast] at *; omega))) | refine And.intro ?_ ?_ | fail
    · rw [h9, h1, h5, List.length_map]
    · rw [h9, h5]
  · exact ⟨rfl, [], 0, rfl, Nat.le_refl _, Nat.le_refl _, rfl, fun _ => rfl, fun q => by omega, by simp [cntB]⟩

end Go.Proofs.YtpgamddjpclbaaaDoor.Ev
