/- Contracts: what the functions of this part return, for arguments as each contract says. -/
import Derived.Test.YtpgamddjpclbaaaDoorEvD
import Derived.Test.YtpgamddjpclbaaaDoorEvTab
import Derived.Test.YtpgamddjpclbaaaDoorSTy
import Derived.Test.YtpgamddjpclbaaaDoorSCq
import Derived.Test.YtpgamddjpclbaaaDoorSKb
import Derived.Test.YtpgamddjpclbaaaDoorSLb
import Derived.Test.YtpgamddjpclbaaaDoorSSp
import Derived.Test.YtpgamddjpclbaaaDoorSSq
import Derived.Test.YtpgamddjpclbaaaDoorSLn
import Derived.Test.YtpgamddjpclbaaaDoorSPl
set_option linter.constructorNameAsVariable false
set_option linter.unusedVariables false
set_option linter.unusedSimpArgs false
set_option linter.unusedVariables false
set_option maxHeartbeats 4000000
set_option maxRecDepth 20000
set_option linter.unusedSimpArgs false
set_option linter.constructorNameAsVariable false
namespace Go.Proofs.YtpgamddjpclbaaaDoor.Ev
open Go Go.Proofs
attribute [local irreducible] RO Fn IntKind.wrap TriL
theorem splitB_mem (c : Int) : ∀ (l : List UInt8) (p : List UInt8), p ∈ splitB c l → p.length ≤ l.length
  | [], p, h => by simp [splitB] at h; subst h; simp
  | x :: l, p, h => by
    have ih := splitB_mem c l
    rw [splitB] at h
    by_cases hx : (x.toNat : Int) = c
    · rw [if_pos hx, List.mem_cons] at h
      rcases h with h | h
      · subst h; simp
      · have := ih p h; simp; omega
    · rw [if_neg hx] at h
      cases hs : splitB c l with
      | nil =>
        rw [hs] at h
        simp at h; subst h; simp
      | cons q qs =>
        rw [hs] at h ih
        simp only [List.mem_cons] at h ih
        rcases h with h | h
        · subst h
          have := ih q (.inl rfl); simp; omega
        · have := ih p (.inr h); simp; omega
theorem linesS_mem {s x : ByteArray} (h : x ∈ linesS s) : x.size ≤ s.size := by
  rw [linesS, linesL, List.mem_filter, List.mem_map] at h
  obtain ⟨⟨p, hp, rfl⟩, _⟩ := h
  have := splitB_mem 10 _ _ hp
  rw [← bs_len, bs_ofBs, ← bs_len s]; exact this
theorem parseK_rng (s : ByteArray) (i k : Int) : 0 ≤ (parseK s i k).2 ∧ (parseK s i k).2 ≤ 4 := by
  unfold parseK; repeat' split
  all_goals simp
theorem parseL_rng (s : ByteArray) : 0 ≤ (parseL s).2 ∧ (parseL s).2 ≤ 4 := parseK_rng _ _ _
def gstep (p : List Rec × List Int) (s : ByteArray) : List Rec × List Int :=
  (p.1 ++ (if (parseL s).2 = 0 then [(parseL s).1] else []), p.2.set (parseL s).2.toNat (p.2.getD (parseL s).2.toNat 0 + 1))
def gramF (l : List ByteArray) : List Rec × List Int := l.foldl gstep ([], [0, 0, 0, 0, 0, 0])
def parseG (s : ByteArray) : List Rec × List Int := if 120 < s.size then ([], [0, 0, 0, 0, 0, 1]) else gramF (linesS s)
theorem gramF_take {l : List ByteArray} {k : Nat} (h : k < l.length) : gramF (l.take (k + 1)) = gstep (gramF (l.take k)) l[k] := by
  rw [gramF, List.take_succ_eq_append_getElem h, List.foldl_append]; rfl
theorem gramF_ok (l : List ByteArray) : (gramF l).1.length ≤ l.length ∧ (gramF l).2.length = 6 ∧ ∀ x ∈ (gramF l).2, 0 ≤ x ∧ x ≤ l.length := by
  suffices h : ∀ k, k ≤ l.length → (gramF (l.take k)).1.length ≤ k ∧ (gramF (l.take k)).2.length = 6 ∧ ∀ x ∈ (gramF (l.take k)).2, 0 ≤ x ∧ x ≤ k by
    have := h l.length (Nat.le_refl _); rwa [List.take_length] at this
  intro k
  induction k with
  | zero => intro _; simp [gramF]
  | succ k ih =>
    intro hk
    obtain ⟨h1, h2, h3⟩ := ih (by omega)
    rw [gramF_take (by omega), gstep]
    refine ⟨?_, by simpa using h2, ?_⟩
    · rw [List.length_append]; split <;> simp <;> omega
    · intro x hx
      have hc := parseL_rng l[k]
      rcases List.mem_or_eq_of_mem_set hx with q | q
      · have := h3 x q; omega
      · rw [List.getD_eq_getElem?_getD, List.getElem?_eq_getElem (by omega)] at q
        have := h3 _ (List.getElem_mem (l := (gramF (l.take k)).2) (n := (parseL l[k]).2.toNat) (by omega))
        simp only [Option.getD_some] at q
        omega
theorem gram_at {l : List Int} {c : Int} (hl : l.length = 6) (h : 0 ≤ c ∧ c ≤ 4) : at? (l.map iv) c.toNat = some (iv (l.getD c.toNat 0)) := by
  rw [at?_eq, List.getElem?_map, List.getD_eq_getElem?_getD, List.getElem?_eq_getElem (by omega)]; rfl
theorem gram_upd {l : List Int} {c : Nat} {x : Int} : upd (l.map iv) c (iv x) = (l.set c x).map iv := by
  rw [upd_eq, List.map_set]
theorem ro_specLinesIn' (s : ByteArray) (hs : s.size ≤ 1048576) : RO Cf Tryd.prog 20 [.s s] (.ro false true 1 ((linesS s).map sv)) :=
  RO_of_Fn (spec_LinesIn s hs) ⟨_, cut_full _ (by simp), rfl⟩
theorem ro_implLinesIn' (s : ByteArray) (hs : s.size ≤ 1048576) : RO Cf Tryd.prog 27 [.s s] (.ro false true 1 ((linesS s).map sv)) :=
  RO_of_Fn (impl_LinesIn s hs) ⟨_, cut_full _ (by simp), rfl⟩
theorem spec_ParseGram (s : ByteArray) (hs : s.size ≤ 1048576) : Fn Cf Tryd.prog 12 [.s s] [] (.tp [.sl 0 0 (parseG s).1.length, .sl 1 0 6]) [some ⟨3, true, (parseG s).1.map Rec.av⟩, some ⟨1, true, (parseG s).2.map iv⟩] := by
  obtain ⟨L, hL⟩ : ∃ L, L = linesS s := ⟨_, rfl⟩
  by_cases h0 : 120 < (s.size : Int)
  · have hp : parseG s = ([], [0, 0, 0, 0, 0, 1]) := by rw [parseG, if_pos (by omega)]
    rw [hp]
    refine Fn_of Cf_ok ?_
    repeat' first | refine And.intro rfl ?_ | (refine And.intro (fun h => ?_) (fun h => ?_) <;> (try simp only [decide_eq_true_eq, decide_eq_false_iff_not, Bool.not_eq_true', Bool.not_eq_false', Bool.and_eq_true, Bool.or_eq_true, Bool.not_eq_eq_eq_not, Bool.not_true, Bool.not_false, beq_iff_eq, bne_iff_ne, beq_eq_false_iff_ne, bne_eq_false_iff_eq, Nat.not_lt, Int.not_lt, Int.not_le, wrap_byteAt, List.length_map, eqB_Row, eqB_Op, eqB_Rec, toList_inj, toList_nil, ne_eq, Int.toNat_natCast] at h) <;> (try simp only [wrap64] at h) <;> (try (exfalso; first | (cases h; done) | exact h trivial | exact h rfl | omega))) | refine And.intro ⟨by (first | omega | (simp only [wrap64, maxLen, List.length_map, List.length_append, List.length_cons, List.length_nil, Int.toNat_natCast] at *; omega)), by (first | omega | (simp only [wrap64, maxLen, List.length_map, List.length_append, List.length_cons, List.length_nil, Int.toNat_natCast] at *; omega))⟩ ?_ | refine And.intro (show (_ : Int) ≠ 0 by decide) ?_ | refine And.intro ⟨by (first | omega | (simp only [wrap64, maxLen, List.length_map, List.length_append, List.length_cons, List.length_nil, Int.toNat_natCast] at *; omega)), by (first | omega | (simp only [wrap64, maxLen, List.length_map, List.length_append, List.length_cons, List.length_nil, Int.toNat_natCast] at *; omega)), room (by exact rfl) (by (first | omega | (simp only [wrap64, maxLen, List.length_map, List.length_append, List.length_cons, List.length_nil, Int.toNat_natCast] at *; omega))) (by (first | omega | (simp only [wrap64, maxLen, List.length_map, List.length_append, List.length_cons, List.length_nil, Int.toNat_natCast] at *; omega)))⟩ ?_ | refine And.intro (roomN (by exact rfl) (by (first | omega | (simp only [wrap64, maxLen, List.length_map, List.length_append, List.length_cons, List.length_nil, Int.toNat_natCast] at *; omega)))) ?_ | exact trivial | exact rfl | refine Exists.intro _ (And.intro rfl ?_) | refine' cut1 _ ?_ ?_ | refine And.intro (deep_ag (by exact rfl) (by exact rfl)) ?_ | refine And.intro (deep_ag2 (by repeat' first | exact trivial | refine And.intro (by exact rfl) ?_)) ?_ | refine And.intro (deep_sl (by exact rfl) (by first | exact (List.length_map _).symm | assumption | exact rfl | (simp; done))) ?_ | refine And.intro (deep_rows (by intro x hx; repeat' first | exact trivial | refine And.intro (by exact rfl) ?_)) ?_ | refine And.intro (by exact rfl) ?_ | refine And.intro (Or.inl (by exact rfl)) ?_ | refine And.intro (show ByteArray.size _ + ByteArray.size _ ≤ _ from by (first | omega | (simp only [size_mk, size_add, List.size_toArray, List.length_cons, List.length_nil, maxLen] at *; omega))) ?_ | refine Exists.intro _ (And.intro (by with_unfolding_all exact rfl) ?_) | refine And.intro (by decide +kernel) ?_ | refine Exists.intro _ (And.intro (at_map (by (first | omega | (simp only [wrap64, maxLen, List.length_map, List.length_append, List.length_cons, List.length_nil, Int.toNat_natCast] at *; omega)))) ?_) | (refine wrap_id' ?_; (first | omega | (simp only [wrap64, maxLen, List.length_map, List.length_append, List.length_cons, List.length_nil, Int.toNat_natCast] at *; omega))) | refine And.intro ?_ ?_ | fail
  · have hp : parseG s = gramF L := by rw [parseG, if_neg (by omega), hL]
    have hc := ro_specLinesIn' s hs
    have hmem : ∀ x ∈ L, x.size ≤ 1048576 := fun x hx => Nat.le_trans (linesS_mem (by rw [← hL]; exact hx)) hs
    have hlen : L.length ≤ s.size + 1 := by have := linesL_len (bs s); rw [bs_len] at this; rw [hL]; exact this
    rw [hp]
    rw [← hL] at hc
    refine Fn_of Cf_ok ?_
    repeat' first | refine And.intro rfl ?_ | (refine And.intro (fun h => ?_) (fun h => ?_) <;> (try simp only [decide_eq_true_eq, decide_eq_false_iff_not, Bool.not_eq_true', Bool.not_eq_false', Bool.and_eq_true, Bool.or_eq_true, Bool.not_eq_eq_eq_not, Bool.not_true, Bool.not_false, beq_iff_eq, bne_iff_ne, beq_eq_false_iff_ne, bne_eq_false_iff_eq, Nat.not_lt, Int.not_lt, Int.not_le, wrap_byteAt, List.length_map, eqB_Row, eqB_Op, eqB_Rec, toList_inj, toList_nil, ne_eq, Int.toNat_natCast] at h) <;> (try simp only [wrap64] at h) <;> (try (exfalso; first | (cases h; done) | exact h trivial | exact h rfl | omega))) | refine And.intro ⟨by (first | omega | (simp only [wrap64, maxLen, List.length_map, List.length_append, List.length_cons, List.length_nil, Int.toNat_natCast] at *; omega)), by (first | omega | (simp only [wrap64, maxLen, List.length_map, List.length_append, List.length_cons, List.length_nil, Int.toNat_natCast] at *; omega))⟩ ?_ | refine And.intro (show (_ : Int) ≠ 0 by decide) ?_ | refine And.intro ⟨by (first | omega | (simp only [wrap64, maxLen, List.length_map, List.length_append, List.length_cons, List.length_nil, Int.toNat_natCast] at *; omega)), by (first | omega | (simp only [wrap64, maxLen, List.length_map, List.length_append, List.length_cons, List.length_nil, Int.toNat_natCast] at *; omega)), room (by exact rfl) (by (first | omega | (simp only [wrap64, maxLen, List.length_map, List.length_append, List.length_cons, List.length_nil, Int.toNat_natCast] at *; omega))) (by (first | omega | (simp only [wrap64, maxLen, List.length_map, List.length_append, List.length_cons, List.length_nil, Int.toNat_natCast] at *; omega)))⟩ ?_ | refine And.intro (roomN (by exact rfl) (by (first | omega | (simp only [wrap64, maxLen, List.length_map, List.length_append, List.length_cons, List.length_nil, Int.toNat_natCast] at *; omega)))) ?_ | exact trivial | exact rfl | refine Exists.intro _ (And.intro rfl ?_) | refine' cut1 _ ?_ ?_ | refine And.intro (deep_ag (by exact rfl) (by exact rfl)) ?_ | refine And.intro (deep_ag2 (by repeat' first | exact trivial | refine And.intro (by exact rfl) ?_)) ?_ | refine And.intro (deep_sl (by exact rfl) (by first | exact (List.length_map _).symm | assumption | exact rfl | (simp; done))) ?_ | refine And.intro (deep_rows (by intro x hx; repeat' first | exact trivial | refine And.intro (by exact rfl) ?_)) ?_ | refine And.intro (by exact rfl) ?_ | refine And.intro (Or.inl (by exact rfl)) ?_ | refine' Or.inl (Exists.intro _ (And.intro ?_ (Exists.intro _ (And.intro (hc) (And.intro rfl ?_))))) | refine And.intro (show ByteArray.size _ + ByteArray.size _ ≤ _ from by (first | omega | (simp only [size_mk, size_add, List.size_toArray, List.length_cons, List.length_nil, maxLen] at *; omega))) ?_ | refine Exists.intro _ (And.intro (by with_unfolding_all exact rfl) ?_) | refine And.intro (by decide +kernel) ?_ | refine Exists.intro _ (And.intro (at_map (by (first | omega | (simp only [wrap64, maxLen, List.length_map, List.length_append, List.length_cons, List.length_nil, Int.toNat_natCast] at *; omega)))) ?_) | (refine wrap_id' ?_; (first | omega | (simp only [wrap64, maxLen, List.length_map, List.length_append, List.length_cons, List.length_nil, Int.toNat_natCast] at *; omega))) | refine And.intro ?_ ?_ | fail
    refine loop_nat 12 Cf_ok L.length (fun i (p : Nat × List (List AV) × List (List AV)) => ⟨[.u, .u, .u, .u, .sl 0 0 p.1, .sl 1 0 6, .ro false true 1 (L.map sv), .i .i64 i, .u, .u, .u, .u, .u, .u, .u, .u, .u, .u, .u, .u, .u, .u, .u, .u, .u, .u, .u, .u, .u, .u, .u, .u, .u, .u, .u, .u, .u, .u, .u, .u, .u, .u, .u, .u, .u, .u, .u, .u, .u, .u, .u], [none, none, none, none, none, none, none, none, none, none, none, none, none, none, none, none, none, none, none, none, none, none, none, none, none, none, none, none, none, none, none, none, none, none, none, none, none, none, none, none, none, none, none, none, none, none, none, none, none, none, none], [some ⟨3, true, p.2.1⟩, some ⟨1, true, p.2.2⟩]⟩)
      (fun k p => p.1 = p.2.1.length ∧ p.2.1 = (gramF (L.take k)).1.map Rec.av ∧ p.2.2 = (gramF (L.take k)).2.map iv) ?hc ?_ ?_ (_, _, _) ?_
    case hc => decide +kernel
    · rintro k ⟨n, rows, cs⟩ hk ⟨h1, h2, h3⟩ ih
      simp only [] at h1 h2 h3
      obtain ⟨g1, g2, g3⟩ := gramF_ok (L.take k)
      have htk : (L.take k).length = k := by rw [List.length_take]; omega
      rw [htk] at g1 g3
      have hrl : rows.length ≤ k := by rw [h2, List.length_map]; exact g1
      have hcs : cs.length = 6 := by rw [h3, List.length_map]; exact g2
      have hgt := gramF_take hk
      have hpl := spec_ParseLine L[k] (hmem _ (List.getElem_mem hk))
      have hcr := parseL_rng L[k]
      rw [gstep] at hgt
      obtain ⟨r, c, hrc⟩ : ∃ r c, parseL L[k] = (r, c) := ⟨_, _, rfl⟩
      rw [hrc] at hpl hcr hgt
      simp only [] at hpl hcr hgt
      have hat : at? cs c.toNat = some (iv ((gramF (L.take k)).2.getD c.toNat 0)) := by rw [h3]; exact gram_at g2 hcr
      obtain ⟨x, hx⟩ : ∃ x, x = (gramF (L.take k)).2.getD c.toNat 0 := ⟨_, rfl⟩
      have hxb : 0 ≤ x ∧ x ≤ k := by
        rw [hx, List.getD_eq_getElem?_getD, List.getElem?_eq_getElem (by omega)]
        exact g3 _ (List.getElem_mem _)
      rw [← hx] at hat hgt
      have w1 : IntKind.i64.wrap (x + 1) = x + 1 := wrap_id (by omega) (by omega)
      have hup : upd cs c.toNat [AV.i .i64 (IntKind.i64.wrap (x + 1))] = ((gramF (L.take k)).2.set c.toNat (x + 1)).map iv := by
        rw [w1, h3]; exact gram_upd
      repeat' first | refine And.intro rfl ?_ | (refine And.intro (fun h => ?_) (fun h => ?_) <;> (try simp only [decide_eq_true_eq, decide_eq_false_iff_not, Bool.not_eq_true', Bool.not_eq_false', Bool.and_eq_true, Bool.or_eq_true, Bool.not_eq_eq_eq_not, Bool.not_true, Bool.not_false, beq_iff_eq, bne_iff_ne, beq_eq_false_iff_ne, bne_eq_false_iff_eq, Nat.not_lt, Int.not_lt, Int.not_le, wrap_byteAt, List.length_map, eqB_Row, eqB_Op, eqB_Rec, toList_inj, toList_nil, ne_eq, Int.toNat_natCast] at h) <;> (try simp only [wrap64] at h) <;> (try (exfalso; first | (cases h; done) | exact h trivial | exact h rfl | omega))) | refine And.intro ⟨by (first | omega | (simp only [wrap64, maxLen, List.length_map, List.length_append, List.length_cons, List.length_nil, Int.toNat_natCast] at *; omega)), by (first | omega | (simp only [wrap64, maxLen, List.length_map, List.length_append, List.length_cons, List.length_nil, Int.toNat_natCast] at *; omega))⟩ ?_ | refine And.intro (show (_ : Int) ≠ 0 by decide) ?_ | refine And.intro ⟨by (first | omega | (simp only [wrap64, maxLen, List.length_map, List.length_append, List.length_cons, List.length_nil, Int.toNat_natCast] at *; omega)), by (first | omega | (simp only [wrap64, maxLen, List.length_map, List.length_append, List.length_cons, List.length_nil, Int.toNat_natCast] at *; omega)), room (by exact rfl) (by (first | omega | (simp only [wrap64, maxLen, List.length_map, List.length_append, List.length_cons, List.length_nil, Int.toNat_natCast] at *; omega))) (by (first | omega | (simp only [wrap64, maxLen, List.length_map, List.length_append, List.length_cons, List.length_nil, Int.toNat_natCast] at *; omega)))⟩ ?_ | refine And.intro (roomN (by exact rfl) (by (first | omega | (simp only [wrap64, maxLen, List.length_map, List.length_append, List.length_cons, List.length_nil, Int.toNat_natCast] at *; omega)))) ?_ | exact trivial | exact rfl | refine Exists.intro _ (And.intro rfl ?_) | refine' cut1 _ ?_ ?_ | refine And.intro (deep_ag (by exact rfl) (by exact rfl)) ?_ | refine And.intro (deep_ag2 (by repeat' first | exact trivial | refine And.intro (by exact rfl) ?_)) ?_ | refine And.intro (deep_sl (by exact rfl) (by first | exact (List.length_map _).symm | assumption | exact rfl | (simp; done))) ?_ | refine And.intro (deep_rows (by intro x hx; repeat' first | exact trivial | refine And.intro (by exact rfl) ?_)) ?_ | refine And.intro (by exact rfl) ?_ | refine And.intro (Or.inl (by exact rfl)) ?_ | refine' Or.inl (Exists.intro _ (And.intro ?_ (Exists.intro _ (And.intro (hpl) (And.intro rfl ?_))))) | refine Exists.intro _ (And.intro (at_map hk) ?_) | refine Exists.intro _ (And.intro hat ?_) | (refine' Exists.intro _ (Exists.intro _ (And.intro (show rowsR _ _ _ _ _ from ?_) (And.intro (show bytesOf _ = _ from ?_) ?_)))) | (refine' Exists.intro _ (Exists.intro _ (And.intro (show rowsR _ _ _ _ _ from ?_) (And.intro (show rowsR _ _ _ _ _ from ?_) (And.intro ?_ ?_))))) | (refine cut_full _ ?_; first | assumption | exact (List.length_map _).symm | exact rfl | (simp; done)) | refine roomN (by exact rfl) (by (first | omega | (simp only [wrap64, maxLen, List.length_map, List.length_append, List.length_cons, List.length_nil, Int.toNat_natCast] at *; omega))) | refine ih _ (_, _, _) ?_ ?_ | refine ih (IntKind.i64.wrap ((k:Int)+1)) (n, rows, upd cs c.toNat [AV.i IntKind.i64 (IntKind.i64.wrap (x + 1))]) ?_ ?_ | refine TriL_gh (gh_ren (σ := [3, 1]) (h' := [some ⟨3, true, _⟩, some ⟨1, true, _⟩]) rfl rfl rfl ⟨Or.inl ⟨rfl, rfl⟩, Or.inl ⟨rfl, rfl⟩, trivial⟩) (ih _ (_, _, _) ?_ ?_) | refine And.intro (show ByteArray.size _ + ByteArray.size _ ≤ _ from by (first | omega | (simp only [size_mk, size_add, List.size_toArray, List.length_cons, List.length_nil, maxLen] at *; omega))) ?_ | refine Exists.intro _ (And.intro (by with_unfolding_all exact rfl) ?_) | refine And.intro (by decide +kernel) ?_ | refine Exists.intro _ (And.intro (at_map (by (first | omega | (simp only [wrap64, maxLen, List.length_map, List.length_append, List.length_cons, List.length_nil, Int.toNat_natCast] at *; omega)))) ?_) | (refine wrap_id' ?_; (first | omega | (simp only [wrap64, maxLen, List.length_map, List.length_append, List.length_cons, List.length_nil, Int.toNat_natCast] at *; omega))) | refine And.intro ?_ ?_ | fail
      · refine Hold.mk ⟨by simp, ?_, ?_⟩
        · show rows ++ [r.av] = _
          rw [hgt, if_pos h, List.map_append, h2]; rfl
        · show upd cs _ _ = _
          rw [hgt]; exact hup
      · refine Hold.mk ⟨h1, ?_, ?_⟩
        · show rows = _
          rw [hgt, if_neg h, List.append_nil, h2]
        · show upd cs _ _ = _
          rw [hgt]; exact hup
    · rintro ⟨n, rows, cs⟩ ⟨h1, h2, h3⟩
      simp only [] at h1 h2 h3
      rw [List.take_length] at h2 h3
      repeat' first | refine And.intro rfl ?_ | (refine And.intro (fun h => ?_) (fun h => ?_) <;> (try simp only [decide_eq_true_eq, decide_eq_false_iff_not, Bool.not_eq_true', Bool.not_eq_false', Bool.and_eq_true, Bool.or_eq_true, Bool.not_eq_eq_eq_not, Bool.not_true, Bool.not_false, beq_iff_eq, bne_iff_ne, beq_eq_false_iff_ne, bne_eq_false_iff_eq, Nat.not_lt, Int.not_lt, Int.not_le, wrap_byteAt, List.length_map, eqB_Row, eqB_Op, eqB_Rec, toList_inj, toList_nil, ne_eq, Int.toNat_natCast] at h) <;> (try simp only [wrap64] at h) <;> (try (exfalso; first | (cases h; done) | exact h trivial | exact h rfl | omega))) | refine And.intro ⟨by (first | omega | (simp only [wrap64, maxLen, List.length_map, List.length_append, List.length_cons, List.length_nil, Int.toNat_natCast] at *; omega)), by (first | omega | (simp only [wrap64, maxLen, List.length_map, List.length_append, List.length_cons, List.length_nil, Int.toNat_natCast] at *; omega))⟩ ?_ | refine And.intro (show (_ : Int) ≠ 0 by decide) ?_ | refine And.intro ⟨by (first | omega | (simp only [wrap64, maxLen, List.length_map, List.length_append, List.length_cons, List.length_nil, Int.toNat_natCast] at *; omega)), by (first | omega | (simp only [wrap64, maxLen, List.length_map, List.length_append, List.length_cons, List.length_nil, Int.toNat_natCast] at *; omega)), room (by exact rfl) (by (first | omega | (simp only [wrap64, maxLen, List.length_map, List.length_append, List.length_cons, List.length_nil, Int.toNat_natCast] at *; omega))) (by (first | omega | (simp only [wrap64, maxLen, List.length_map, List.length_append, List.length_cons, List.length_nil, Int.toNat_natCast] at *; omega)))⟩ ?_ | refine And.intro (roomN (by exact rfl) (by (first | omega | (simp only [wrap64, maxLen, List.length_map, List.length_append, List.length_cons, List.length_nil, Int.toNat_natCast] at *; omega)))) ?_ | exact trivial | exact rfl | refine Exists.intro _ (And.intro rfl ?_) | refine' cut1 _ ?_ ?_ | refine And.intro (deep_ag (by exact rfl) (by exact rfl)) ?_ | refine And.intro (deep_ag2 (by repeat' first | exact trivial | refine And.intro (by exact rfl) ?_)) ?_ | refine And.intro (deep_sl (by exact rfl) (by first | exact (List.length_map _).symm | assumption | exact rfl | (simp; done))) ?_ | refine And.intro (deep_rows (by intro x hx; repeat' first | exact trivial | refine And.intro (by exact rfl) ?_)) ?_ | refine And.intro (by exact rfl) ?_ | refine And.intro (Or.inl (by exact rfl)) ?_ | refine And.intro (show ByteArray.size _ + ByteArray.size _ ≤ _ from by (first | omega | (simp only [size_mk, size_add, List.size_toArray, List.length_cons, List.length_nil, maxLen] at *; omega))) ?_ | refine Exists.intro _ (And.intro (by with_unfolding_all exact rfl) ?_) | refine And.intro (by decide +kernel) ?_ | refine Exists.intro _ (And.intro (at_map (by (first | omega | (simp only [wrap64, maxLen, List.length_map, List.length_append, List.length_cons, List.length_nil, Int.toNat_natCast] at *; omega)))) ?_) | (refine wrap_id' ?_; (first | omega | (simp only [wrap64, maxLen, List.length_map, List.length_append, List.length_cons, List.length_nil, Int.toNat_natCast] at *; omega))) | refine And.intro ?_ ?_ | fail
      · rw [h1, h2, List.length_map]
      · rw [h2, h3]
    · exact ⟨rfl, by simp [gramF], by simp [gramF]; rfl⟩
theorem impl_ParseGram (s : ByteArray) (hs : s.size ≤ 1048576) : Fn Cf Tryd.prog 16 [.s s] [] (.tp [.sl 0 0 (parseG s).1.length, .sl 1 0 6]) [some ⟨3, true, (parseG s).1.map Rec.av⟩, some ⟨1, true, (parseG s).2.map iv⟩] := by
  obtain ⟨L, hL⟩ : ∃ L, L = linesS s := ⟨_, rfl⟩
  by_cases h0 : 120 < (s.size : Int)
  · have hp : parseG s = ([], [0, 0, 0, 0, 0, 1]) := by rw [parseG, if_pos (by omega)]
    rw [hp]
    refine fnP_Fn Cf_ok (by rfl) ?_
    repeat' first | refine And.intro rfl ?_ | (refine And.intro (fun h => ?_) (fun h => ?_) <;> (try simp only [decide_eq_true_eq, decide_eq_false_iff_not, Bool.not_eq_true', Bool.not_eq_false', Bool.and_eq_true, Bool.or_eq_true, Bool.not_eq_eq_eq_not, Bool.not_true, Bool.not_false, beq_iff_eq, bne_iff_ne, beq_eq_false_iff_ne, bne_eq_false_iff_eq, Nat.not_lt, Int.not_lt, Int.not_le, wrap_byteAt, List.length_map, eqB_Row, eqB_Op, eqB_Rec, toList_inj, toList_nil, ne_eq, Int.toNat_natCast] at h) <;> (try simp only [wrap64] at h) <;> (try (exfalso; first | (cases h; done) | exact h trivial | exact h rfl | omega))) | refine And.intro ⟨by (first | omega | (simp only [wrap64, maxLen, List.length_map, List.length_append, List.length_cons, List.length_nil, Int.toNat_natCast] at *; omega)), by (first | omega | (simp only [wrap64, maxLen, List.length_map, List.length_append, List.length_cons, List.length_nil, Int.toNat_natCast] at *; omega))⟩ ?_ | refine And.intro (show (_ : Int) ≠ 0 by decide) ?_ | refine And.intro ⟨by (first | omega | (simp only [wrap64, maxLen, List.length_map, List.length_append, List.length_cons, List.length_nil, Int.toNat_natCast] at *; omega)), by (first | omega | (simp only [wrap64, maxLen, List.length_map, List.length_append, List.length_cons, List.length_nil, Int.toNat_natCast] at *; omega)), room (by exact rfl) (by (first | omega | (simp only [wrap64, maxLen, List.length_map, List.length_append, List.length_cons, List.length_nil, Int.toNat_natCast] at *; omega))) (by (first | omega | (simp only [wrap64, maxLen, List.length_map, List.length_append, List.length_cons, List.length_nil, Int.toNat_natCast] at *; omega)))⟩ ?_ | refine And.intro (roomN (by exact rfl) (by (first | omega | (simp only [wrap64, maxLen, List.length_map, List.length_append, List.length_cons, List.length_nil, Int.toNat_natCast] at *; omega)))) ?_ | exact trivial | exact rfl | refine Exists.intro _ (And.intro rfl ?_) | refine cutQ ?_ | refine And.intro (deep_ag (by exact rfl) (by exact rfl)) ?_ | refine And.intro (deep_ag2 (by repeat' first | exact trivial | refine And.intro (by exact rfl) ?_)) ?_ | refine And.intro (deep_sl (by exact rfl) (by first | exact (List.length_map _).symm | assumption | exact rfl | (simp; done))) ?_ | refine And.intro (deep_rows (by intro x hx; repeat' first | exact trivial | refine And.intro (by exact rfl) ?_)) ?_ | refine And.intro (by exact rfl) ?_ | refine And.intro (Or.inl (by exact rfl)) ?_ | refine And.intro (show ByteArray.size _ + ByteArray.size _ ≤ _ from by (first | omega | (simp only [size_mk, size_add, List.size_toArray, List.length_cons, List.length_nil, maxLen] at *; omega))) ?_ | refine Exists.intro _ (And.intro (by with_unfolding_all exact rfl) ?_) | refine And.intro (by decide +kernel) ?_ | refine Exists.intro _ (And.intro (at_map (by (first | omega | (simp only [wrap64, maxLen, List.length_map, List.length_append, List.length_cons, List.length_nil, Int.toNat_natCast] at *; omega)))) ?_) | (refine wrap_id' ?_; (first | omega | (simp only [wrap64, maxLen, List.length_map, List.length_append, List.length_cons, List.length_nil, Int.toNat_natCast] at *; omega))) | refine And.intro ?_ ?_ | fail
    all_goals first | exact GhS.refl _ _ | exact gh_ren (σ := [1, 0]) (h' := [some ⟨3, true, _⟩, some ⟨1, true, _⟩]) rfl rfl rfl ⟨Or.inl ⟨rfl, rfl⟩, Or.inl ⟨rfl, rfl⟩, trivial⟩
  · have hp : parseG s = gramF L := by rw [parseG, if_neg (by omega), hL]
    have hc := ro_implLinesIn' s hs
    have hmem : ∀ x ∈ L, x.size ≤ 1048576 := fun x hx => Nat.le_trans (linesS_mem (by rw [← hL]; exact hx)) hs
    have hlen : L.length ≤ s.size + 1 := by have := linesL_len (bs s); rw [bs_len] at this; rw [hL]; exact this
    rw [hp]
    rw [← hL] at hc
    refine fnP_Fn Cf_ok (by rfl) ?_
    repeat' first | refine And.intro rfl ?_ | (refine And.intro (fun h => ?_) (fun h => ?_) <;> (try simp only [decide_eq_true_eq, decide_eq_false_iff_not, Bool.not_eq_true', Bool.not_eq_false', Bool.and_eq_true, Bool.or_eq_true, Bool.not_eq_eq_eq_not, Bool.not_true, Bool.not_false, beq_iff_eq, bne_iff_ne, beq_eq_false_iff_ne, bne_eq_false_iff_eq, Nat.not_lt, Int.not_lt, Int.not_le, wrap_byteAt, List.length_map, eqB_Row, eqB_Op, eqB_Rec, toList_inj, toList_nil, ne_eq, Int.toNat_natCast] at h) <;> (try simp only [wrap64] at h) <;> (try (exfalso; first | (cases h; done) | exact h trivial | exact h rfl | omega))) | refine And.intro ⟨by (first | omega | (simp only [wrap64, maxLen, List.length_map, List.length_append, List.length_cons, List.length_nil, Int.toNat_natCast] at *; omega)), by (first | omega | (simp only [wrap64, maxLen, List.length_map, List.length_append, List.length_cons, List.length_nil, Int.toNat_natCast] at *; omega))⟩ ?_ | refine And.intro (show (_ : Int) ≠ 0 by decide) ?_ | refine And.intro ⟨by (first | omega | (simp only [wrap64, maxLen, List.length_map, List.length_append, List.length_cons, List.length_nil, Int.toNat_natCast] at *; omega)), by (first | omega | (simp only [wrap64, maxLen, List.length_map, List.length_append, List.length_cons, List.length_nil, Int.toNat_natCast] at *; omega)), room (by exact rfl) (by (first | omega | (simp only [wrap64, maxLen, List.length_map, List.length_append, List.length_cons, List.length_nil, Int.toNat_natCast] at *; omega))) (by (first | omega | (simp only [wrap64, maxLen, List.length_map, List.length_append, List.length_cons, List.length_nil, Int.toNat_natCast] at *; omega)))⟩ ?_ | refine And.intro (roomN (by exact rfl) (by (first | omega | (simp only [wrap64, maxLen, List.length_map, List.length_append, List.length_cons, List.length_nil, Int.toNat_natCast] at *; omega)))) ?_ | exact trivial | exact rfl | refine Exists.intro _ (And.intro rfl ?_) | refine cutQ ?_ | refine And.intro (deep_ag (by exact rfl) (by exact rfl)) ?_ | refine And.intro (deep_ag2 (by repeat' first | exact trivial | refine And.intro (by exact rfl) ?_)) ?_ | refine And.intro (deep_sl (by exact rfl) (by first | exact (List.length_map _).symm | assumption | exact rfl | (simp; done))) ?_ | refine And.intro (deep_rows (by intro x hx; repeat' first | exact trivial | refine And.intro (by exact rfl) ?_)) ?_ | refine And.intro (by exact rfl) ?_ | refine And.intro (Or.inl (by exact rfl)) ?_ | refine' Or.inl (Exists.intro _ (And.intro ?_ (Exists.intro _ (And.intro (hc) (And.intro rfl ?_))))) | refine And.intro (show ByteArray.size _ + ByteArray.size _ ≤ _ from by (first | omega | (simp only [size_mk, size_add, List.size_toArray, List.length_cons, List.length_nil, maxLen] at *; omega))) ?_ | refine Exists.intro _ (And.intro (by with_unfolding_all exact rfl) ?_) | refine And.intro (by decide +kernel) ?_ | refine Exists.intro _ (And.intro (at_map (by (first | omega | (simp only [wrap64, maxLen, List.length_map, List.length_append, List.length_cons, List.length_nil, Int.toNat_natCast] at *; omega)))) ?_) | (refine wrap_id' ?_; (first | omega | (simp only [wrap64, maxLen, List.length_map, List.length_append, List.length_cons, List.length_nil, Int.toNat_natCast] at *; omega))) | refine And.intro ?_ ?_ | fail
    · refine loop_nat 16 Cf_ok L.length (fun i (p : Nat × List (List AV) × List (List AV)) => ⟨[.u, .u, .u, .u, .sl 0 0 p.1, .sl 1 0 6, .u, .u, .u, .u, .u, .u, .u, .u, .u, .u, .u, .u, .u, .u, .ro false true 1 (L.map sv), .i .i64 (L.map sv).length, .i .i64 i, .u, .u, .u, .u, .u, .u, .u, .u, .u, .u, .u, .u, .u, .u, .u, .u, .u, .u, .u, .u, .u, .u, .u], [none, none, none, none, none, none, none, none, none, none, none, none, none, none, none, none, none, none, none, none, none, none, none, none, none, none, none, none, none, none, none, none, none, none, none, none, none, none, none, none, none, none, none, none, none, none], [some ⟨3, true, p.2.1⟩, some ⟨1, true, p.2.2⟩]⟩)
        (fun k p => p.1 = p.2.1.length ∧ p.2.1 = (gramF (L.take k)).1.map Rec.av ∧ p.2.2 = (gramF (L.take k)).2.map iv) ?hc ?_ ?_ (_, _, _) ?_
      case hc => decide +kernel
      · rintro k ⟨n, rows, cs⟩ hk ⟨h1, h2, h3⟩ ih
        simp only [] at h1 h2 h3
        obtain ⟨g1, g2, g3⟩ := gramF_ok (L.take k)
        have htk : (L.take k).length = k := by rw [List.length_take]; omega
        rw [htk] at g1 g3
        have hrl : rows.length ≤ k := by rw [h2, List.length_map]; exact g1
        have hcs : cs.length = 6 := by rw [h3, List.length_map]; exact g2
        have hgt := gramF_take hk
        have hpl := impl_ParseLine L[k] (hmem _ (List.getElem_mem hk))
        have hcr := parseL_rng L[k]
        rw [gstep] at hgt
        obtain ⟨r, c, hrc⟩ : ∃ r c, parseL L[k] = (r, c) := ⟨_, _, rfl⟩
        rw [hrc] at hpl hcr hgt
        simp only [] at hpl hcr hgt
        have hat : at? cs c.toNat = some (iv ((gramF (L.take k)).2.getD c.toNat 0)) := by rw [h3]; exact gram_at g2 hcr
        obtain ⟨x, hx⟩ : ∃ x, x = (gramF (L.take k)).2.getD c.toNat 0 := ⟨_, rfl⟩
        have hxb : 0 ≤ x ∧ x ≤ k := by
          rw [hx, List.getD_eq_getElem?_getD, List.getElem?_eq_getElem (by omega)]
          exact g3 _ (List.getElem_mem _)
        rw [← hx] at hat hgt
        have w1 : IntKind.i64.wrap (x + 1) = x + 1 := wrap_id (by omega) (by omega)
        have hup : upd cs c.toNat [AV.i .i64 (IntKind.i64.wrap (x + 1))] = ((gramF (L.take k)).2.set c.toNat (x + 1)).map iv := by
          rw [w1, h3]; exact gram_upd
        repeat' first | refine And.intro rfl ?_ | (refine And.intro (fun h => ?_) (fun h => ?_) <;> (try simp only [decide_eq_true_eq, decide_eq_false_iff_not, Bool.not_eq_true', Bool.not_eq_false', Bool.and_eq_true, Bool.or_eq_true, Bool.not_eq_eq_eq_not, Bool.not_true, Bool.not_false, beq_iff_eq, bne_iff_ne, beq_eq_false_iff_ne, bne_eq_false_iff_eq, Nat.not_lt, Int.not_lt, Int.not_le, wrap_byteAt, List.length_map, eqB_Row, eqB_Op, eqB_Rec, toList_inj, toList_nil, ne_eq, Int.toNat_natCast] at h) <;> (try simp only [wrap64] at h) <;> (try (exfalso; first | (cases h; done) | exact h trivial | exact h rfl | omega))) | refine And.intro ⟨by (first | omega | (simp only [wrap64, maxLen, List.length_map, List.length_append, List.length_cons, List.length_nil, Int.toNat_natCast] at *; omega)), by (first | omega | (simp only [wrap64, maxLen, List.length_map, List.length_append, List.length_cons, List.length_nil, Int.toNat_natCast] at *; omega))⟩ ?_ | refine And.intro (show (_ : Int) ≠ 0 by decide) ?_ | refine And.intro ⟨by (first | omega | (simp only [wrap64, maxLen, List.length_map, List.length_append, List.length_cons, List.length_nil, Int.toNat_natCast] at *; omega)), by (first | omega | (simp only [wrap64, maxLen, List.length_map, List.length_append, List.length_cons, List.length_nil, Int.toNat_natCast] at *; omega)), room (by exact rfl) (by (first | omega | (simp only [wrap64, maxLen, List.length_map, List.length_append, List.length_cons, List.length_nil, Int.toNat_natCast] at *; omega))) (by (first | omega | (simp only [wrap64, maxLen, List.length_map, List.length_append, List.length_cons, List.length_nil, Int.toNat_natCast] at *; omega)))⟩ ?_ | refine And.intro (roomN (by exact rfl) (by (first | omega | (simp only [wrap64, maxLen, List.length_map, List.length_append, List.length_cons, List.length_nil, Int.toNat_natCast] at *; omega)))) ?_ | exact trivial | exact rfl | refine Exists.intro _ (And.intro rfl ?_) | refine' cut1 _ ?_ ?_ | refine And.intro (deep_ag (by exact rfl) (by exact rfl)) ?_ | refine And.intro (deep_ag2 (by repeat' first | exact trivial | refine And.intro (by exact rfl) ?_)) ?_ | refine And.intro (deep_sl (by exact rfl) (by first | exact (List.length_map _).symm | assumption | exact rfl | (simp; done))) ?_ | refine And.intro (deep_rows (by intro x hx; repeat' first | exact trivial | refine And.intro (by exact rfl) ?_)) ?_ | refine And.intro (by exact rfl) ?_ | refine And.intro (Or.inl (by exact rfl)) ?_ | refine' Or.inl (Exists.intro _ (And.intro ?_ (Exists.intro _ (And.intro (hpl) (And.intro rfl ?_))))) | refine Exists.intro _ (And.intro (at_map hk) ?_) | refine Exists.intro _ (And.intro hat ?_) | (refine' Exists.intro _ (Exists.intro _ (And.intro (show rowsR _ _ _ _ _ from ?_) (And.intro (show bytesOf _ = _ from ?_) ?_)))) | (refine' Exists.intro _ (Exists.intro _ (And.intro (show rowsR _ _ _ _ _ from ?_) (And.intro (show rowsR _ _ _ _ _ from ?_) (And.intro ?_ ?_))))) | (refine cut_full _ ?_; first | assumption | exact (List.length_map _).symm | exact rfl | (simp; done)) | refine roomN (by exact rfl) (by (first | omega | (simp only [wrap64, maxLen, List.length_map, List.length_append, List.length_cons, List.length_nil, Int.toNat_natCast] at *; omega))) | refine ih _ (_, _, _) ?_ ?_ | refine ih (IntKind.i64.wrap ((k:Int)+1)) (n, rows, upd cs c.toNat [AV.i IntKind.i64 (IntKind.i64.wrap (x + 1))]) ?_ ?_ | refine TriL_gh (gh_ren (σ := [3, 1]) (h' := [some ⟨3, true, _⟩, some ⟨1, true, _⟩]) rfl rfl rfl ⟨Or.inl ⟨rfl, rfl⟩, Or.inl ⟨rfl, rfl⟩, trivial⟩) (ih _ (_, _, _) ?_ ?_) | refine And.intro (show ByteArray.size _ + ByteArray.size _ ≤ _ from by (first | omega | (simp only [size_mk, size_add, List.size_toArray, List.length_cons, List.length_nil, maxLen] at *; omega))) ?_ | refine Exists.intro _ (And.intro (by with_unfolding_all exact rfl) ?_) | refine And.intro (by decide +kernel) ?_ | refine Exists.intro _ (And.intro (at_map (by (first | omega | (simp only [wrap64, maxLen, List.length_map, List.length_append, List.length_cons, List.length_nil, Int.toNat_natCast] at *; omega)))) ?_) | (refine wrap_id' ?_; (first | omega | (simp only [wrap64, maxLen, List.length_map, List.length_append, List.length_cons, List.length_nil, Int.toNat_natCast] at *; omega))) | refine And.intro ?_ ?_ | fail
        · refine Hold.mk ⟨by simp, ?_, ?_⟩
          · show rows ++ [r.av] = _
            rw [hgt, if_pos h, List.map_append, h2]; rfl
          · show upd cs _ _ = _
            rw [hgt]; exact hup
        · refine Hold.mk ⟨h1, ?_, ?_⟩
          · show rows = _
            rw [hgt, if_neg h, List.append_nil, h2]
          · show upd cs _ _ = _
            rw [hgt]; exact hup
      · rintro ⟨n, rows, cs⟩ ⟨h1, h2, h3⟩
        simp only [] at h1 h2 h3
        rw [List.take_length] at h2 h3
        repeat' first | refine And.intro rfl ?_ | (refine And.intro (fun h => ?_) (fun h => ?_) <;> (try simp only [decide_eq_true_eq, decide_eq_false_iff_not, Bool.not_eq_true', Bool.not_eq_false', Bool.and_eq_true, Bool.or_eq_true, Bool.not_eq_eq_eq_not, Bool.not_true, Bool.not_false, beq_iff_eq, bne_iff_ne, beq_eq_false_iff_ne, bne_eq_false_iff_eq, Nat.not_lt, Int.not_lt, Int.not_le, wrap_byteAt, List.length_map, eqB_Row, eqB_Op, eqB_Rec, toList_inj, toList_nil, ne_eq, Int.toNat_natCast] at h) <;> (try simp only [wrap64] at h) <;> (try (exfalso; first | (cases h; done) | exact h trivial | exact h rfl | omega))) | refine And.intro ⟨by (first | omega | (simp only [wrap64, maxLen, List.length_map, List.length_append, List.length_cons, List.length_nil, Int.toNat_natCast] at *; omega)), by (first | omega | (simp only [wrap64, maxLen, List.length_map, List.length_append, List.length_cons, List.length_nil, Int.toNat_natCast] at *; omega))⟩ ?_ | refine And.intro (show (_ : Int) ≠ 0 by decide) ?_ | refine And.intro ⟨by (first | omega | (simp only [wrap64, maxLen, List.length_map, List.length_append, List.length_cons, List.length_nil, Int.toNat_natCast] at *; omega)), by (first | omega | (simp only [wrap64, maxLen, List.length_map, List.length_append, List.length_cons, List.length_nil, Int.toNat_natCast] at *; omega)), room (by exact rfl) (by (first | omega | (simp only [wrap64, maxLen, List.length_map, List.length_append, List.length_cons, List.length_nil, Int.toNat_natCast] at *; omega))) (by (first | omega | (simp only [wrap64, maxLen, List.length_map, List.length_append, List.length_cons, List.length_nil, Int.toNat_natCast] at *; omega)))⟩ ?_ | refine And.intro (roomN (by exact rfl) (by (first | omega | (simp only [wrap64, maxLen, List.length_map, List.length_append, List.length_cons, List.length_nil, Int.toNat_natCast] at *; omega)))) ?_ | exact trivial | exact rfl | refine Exists.intro _ (And.intro rfl ?_) | refine' cut1 _ ?_ ?_ | refine And.intro (deep_ag (by exact rfl) (by exact rfl)) ?_ | refine And.intro (deep_ag2 (by repeat' first | exact trivial | refine And.intro (by exact rfl) ?_)) ?_ | refine And.intro (deep_sl (by exact rfl) (by first | exact (List.length_map _).symm | assumption | exact rfl | (simp; done))) ?_ | refine And.intro (deep_rows (by intro x hx; repeat' first | exact trivial | refine And.intro (by exact rfl) ?_)) ?_ | refine And.intro (by exact rfl) ?_ | refine And.intro (Or.inl (by exact rfl)) ?_ | refine And.intro (show ByteArray.size _ + ByteArray.size _ ≤ _ from by (first | omega | (simp only [size_mk, size_add, List.size_toArray, List.length_cons, List.length_nil, maxLen] at *; omega))) ?_ | refine Exists.intro _ (And.intro (by with_unfolding_all exact rfl) ?_) | refine And.intro (by decide +kernel) ?_ | refine Exists.intro _ (And.intro (at_map (by (first | omega | (simp only [wrap64, maxLen, List.length_map, List.length_append, List.length_cons, List.length_nil, Int.toNat_natCast] at *; omega)))) ?_) | (refine wrap_id' ?_; (first | omega | (simp only [wrap64, maxLen, List.length_map, List.length_append, List.length_cons, List.length_nil, Int.toNat_natCast] at *; omega))) | refine And.intro ?_ ?_ | fail
        show GhS 0 ⟨[.tp [.sl 0 0 n, .sl 1 0 6]], [], [some ⟨3, true, rows⟩, some ⟨1, true, cs⟩]⟩ _
        rw [h1, h2, h3, List.length_map]; exact GhS.refl _ _
      · exact ⟨rfl, by simp [gramF], by simp [gramF]; rfl⟩
    · refine TriL_gh (gh_ren (σ := [1, 0]) (h' := [some ⟨3, true, _⟩, some ⟨1, true, _⟩]) rfl rfl rfl ⟨Or.inl ⟨rfl, rfl⟩, Or.inl ⟨rfl, rfl⟩, trivial⟩) ?_
      refine loop_nat 16 Cf_ok L.length (fun i (p : Nat × List (List AV) × List (List AV)) => ⟨[.u, .u, .u, .u, .sl 0 0 p.1, .sl 1 0 6, .u, .u, .u, .u, .u, .u, .u, .u, .u, .u, .u, .u, .u, .u, .ro false true 1 (L.map sv), .i .i64 (L.map sv).length, .i .i64 i, .u, .u, .u, .u, .u, .u, .u, .u, .u, .u, .u, .u, .u, .u, .u, .u, .u, .u, .u, .u, .u, .u, .u], [none, none, none, none, none, none, none, none, none, none, none, none, none, none, none, none, none, none, none, none, none, none, none, none, none, none, none, none, none, none, none, none, none, none, none, none, none, none, none, none, none, none, none, none, none, none], [some ⟨3, true, p.2.1⟩, some ⟨1, true, p.2.2⟩]⟩)
        (fun k p => p.1 = p.2.1.length ∧ p.2.1 = (gramF (L.take k)).1.map Rec.av ∧ p.2.2 = (gramF (L.take k)).2.map iv) ?hc ?_ ?_ (_, _, _) ?_
      case hc => decide +kernel
      · rintro k ⟨n, rows, cs⟩ hk ⟨h1, h2, h3⟩ ih
        simp only [] at h1 h2 h3
        obtain ⟨g1, g2, g3⟩ := gramF_ok (L.take k)
        have htk : (L.take k).length = k := by rw [List.length_take]; omega
        rw [htk] at g1 g3
        have hrl : rows.length ≤ k := by rw [h2, List.length_map]; exact g1
        have hcs : cs.length = 6 := by rw [h3, List.length_map]; exact g2
        have hgt := gramF_take hk
        have hpl := impl_ParseLine L[k] (hmem _ (List.getElem_mem hk))
        have hcr := parseL_rng L[k]
        rw [gstep] at hgt
        obtain ⟨r, c, hrc⟩ : ∃ r c, parseL L[k] = (r, c) := ⟨_, _, rfl⟩
        rw [hrc] at hpl hcr hgt
        simp only [] at hpl hcr hgt
        have hat : at? cs c.toNat = some (iv ((gramF (L.take k)).2.getD c.toNat 0)) := by rw [h3]; exact gram_at g2 hcr
        obtain ⟨x, hx⟩ : ∃ x, x = (gramF (L.take k)).2.getD c.toNat 0 := ⟨_, rfl⟩
        have hxb : 0 ≤ x ∧ x ≤ k := by
          rw [hx, List.getD_eq_getElem?_getD, List.getElem?_eq_getElem (by omega)]
          exact g3 _ (List.getElem_mem _)
        rw [← hx] at hat hgt
        have w1 : IntKind.i64.wrap (x + 1) = x + 1 := wrap_id (by omega) (by omega)
        have hup : upd cs c.toNat [AV.i .i64 (IntKind.i64.wrap (x + 1))] = ((gramF (L.take k)).2.set c.toNat (x + 1)).map iv := by
          rw [w1, h3]; exact gram_upd
        repeat' first | refine And.intro rfl ?_ | (refine And.intro (fun h => ?_) (fun h => ?_) <;> (try simp only [decide_eq_true_eq, decide_eq_false_iff_not, Bool.not_eq_true', Bool.not_eq_false', Bool.and_eq_true, Bool.or_eq_true, Bool.not_eq_eq_eq_not, Bool.not_true, Bool.not_false, beq_iff_eq, bne_iff_ne, beq_eq_false_iff_ne, bne_eq_false_iff_eq, Nat.not_lt, Int.not_lt, Int.not_le, wrap_byteAt, List.length_map, eqB_Row, eqB_Op, eqB_Rec, toList_inj, toList_nil, ne_eq, Int.toNat_natCast] at h) <;> (try simp only [wrap64] at h) <;> (try (exfalso; first | (cases h; done) | exact h trivial | exact h rfl | omega))) | refine And.intro ⟨by (first | omega | (simp only [wrap64, maxLen, List.length_map, List.length_append, List.length_cons, List.length_nil, Int.toNat_natCast] at *; omega)), by (first | omega | (simp only [wrap64, maxLen, List.length_map, List.length_append, List.length_cons, List.length_nil, Int.toNat_natCast] at *; omega))⟩ ?_ | refine And.intro (show (_ : Int) ≠ 0 by decide) ?_ | refine And.intro ⟨by (first | omega | (simp only [wrap64, maxLen, List.length_map, List.length_append, List.length_cons, List.length_nil, Int.toNat_natCast] at *; omega)), by (first | omega | (simp only [wrap64, maxLen, List.length_map, List.length_append, List.length_cons, List.length_nil, Int.toNat_natCast] at *; omega)), room (by exact rfl) (by (first | omega | (simp only [wrap64, maxLen, List.length_map, List.length_append, List.length_cons, List.length_nil, Int.toNat_natCast] at *; omega))) (by (first | omega | (simp only [wrap64, maxLen, List.length_map, List.length_append, List.length_cons, List.length_nil, Int.toNat_natCast] at *; omega)))⟩ ?_ | refine And.intro (roomN (by exact rfl) (by (first | omega | (simp only [wrap64, maxLen, List.length_map, List.length_append, List.length_cons, List.length_nil, Int.toNat_natCast] at *; omega)))) ?_ | exact trivial | exact rfl | refine Exists.intro _ (And.intro rfl ?_) | refine' cut1 _ ?_ ?_ | refine And.intro (deep_ag (by exact rfl) (by exact rfl)) ?_ | refine And.intro (deep_ag2 (by repeat' first | exact trivial | refine And.intro (by exact rfl) ?_)) ?_ | refine And.intro (deep_sl (by exact rfl) (by first | exact (List.length_map _).symm | assumption | exact rfl | (simp; done))) ?_ | refine And.intro (deep_rows (by intro x hx; repeat' first | exact trivial | refine And.intro (by exact rfl) ?_)) ?_ | refine And.intro (by exact rfl) ?_ | refine And.intro (Or.inl (by exact rfl)) ?_ | refine' Or.inl (Exists.intro _ (And.intro ?_ (Exists.intro _ (And.intro (hpl) (And.intro rfl ?_))))) | refine Exists.intro _ (And.intro (at_map hk) ?_) | refine Exists.intro _ (And.intro hat ?_) | (refine' Exists.intro _ (Exists.intro _ (And.intro (show rowsR _ _ _ _ _ from ?_) (And.intro (show bytesOf _ = _ from ?_) ?_)))) | (refine' Exists.intro _ (Exists.intro _ (And.intro (show rowsR _ _ _ _ _ from ?_) (And.intro (show rowsR _ _ _ _ _ from ?_) (And.intro ?_ ?_))))) | (refine cut_full _ ?_; first | assumption | exact (List.length_map _).symm | exact rfl | (simp; done)) | refine roomN (by exact rfl) (by (first | omega | (simp only [wrap64, maxLen, List.length_map, List.length_append, List.length_cons, List.length_nil, Int.toNat_natCast] at *; omega))) | refine ih _ (_, _, _) ?_ ?_ | refine ih (IntKind.i64.wrap ((k:Int)+1)) (n, rows, upd cs c.toNat [AV.i IntKind.i64 (IntKind.i64.wrap (x + 1))]) ?_ ?_ | refine TriL_gh (gh_ren (σ := [3, 1]) (h' := [some ⟨3, true, _⟩, some ⟨1, true, _⟩]) rfl rfl rfl ⟨Or.inl ⟨rfl, rfl⟩, Or.inl ⟨rfl, rfl⟩, trivial⟩) (ih _ (_, _, _) ?_ ?_) | refine And.intro (show ByteArray.size _ + ByteArray.size _ ≤ _ from by (first | omega | (simp only [size_mk, size_add, List.size_toArray, List.length_cons, List.length_nil, maxLen] at *; omega))) ?_ | refine Exists.intro _ (And.intro (by with_unfolding_all exact rfl) ?_) | refine And.intro (by decide +kernel) ?_ | refine Exists.intro _ (And.intro (at_map (by (first | omega | (simp only [wrap64, maxLen, List.length_map, List.length_append, List.length_cons, List.length_nil, Int.toNat_natCast] at *; omega)))) ?_) | (refine wrap_id' ?_; (first | omega | (simp only [wrap64, maxLen, List.length_map, List.length_append, List.length_cons, List.length_nil, Int.toNat_natCast] at *; omega))) | refine And.intro ?_ ?_ | fail
        · refine Hold.mk ⟨by simp, ?_, ?_⟩
          · show rows ++ [r.av] = _
            rw [hgt, if_pos h, List.map_append, h2]; rfl
          · show upd cs _ _ = _
            rw [hgt]; exact hup
        · refine Hold.mk ⟨h1, ?_, ?_⟩
          · show rows = _
            rw [hgt, if_neg h, List.append_nil, h2]
          · show upd cs _ _ = _
            rw [hgt]; exact hup
      · rintro ⟨n, rows, cs⟩ ⟨h1, h2, h3⟩
        simp only [] at h1 h2 h3
        rw [List.take_length] at h2 h3
        repeat' first | refine And.intro rfl ?_ | (refine And.intro (fun h => ?_) (fun h => ?_) <;> (try simp only [decide_eq_true_eq, decide_eq_false_iff_not, Bool.not_eq_true', Bool.not_eq_false', Bool.and_eq_true, Bool.or_eq_true, Bool.not_eq_eq_eq_not, Bool.not_true, Bool.not_false, beq_iff_eq, bne_iff_ne, beq_eq_false_iff_ne, bne_eq_false_iff_eq, Nat.not_lt, Int.not_lt, Int.not_le, wrap_byteAt, List.length_map, eqB_Row, eqB_Op, eqB_Rec, toList_inj, toList_nil, ne_eq, Int.toNat_natCast] at h) <;> (try simp only [wrap64] at h) <;> (try (exfalso; first | (cases h; done) | exact h trivial | exact h rfl | omega))) | refine And.intro ⟨by (first | omega | (simp only [wrap64, maxLen, List.length_map, List.length_append, List.length_cons, List.length_nil, Int.toNat_natCast] at *; omega)), by (first | omega | (simp only [wrap64, maxLen, List.length_map, List.length_append, List.length_cons, List.length_nil, Int.toNat_natCast] at *; omega))⟩ ?_ | refine And.intro (show (_ : Int) ≠ 0 by decide) ?_ | refine And.intro ⟨by (first | omega | (simp only [wrap64, maxLen, List.length_map, List.length_append, List.length_cons, List.length_nil, Int.toNat_natCast] at *; omega)), by (first | omega | (simp only [wrap64, maxLen, List.length_map, List.length_append, List.length_cons, List.length_nil, Int.toNat_natCast] at *; omega)), room (by exact rfl) (by (first | omega | (simp only [wrap64, maxLen, List.length_map, List.length_append, List.length_cons, List.length_nil, Int.toNat_natCast] at *; omega))) (by (first | omega | (simp only [wrap64, maxLen, List.length_map, List.length_append, List.length_cons, List.length_nil, Int.toNat_natCast] at *; omega)))⟩ ?_ | refine And.intro (roomN (by exact rfl) (by (first | omega | (simp only [wrap64, maxLen, List.length_map, List.length_append, List.length_cons, List.length_nil, Int.toNat_natCast] at *; omega)))) ?_ | exact trivial | exact rfl | refine Exists.intro _ (And.intro rfl ?_) | refine' cut1 _ ?_ ?_ | refine And.intro (deep_ag (by exact rfl) (by exact rfl)) ?_ | refine And.intro (deep_ag2 (by repeat' first | exact trivial | refine And.intro (by exact rfl) ?_)) ?_ | refine And.intro (deep_sl (by exact rfl) (by first | exact (List.length_map _).symm | assumption | exact rfl | (simp; done))) ?_ | refine And.intro (deep_rows (by intro x hx; repeat' first | exact trivial | refine And.intro (by exact rfl) ?_)) ?_ | refine And.intro (by exact rfl) ?_ | refine And.intro (Or.inl (by exact rfl)) ?_ | refine And.intro (show ByteArray.size _ + ByteArray.size _ ≤ _ from by (first | omega | (simp only [size_mk, size_add, List.size_toArray, List.length_cons, List.length_nil, maxLen] at *; omega))) ?_ | refine Exists.intro _ (And.intro (by with_unfolding_all exact rfl) ?_) | refine And.intro (by decide +kernel) ?_ | refine Exists.intro _ (And.intro (at_map (by (first | omega | (simp only [wrap64, maxLen, List.length_map, List.length_append, List.length_cons, List.length_nil, Int.toNat_natCast] at *; omega)))) ?_) | (refine wrap_id' ?_; (first | omega | (simp only [wrap64, maxLen, List.length_map, List.length_append, List.length_cons, List.length_nil, Int.toNat_natCast] at *; omega))) | refine And.intro ?_ ?_ | fail
        show GhS 0 ⟨[.tp [.sl 0 0 n, .sl 1 0 6]], [], [some ⟨3, true, rows⟩, some ⟨1, true, cs⟩]⟩ _
        rw [h1, h2, h3, List.length_map]; exact GhS.refl _ _
      · exact ⟨rfl, by simp [gramF], by simp [gramF]; rfl⟩

end Go.Proofs.YtpgamddjpclbaaaDoor.Ev
