/- Contracts: what the functions of this part return, for arguments as each contract says. -/
import Derived.Test.YtpgamddjpclbaaaDoorEvD
import Derived.Test.YtpgamddjpclbaaaDoorEvTab
import Derived.Test.YtpgamddjpclbaaaDoorSTy
import Derived.Test.YtpgamddjpclbaaaDoorSKb
import Derived.Test.YtpgamddjpclbaaaDoorSIu
import Derived.Test.YtpgamddjpclbaaaDoorSRo
import Derived.Test.YtpgamddjpclbaaaDoorSCu
import Derived.Test.YtpgamddjpclbaaaDoorSCq
import Derived.Test.YtpgamddjpclbaaaDoorSCv
import Derived.Test.YtpgamddjpclbaaaDoorSGr
import Derived.Test.YtpgamddjpclbaaaDoorSGd
import Derived.Test.YtpgamddjpclbaaaDoorSLb
import Derived.Test.YtpgamddjpclbaaaDoorSSp
import Derived.Test.YtpgamddjpclbaaaDoorSSq
import Derived.Test.YtpgamddjpclbaaaDoorSLn
import Derived.Test.YtpgamddjpclbaaaDoorSTw
set_option linter.constructorNameAsVariable false
set_option linter.unusedVariables false
set_option linter.unusedSimpArgs false
set_option linter.unusedVariables false
set_option maxHeartbeats 4000000
set_option maxRecDepth 20000
set_option linter.unusedSimpArgs false
set_option linter.constructorNameAsVariable false
namespace Go.Proofs.YtpgamddjpclbaaaDoor.Ev
open Go Go.Proofs
attribute [local irreducible] RO Fn IntKind.wrap TriL
def no2 (l : List UInt8) : Prop := cntB 122 l = 0 ∧ cntB 10 l = 0
theorem no2_app {a b : List UInt8} : no2 (a ++ b) ↔ no2 a ∧ no2 b := by
  simp only [no2, cntB_app']; omega
theorem no2_ext {s : ByteArray} (h : no2 (bs s)) (i j : Nat) : no2 (bs (s.extract i j)) := by
  rw [bs_extract]
  have h1 : no2 ((bs s).drop i) := by
    rw [← List.take_append_drop i (bs s)] at h; exact (no2_app.1 h).2
  rw [← List.take_append_drop (j - i) ((bs s).drop i)] at h1; exact (no2_app.1 h1).1
theorem zOk_no2 {l : List UInt8} (h : no2 l) : zOk l := by
  refine ⟨by have := h.1; have := h.2; omega, ?_⟩
  rintro rfl
  have := h.1
  have e1 : cntB 122 [(122 : UInt8)] = 1 := rfl
  omega
theorem one_le (x : UInt8) : cntB 122 [x] + cntB 10 [x] ≤ 1 := by
  simp only [cntB]
  split <;> split <;> omega
theorem zOk_mid {a b : List UInt8} (x : UInt8) (ha : no2 a) (hb : no2 b) (hl : 1 ≤ a.length + b.length) : zOk (a ++ [x] ++ b) := by
  refine ⟨?_, ?_⟩
  · simp only [cntB_app']
    have := one_le x
    have := ha.1; have := ha.2; have := hb.1; have := hb.2
    omega
  · intro e
    have := congrArg List.length e
    simp only [List.length_append, List.length_cons, List.length_nil] at this
    omega
theorem dgs_no (c : Int) (h : c < 48 ∨ 57 < c) : ∀ u : Nat, cntB c (dgs u) = 0 := by
  intro u
  induction u using Nat.strongRecOn with
  | _ u ih =>
    by_cases h0 : u = 0
    · subst h0; rfl
    · rw [dgs_step h0, cntB_app', ih (u / 10) (by omega)]
      have e : ((UInt8.ofNat (48 + u % 10)).toNat : Int) = 48 + (u % 10 : Nat) := by rw [UInt8.toNat_ofNat']; omega
      rw [cntB, if_neg (by omega)]; rfl
theorem decI_no2 {v : Int} (h : 0 ≤ v) : no2 (bs (decI v)) := by
  have e : bs (decI v) = Lib.itoa v := bs_mk _
  by_cases h0 : v = 0
  · subst h0
    rw [e]; simp [no2, Lib.itoa, Lib.decDigits, cntB]
  · rw [e, dec_of h0, if_neg (by omega)]
    exact ⟨dgs_no 122 (by omega) _, dgs_no 10 (by omega) _⟩
theorem kw_no2 (n : Int) : no2 (bs (kw n)) := by
  unfold kw
  repeat' split
  all_goals exact ⟨rfl, rfl⟩
instance (l : List UInt8) : Decidable (no2 l) := by unfold no2; infer_instance
theorem spec_l4KeyZ (code : List UInt8) (hl : code.length ≤ 1048576) (i h : Int) (h1 : 0 ≤ i) (h2 : i ≤ code.length) :
    Fx Cf Tryd.prog 45 [.pt 0 0 0] [some (CurOb code i h)] (CurX code fun r => ∃ s : ByteArray, s.size ≤ 4 ∧ no2 (bs s) ∧ r = .s s) := by
  refine cur_of ?_
  repeat' first | refine And.intro rfl ?_ | (refine And.intro (fun h => ?_) (fun h => ?_) <;> (try simp only [decide_eq_true_eq, decide_eq_false_iff_not, Bool.not_eq_true', Bool.not_eq_false', Bool.and_eq_true, Bool.or_eq_true, Bool.not_eq_eq_eq_not, Bool.not_true, Bool.not_false, beq_iff_eq, bne_iff_ne, beq_eq_false_iff_ne, bne_eq_false_iff_eq, Nat.not_lt, Int.not_lt, Int.not_le, wrap_byteAt, List.length_map, eqB_Row, eqB_Op, eqB_Rec, toList_inj, toList_nil, ne_eq, Int.toNat_natCast] at h) <;> (try simp only [wrap64] at h) <;> (try (exfalso; first | (cases h; done) | exact h trivial | exact h rfl | omega))) | refine And.intro ⟨by (first | omega | (simp only [wrap64, maxLen, List.length_map, List.length_append, List.length_cons, List.length_nil, Int.toNat_natCast] at *; omega)), by (first | omega | (simp only [wrap64, maxLen, List.length_map, List.length_append, List.length_cons, List.length_nil, Int.toNat_natCast] at *; omega))⟩ ?_ | refine And.intro (show (_ : Int) ≠ 0 by decide) ?_ | refine And.intro ⟨by (first | omega | (simp only [wrap64, maxLen, List.length_map, List.length_append, List.length_cons, List.length_nil, Int.toNat_natCast] at *; omega)), by (first | omega | (simp only [wrap64, maxLen, List.length_map, List.length_append, List.length_cons, List.length_nil, Int.toNat_natCast] at *; omega)), room (by exact rfl) (by (first | omega | (simp only [wrap64, maxLen, List.length_map, List.length_append, List.length_cons, List.length_nil, Int.toNat_natCast] at *; omega))) (by (first | omega | (simp only [wrap64, maxLen, List.length_map, List.length_append, List.length_cons, List.length_nil, Int.toNat_natCast] at *; omega)))⟩ ?_ | refine And.intro (roomN (by exact rfl) (by (first | omega | (simp only [wrap64, maxLen, List.length_map, List.length_append, List.length_cons, List.length_nil, Int.toNat_natCast] at *; omega)))) ?_ | exact trivial | exact rfl | refine Exists.intro _ (And.intro rfl ?_) | refine' cut1 _ ?_ ?_ | refine And.intro (deep_ag (by exact rfl) (by exact rfl)) ?_ | refine And.intro (deep_ag2 (by repeat' first | exact trivial | refine And.intro (by exact rfl) ?_)) ?_ | refine And.intro (deep_sl (by exact rfl) (by first | exact (List.length_map _).symm | assumption | exact rfl | (simp; done))) ?_ | refine And.intro (deep_rows (by intro x hx; repeat' first | exact trivial | refine And.intro (by exact rfl) ?_)) ?_ | refine And.intro (by exact rfl) ?_ | refine And.intro (Or.inl (by exact rfl)) ?_ | refine' Or.inr (Or.inr (Or.inr (Or.inr (And.intro rfl (And.intro rfl (Exists.intro _ (And.intro (pick_at hl h1 h2 [⟨#[97]⟩, ⟨#[98]⟩, ⟨#[99, 112, 117]⟩, ⟨#[114, 101, 113]⟩, ⟨#[120, 95, 49]⟩, ⟨#[90, 57]⟩, ⟨#[109, 101, 109]⟩, ⟨#[113]⟩] (by decide) (by decide) 1 rfl rfl rfl rfl) ?_))))))) | rintro _ _ ⟨_, ⟨i1, hh1, h1, h2, ⟨x1, hx1, rfl⟩, rfl⟩, rfl⟩ | refine And.intro (show ByteArray.size _ + ByteArray.size _ ≤ _ from by (first | omega | (simp only [size_mk, size_add, List.size_toArray, List.length_cons, List.length_nil, maxLen] at *; omega))) ?_ | refine Exists.intro _ (And.intro (by with_unfolding_all exact rfl) ?_) | refine And.intro (by decide +kernel) ?_ | refine Exists.intro _ (And.intro (at_map (by (first | omega | (simp only [wrap64, maxLen, List.length_map, List.length_append, List.length_cons, List.length_nil, Int.toNat_natCast] at *; omega)))) ?_) | (refine wrap_id' ?_; (first | omega | (simp only [wrap64, maxLen, List.length_map, List.length_append, List.length_cons, List.length_nil, Int.toNat_natCast] at *; omega))) | refine And.intro ?_ ?_ | fail
  exact CurG.mk2 h1 h2 ⟨x1, all_of (p := fun x : ByteArray => x.size ≤ 4) hx1 (by decide), all_of (p := fun x : ByteArray => no2 (bs x)) hx1 (by decide), rfl⟩ rfl
def lnQ (n : Nat) (r : AV) : Prop := ∃ t : ByteArray, t.size ≤ n ∧ zOk (bs t) ∧ r = .s t
theorem spec_l1SpoilZ (code : List UInt8) (hl : code.length ≤ 1048576) (i h : Int) (h1 : 0 ≤ i) (h2 : i ≤ code.length) (s : ByteArray) (hs : 2 ≤ s.size) (hs2 : s.size ≤ 1000) (hz : no2 (bs s)) :
    Fx Cf Tryd.prog 48 [.pt 0 0 0, .s s] [some (CurOb code i h)] (CurX code (lnQ (s.size + 1))) := by
  refine cur_of ?_
  repeat' first | refine And.intro rfl ?_ | (refine And.intro (fun h => ?_) (fun h => ?_) <;> (try simp only [decide_eq_true_eq, decide_eq_false_iff_not, Bool.not_eq_true', Bool.not_eq_false', Bool.and_eq_true, Bool.or_eq_true, Bool.not_eq_eq_eq_not, Bool.not_true, Bool.not_false, beq_iff_eq, bne_iff_ne, beq_eq_false_iff_ne, bne_eq_false_iff_eq, Nat.not_lt, Int.not_lt, Int.not_le, wrap_byteAt, List.length_map, eqB_Row, eqB_Op, eqB_Rec, toList_inj, toList_nil, ne_eq, Int.toNat_natCast] at h) <;> (try simp only [wrap64] at h) <;> (try (exfalso; first | (cases h; done) | exact h trivial | exact h rfl | omega))) | refine And.intro ⟨by (first | omega | (simp only [wrap64, maxLen, List.length_map, List.length_append, List.length_cons, List.length_nil, Int.toNat_natCast] at *; omega)), by (first | omega | (simp only [wrap64, maxLen, List.length_map, List.length_append, List.length_cons, List.length_nil, Int.toNat_natCast] at *; omega))⟩ ?_ | refine And.intro (show (_ : Int) ≠ 0 by decide) ?_ | refine And.intro ⟨by (first | omega | (simp only [wrap64, maxLen, List.length_map, List.length_append, List.length_cons, List.length_nil, Int.toNat_natCast] at *; omega)), by (first | omega | (simp only [wrap64, maxLen, List.length_map, List.length_append, List.length_cons, List.length_nil, Int.toNat_natCast] at *; omega)), room (by exact rfl) (by (first | omega | (simp only [wrap64, maxLen, List.length_map, List.length_append, List.length_cons, List.length_nil, Int.toNat_natCast] at *; omega))) (by (first | omega | (simp only [wrap64, maxLen, List.length_map, List.length_append, List.length_cons, List.length_nil, Int.toNat_natCast] at *; omega)))⟩ ?_ | refine And.intro (roomN (by exact rfl) (by (first | omega | (simp only [wrap64, maxLen, List.length_map, List.length_append, List.length_cons, List.length_nil, Int.toNat_natCast] at *; omega)))) ?_ | exact trivial | exact rfl | refine Exists.intro _ (And.intro rfl ?_) | refine cutQ ?_ | refine And.intro (deep_ag (by exact rfl) (by exact rfl)) ?_ | refine And.intro (deep_ag2 (by repeat' first | exact trivial | refine And.intro (by exact rfl) ?_)) ?_ | refine And.intro (deep_sl (by exact rfl) (by first | exact (List.length_map _).symm | assumption | exact rfl | (simp; done))) ?_ | refine And.intro (deep_rows (by intro x hx; repeat' first | exact trivial | refine And.intro (by exact rfl) ?_)) ?_ | refine And.intro (by exact rfl) ?_ | refine And.intro (Or.inl (by exact rfl)) ?_ | refine' Or.inr (Or.inr (Or.inr (Or.inr (And.intro rfl (And.intro rfl (Exists.intro _ (And.intro (cur_at 0 (spec_l1Below code hl _ _ h1 h2 s.size (by omega) (by omega)) rfl rfl rfl) ?_))))))) | refine' Or.inr (Or.inr (Or.inr (Or.inr (And.intro rfl (And.intro rfl (Exists.intro _ (And.intro (cur_at 0 (spec_l1Below code hl _ _ h1 h2 4 (by omega) (by omega)) rfl rfl rfl) ?_))))))) | refine' Or.inr (Or.inr (Or.inr (Or.inr (And.intro rfl (And.intro rfl (Exists.intro _ (And.intro (cur_at 0 (spec_l1Below code hl _ _ h1 h2 255 (by omega) (by omega)) rfl rfl rfl) ?_))))))) | refine' Or.inr (Or.inr (Or.inr (Or.inr (And.intro rfl (And.intro rfl (Exists.intro _ (And.intro (cur_at 0 (spec_l1Byte code hl _ _ h1 h2) rfl rfl rfl) ?_))))))) | rintro _ _ ⟨_, ⟨i1, hh1, h1, h2, ⟨kk, (hx1 : 0 ≤ kk), (hx2 : kk ≤ (s.size : Int) - 1), rfl⟩, rfl⟩, rfl⟩ | rintro _ _ ⟨_, ⟨i1, hh1, h1, h2, ⟨x1, hx1', hx2', rfl⟩, rfl⟩, rfl⟩ | (refine And.intro (show ByteArray.size _ + ByteArray.size _ ≤ _ from by (simp only [ByteArray.size_extract, size_mk, size_add, List.size_toArray, List.length_cons, List.length_nil, wrap64]; omega)) ?_) | (refine' Exists.intro _ (Exists.intro _ (And.intro (show rowsR _ _ _ _ _ from ?_) (And.intro (show bytesOf _ = _ from ?_) ?_)))) | (refine' Exists.intro _ (Exists.intro _ (And.intro (show rowsR _ _ _ _ _ from ?_) (And.intro (show rowsR _ _ _ _ _ from ?_) (And.intro ?_ ?_))))) | (refine cut_full _ ?_; first | assumption | exact (List.length_map _).symm | exact rfl | (simp; done)) | refine roomN (by exact rfl) (by (first | omega | (simp only [wrap64, maxLen, List.length_map, List.length_append, List.length_cons, List.length_nil, Int.toNat_natCast] at *; omega))) | refine And.intro (show ByteArray.size _ + ByteArray.size _ ≤ _ from by (first | omega | (simp only [size_mk, size_add, List.size_toArray, List.length_cons, List.length_nil, maxLen] at *; omega))) ?_ | refine Exists.intro _ (And.intro (by with_unfolding_all exact rfl) ?_) | refine And.intro (by decide +kernel) ?_ | refine Exists.intro _ (And.intro (at_map (by (first | omega | (simp only [wrap64, maxLen, List.length_map, List.length_append, List.length_cons, List.length_nil, Int.toNat_natCast] at *; omega)))) ?_) | (refine wrap_id' ?_; (first | omega | (simp only [wrap64, maxLen, List.length_map, List.length_append, List.length_cons, List.length_nil, Int.toNat_natCast] at *; omega))) | refine And.intro ?_ ?_ | fail
  all_goals refine CurG.mk2 h1 h2 ⟨_, ?_, ?_, rfl⟩ rfl
  all_goals first
    | (simp only [ByteArray.size_extract, size_mk, size_add, List.size_toArray, List.length_cons, List.length_nil, wrap64]; omega)
    | (simp only [bs_append]; refine zOk_mid _ (no2_ext hz _ _) (no2_ext hz _ _) ?_; simp only [bs_len, ByteArray.size_extract, wrap64]; omega)
    | (simp only [bs_append]; exact zOk_no2 (no2_app.2 ⟨no2_ext hz _ _, no2_ext hz _ _⟩))
    | exact zOk_no2 (no2_ext hz _ _)
   

end Go.Proofs.YtpgamddjpclbaaaDoor.Ev
