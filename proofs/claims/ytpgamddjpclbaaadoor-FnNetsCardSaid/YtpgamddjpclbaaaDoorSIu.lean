/- Contracts: what the functions of this part return, for arguments as each contract says. -/
import Derived.Test.YtpgamddjpclbaaaDoorEvD
import Derived.Test.YtpgamddjpclbaaaDoorEvTab
import Derived.Test.YtpgamddjpclbaaaDoorSTy
set_option linter.constructorNameAsVariable false
set_option linter.unusedVariables false
set_option linter.unusedSimpArgs false
set_option linter.unusedVariables false
set_option maxHeartbeats 4000000
set_option maxRecDepth 20000
set_option linter.unusedSimpArgs false
set_option linter.constructorNameAsVariable false
namespace Go.Proofs.YtpgamddjpclbaaaDoor.Ev
open Go Go.Proofs
attribute [local irreducible] RO Fn IntKind.wrap TriL
/- numbers in decimal -/
def decI (n : Int) : ByteArray := ⟨(Lib.itoa n).toArray⟩
def dgs (u : Nat) : List UInt8 := if u = 0 then [] else Lib.decDigits u
theorem dgs_step {u : Nat} (h : u ≠ 0) : dgs u = dgs (u / 10) ++ [UInt8.ofNat (48 + u % 10)] := by
  rw [dgs, if_neg h, Lib.decDigits]
  by_cases h1 : u < 10
  · rw [dif_pos h1, dgs, if_pos (by omega), List.nil_append, Nat.mod_eq_of_lt h1]
  · rw [dif_neg h1, dgs, if_neg (by omega)]
theorem dgs_len : ∀ (k : Nat) {u : Nat}, u < 10 ^ k → (dgs u).length ≤ k
  | 0, u, h => by
    have : u = 0 := by simpa using h
    subst this; simp [dgs]
  | k + 1, u, h => by
    by_cases h0 : u = 0
    · subst h0; simp [dgs]
    · rw [dgs_step h0, List.length_append]
      have := dgs_len k (u := u / 10) (by rw [Nat.pow_succ] at h; omega)
      simp; omega
theorem dec_of {n : Int} (h : n ≠ 0) : Lib.itoa n = if n < 0 then 45 :: dgs n.natAbs else dgs n.natAbs := by
  unfold Lib.itoa dgs
  rw [if_neg (by omega : ¬ n.natAbs = 0)]
  split
  · rfl
  · congr 1; omega
theorem decI_len (n : Int) (h : I64 n) : (decI n).size ≤ 20 := by
  unfold I64 at h
  show (Lib.itoa n).toArray.size ≤ 20
  rw [List.size_toArray]
  by_cases h0 : n = 0
  · subst h0; simp [Lib.itoa, Lib.decDigits]
  · have := dgs_len 19 (u := n.natAbs) (by omega)
    rw [dec_of h0]
    split
    · simp; omega
    · omega
theorem dec_byte {n : Int} (h : I64 n) (d : Int) (hd : d = n.tmod 10 ∨ d = IntKind.i64.wrap (0 - n.tmod 10)) (hs : 0 ≤ d) : UInt8.ofNat (IntKind.u8.wrap (IntKind.i64.wrap (48 + d))).toNat = UInt8.ofNat (48 + n.natAbs % 10) := by
  unfold I64 at h
  have e : d = (n.natAbs % 10 : Nat) := by
    rcases hd with rfl | rfl <;> simp only [tmod_eq, wrap64] at hs ⊢ <;> split at hs <;> split <;> omega
  subst e
  congr 1
  simp only [wrap64, wrap8]; omega
theorem tdiv_abs (n : Int) : (n.tdiv 10).natAbs = n.natAbs / 10 := by
  rw [tdiv_eq]; split <;> omega
theorem dec_next {m d : Int} {out : ByteArray} (h1 : I64 m) (h : ¬ m = 0) (hd : d = m.tmod 10 ∨ d = IntKind.i64.wrap (0 - m.tmod 10)) (hs : 0 ≤ d) :
    dgs (IntKind.i64.wrap (m.tdiv 10)).natAbs ++ bs (⟨#[UInt8.ofNat (IntKind.u8.wrap (IntKind.i64.wrap (48 + d))).toNat]⟩ ++ out) = dgs m.natAbs ++ bs out := by
  have e : IntKind.i64.wrap (m.tdiv 10) = m.tdiv 10 := by
    unfold I64 at h1
    have : m.tdiv 10 = if 0 ≤ m then m / 10 else -((-m) / 10) := tdiv_eq m 10
    rw [this]; split <;> rw [wrap_id (by omega) (by omega)]
  rw [e, tdiv_abs, bs_append, dec_byte h1 d hd hs, dgs_step (u := m.natAbs) (by omega), List.append_assoc]
  rfl
theorem dec_less {m : Int} (h1 : I64 m) (h : ¬ m = 0) : (IntKind.i64.wrap (m.tdiv 10)).natAbs < m.natAbs ∧ I64 (IntKind.i64.wrap (m.tdiv 10)) := by
  unfold I64 at h1 ⊢
  have : m.tdiv 10 = if 0 ≤ m then m / 10 else -((-m) / 10) := tdiv_eq m 10
  rw [this]; split <;> rw [wrap_id (by omega) (by omega)] <;> omega
theorem spec_Dec (n : Int) (hn : I64 n) : RO Cf Tryd.prog 46 [.i .i64 n] (.s (decI n)) := by
  by_cases h0 : n = 0
  · subst h0
    refine RO_of Cf_ok ?_
    repeat' first | refine And.intro rfl ?_ | (refine And.intro (fun h => ?_) (fun h => ?_) <;> (try simp only [decide_eq_true_eq, decide_eq_false_iff_not, Bool.not_eq_true', Bool.not_eq_false', Bool.and_eq_true, Bool.or_eq_true, Bool.not_eq_eq_eq_not, Bool.not_true, Bool.not_false, beq_iff_eq, bne_iff_ne, beq_eq_false_iff_ne, bne_eq_false_iff_eq, Nat.not_lt, Int.not_lt, Int.not_le, wrap_byteAt, List.length_map, eqB_Row, eqB_Op, eqB_Rec, toList_inj, toList_nil, ne_eq, Int.toNat_natCast] at h) <;> (try simp only [wrap64] at h) <;> (try (exfalso; first | (cases h; done) | exact h trivial | exact h rfl | omega))) | refine And.intro ⟨by (first | omega | (simp only [wrap64, maxLen, List.length_map, List.length_append, List.length_cons, List.length_nil, Int.toNat_natCast] at *; omega)), by (first | omega | (simp only [wrap64, maxLen, List.length_map, List.length_append, List.length_cons, List.length_nil, Int.toNat_natCast] at *; omega))⟩ ?_ | refine And.intro (show (_ : Int) ≠ 0 by decide) ?_ | refine And.intro ⟨by (first | omega | (simp only [wrap64, maxLen, List.length_map, List.length_append, List.length_cons, List.length_nil, Int.toNat_natCast] at *; omega)), by (first | omega | (simp only [wrap64, maxLen, List.length_map, List.length_append, List.length_cons, List.length_nil, Int.toNat_natCast] at *; omega)), room (by exact rfl) (by (first | omega | (simp only [wrap64, maxLen, List.length_map, List.length_append, List.length_cons, List.length_nil, Int.toNat_natCast] at *; omega))) (by (first | omega | (simp only [wrap64, maxLen, List.length_map, List.length_append, List.length_cons, List.length_nil, Int.toNat_natCast] at *; omega)))⟩ ?_ | refine And.intro (roomN (by exact rfl) (by (first | omega | (simp only [wrap64, maxLen, List.length_map, List.length_append, List.length_cons, List.length_nil, Int.toNat_natCast] at *; omega)))) ?_ | exact trivial | exact rfl | refine Exists.intro _ (And.intro rfl ?_) | refine' cut1 _ ?_ ?_ | refine And.intro (deep_ag (by exact rfl) (by exact rfl)) ?_ | refine And.intro (deep_ag2 (by repeat' first | exact trivial | refine And.intro (by exact rfl) ?_)) ?_ | refine And.intro (deep_sl (by exact rfl) (by first | exact (List.length_map _).symm | assumption | exact rfl | (simp; done))) ?_ | refine And.intro (deep_rows (by intro x hx; repeat' first | exact trivial | refine And.intro (by exact rfl) ?_)) ?_ | refine And.intro (by exact rfl) ?_ | refine And.intro (Or.inl (by exact rfl)) ?_ | refine And.intro (show ByteArray.size _ + ByteArray.size _ ≤ _ from by (first | omega | (simp only [size_mk, size_add, List.size_toArray, List.length_cons, List.length_nil, maxLen] at *; omega))) ?_ | refine Exists.intro _ (And.intro (by with_unfolding_all exact rfl) ?_) | refine And.intro (by decide +kernel) ?_ | refine Exists.intro _ (And.intro (at_map (by (first | omega | (simp only [wrap64, maxLen, List.length_map, List.length_append, List.length_cons, List.length_nil, Int.toNat_natCast] at *; omega)))) ?_) | (refine wrap_id' ?_; (first | omega | (simp only [wrap64, maxLen, List.length_map, List.length_append, List.length_cons, List.length_nil, Int.toNat_natCast] at *; omega))) | refine And.intro ?_ ?_ | fail
    refine back_s ?_
    simp [decI, Lib.itoa, Lib.decDigits]
  refine RO_of Cf_ok ?_
  repeat' first | refine And.intro rfl ?_ | (refine And.intro (fun h => ?_) (fun h => ?_) <;> (try simp only [decide_eq_true_eq, decide_eq_false_iff_not, Bool.not_eq_true', Bool.not_eq_false', Bool.and_eq_true, Bool.or_eq_true, Bool.not_eq_eq_eq_not, Bool.not_true, Bool.not_false, beq_iff_eq, bne_iff_ne, beq_eq_false_iff_ne, bne_eq_false_iff_eq, Nat.not_lt, Int.not_lt, Int.not_le, wrap_byteAt, List.length_map, eqB_Row, eqB_Op, eqB_Rec, toList_inj, toList_nil, ne_eq, Int.toNat_natCast] at h) <;> (try simp only [wrap64] at h) <;> (try (exfalso; first | (cases h; done) | exact h trivial | exact h rfl | omega))) | refine And.intro ⟨by (first | omega | (simp only [wrap64, maxLen, List.length_map, List.length_append, List.length_cons, List.length_nil, Int.toNat_natCast] at *; omega)), by (first | omega | (simp only [wrap64, maxLen, List.length_map, List.length_append, List.length_cons, List.length_nil, Int.toNat_natCast] at *; omega))⟩ ?_ | refine And.intro (show (_ : Int) ≠ 0 by decide) ?_ | refine And.intro ⟨by (first | omega | (simp only [wrap64, maxLen, List.length_map, List.length_append, List.length_cons, List.length_nil, Int.toNat_natCast] at *; omega)), by (first | omega | (simp only [wrap64, maxLen, List.length_map, List.length_append, List.length_cons, List.length_nil, Int.toNat_natCast] at *; omega)), room (by exact rfl) (by (first | omega | (simp only [wrap64, maxLen, List.length_map, List.length_append, List.length_cons, List.length_nil, Int.toNat_natCast] at *; omega))) (by (first | omega | (simp only [wrap64, maxLen, List.length_map, List.length_append, List.length_cons, List.length_nil, Int.toNat_natCast] at *; omega)))⟩ ?_ | refine And.intro (roomN (by exact rfl) (by (first | omega | (simp only [wrap64, maxLen, List.length_map, List.length_append, List.length_cons, List.length_nil, Int.toNat_natCast] at *; omega)))) ?_ | exact trivial | exact rfl | refine Exists.intro _ (And.intro rfl ?_) | refine' cut1 _ ?_ ?_ | refine And.intro (deep_ag (by exact rfl) (by exact rfl)) ?_ | refine And.intro (deep_ag2 (by repeat' first | exact trivial | refine And.intro (by exact rfl) ?_)) ?_ | refine And.intro (deep_sl (by exact rfl) (by first | exact (List.length_map _).symm | assumption | exact rfl | (simp; done))) ?_ | refine And.intro (deep_rows (by intro x hx; repeat' first | exact trivial | refine And.intro (by exact rfl) ?_)) ?_ | refine And.intro (by exact rfl) ?_ | refine And.intro (Or.inl (by exact rfl)) ?_ | refine And.intro (show ByteArray.size _ + ByteArray.size _ ≤ _ from by (first | omega | (simp only [size_mk, size_add, List.size_toArray, List.length_cons, List.length_nil, maxLen] at *; omega))) ?_ | refine Exists.intro _ (And.intro (by with_unfolding_all exact rfl) ?_) | refine And.intro (by decide +kernel) ?_ | refine Exists.intro _ (And.intro (at_map (by (first | omega | (simp only [wrap64, maxLen, List.length_map, List.length_append, List.length_cons, List.length_nil, Int.toNat_natCast] at *; omega)))) ?_) | (refine wrap_id' ?_; (first | omega | (simp only [wrap64, maxLen, List.length_map, List.length_append, List.length_cons, List.length_nil, Int.toNat_natCast] at *; omega))) | refine And.intro ?_ ?_ | fail
  refine loop_of 46 Cf_ok (fun (p : Int × ByteArray) => ⟨[.i .i64 p.1, .u, .u, .s p.2, .b (decide (n < 0)), .u, .u, .u, .u, .u, .u, .u, .u, .u, .u, .u, .u, .u, .u, .u, .u, .u, .u, .u, .u, .u, .u, .u, .u, .u, .u], [none, none, none, none, none, none, none, none, none, none, none, none, none, none, none, none, none, none, none, none, none, none, none, none, none, none, none, none, none, none, none], []⟩) (fun p => I64 p.1 ∧ dgs p.1.natAbs ++ bs p.2 = dgs n.natAbs) (fun p => p.1.natAbs) ?hc ?_ (_, _) ?_
  case hc => decide +kernel
  · rintro ⟨m, out⟩ ⟨h1, h2⟩ ih
    simp only [] at h1 h2
    have h3 := dgs_len 19 (u := n.natAbs) (by unfold I64 at hn; omega)
    have h4 : out.size ≤ 19 := by rw [← bs_len]; rw [← h2, List.length_append] at h3; omega
    repeat' first | refine And.intro rfl ?_ | (refine And.intro (fun h => ?_) (fun h => ?_) <;> (try simp only [decide_eq_true_eq, decide_eq_false_iff_not, Bool.not_eq_true', Bool.not_eq_false', Bool.and_eq_true, Bool.or_eq_true, Bool.not_eq_eq_eq_not, Bool.not_true, Bool.not_false, beq_iff_eq, bne_iff_ne, beq_eq_false_iff_ne, bne_eq_false_iff_eq, Nat.not_lt, Int.not_lt, Int.not_le, wrap_byteAt, List.length_map, eqB_Row, eqB_Op, eqB_Rec, toList_inj, toList_nil, ne_eq, Int.toNat_natCast] at h) <;> (try simp only [wrap64] at h) <;> (try (exfalso; first | (cases h; done) | exact h trivial | exact h rfl | omega))) | refine And.intro ⟨by (first | omega | (simp only [wrap64, maxLen, List.length_map, List.length_append, List.length_cons, List.length_nil, Int.toNat_natCast] at *; omega)), by (first | omega | (simp only [wrap64, maxLen, List.length_map, List.length_append, List.length_cons, List.length_nil, Int.toNat_natCast] at *; omega))⟩ ?_ | refine And.intro (show (_ : Int) ≠ 0 by decide) ?_ | refine And.intro ⟨by (first | omega | (simp only [wrap64, maxLen, List.length_map, List.length_append, List.length_cons, List.length_nil, Int.toNat_natCast] at *; omega)), by (first | omega | (simp only [wrap64, maxLen, List.length_map, List.length_append, List.length_cons, List.length_nil, Int.toNat_natCast] at *; omega)), room (by exact rfl) (by (first | omega | (simp only [wrap64, maxLen, List.length_map, List.length_append, List.length_cons, List.length_nil, Int.toNat_natCast] at *; omega))) (by (first | omega | (simp only [wrap64, maxLen, List.length_map, List.length_append, List.length_cons, List.length_nil, Int.toNat_natCast] at *; omega)))⟩ ?_ | refine And.intro (roomN (by exact rfl) (by (first | omega | (simp only [wrap64, maxLen, List.length_map, List.length_append, List.length_cons, List.length_nil, Int.toNat_natCast] at *; omega)))) ?_ | exact trivial | exact rfl | refine Exists.intro _ (And.intro rfl ?_) | refine' cut1 _ ?_ ?_ | refine And.intro (deep_ag (by exact rfl) (by exact rfl)) ?_ | refine And.intro (deep_ag2 (by repeat' first | exact trivial | refine And.intro (by exact rfl) ?_)) ?_ | refine And.intro (deep_sl (by exact rfl) (by first | exact (List.length_map _).symm | assumption | exact rfl | (simp; done))) ?_ | refine And.intro (deep_rows (by intro x hx; repeat' first | exact trivial | refine And.intro (by exact rfl) ?_)) ?_ | refine And.intro (by exact rfl) ?_ | refine And.intro (Or.inl (by exact rfl)) ?_ | (refine' Exists.intro _ (Exists.intro _ (And.intro (show rowsR _ _ _ _ _ from ?_) (And.intro (show bytesOf _ = _ from ?_) ?_)))) | (refine' Exists.intro _ (Exists.intro _ (And.intro (show rowsR _ _ _ _ _ from ?_) (And.intro (show rowsR _ _ _ _ _ from ?_) (And.intro ?_ ?_))))) | (refine cut_full _ ?_; first | assumption | exact (List.length_map _).symm | exact rfl | (simp; done)) | refine roomN (by exact rfl) (by (first | omega | (simp only [wrap64, maxLen, List.length_map, List.length_append, List.length_cons, List.length_nil, Int.toNat_natCast] at *; omega))) | refine TriL_gh (gh_ren (σ := []) (h' := []) rfl rfl rfl trivial) (ih (_, _) ?_) | refine And.intro (show ByteArray.size _ + ByteArray.size _ ≤ _ from by (first | omega | (simp only [size_mk, size_add, List.size_toArray, List.length_cons, List.length_nil, maxLen] at *; omega))) ?_ | refine Exists.intro _ (And.intro (by with_unfolding_all exact rfl) ?_) | refine And.intro (by decide +kernel) ?_ | refine Exists.intro _ (And.intro (at_map (by (first | omega | (simp only [wrap64, maxLen, List.length_map, List.length_append, List.length_cons, List.length_nil, Int.toNat_natCast] at *; omega)))) ?_) | (refine wrap_id' ?_; (first | omega | (simp only [wrap64, maxLen, List.length_map, List.length_append, List.length_cons, List.length_nil, Int.toNat_natCast] at *; omega))) | refine And.intro ?_ ?_ | fail
    · exact Hold.mk ⟨⟨(dec_less h1 (by assumption)).2, (dec_next h1 (by assumption) (.inr rfl) (by unfold I64 at h1; simp only [wrap64, tmod_eq] at *; split at h <;> omega)).trans h2⟩, (dec_less h1 (by assumption)).1⟩
    · exact Hold.mk ⟨⟨(dec_less h1 (by assumption)).2, (dec_next h1 (by assumption) (.inl rfl) h).trans h2⟩, (dec_less h1 (by assumption)).1⟩
    all_goals (refine back_s ?_; rw [← bs_inj]; simp only [bs_append]; show _ = Lib.itoa n; rw [dec_of h0, ← h2])
    · rw [if_pos h]; subst_vars; rfl
    · rw [if_neg (by omega)]; subst_vars; rfl
  · exact ⟨hn, by simp [bs_empty]⟩

end Go.Proofs.YtpgamddjpclbaaaDoor.Ev
