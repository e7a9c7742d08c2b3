/- The row LawRejectWord: what the law of this name says, for all its arguments, under no further condition than the row bears. -/
import Derived.Test.YtjkgjpaodccgbaaEvTab
import Derived.Test.YtjkgjpaodccgbaaEvC
import Derived.Test.YtjkgjpaodccgbaaRows
import Derived.WalkKit
import Derived.ProofKit
import Derived.OpenShut
import Derived.ShutString
import Derived.ChangeOld
import Derived.SizedLaws
import Derived.KernelRfl
set_option linter.constructorNameAsVariable false
namespace Go.Proofs.Ytjkgjpaodccgbaa.Ev
open Go Go.Proofs
theorem ro_l1In (a lo hi : Int) : RO Try.prog 31 [.i .i64 a, .i .i64 lo, .i .i64 hi] (.b (decide (lo ≤ a ∧ a ≤ hi))) := by
  refine RO_of Cf_ok ?_
  refine And.intro rfl ?_
  refine And.intro rfl ?_
  refine And.intro (fun h => ?_) (fun h => ?_)
  · refine And.intro rfl ?_
    refine And.intro rfl ?_
    show AV.b _ = AV.b _
    simp at h ⊢
    omega
  · refine And.intro rfl ?_
    refine Or.inl ?_
    simp at h ⊢
    omega
theorem ro_within (a lo hi : Int) : RO Try.prog 32 [.i .i64 a, .i .i64 lo, .i .i64 hi] (.b (decide (lo ≤ a ∧ a ≤ hi))) := by
  refine RO_of Cf_ok ?_
  refine And.intro rfl ?_
  refine And.intro rfl ?_
  refine And.intro (fun h => ?_) (fun h => ?_)
  · refine And.intro rfl ?_
    refine And.intro rfl ?_
    show AV.b _ = AV.b _
    simp at h ⊢
    omega
  · refine And.intro rfl ?_
    refine Or.inl ?_
    simp at h ⊢
    omega
def word : Int → ByteArray
  | 0 => ⟨#[111, 107]⟩
  | 1 => ⟨#[102, 111, 114, 109]⟩
  | 2 => ⟨#[107, 101, 121]⟩
  | 3 => ⟨#[116, 121, 112, 101]⟩
  | 4 => ⟨#[118, 97, 108, 117, 101]⟩
  | 5 => ⟨#[108, 111, 110, 103]⟩
  | _ => ⟨#[]⟩
theorem specRW_out (c : Int) (hc : ¬ (0 ≤ c ∧ c ≤ 5)) : RO Try.prog 9 [.i .i64 c] (.s ⟨#[]⟩) := by
  refine RO_of Cf_ok ?_
  refine And.intro rfl ?_
  refine .inl ⟨_, ?a, _, ro_l1In c 0 5, rfl, ?_⟩
  case a => exact ⟨rfl, rfl, rfl, trivial⟩
  refine And.intro (fun h => ?_) (fun h => ?_)
  · refine And.intro rfl ?_
    rfl
  · simp at h; omega
theorem specRW_0 : RO Try.prog 9 [.i .i64 0] (.s (word 0)) := by
  refine RO_of Cf_ok ?_
  refine And.intro rfl ?_
  refine .inl ⟨_, ?a, _, ro_l1In 0 0 5, rfl, ?_⟩
  case a => exact ⟨rfl, rfl, rfl, trivial⟩
  refine And.intro (fun h => ?_) (fun h => ?_)
  · simp at h
  · repeat (refine And.intro rfl ?_)
    refine And.intro ⟨by omega, by omega⟩ ?_
    refine ⟨_, rfl, ?_⟩
    repeat (refine And.intro rfl ?_)
    rfl
theorem specRW_1 : RO Try.prog 9 [.i .i64 1] (.s (word 1)) := by
  refine RO_of Cf_ok ?_
  refine And.intro rfl ?_
  refine .inl ⟨_, ?a, _, ro_l1In 1 0 5, rfl, ?_⟩
  case a => exact ⟨rfl, rfl, rfl, trivial⟩
  refine And.intro (fun h => ?_) (fun h => ?_)
  · simp at h
  · repeat (refine And.intro rfl ?_)
    refine And.intro ⟨by omega, by omega⟩ ?_
    refine ⟨_, rfl, ?_⟩
    repeat (refine And.intro rfl ?_)
    rfl
theorem specRW_2 : RO Try.prog 9 [.i .i64 2] (.s (word 2)) := by
  refine RO_of Cf_ok ?_
  refine And.intro rfl ?_
  refine .inl ⟨_, ?a, _, ro_l1In 2 0 5, rfl, ?_⟩
  case a => exact ⟨rfl, rfl, rfl, trivial⟩
  refine And.intro (fun h => ?_) (fun h => ?_)
  · simp at h
  · repeat (refine And.intro rfl ?_)
    refine And.intro ⟨by omega, by omega⟩ ?_
    refine ⟨_, rfl, ?_⟩
    repeat (refine And.intro rfl ?_)
    rfl
theorem specRW_3 : RO Try.prog 9 [.i .i64 3] (.s (word 3)) := by
  refine RO_of Cf_ok ?_
  refine And.intro rfl ?_
  refine .inl ⟨_, ?a, _, ro_l1In 3 0 5, rfl, ?_⟩
  case a => exact ⟨rfl, rfl, rfl, trivial⟩
  refine And.intro (fun h => ?_) (fun h => ?_)
  · simp at h
  · repeat (refine And.intro rfl ?_)
    refine And.intro ⟨by omega, by omega⟩ ?_
    refine ⟨_, rfl, ?_⟩
    repeat (refine And.intro rfl ?_)
    rfl
theorem specRW_4 : RO Try.prog 9 [.i .i64 4] (.s (word 4)) := by
  refine RO_of Cf_ok ?_
  refine And.intro rfl ?_
  refine .inl ⟨_, ?a, _, ro_l1In 4 0 5, rfl, ?_⟩
  case a => exact ⟨rfl, rfl, rfl, trivial⟩
  refine And.intro (fun h => ?_) (fun h => ?_)
  · simp at h
  · repeat (refine And.intro rfl ?_)
    refine And.intro ⟨by omega, by omega⟩ ?_
    refine ⟨_, rfl, ?_⟩
    repeat (refine And.intro rfl ?_)
    rfl
theorem specRW_5 : RO Try.prog 9 [.i .i64 5] (.s (word 5)) := by
  refine RO_of Cf_ok ?_
  refine And.intro rfl ?_
  refine .inl ⟨_, ?a, _, ro_l1In 5 0 5, rfl, ?_⟩
  case a => exact ⟨rfl, rfl, rfl, trivial⟩
  refine And.intro (fun h => ?_) (fun h => ?_)
  · simp at h
  · repeat (refine And.intro rfl ?_)
    refine And.intro ⟨by omega, by omega⟩ ?_
    refine ⟨_, rfl, ?_⟩
    repeat (refine And.intro rfl ?_)
    rfl
theorem implRW_out (c : Int) (hc : ¬ (0 ≤ c ∧ c ≤ 5)) : RO Try.prog 10 [.i .i64 c] (.s ⟨#[]⟩) := by
  refine RO_of Cf_ok ?_
  repeat (refine And.intro rfl ?_)
  refine .inl ⟨_, ?a, _, ro_within c 0 5, rfl, ?_⟩
  case a => exact ⟨rfl, rfl, rfl, trivial⟩
  refine And.intro (fun h => ?_) (fun h => ?_)
  · refine And.intro rfl ?_
    rfl
  · simp at h; omega
theorem implRW_0 : RO Try.prog 10 [.i .i64 0] (.s (word 0)) := by
  refine RO_of Cf_ok ?_
  repeat (refine And.intro rfl ?_)
  refine .inl ⟨_, ?a, _, ro_within 0 0 5, rfl, ?_⟩
  case a => exact ⟨rfl, rfl, rfl, trivial⟩
  refine And.intro (fun h => ?_) (fun h => ?_)
  · simp at h
  · repeat (refine And.intro rfl ?_)
    refine And.intro ⟨by omega, by omega⟩ ?_
    repeat (refine And.intro rfl ?_)
    rfl
theorem implRW_1 : RO Try.prog 10 [.i .i64 1] (.s (word 1)) := by
  refine RO_of Cf_ok ?_
  repeat (refine And.intro rfl ?_)
  refine .inl ⟨_, ?a, _, ro_within 1 0 5, rfl, ?_⟩
  case a => exact ⟨rfl, rfl, rfl, trivial⟩
  refine And.intro (fun h => ?_) (fun h => ?_)
  · simp at h
  · repeat (refine And.intro rfl ?_)
    refine And.intro ⟨by omega, by omega⟩ ?_
    repeat (refine And.intro rfl ?_)
    rfl
theorem implRW_2 : RO Try.prog 10 [.i .i64 2] (.s (word 2)) := by
  refine RO_of Cf_ok ?_
  repeat (refine And.intro rfl ?_)
  refine .inl ⟨_, ?a, _, ro_within 2 0 5, rfl, ?_⟩
  case a => exact ⟨rfl, rfl, rfl, trivial⟩
  refine And.intro (fun h => ?_) (fun h => ?_)
  · simp at h
  · repeat (refine And.intro rfl ?_)
    refine And.intro ⟨by omega, by omega⟩ ?_
    repeat (refine And.intro rfl ?_)
    rfl
theorem implRW_3 : RO Try.prog 10 [.i .i64 3] (.s (word 3)) := by
  refine RO_of Cf_ok ?_
  repeat (refine And.intro rfl ?_)
  refine .inl ⟨_, ?a, _, ro_within 3 0 5, rfl, ?_⟩
  case a => exact ⟨rfl, rfl, rfl, trivial⟩
  refine And.intro (fun h => ?_) (fun h => ?_)
  · simp at h
  · repeat (refine And.intro rfl ?_)
    refine And.intro ⟨by omega, by omega⟩ ?_
    repeat (refine And.intro rfl ?_)
    rfl
theorem implRW_4 : RO Try.prog 10 [.i .i64 4] (.s (word 4)) := by
  refine RO_of Cf_ok ?_
  repeat (refine And.intro rfl ?_)
  refine .inl ⟨_, ?a, _, ro_within 4 0 5, rfl, ?_⟩
  case a => exact ⟨rfl, rfl, rfl, trivial⟩
  refine And.intro (fun h => ?_) (fun h => ?_)
  · simp at h
  · repeat (refine And.intro rfl ?_)
    refine And.intro ⟨by omega, by omega⟩ ?_
    repeat (refine And.intro rfl ?_)
    rfl
theorem implRW_5 : RO Try.prog 10 [.i .i64 5] (.s (word 5)) := by
  refine RO_of Cf_ok ?_
  repeat (refine And.intro rfl ?_)
  refine .inl ⟨_, ?a, _, ro_within 5 0 5, rfl, ?_⟩
  case a => exact ⟨rfl, rfl, rfl, trivial⟩
  refine And.intro (fun h => ?_) (fun h => ?_)
  · simp at h
  · repeat (refine And.intro rfl ?_)
    refine And.intro ⟨by omega, by omega⟩ ?_
    repeat (refine And.intro rfl ?_)
    rfl
end Go.Proofs.Ytjkgjpaodccgbaa.Ev

namespace Go.Proofs.Ytjkgjpaodccgbaa.Ev
open Go Go.Proofs
theorem word_out (c : Int) (hc : ¬ (0 ≤ c ∧ c ≤ 5)) : word c = ⟨#[]⟩ := by
  unfold word
  split <;> first | rfl | (exfalso; omega)
theorem cases6 (c : Int) : ¬ (0 ≤ c ∧ c ≤ 5) ∨ c = 0 ∨ c = 1 ∨ c = 2 ∨ c = 3 ∨ c = 4 ∨ c = 5 := by omega
theorem specRW (c : Int) : RO Try.prog 9 [.i .i64 c] (.s (word c)) := by
  rcases cases6 c with h | rfl | rfl | rfl | rfl | rfl | rfl
  · rw [word_out c h]; exact specRW_out c h
  · exact specRW_0
  · exact specRW_1
  · exact specRW_2
  · exact specRW_3
  · exact specRW_4
  · exact specRW_5
theorem implRW (c : Int) : RO Try.prog 10 [.i .i64 c] (.s (word c)) := by
  rcases cases6 c with h | rfl | rfl | rfl | rfl | rfl | rfl
  · rw [word_out c h]; exact implRW_out c h
  · exact implRW_0
  · exact implRW_1
  · exact implRW_2
  · exact implRW_3
  · exact implRW_4
  · exact implRW_5
theorem lawRW (c : Int) : RO Try.prog 3 [.i .i64 c] (.b true) := by
  refine RO_of Cf_ok ?_
  refine And.intro rfl ?_
  refine .inl ⟨_, ?a, _, specRW c, rfl, ?_⟩
  case a => exact ⟨rfl, trivial⟩
  refine .inl ⟨_, ?b, _, implRW c, rfl, ?_⟩
  case b => exact ⟨rfl, trivial⟩
  refine And.intro (fun h => ?_) (fun h => ?_)
  · simp at h
  · refine And.intro rfl ?_
    exact Or.inl rfl
end Go.Proofs.Ytjkgjpaodccgbaa.Ev
namespace Go.Proofs.Ytjkgjpaodccgbaa.fnExactRejectWord
open Go.ChangeShapes Go.WideShapes Go.ChangeAt Go.RowKit
open Go.ChangeMaps (open_string shut_string)
theorem own : ownKnob Try.prog.godebug = none := by kernel_rfl
theorem laidOut : laidOutB Try.prog = true := by kernel_rfl
set_option maxRecDepth 100000 in
theorem lifted (os : Os) (started : os.Started) (H : Type) (enc : TypeId × Value → H) :
    ReturnsInHanded {} Try.checked os 3 .any (Rows.fnExactRejectWordSpec.pre6 enc Try.prog Try.f3 Rows.fnExactRejectWordRow.domain false) (Rows.fnExactRejectWordSpec.post enc Try.prog Try.f3 false true false false) := by
  refine returnsInHanded_of_change_sized (C := Try.checked) own started (by kernel_rfl) Try.func3
    (ChangeSpec.witness6 (enc := enc) (C := Try.checked) false ⟨#[], #[.int .i64 0], []⟩ 8 (by kernel_rfl) (by kernel_rfl) (by kernel_rfl) (by kernel_rfl)) ?_
  intro W base args ds gs before hval0 hW hcnd hsz0 _
  have hval : ∀ (j : Nat) t v, Try.f3.params[j]? = some t → args[j]? = some v → Value.okWide Try.prog W .any base t v := hval0
  have hW' := hW
  obtain ⟨p, q, hA0, hV, rfl, hfz, hnd⟩ := hW
  have hA : DataW.TrodAll enc Try.prog W 0 (fun _ => true) true Try.f3.params.toList args.toList ds p := hA0
  rw [Try.params3] at hA hval
  obtain ⟨v0, vs0, d0, ds0, p0, q0, hargs, rfl, rfl, h0, r0⟩ := trodAll_cons hA
  obtain ⟨rfl, rfl, rfl⟩ := trodAll_nil r0
  obtain rfl : args = #[v0] := by cases args; simp_all
  obtain ⟨rfl, rfl⟩ := trodVars_none hV
  obtain ⟨a0, rfl, rfl, rfl, w0⟩ := open_int Try.underlying3 (hval 0 3 v0 rfl rfl) h0
  clear hA0 hval0 hsz0
  refine (Go.Proofs.Ytjkgjpaodccgbaa.Ev.law_calls (vals := [.int .i64 a0]) (Go.Proofs.Ytjkgjpaodccgbaa.Ev.enter_of Go.Proofs.Ytjkgjpaodccgbaa.Ev.Cf_ok (by rfl) Try.func3 rfl _ _) (Go.Proofs.Ytjkgjpaodccgbaa.Ev.lawRW a0) ⟨rfl, trivial⟩).mono fun e W' ⟨he, bel⟩ => ?_
  subst he
  exact ⟨_, rfl, _, _, _, [], _, [], hW', trodAll_mk1 (shut_bool Try.underlying4 _), (trodAll_cons_mk (shut_int Try.underlying3 w0) trodAll_mk0), rfl, bel.frame _, fun h => by cases h⟩
theorem over : Rows.fnExactRejectWordRow.holds Try.pinned (OpenSpec.ofChange Rows.fnExactRejectWordSpec) :=
  OpenClaim.holds_of_wide 3 Try.f3 rfl rfl rfl rfl rfl rfl rfl ⟨rfl, rfl, rfl, rfl, rfl⟩ rfl rfl rfl rfl rfl (by kernel_rfl) Try.func3 (by kernel_rfl)
    (of_decide_eq_true (by kernel_rfl)) (by unfold Func.isWrapper; first | (rw [if_pos (by decide +kernel)]; kernel_rfl) | (rw [if_neg (by decide +kernel)]; exact ⟨rfl, rfl⟩))
    (fun os started H enc _ => lifted os started H enc)
theorem proved : Rows.FnExactRejectWordSaid := over
end Go.Proofs.Ytjkgjpaodccgbaa.fnExactRejectWord
namespace Go.Proofs.Ytjkgjpaodccgbaa
/-- The row, under a short name, for the claim. -/
theorem fnExactRejectWord_holds : Rows.FnExactRejectWordSaid := fnExactRejectWord.proved
end Go.Proofs.Ytjkgjpaodccgbaa
