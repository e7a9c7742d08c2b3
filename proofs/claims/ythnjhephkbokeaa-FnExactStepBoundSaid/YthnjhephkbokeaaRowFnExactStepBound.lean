/- The row: the law FnExactStepBound returns true for all its arguments, under no further condition than the given row bears. -/
import Derived.Test.YthnjhephkbokeaaSOb
import Derived.Test.YthnjhephkbokeaaRows
set_option linter.constructorNameAsVariable false
set_option linter.unusedVariables false
set_option linter.unusedSimpArgs false
set_option linter.unusedVariables false
set_option linter.unusedSimpArgs false
namespace Go.Proofs.Ythnjhephkbokeaa.Ev
open Go Go.Proofs
section
theorem rd3_7 {l : List AV} (h : Ty Cf 7 3 l) : ∃ x : Int, l = iv x ∧ I64 x := by
  obtain ⟨n, rfl, h⟩ := h
  exact ⟨n, rfl, wf64 h⟩

theorem rd9_7 {l : List AV} (h : Ty Cf 7 9 l) : ∃ x : ByteArray, l = sv x ∧ (fun s : ByteArray => s.size ≤ maxLen) x := by
  obtain ⟨x, rfl, h⟩ := h
  exact ⟨x, rfl, h⟩

theorem rd23_8 {l : List AV} (h : Ty Cf 8 23 l) : ∃ x : Op, l = Op.av x ∧ Op.ok x := by
  replace h : Cat (Ty Cf 7) [3, 9, 3, 3] l := h
  obtain ⟨_, _, rfl, h0, h⟩ := h
  obtain ⟨_, _, rfl, h1, h⟩ := h
  obtain ⟨_, _, rfl, h2, h⟩ := h
  obtain ⟨_, _, rfl, h3, h⟩ := h
  subst h
  obtain ⟨x0, rfl, g0⟩ := rd3_7 h0
  obtain ⟨x1, rfl, g1⟩ := rd9_7 h1
  obtain ⟨x2, rfl, g2⟩ := rd3_7 h2
  obtain ⟨x3, rfl, g3⟩ := rd3_7 h3
  exact ⟨⟨x0, x1, x2, x3⟩, rfl, ⟨g0, g1, g2, g3⟩⟩

theorem rd3_8 {l : List AV} (h : Ty Cf 8 3 l) : ∃ x : Int, l = iv x ∧ I64 x := by
  obtain ⟨n, rfl, h⟩ := h
  exact ⟨n, rfl, wf64 h⟩
theorem law_all {xs : List AV} (h : All2 (TyA Cf 8) [23, 3, 3, 3] xs) : RO Cf Try.prog 3 xs (.b true) := by
  obtain ⟨y0, xs, rfl, ⟨l0, h0, e0⟩, h⟩ := All2_cons h
  obtain ⟨y1, xs, rfl, ⟨l1, h1, e1⟩, h⟩ := All2_cons h
  obtain ⟨y2, xs, rfl, ⟨l2, h2, e2⟩, h⟩ := All2_cons h
  obtain ⟨y3, xs, rfl, ⟨l3, h3, e3⟩, h⟩ := All2_cons h
  obtain rfl := All2_nil h
  obtain ⟨a0, rfl, g0⟩ := rd23_8 h0
  replace e0 : y0 = .ag (Op.av a0) := e0
  subst e0
  obtain ⟨a1, rfl, g1⟩ := rd3_8 h1
  replace e1 : y1 = nth (iv a1) 0 := e1
  subst e1
  obtain ⟨a2, rfl, g2⟩ := rd3_8 h2
  replace e2 : y2 = nth (iv a2) 0 := e2
  subst e2
  obtain ⟨a3, rfl, g3⟩ := rd3_8 h3
  replace e3 : y3 = nth (iv a3) 0 := e3
  subst e3
  exact law_FnExactStepBound a0 g0 a1 g1 a2 g2 a3 g3
end
end Go.Proofs.Ythnjhephkbokeaa.Ev
namespace Go.Proofs.Ythnjhephkbokeaa.fnExactStepBound
open Go Go.ChangeShapes Go.WideShapes Go.ChangeAt Go.RowKit
theorem own : ownKnob Try.prog.godebug = none := by kernel_rfl
theorem laidOut : laidOutB Try.prog = true := by kernel_rfl
set_option maxRecDepth 100000 in
theorem lifted (os : Os) (started : os.Started) (H : Type) (enc : TypeId × Value → H) :
    ReturnsInHanded {} Try.checked os 3 .any (Rows.fnExactStepBoundSpec.pre6 enc Try.prog Try.f3 Rows.fnExactStepBoundRow.domain false) (Rows.fnExactStepBoundSpec.post enc Try.prog Try.f3 false true false false) := by
  refine returnsInHanded_of_change_sized (C := Try.checked) own started (by kernel_rfl) Try.func3
    (ChangeSpec.witness6 (enc := enc) (C := Try.checked) false ⟨#[], #[.agg #[.int .i64 0, .string ⟨#[]⟩, .int .i64 0, .int .i64 0], .int .i64 0, .int .i64 0, .int .i64 0], []⟩ 8 (by kernel_rfl) (by kernel_rfl) (by kernel_rfl) (by kernel_rfl)) ?_
  intro W base args ds gs before hval0 hW hcnd hsz0 _
  have hval : ∀ (j : Nat) t v, Try.f3.params[j]? = some t → args[j]? = some v → Value.okWide Try.prog W .any base t v := hval0
  have hW' := hW
  obtain ⟨p, q, hA0, hV, rfl, hfz, hnd⟩ := hW
  have hA : DataW.TrodAll enc Try.prog W 0 (fun _ => true) true Try.f3.params.toList args.toList ds p := hA0
  rw [Try.params3] at hA hval
  obtain ⟨rfl, rfl⟩ := trodVars_none hV
  obtain ⟨xs, hx, hty⟩ := Go.Proofs.Ythnjhephkbokeaa.Ev.open_args Go.Proofs.Ythnjhephkbokeaa.Ev.Cf_ok.ty [23, 3, 3, 3] args.toList ds p (Go.Proofs.Ythnjhephkbokeaa.Ev.allB_spec (f := fun t => Go.Proofs.Ythnjhephkbokeaa.Ev.wkTy Go.Proofs.Ythnjhephkbokeaa.Ev.Cf 8 t) (by decide +kernel)) (fun j t v h1 h2 => hval j t v (by simpa using h1) (by simpa using h2)) hA
  refine (Go.Proofs.Ythnjhephkbokeaa.Ev.law_calls (vals := args.toList) (Go.Proofs.Ythnjhephkbokeaa.Ev.enter_of Go.Proofs.Ythnjhephkbokeaa.Ev.Cf_ok (by rfl) Try.func3 rfl _ _) (Go.Proofs.Ythnjhephkbokeaa.Ev.law_all hty) hx (by intro x hx; cases hx)).mono fun e W' ⟨he, bel⟩ => ?_
  subst he
  have keep := Go.Proofs.Ythnjhephkbokeaa.Ev.keep_args laidOut [23, 3, 3, 3] args.toList ds p (Go.Proofs.Ythnjhephkbokeaa.Ev.allB_spec (f := fun t => Try.prog.readableRec t) (by kernel_rfl)) (fun t ht => of_decide_eq_true (Go.Proofs.Ythnjhephkbokeaa.Ev.allB_spec (f := fun t => decide (t < Try.prog.types.size)) (by kernel_rfl) t ht)) hA bel
  have hlen := Go.Proofs.Ythnjhephkbokeaa.Ev.args_size hA
  obtain ⟨v0, vs0, d0, ds0, p0, q0, hargs, rfl, rfl, h0, r0⟩ := trodAll_cons hA
  obtain ⟨v1, vs1, d1, ds1, p1, q1, rfl, rfl, rfl, h1, r1⟩ := trodAll_cons r0
  obtain ⟨v2, vs2, d2, ds2, p2, q2, rfl, rfl, rfl, h2, r2⟩ := trodAll_cons r1
  obtain ⟨v3, vs3, d3, ds3, p3, q3, rfl, rfl, rfl, h3, r3⟩ := trodAll_cons r2
  obtain ⟨rfl, rfl, rfl⟩ := trodAll_nil r3
  exact ⟨_, rfl, _, _, _, [], _, [], hW', trodAll_mk1 (shut_bool Try.underlying4 _), keep, rfl, bel.frame _, fun h => by cases h⟩
theorem over : Rows.fnExactStepBoundRow.holds Try.pinned (OpenSpec.ofChange Rows.fnExactStepBoundSpec) :=
  OpenClaim.holds_of_wide 3 Try.f3 rfl rfl rfl rfl rfl rfl rfl ⟨rfl, rfl, rfl, rfl, rfl⟩ rfl rfl rfl rfl rfl (by kernel_rfl) Try.func3 (by kernel_rfl)
    (of_decide_eq_true (by kernel_rfl)) (by unfold Func.isWrapper; first | (rw [if_pos (by decide +kernel)]; kernel_rfl) | (rw [if_neg (by decide +kernel)]; exact ⟨rfl, rfl⟩))
    (fun os started H enc _ => lifted os started H enc)
theorem proved : Rows.FnExactStepBoundSaid := over
end Go.Proofs.Ythnjhephkbokeaa.fnExactStepBound

namespace Go.Proofs.Ythnjhephkbokeaa
theorem fnExactStepBound_holds : Rows.FnExactStepBoundSaid := fnExactStepBound.proved
end Go.Proofs.Ythnjhephkbokeaa
