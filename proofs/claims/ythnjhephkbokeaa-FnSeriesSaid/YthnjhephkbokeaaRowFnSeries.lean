/- The row: the law FnSeries returns true for all its arguments, under no further condition than the given row bears. -/
import Derived.Test.YthnjhephkbokeaaSSf
import Derived.Test.YthnjhephkbokeaaRows
set_option linter.constructorNameAsVariable false
set_option linter.unusedVariables false
set_option linter.unusedSimpArgs false
set_option linter.unusedVariables false
set_option linter.unusedSimpArgs false
namespace Go.Proofs.Ythnjhephkbokeaa.Ev
open Go Go.Proofs
section
theorem rd5_7 {l : List AV} (h : Ty Cf 7 5 l) : ∃ x : UInt8, l = bv x ∧ (fun _ => True) x := by
  obtain ⟨n, rfl, h⟩ := h
  exact ⟨UInt8.ofNat n.toNat, by simp only [bv]; have := wf8 h; congr 2; simp; omega, trivial⟩

theorem rd60_8 {l : List AV} (h : Ty Cf 8 60 l) : ∃ x : List UInt8, l = (fun l : List UInt8 => [.ro true true 1 (l.map bv)]) x ∧ (fun l : List UInt8 => l.length ≤ maxLen) x := by
  obtain ⟨rows, rfl, hl, hr⟩ := h
  obtain ⟨x, rfl, hx⟩ := rows_map (fun r hr => rd5_7 hr) rows hr
  exact ⟨x, rfl, by simpa using hl⟩
theorem law_all {xs : List AV} (h : All2 (TyA Cf 8) [60] xs) : RO Cf Try.prog 10 xs (.b true) := by
  obtain ⟨y0, xs, rfl, ⟨l0, h0, e0⟩, h⟩ := All2_cons h
  obtain rfl := All2_nil h
  obtain ⟨a0, rfl, g0⟩ := rd60_8 h0
  replace e0 : y0 = nth ((fun l : List UInt8 => [.ro true true 1 (l.map bv)]) a0) 0 := e0
  subst e0
  exact law_FnSeries a0 g0
end
end Go.Proofs.Ythnjhephkbokeaa.Ev
namespace Go.Proofs.Ythnjhephkbokeaa.fnSeries
open Go Go.ChangeShapes Go.WideShapes Go.ChangeAt Go.RowKit
theorem own : ownKnob Try.prog.godebug = none := by kernel_rfl
theorem laidOut : laidOutB Try.prog = true := by kernel_rfl
set_option maxRecDepth 100000 in
theorem lifted (os : Os) (started : os.Started) (H : Type) (enc : TypeId × Value → H) :
    ReturnsInHanded {} Try.checked os 10 .any (Rows.fnSeriesSpec.pre6 enc Try.prog Try.f10 Rows.fnSeriesRow.domain false) (Rows.fnSeriesSpec.post enc Try.prog Try.f10 false true false false) := by
  refine returnsInHanded_of_change_sized (C := Try.checked) own started (by kernel_rfl) Try.func10
    (ChangeSpec.witness6 (enc := enc) (C := Try.checked) false ⟨#[], #[.slice none 0 0], []⟩ 8 (by kernel_rfl) (by kernel_rfl) (by kernel_rfl) (by kernel_rfl)) ?_
  intro W base args ds gs before hval0 hW hcnd hsz0 _
  have hval : ∀ (j : Nat) t v, Try.f10.params[j]? = some t → args[j]? = some v → Value.okWide Try.prog W .any base t v := hval0
  have hW' := hW
  obtain ⟨p, q, hA0, hV, rfl, hfz, hnd⟩ := hW
  have hA : DataW.TrodAll enc Try.prog W 0 (fun _ => true) true Try.f10.params.toList args.toList ds p := hA0
  rw [Try.params10] at hA hval
  obtain ⟨rfl, rfl⟩ := trodVars_none hV
  obtain ⟨xs, hx, hty⟩ := Go.Proofs.Ythnjhephkbokeaa.Ev.open_args Go.Proofs.Ythnjhephkbokeaa.Ev.Cf_ok.ty [60] args.toList ds p (Go.Proofs.Ythnjhephkbokeaa.Ev.allB_spec (f := fun t => Go.Proofs.Ythnjhephkbokeaa.Ev.wkTy Go.Proofs.Ythnjhephkbokeaa.Ev.Cf 8 t) (by decide +kernel)) (fun j t v h1 h2 => hval j t v (by simpa using h1) (by simpa using h2)) hA
  refine (Go.Proofs.Ythnjhephkbokeaa.Ev.law_calls (vals := args.toList) (Go.Proofs.Ythnjhephkbokeaa.Ev.enter_of Go.Proofs.Ythnjhephkbokeaa.Ev.Cf_ok (by rfl) Try.func10 rfl _ _) (Go.Proofs.Ythnjhephkbokeaa.Ev.law_all hty) hx (by intro x hx; cases hx)).mono fun e W' ⟨he, bel⟩ => ?_
  subst he
  have keep := Go.Proofs.Ythnjhephkbokeaa.Ev.keep_args laidOut [60] args.toList ds p (Go.Proofs.Ythnjhephkbokeaa.Ev.allB_spec (f := fun t => Try.prog.readableRec t) (by kernel_rfl)) (fun t ht => of_decide_eq_true (Go.Proofs.Ythnjhephkbokeaa.Ev.allB_spec (f := fun t => decide (t < Try.prog.types.size)) (by kernel_rfl) t ht)) hA bel
  have hlen := Go.Proofs.Ythnjhephkbokeaa.Ev.args_size hA
  obtain ⟨v0, vs0, d0, ds0, p0, q0, hargs, rfl, rfl, h0, r0⟩ := trodAll_cons hA
  obtain ⟨rfl, rfl, rfl⟩ := trodAll_nil r0
  exact ⟨_, rfl, _, _, _, [], _, [], hW', trodAll_mk1 (shut_bool Try.underlying4 _), keep, rfl, bel.frame _, fun h => by cases h⟩
theorem over : Rows.fnSeriesRow.holds Try.pinned (OpenSpec.ofChange Rows.fnSeriesSpec) :=
  OpenClaim.holds_of_wide 10 Try.f10 rfl rfl rfl rfl rfl rfl rfl ⟨rfl, rfl, rfl, rfl, rfl⟩ rfl rfl rfl rfl rfl (by kernel_rfl) Try.func10 (by kernel_rfl)
    (of_decide_eq_true (by kernel_rfl)) (by unfold Func.isWrapper; first | (rw [if_pos (by decide +kernel)]; kernel_rfl) | (rw [if_neg (by decide +kernel)]; exact ⟨rfl, rfl⟩))
    (fun os started H enc _ => lifted os started H enc)
theorem proved : Rows.FnSeriesSaid := over
end Go.Proofs.Ythnjhephkbokeaa.fnSeries

namespace Go.Proofs.Ythnjhephkbokeaa
theorem fnSeries_holds : Rows.FnSeriesSaid := fnSeries.proved
end Go.Proofs.Ythnjhephkbokeaa
