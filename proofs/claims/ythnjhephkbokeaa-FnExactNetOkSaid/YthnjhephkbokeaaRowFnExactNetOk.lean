/- The row: the law FnExactNetOk returns true for all its arguments, under no further condition than the given row bears. -/
import Derived.Test.YthnjhephkbokeaaSNt
import Derived.Test.YthnjhephkbokeaaRows
set_option linter.constructorNameAsVariable false
set_option linter.unusedVariables false
set_option linter.unusedSimpArgs false
set_option linter.unusedVariables false
set_option linter.unusedSimpArgs false
namespace Go.Proofs.Ythnjhephkbokeaa.Ev
open Go Go.Proofs
section
theorem rd9_6 {l : List AV} (h : Ty Cf 6 9 l) : ∃ x : ByteArray, l = sv x ∧ (fun s : ByteArray => s.size ≤ maxLen) x := by
  obtain ⟨x, rfl, h⟩ := h
  exact ⟨x, rfl, h⟩

theorem rd29_7 {l : List AV} (h : Ty Cf 7 29 l) : ∃ x : List ByteArray, l = (fun l : List ByteArray => [.ro true true 1 (l.map sv)]) x ∧ Strs x := by
  obtain ⟨rows, rfl, hl, hr⟩ := h
  obtain ⟨x, rfl, hx⟩ := rows_map (fun r hr => rd9_6 hr) rows hr
  exact ⟨x, rfl, by simpa using hl, hx⟩

theorem rd3_5 {l : List AV} (h : Ty Cf 5 3 l) : ∃ x : Int, l = iv x ∧ I64 x := by
  obtain ⟨n, rfl, h⟩ := h
  exact ⟨n, rfl, wf64 h⟩

theorem rd132_6 {l : List AV} (h : Ty Cf 6 132 l) : ∃ x : Send, l = Send.av x ∧ Send.ok x := by
  replace h : Cat (Ty Cf 5) [3, 3] l := h
  obtain ⟨_, _, rfl, h0, h⟩ := h
  obtain ⟨_, _, rfl, h1, h⟩ := h
  subst h
  obtain ⟨x0, rfl, g0⟩ := rd3_5 h0
  obtain ⟨x1, rfl, g1⟩ := rd3_5 h1
  exact ⟨⟨x0, x1⟩, rfl, ⟨g0, g1⟩⟩

theorem rd30_7 {l : List AV} (h : Ty Cf 7 30 l) : ∃ x : List Send, l = (fun l : List Send => [.ro true true 2 (l.map Send.av)]) x ∧ (fun l : List Send => l.length ≤ maxLen ∧ ∀ x ∈ l, Send.ok x) x := by
  obtain ⟨rows, rfl, hl, hr⟩ := h
  obtain ⟨x, rfl, hx⟩ := rows_map (fun r hr => rd132_6 hr) rows hr
  exact ⟨x, rfl, by simpa using hl, hx⟩

theorem rd3_7 {l : List AV} (h : Ty Cf 7 3 l) : ∃ x : Int, l = iv x ∧ I64 x := by
  obtain ⟨n, rfl, h⟩ := h
  exact ⟨n, rfl, wf64 h⟩

theorem rd3_6 {l : List AV} (h : Ty Cf 6 3 l) : ∃ x : Int, l = iv x ∧ I64 x := by
  obtain ⟨n, rfl, h⟩ := h
  exact ⟨n, rfl, wf64 h⟩

theorem rd31_7 {l : List AV} (h : Ty Cf 7 31 l) : ∃ x : List Int, l = (fun l : List Int => [.ro true true 1 (l.map iv)]) x ∧ I64s x := by
  obtain ⟨rows, rfl, hl, hr⟩ := h
  obtain ⟨x, rfl, hx⟩ := rows_map (fun r hr => rd3_6 hr) rows hr
  exact ⟨x, rfl, by simpa using hl, hx⟩

theorem rd33_8 {l : List AV} (h : Ty Cf 8 33 l) : ∃ x : Net, l = (Net.av true) x ∧ Net.ok x := by
  replace h : Cat (Ty Cf 7) [29, 30, 3, 31] l := h
  obtain ⟨_, _, rfl, h0, h⟩ := h
  obtain ⟨_, _, rfl, h1, h⟩ := h
  obtain ⟨_, _, rfl, h2, h⟩ := h
  obtain ⟨_, _, rfl, h3, h⟩ := h
  subst h
  obtain ⟨x0, rfl, g0⟩ := rd29_7 h0
  obtain ⟨x1, rfl, g1⟩ := rd30_7 h1
  obtain ⟨x2, rfl, g2⟩ := rd3_7 h2
  obtain ⟨x3, rfl, g3⟩ := rd31_7 h3
  exact ⟨⟨x0, x1, x2, x3⟩, rfl, ⟨g0, g1, g2, g3⟩⟩
theorem law_all {xs : List AV} (h : All2 (TyA Cf 8) [33] xs) : RO Cf Try.prog 4 xs (.b true) := by
  obtain ⟨y0, xs, rfl, ⟨l0, h0, e0⟩, h⟩ := All2_cons h
  obtain rfl := All2_nil h
  obtain ⟨a0, rfl, g0⟩ := rd33_8 h0
  replace e0 : y0 = .ag ((Net.av true) a0) := e0
  subst e0
  exact law_FnExactNetOk a0 g0
end
end Go.Proofs.Ythnjhephkbokeaa.Ev
namespace Go.Proofs.Ythnjhephkbokeaa.fnExactNetOk
open Go Go.ChangeShapes Go.WideShapes Go.ChangeAt Go.RowKit
theorem own : ownKnob Try.prog.godebug = none := by kernel_rfl
theorem laidOut : laidOutB Try.prog = true := by kernel_rfl
set_option maxRecDepth 100000 in
theorem lifted (os : Os) (started : os.Started) (H : Type) (enc : TypeId × Value → H) :
    ReturnsInHanded {} Try.checked os 4 .any (Rows.fnExactNetOkSpec.pre6 enc Try.prog Try.f4 Rows.fnExactNetOkRow.domain false) (Rows.fnExactNetOkSpec.post enc Try.prog Try.f4 false true false false) := by
  refine returnsInHanded_of_change_sized (C := Try.checked) own started (by kernel_rfl) Try.func4
    (ChangeSpec.witness6 (enc := enc) (C := Try.checked) false ⟨#[], #[.agg #[.slice none 0 0, .slice none 0 0, .int .i64 0, .slice none 0 0]], []⟩ 8 (by kernel_rfl) (by kernel_rfl) (by kernel_rfl) (by kernel_rfl)) ?_
  intro W base args ds gs before hval0 hW hcnd hsz0 _
  have hval : ∀ (j : Nat) t v, Try.f4.params[j]? = some t → args[j]? = some v → Value.okWide Try.prog W .any base t v := hval0
  have hW' := hW
  obtain ⟨p, q, hA0, hV, rfl, hfz, hnd⟩ := hW
  have hA : DataW.TrodAll enc Try.prog W 0 (fun _ => true) true Try.f4.params.toList args.toList ds p := hA0
  rw [Try.params4] at hA hval
  obtain ⟨rfl, rfl⟩ := trodVars_none hV
  obtain ⟨xs, hx, hty⟩ := Go.Proofs.Ythnjhephkbokeaa.Ev.open_args Go.Proofs.Ythnjhephkbokeaa.Ev.Cf_ok.ty [33] args.toList ds p (Go.Proofs.Ythnjhephkbokeaa.Ev.allB_spec (f := fun t => Go.Proofs.Ythnjhephkbokeaa.Ev.wkTy Go.Proofs.Ythnjhephkbokeaa.Ev.Cf 8 t) (by decide +kernel)) (fun j t v h1 h2 => hval j t v (by simpa using h1) (by simpa using h2)) hA
  refine (Go.Proofs.Ythnjhephkbokeaa.Ev.law_calls (vals := args.toList) (Go.Proofs.Ythnjhephkbokeaa.Ev.enter_of Go.Proofs.Ythnjhephkbokeaa.Ev.Cf_ok (by rfl) Try.func4 rfl _ _) (Go.Proofs.Ythnjhephkbokeaa.Ev.law_all hty) hx (by intro x hx; cases hx)).mono fun e W' ⟨he, bel⟩ => ?_
  subst he
  have keep := Go.Proofs.Ythnjhephkbokeaa.Ev.keep_args laidOut [33] args.toList ds p (Go.Proofs.Ythnjhephkbokeaa.Ev.allB_spec (f := fun t => Try.prog.readableRec t) (by kernel_rfl)) (fun t ht => of_decide_eq_true (Go.Proofs.Ythnjhephkbokeaa.Ev.allB_spec (f := fun t => decide (t < Try.prog.types.size)) (by kernel_rfl) t ht)) hA bel
  have hlen := Go.Proofs.Ythnjhephkbokeaa.Ev.args_size hA
  obtain ⟨v0, vs0, d0, ds0, p0, q0, hargs, rfl, rfl, h0, r0⟩ := trodAll_cons hA
  obtain ⟨rfl, rfl, rfl⟩ := trodAll_nil r0
  exact ⟨_, rfl, _, _, _, [], _, [], hW', trodAll_mk1 (shut_bool Try.underlying4 _), keep, rfl, bel.frame _, fun h => by cases h⟩
theorem over : Rows.fnExactNetOkRow.holds Try.pinned (OpenSpec.ofChange Rows.fnExactNetOkSpec) :=
  OpenClaim.holds_of_wide 4 Try.f4 rfl rfl rfl rfl rfl rfl rfl ⟨rfl, rfl, rfl, rfl, rfl⟩ rfl rfl rfl rfl rfl (by kernel_rfl) Try.func4 (by kernel_rfl)
    (of_decide_eq_true (by kernel_rfl)) (by unfold Func.isWrapper; first | (rw [if_pos (by decide +kernel)]; kernel_rfl) | (rw [if_neg (by decide +kernel)]; exact ⟨rfl, rfl⟩))
    (fun os started H enc _ => lifted os started H enc)
theorem proved : Rows.FnExactNetOkSaid := over
end Go.Proofs.Ythnjhephkbokeaa.fnExactNetOk

namespace Go.Proofs.Ythnjhephkbokeaa
theorem fnExactNetOk_holds : Rows.FnExactNetOkSaid := fnExactNetOk.proved
end Go.Proofs.Ythnjhephkbokeaa
