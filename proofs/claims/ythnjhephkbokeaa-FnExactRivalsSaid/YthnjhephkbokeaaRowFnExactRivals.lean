/- The row: the law FnExactRivals returns true for all its arguments, under no further condition than the given row bears. -/
import Derived.Test.YthnjhephkbokeaaSRi
import Derived.Test.YthnjhephkbokeaaRows
set_option linter.constructorNameAsVariable false
set_option linter.unusedVariables false
set_option linter.unusedSimpArgs false
set_option linter.unusedVariables false
set_option linter.unusedSimpArgs false
namespace Go.Proofs.Ythnjhephkbokeaa.Ev
open Go Go.Proofs
section
theorem rd3_6 {l : List AV} (h : Ty Cf 6 3 l) : ∃ x : Int, l = iv x ∧ I64 x := by
  obtain ⟨n, rfl, h⟩ := h
  exact ⟨n, rfl, wf64 h⟩

theorem rd3_5 {l : List AV} (h : Ty Cf 5 3 l) : ∃ x : Int, l = iv x ∧ I64 x := by
  obtain ⟨n, rfl, h⟩ := h
  exact ⟨n, rfl, wf64 h⟩

theorem rd9_5 {l : List AV} (h : Ty Cf 5 9 l) : ∃ x : ByteArray, l = sv x ∧ (fun s : ByteArray => s.size ≤ maxLen) x := by
  obtain ⟨x, rfl, h⟩ := h
  exact ⟨x, rfl, h⟩

theorem rd23_6 {l : List AV} (h : Ty Cf 6 23 l) : ∃ x : Op, l = Op.av x ∧ Op.ok x := by
  replace h : Cat (Ty Cf 5) [3, 9, 3, 3] l := h
  obtain ⟨_, _, rfl, h0, h⟩ := h
  obtain ⟨_, _, rfl, h1, h⟩ := h
  obtain ⟨_, _, rfl, h2, h⟩ := h
  obtain ⟨_, _, rfl, h3, h⟩ := h
  subst h
  obtain ⟨x0, rfl, g0⟩ := rd3_5 h0
  obtain ⟨x1, rfl, g1⟩ := rd9_5 h1
  obtain ⟨x2, rfl, g2⟩ := rd3_5 h2
  obtain ⟨x3, rfl, g3⟩ := rd3_5 h3
  exact ⟨⟨x0, x1, x2, x3⟩, rfl, ⟨g0, g1, g2, g3⟩⟩

theorem rd9_4 {l : List AV} (h : Ty Cf 4 9 l) : ∃ x : ByteArray, l = sv x ∧ (fun s : ByteArray => s.size ≤ maxLen) x := by
  obtain ⟨x, rfl, h⟩ := h
  exact ⟨x, rfl, h⟩

theorem rd3_4 {l : List AV} (h : Ty Cf 4 3 l) : ∃ x : Int, l = iv x ∧ I64 x := by
  obtain ⟨n, rfl, h⟩ := h
  exact ⟨n, rfl, wf64 h⟩

theorem rd4_4 {l : List AV} (h : Ty Cf 4 4 l) : ∃ x : Bool, l = (fun b => [.b b]) x ∧ (fun _ => True) x := by
  obtain ⟨b, rfl⟩ := h
  exact ⟨b, rfl, trivial⟩

theorem rd106_5 {l : List AV} (h : Ty Cf 5 106 l) : ∃ x : Row, l = Row.av x ∧ Row.ok x := by
  replace h : Cat (Ty Cf 4) [9, 3, 3, 4, 3, 3, 3, 3, 3, 3] l := h
  obtain ⟨_, _, rfl, h0, h⟩ := h
  obtain ⟨_, _, rfl, h1, h⟩ := h
  obtain ⟨_, _, rfl, h2, h⟩ := h
  obtain ⟨_, _, rfl, h3, h⟩ := h
  obtain ⟨_, _, rfl, h4, h⟩ := h
  obtain ⟨_, _, rfl, h5, h⟩ := h
  obtain ⟨_, _, rfl, h6, h⟩ := h
  obtain ⟨_, _, rfl, h7, h⟩ := h
  obtain ⟨_, _, rfl, h8, h⟩ := h
  obtain ⟨_, _, rfl, h9, h⟩ := h
  subst h
  obtain ⟨x0, rfl, g0⟩ := rd9_4 h0
  obtain ⟨x1, rfl, g1⟩ := rd3_4 h1
  obtain ⟨x2, rfl, g2⟩ := rd3_4 h2
  obtain ⟨x3, rfl, g3⟩ := rd4_4 h3
  obtain ⟨x4, rfl, g4⟩ := rd3_4 h4
  obtain ⟨x5, rfl, g5⟩ := rd3_4 h5
  obtain ⟨x6, rfl, g6⟩ := rd3_4 h6
  obtain ⟨x7, rfl, g7⟩ := rd3_4 h7
  obtain ⟨x8, rfl, g8⟩ := rd3_4 h8
  obtain ⟨x9, rfl, g9⟩ := rd3_4 h9
  exact ⟨⟨x0, x1, x2, x3, x4, x5, x6, x7, x8, x9⟩, rfl, ⟨g0, g1, g2, g4, g5, g6, g7, g8, g9⟩⟩

theorem rd52_6 {l : List AV} (h : Ty Cf 6 52 l) : ∃ x : List Row, l = (fun l : List Row => [.ro true true 10 (l.map Row.av)]) x ∧ (fun l : List Row => l.length ≤ maxLen ∧ ∀ x ∈ l, Row.ok x) x := by
  obtain ⟨rows, rfl, hl, hr⟩ := h
  obtain ⟨x, rfl, hx⟩ := rows_map (fun r hr => rd106_5 hr) rows hr
  exact ⟨x, rfl, by simpa using hl, hx⟩

theorem rd125_7 {l : List AV} (h : Ty Cf 7 125 l) : ∃ x : Evt, l = (Evt.av true) x ∧ Evt.ok x := by
  replace h : Cat (Ty Cf 6) [3, 3, 3, 3, 23, 3, 3, 3, 3, 52] l := h
  obtain ⟨_, _, rfl, h0, h⟩ := h
  obtain ⟨_, _, rfl, h1, h⟩ := h
  obtain ⟨_, _, rfl, h2, h⟩ := h
  obtain ⟨_, _, rfl, h3, h⟩ := h
  obtain ⟨_, _, rfl, h4, h⟩ := h
  obtain ⟨_, _, rfl, h5, h⟩ := h
  obtain ⟨_, _, rfl, h6, h⟩ := h
  obtain ⟨_, _, rfl, h7, h⟩ := h
  obtain ⟨_, _, rfl, h8, h⟩ := h
  obtain ⟨_, _, rfl, h9, h⟩ := h
  subst h
  obtain ⟨x0, rfl, g0⟩ := rd3_6 h0
  obtain ⟨x1, rfl, g1⟩ := rd3_6 h1
  obtain ⟨x2, rfl, g2⟩ := rd3_6 h2
  obtain ⟨x3, rfl, g3⟩ := rd3_6 h3
  obtain ⟨x4, rfl, g4⟩ := rd23_6 h4
  obtain ⟨x5, rfl, g5⟩ := rd3_6 h5
  obtain ⟨x6, rfl, g6⟩ := rd3_6 h6
  obtain ⟨x7, rfl, g7⟩ := rd3_6 h7
  obtain ⟨x8, rfl, g8⟩ := rd3_6 h8
  obtain ⟨x9, rfl, g9⟩ := rd52_6 h9
  exact ⟨⟨x0, x1, x2, x3, x4, x5, x6, x7, x8, x9⟩, rfl, ⟨g0, g1, g2, g3, g4, g5, g6, g7, g8, g9⟩⟩

theorem rd85_8 {l : List AV} (h : Ty Cf 8 85 l) : ∃ x : List Evt, l = (fun l : List Evt => [.ro true false 13 (l.map (Evt.av true))]) x ∧ (fun l : List Evt => l.length ≤ maxLen ∧ ∀ x ∈ l, Evt.ok x) x := by
  obtain ⟨rows, rfl, hl, hr⟩ := h
  obtain ⟨x, rfl, hx⟩ := rows_map (fun r hr => rd125_7 hr) rows hr
  exact ⟨x, rfl, by simpa using hl, hx⟩

theorem rd3_8 {l : List AV} (h : Ty Cf 8 3 l) : ∃ x : Int, l = iv x ∧ I64 x := by
  obtain ⟨n, rfl, h⟩ := h
  exact ⟨n, rfl, wf64 h⟩
theorem law_all {xs : List AV} (h : All2 (TyA Cf 8) [85, 3] xs) : RO Cf Try.prog 12 xs (.b true) := by
  obtain ⟨y0, xs, rfl, ⟨l0, h0, e0⟩, h⟩ := All2_cons h
  obtain ⟨y1, xs, rfl, ⟨l1, h1, e1⟩, h⟩ := All2_cons h
  obtain rfl := All2_nil h
  obtain ⟨a0, rfl, g0⟩ := rd85_8 h0
  replace e0 : y0 = nth ((fun l : List Evt => [.ro true false 13 (l.map (Evt.av true))]) a0) 0 := e0
  subst e0
  obtain ⟨a1, rfl, g1⟩ := rd3_8 h1
  replace e1 : y1 = nth (iv a1) 0 := e1
  subst e1
  exact law_FnExactRivals a0 g0 a1 g1
end
end Go.Proofs.Ythnjhephkbokeaa.Ev
namespace Go.Proofs.Ythnjhephkbokeaa.fnExactRivals
open Go Go.ChangeShapes Go.WideShapes Go.ChangeAt Go.RowKit
theorem own : ownKnob Try.prog.godebug = none := by kernel_rfl
theorem laidOut : laidOutB Try.prog = true := by kernel_rfl
set_option maxRecDepth 100000 in
theorem lifted (os : Os) (started : os.Started) (H : Type) (enc : TypeId × Value → H) :
    ReturnsInHanded {} Try.checked os 12 .any (Rows.fnExactRivalsSpec.pre6 enc Try.prog Try.f12 Rows.fnExactRivalsRow.domain false) (Rows.fnExactRivalsSpec.post enc Try.prog Try.f12 false true false false) := by
  refine returnsInHanded_of_change_sized (C := Try.checked) own started (by kernel_rfl) Try.func12
    (ChangeSpec.witness6 (enc := enc) (C := Try.checked) false ⟨#[], #[.slice none 0 0, .int .i64 0], []⟩ 8 (by kernel_rfl) (by kernel_rfl) (by kernel_rfl) (by kernel_rfl)) ?_
  intro W base args ds gs before hval0 hW hcnd hsz0 _
  have hval : ∀ (j : Nat) t v, Try.f12.params[j]? = some t → args[j]? = some v → Value.okWide Try.prog W .any base t v := hval0
  have hW' := hW
  obtain ⟨p, q, hA0, hV, rfl, hfz, hnd⟩ := hW
  have hA : DataW.TrodAll enc Try.prog W 0 (fun _ => true) true Try.f12.params.toList args.toList ds p := hA0
  rw [Try.params12] at hA hval
  obtain ⟨rfl, rfl⟩ := trodVars_none hV
  obtain ⟨xs, hx, hty⟩ := Go.Proofs.Ythnjhephkbokeaa.Ev.open_args Go.Proofs.Ythnjhephkbokeaa.Ev.Cf_ok.ty [85, 3] args.toList ds p (Go.Proofs.Ythnjhephkbokeaa.Ev.allB_spec (f := fun t => Go.Proofs.Ythnjhephkbokeaa.Ev.wkTy Go.Proofs.Ythnjhephkbokeaa.Ev.Cf 8 t) (by decide +kernel)) (fun j t v h1 h2 => hval j t v (by simpa using h1) (by simpa using h2)) hA
  refine (Go.Proofs.Ythnjhephkbokeaa.Ev.law_calls (vals := args.toList) (Go.Proofs.Ythnjhephkbokeaa.Ev.enter_of Go.Proofs.Ythnjhephkbokeaa.Ev.Cf_ok (by rfl) Try.func12 rfl _ _) (Go.Proofs.Ythnjhephkbokeaa.Ev.law_all hty) hx (by intro x hx; cases hx)).mono fun e W' ⟨he, bel⟩ => ?_
  subst he
  have keep := Go.Proofs.Ythnjhephkbokeaa.Ev.keep_args laidOut [85, 3] args.toList ds p (Go.Proofs.Ythnjhephkbokeaa.Ev.allB_spec (f := fun t => Try.prog.readableRec t) (by kernel_rfl)) (fun t ht => of_decide_eq_true (Go.Proofs.Ythnjhephkbokeaa.Ev.allB_spec (f := fun t => decide (t < Try.prog.types.size)) (by kernel_rfl) t ht)) hA bel
  have hlen := Go.Proofs.Ythnjhephkbokeaa.Ev.args_size hA
  obtain ⟨v0, vs0, d0, ds0, p0, q0, hargs, rfl, rfl, h0, r0⟩ := trodAll_cons hA
  obtain ⟨v1, vs1, d1, ds1, p1, q1, rfl, rfl, rfl, h1, r1⟩ := trodAll_cons r0
  obtain ⟨rfl, rfl, rfl⟩ := trodAll_nil r1
  exact ⟨_, rfl, _, _, _, [], _, [], hW', trodAll_mk1 (shut_bool Try.underlying4 _), keep, rfl, bel.frame _, fun h => by cases h⟩
theorem over : Rows.fnExactRivalsRow.holds Try.pinned (OpenSpec.ofChange Rows.fnExactRivalsSpec) :=
  OpenClaim.holds_of_wide 12 Try.f12 rfl rfl rfl rfl rfl rfl rfl ⟨rfl, rfl, rfl, rfl, rfl⟩ rfl rfl rfl rfl rfl (by kernel_rfl) Try.func12 (by kernel_rfl)
    (of_decide_eq_true (by kernel_rfl)) (by unfold Func.isWrapper; first | (rw [if_pos (by decide +kernel)]; kernel_rfl) | (rw [if_neg (by decide +kernel)]; exact ⟨rfl, rfl⟩))
    (fun os started H enc _ => lifted os started H enc)
theorem proved : Rows.FnExactRivalsSaid := over
end Go.Proofs.Ythnjhephkbokeaa.fnExactRivals

namespace Go.Proofs.Ythnjhephkbokeaa
theorem fnExactRivals_holds : Rows.FnExactRivalsSaid := fnExactRivals.proved
end Go.Proofs.Ythnjhephkbokeaa
