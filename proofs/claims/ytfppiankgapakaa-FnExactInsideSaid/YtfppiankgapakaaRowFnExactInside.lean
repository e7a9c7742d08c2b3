/- The row: the law FnExactInside returns true for all its arguments, under no further condition than the given row bears. -/
import Derived.Test.YtfppiankgapakaaSDq
import Derived.Test.YtfppiankgapakaaRows
set_option linter.constructorNameAsVariable false
set_option linter.unusedVariables false
set_option linter.unusedSimpArgs false
set_option linter.unusedVariables false
set_option linter.unusedSimpArgs false
namespace Go.Proofs.Ytfppiankgapakaa.Ev
open Go Go.Proofs
section
theorem rd3_6 {l : List AV} (h : Ty Cf 6 3 l) : ∃ x : Int, l = iv x ∧ I64 x := by
  obtain ⟨n, rfl, h⟩ := h
  exact ⟨n, rfl, wf64 h⟩

theorem rd22_7 {l : List AV} (h : Ty Cf 7 22 l) : ∃ x : List Int, l = (fun l : List Int => [.ro true true 1 (l.map iv)]) x ∧ I64s x := by
  obtain ⟨rows, rfl, hl, hr⟩ := h
  obtain ⟨x, rfl, hx⟩ := rows_map (fun r hr => rd3_6 hr) rows hr
  exact ⟨x, rfl, by simpa using hl, hx⟩

theorem rd4_5 {l : List AV} (h : Ty Cf 5 4 l) : ∃ x : Bool, l = (fun b => [.b b]) x ∧ (fun _ => True) x := by
  obtain ⟨b, rfl⟩ := h
  exact ⟨b, rfl, trivial⟩

theorem rd3_4 {l : List AV} (h : Ty Cf 4 3 l) : ∃ x : Int, l = iv x ∧ I64 x := by
  obtain ⟨n, rfl, h⟩ := h
  exact ⟨n, rfl, wf64 h⟩

theorem rd9_4 {l : List AV} (h : Ty Cf 4 9 l) : ∃ x : ByteArray, l = sv x ∧ (fun s : ByteArray => s.size ≤ maxLen) x := by
  obtain ⟨x, rfl, h⟩ := h
  exact ⟨x, rfl, h⟩

theorem rd62_5 {l : List AV} (h : Ty Cf 5 62 l) : ∃ x : Op, l = Op.av x ∧ Op.ok x := by
  replace h : Cat (Ty Cf 4) [3, 9, 3, 3] l := h
  obtain ⟨_, _, rfl, h0, h⟩ := h
  obtain ⟨_, _, rfl, h1, h⟩ := h
  obtain ⟨_, _, rfl, h2, h⟩ := h
  obtain ⟨_, _, rfl, h3, h⟩ := h
  subst h
  obtain ⟨x0, rfl, g0⟩ := rd3_4 h0
  obtain ⟨x1, rfl, g1⟩ := rd9_4 h1
  obtain ⟨x2, rfl, g2⟩ := rd3_4 h2
  obtain ⟨x3, rfl, g3⟩ := rd3_4 h3
  exact ⟨⟨x0, x1, x2, x3⟩, rfl, ⟨g0, g1, g2, g3⟩⟩

theorem rd3_5 {l : List AV} (h : Ty Cf 5 3 l) : ∃ x : Int, l = iv x ∧ I64 x := by
  obtain ⟨n, rfl, h⟩ := h
  exact ⟨n, rfl, wf64 h⟩

theorem rd22_5 {l : List AV} (h : Ty Cf 5 22 l) : ∃ x : List Int, l = (fun l : List Int => [.ro true true 1 (l.map iv)]) x ∧ I64s x := by
  obtain ⟨rows, rfl, hl, hr⟩ := h
  obtain ⟨x, rfl, hx⟩ := rows_map (fun r hr => rd3_4 hr) rows hr
  exact ⟨x, rfl, by simpa using hl, hx⟩

theorem rd64_6 {l : List AV} (h : Ty Cf 6 64 l) : ∃ x : Job, l = (Job.av true) x ∧ Job.ok x := by
  replace h : Cat (Ty Cf 5) [4, 62, 3, 3, 3, 3, 3, 3, 3, 3, 3, 3, 3, 22, 22] l := h
  obtain ⟨_, _, rfl, h0, h⟩ := h
  obtain ⟨_, _, rfl, h1, h⟩ := h
  obtain ⟨_, _, rfl, h2, h⟩ := h
  obtain ⟨_, _, rfl, h3, h⟩ := h
  obtain ⟨_, _, rfl, h4, h⟩ := h
  obtain ⟨_, _, rfl, h5, h⟩ := h
  obtain ⟨_, _, rfl, h6, h⟩ := h
  obtain ⟨_, _, rfl, h7, h⟩ := h
  obtain ⟨_, _, rfl, h8, h⟩ := h
  obtain ⟨_, _, rfl, h9, h⟩ := h
  obtain ⟨_, _, rfl, h10, h⟩ := h
  obtain ⟨_, _, rfl, h11, h⟩ := h
  obtain ⟨_, _, rfl, h12, h⟩ := h
  obtain ⟨_, _, rfl, h13, h⟩ := h
  obtain ⟨_, _, rfl, h14, h⟩ := h
  subst h
  obtain ⟨x0, rfl, g0⟩ := rd4_5 h0
  obtain ⟨x1, rfl, g1⟩ := rd62_5 h1
  obtain ⟨x2, rfl, g2⟩ := rd3_5 h2
  obtain ⟨x3, rfl, g3⟩ := rd3_5 h3
  obtain ⟨x4, rfl, g4⟩ := rd3_5 h4
  obtain ⟨x5, rfl, g5⟩ := rd3_5 h5
  obtain ⟨x6, rfl, g6⟩ := rd3_5 h6
  obtain ⟨x7, rfl, g7⟩ := rd3_5 h7
  obtain ⟨x8, rfl, g8⟩ := rd3_5 h8
  obtain ⟨x9, rfl, g9⟩ := rd3_5 h9
  obtain ⟨x10, rfl, g10⟩ := rd3_5 h10
  obtain ⟨x11, rfl, g11⟩ := rd3_5 h11
  obtain ⟨x12, rfl, g12⟩ := rd3_5 h12
  obtain ⟨x13, rfl, g13⟩ := rd22_5 h13
  obtain ⟨x14, rfl, g14⟩ := rd22_5 h14
  exact ⟨⟨x0, x1, x2, x3, x4, x5, x6, x7, x8, x9, x10, x11, x12, x13, x14⟩, rfl, ⟨g1, g2, g3, g4, g5, g6, g7, g8, g9, g10, g11, g12, g13, g14⟩⟩

theorem rd23_7 {l : List AV} (h : Ty Cf 7 23 l) : ∃ x : List Job, l = (fun l : List Job => [.ro true false 18 (l.map (Job.av true))]) x ∧ (fun l : List Job => l.length ≤ maxLen ∧ ∀ x ∈ l, Job.ok x) x := by
  obtain ⟨rows, rfl, hl, hr⟩ := h
  obtain ⟨x, rfl, hx⟩ := rows_map (fun r hr => rd64_6 hr) rows hr
  exact ⟨x, rfl, by simpa using hl, hx⟩

theorem rd3_3 {l : List AV} (h : Ty Cf 3 3 l) : ∃ x : Int, l = iv x ∧ I64 x := by
  obtain ⟨n, rfl, h⟩ := h
  exact ⟨n, rfl, wf64 h⟩

theorem rd9_3 {l : List AV} (h : Ty Cf 3 9 l) : ∃ x : ByteArray, l = sv x ∧ (fun s : ByteArray => s.size ≤ maxLen) x := by
  obtain ⟨x, rfl, h⟩ := h
  exact ⟨x, rfl, h⟩

theorem rd62_4 {l : List AV} (h : Ty Cf 4 62 l) : ∃ x : Op, l = Op.av x ∧ Op.ok x := by
  replace h : Cat (Ty Cf 3) [3, 9, 3, 3] l := h
  obtain ⟨_, _, rfl, h0, h⟩ := h
  obtain ⟨_, _, rfl, h1, h⟩ := h
  obtain ⟨_, _, rfl, h2, h⟩ := h
  obtain ⟨_, _, rfl, h3, h⟩ := h
  subst h
  obtain ⟨x0, rfl, g0⟩ := rd3_3 h0
  obtain ⟨x1, rfl, g1⟩ := rd9_3 h1
  obtain ⟨x2, rfl, g2⟩ := rd3_3 h2
  obtain ⟨x3, rfl, g3⟩ := rd3_3 h3
  exact ⟨⟨x0, x1, x2, x3⟩, rfl, ⟨g0, g1, g2, g3⟩⟩

theorem rd66_5 {l : List AV} (h : Ty Cf 5 66 l) : ∃ x : List Op, l = (fun l : List Op => [.ro true true 4 (l.map Op.av)]) x ∧ (fun l : List Op => l.length ≤ maxLen ∧ ∀ x ∈ l, Op.ok x) x := by
  obtain ⟨rows, rfl, hl, hr⟩ := h
  obtain ⟨x, rfl, hx⟩ := rows_map (fun r hr => rd62_4 hr) rows hr
  exact ⟨x, rfl, by simpa using hl, hx⟩

theorem rd68_6 {l : List AV} (h : Ty Cf 6 68 l) : ∃ x : Queue, l = (Queue.av true) x ∧ Queue.ok x := by
  replace h : Cat (Ty Cf 5) [66] l := h
  obtain ⟨_, _, rfl, h0, h⟩ := h
  subst h
  obtain ⟨x0, rfl, g0⟩ := rd66_5 h0
  exact ⟨⟨x0⟩, rfl, ⟨g0⟩⟩

theorem rd24_7 {l : List AV} (h : Ty Cf 7 24 l) : ∃ x : List Queue, l = (fun l : List Queue => [.ro true false 1 (l.map (Queue.av true))]) x ∧ (fun l : List Queue => l.length ≤ maxLen ∧ ∀ x ∈ l, Queue.ok x) x := by
  obtain ⟨rows, rfl, hl, hr⟩ := h
  obtain ⟨x, rfl, hx⟩ := rows_map (fun r hr => rd68_6 hr) rows hr
  exact ⟨x, rfl, by simpa using hl, hx⟩

theorem rd4_3 {l : List AV} (h : Ty Cf 3 4 l) : ∃ x : Bool, l = (fun b => [.b b]) x ∧ (fun _ => True) x := by
  obtain ⟨b, rfl⟩ := h
  exact ⟨b, rfl, trivial⟩

theorem rd101_4 {l : List AV} (h : Ty Cf 4 101 l) : ∃ x : Row, l = Row.av x ∧ Row.ok x := by
  replace h : Cat (Ty Cf 3) [9, 3, 3, 4, 3, 3, 3, 3, 3, 3] l := h
  obtain ⟨_, _, rfl, h0, h⟩ := h
  obtain ⟨_, _, rfl, h1, h⟩ := h
  obtain ⟨_, _, rfl, h2, h⟩ := h
  obtain ⟨_, _, rfl, h3, h⟩ := h
  obtain ⟨_, _, rfl, h4, h⟩ := h
  obtain ⟨_, _, rfl, h5, h⟩ := h
  obtain ⟨_, _, rfl, h6, h⟩ := h
  obtain ⟨_, _, rfl, h7, h⟩ := h
  obtain ⟨_, _, rfl, h8, h⟩ := h
  obtain ⟨_, _, rfl, h9, h⟩ := h
  subst h
  obtain ⟨x0, rfl, g0⟩ := rd9_3 h0
  obtain ⟨x1, rfl, g1⟩ := rd3_3 h1
  obtain ⟨x2, rfl, g2⟩ := rd3_3 h2
  obtain ⟨x3, rfl, g3⟩ := rd4_3 h3
  obtain ⟨x4, rfl, g4⟩ := rd3_3 h4
  obtain ⟨x5, rfl, g5⟩ := rd3_3 h5
  obtain ⟨x6, rfl, g6⟩ := rd3_3 h6
  obtain ⟨x7, rfl, g7⟩ := rd3_3 h7
  obtain ⟨x8, rfl, g8⟩ := rd3_3 h8
  obtain ⟨x9, rfl, g9⟩ := rd3_3 h9
  exact ⟨⟨x0, x1, x2, x3, x4, x5, x6, x7, x8, x9⟩, rfl, ⟨g0, g1, g2, g4, g5, g6, g7, g8, g9⟩⟩

theorem rd70_5 {l : List AV} (h : Ty Cf 5 70 l) : ∃ x : List Row, l = (fun l : List Row => [.ro true true 10 (l.map Row.av)]) x ∧ (fun l : List Row => l.length ≤ maxLen ∧ ∀ x ∈ l, Row.ok x) x := by
  obtain ⟨rows, rfl, hl, hr⟩ := h
  obtain ⟨x, rfl, hx⟩ := rows_map (fun r hr => rd101_4 hr) rows hr
  exact ⟨x, rfl, by simpa using hl, hx⟩

theorem rd72_6 {l : List AV} (h : Ty Cf 6 72 l) : ∃ x : Evt, l = (Evt.av true) x ∧ Evt.ok x := by
  replace h : Cat (Ty Cf 5) [3, 3, 3, 3, 62, 3, 3, 3, 3, 70] l := h
  obtain ⟨_, _, rfl, h0, h⟩ := h
  obtain ⟨_, _, rfl, h1, h⟩ := h
  obtain ⟨_, _, rfl, h2, h⟩ := h
  obtain ⟨_, _, rfl, h3, h⟩ := h
  obtain ⟨_, _, rfl, h4, h⟩ := h
  obtain ⟨_, _, rfl, h5, h⟩ := h
  obtain ⟨_, _, rfl, h6, h⟩ := h
  obtain ⟨_, _, rfl, h7, h⟩ := h
  obtain ⟨_, _, rfl, h8, h⟩ := h
  obtain ⟨_, _, rfl, h9, h⟩ := h
  subst h
  obtain ⟨x0, rfl, g0⟩ := rd3_5 h0
  obtain ⟨x1, rfl, g1⟩ := rd3_5 h1
  obtain ⟨x2, rfl, g2⟩ := rd3_5 h2
  obtain ⟨x3, rfl, g3⟩ := rd3_5 h3
  obtain ⟨x4, rfl, g4⟩ := rd62_5 h4
  obtain ⟨x5, rfl, g5⟩ := rd3_5 h5
  obtain ⟨x6, rfl, g6⟩ := rd3_5 h6
  obtain ⟨x7, rfl, g7⟩ := rd3_5 h7
  obtain ⟨x8, rfl, g8⟩ := rd3_5 h8
  obtain ⟨x9, rfl, g9⟩ := rd70_5 h9
  exact ⟨⟨x0, x1, x2, x3, x4, x5, x6, x7, x8, x9⟩, rfl, ⟨g0, g1, g2, g3, g4, g5, g6, g7, g8, g9⟩⟩

theorem rd25_7 {l : List AV} (h : Ty Cf 7 25 l) : ∃ x : List Evt, l = (fun l : List Evt => [.ro true false 13 (l.map (Evt.av true))]) x ∧ (fun l : List Evt => l.length ≤ maxLen ∧ ∀ x ∈ l, Evt.ok x) x := by
  obtain ⟨rows, rfl, hl, hr⟩ := h
  obtain ⟨x, rfl, hx⟩ := rows_map (fun r hr => rd72_6 hr) rows hr
  exact ⟨x, rfl, by simpa using hl, hx⟩

theorem rd3_7 {l : List AV} (h : Ty Cf 7 3 l) : ∃ x : Int, l = iv x ∧ I64 x := by
  obtain ⟨n, rfl, h⟩ := h
  exact ⟨n, rfl, wf64 h⟩

theorem rd27_8 {l : List AV} (h : Ty Cf 8 27 l) : ∃ x : World', l = (World'.av true) x ∧ World'.ok x := by
  replace h : Cat (Ty Cf 7) [22, 23, 24, 25, 3, 3] l := h
  obtain ⟨_, _, rfl, h0, h⟩ := h
  obtain ⟨_, _, rfl, h1, h⟩ := h
  obtain ⟨_, _, rfl, h2, h⟩ := h
  obtain ⟨_, _, rfl, h3, h⟩ := h
  obtain ⟨_, _, rfl, h4, h⟩ := h
  obtain ⟨_, _, rfl, h5, h⟩ := h
  subst h
  obtain ⟨x0, rfl, g0⟩ := rd22_7 h0
  obtain ⟨x1, rfl, g1⟩ := rd23_7 h1
  obtain ⟨x2, rfl, g2⟩ := rd24_7 h2
  obtain ⟨x3, rfl, g3⟩ := rd25_7 h3
  obtain ⟨x4, rfl, g4⟩ := rd3_7 h4
  obtain ⟨x5, rfl, g5⟩ := rd3_7 h5
  exact ⟨⟨x0, x1, x2, x3, x4, x5⟩, rfl, ⟨g0, g1, g2, g3, g4, g5⟩⟩
theorem law_all {xs : List AV} (h : All2 (TyA Cf 8) [27] xs) : RO Cf Try.prog 3 xs (.b true) := by
  obtain ⟨y0, xs, rfl, ⟨l0, h0, e0⟩, h⟩ := All2_cons h
  obtain rfl := All2_nil h
  obtain ⟨a0, rfl, g0⟩ := rd27_8 h0
  replace e0 : y0 = .ag ((World'.av true) a0) := e0
  subst e0
  exact law_FnExactInside a0 g0
end
end Go.Proofs.Ytfppiankgapakaa.Ev
namespace Go.Proofs.Ytfppiankgapakaa.fnExactInside
open Go Go.ChangeShapes Go.WideShapes Go.ChangeAt Go.RowKit
theorem own : ownKnob Try.prog.godebug = none := by kernel_rfl
theorem laidOut : laidOutB Try.prog = true := by kernel_rfl
set_option maxRecDepth 100000 in
theorem lifted (os : Os) (started : os.Started) (H : Type) (enc : TypeId × Value → H) :
    ReturnsInHanded {} Try.checked os 3 .any (Rows.fnExactInsideSpec.pre6 enc Try.prog Try.f3 Rows.fnExactInsideRow.domain false) (Rows.fnExactInsideSpec.post enc Try.prog Try.f3 false true false false) := by
  refine returnsInHanded_of_change_sized (C := Try.checked) own started (by kernel_rfl) Try.func3
    (ChangeSpec.witness6 (enc := enc) (C := Try.checked) false ⟨#[], #[.agg #[.slice none 0 0, .slice none 0 0, .slice none 0 0, .slice none 0 0, .int .i64 0, .int .i64 0]], []⟩ 8 (by kernel_rfl) (by kernel_rfl) (by kernel_rfl) (by kernel_rfl)) ?_
  intro W base args ds gs before hval0 hW hcnd hsz0 _
  have hval : ∀ (j : Nat) t v, Try.f3.params[j]? = some t → args[j]? = some v → Value.okWide Try.prog W .any base t v := hval0
  have hW' := hW
  obtain ⟨p, q, hA0, hV, rfl, hfz, hnd⟩ := hW
  have hA : DataW.TrodAll enc Try.prog W 0 (fun _ => true) true Try.f3.params.toList args.toList ds p := hA0
  rw [Try.params3] at hA hval
  obtain ⟨rfl, rfl⟩ := trodVars_none hV
  obtain ⟨xs, hx, hty⟩ := Go.Proofs.Ytfppiankgapakaa.Ev.open_args Go.Proofs.Ytfppiankgapakaa.Ev.Cf_ok.ty [27] args.toList ds p (Go.Proofs.Ytfppiankgapakaa.Ev.allB_spec (f := fun t => Go.Proofs.Ytfppiankgapakaa.Ev.wkTy Go.Proofs.Ytfppiankgapakaa.Ev.Cf 8 t) (by decide +kernel)) (fun j t v h1 h2 => hval j t v (by simpa using h1) (by simpa using h2)) hA
  refine (Go.Proofs.Ytfppiankgapakaa.Ev.law_calls (vals := args.toList) (Go.Proofs.Ytfppiankgapakaa.Ev.enter_of Go.Proofs.Ytfppiankgapakaa.Ev.Cf_ok (by rfl) Try.func3 rfl _ _) (Go.Proofs.Ytfppiankgapakaa.Ev.law_all hty) hx (by intro x hx; cases hx)).mono fun e W' ⟨he, bel⟩ => ?_
  subst he
  have keep := Go.Proofs.Ytfppiankgapakaa.Ev.keep_args laidOut [27] args.toList ds p (Go.Proofs.Ytfppiankgapakaa.Ev.allB_spec (f := fun t => Try.prog.readableRec t) (by kernel_rfl)) (fun t ht => of_decide_eq_true (Go.Proofs.Ytfppiankgapakaa.Ev.allB_spec (f := fun t => decide (t < Try.prog.types.size)) (by kernel_rfl) t ht)) hA bel
  have hlen := Go.Proofs.Ytfppiankgapakaa.Ev.args_size hA
  obtain ⟨v0, vs0, d0, ds0, p0, q0, hargs, rfl, rfl, h0, r0⟩ := trodAll_cons hA
  obtain ⟨rfl, rfl, rfl⟩ := trodAll_nil r0
  exact ⟨_, rfl, _, _, _, [], _, [], hW', trodAll_mk1 (shut_bool Try.underlying4 _), keep, rfl, bel.frame _, fun h => by cases h⟩
theorem over : Rows.fnExactInsideRow.holds Try.pinned (OpenSpec.ofChange Rows.fnExactInsideSpec) :=
  OpenClaim.holds_of_wide 3 Try.f3 rfl rfl rfl rfl rfl rfl rfl ⟨rfl, rfl, rfl, rfl, rfl⟩ rfl rfl rfl rfl rfl (by kernel_rfl) Try.func3 (by kernel_rfl)
    (of_decide_eq_true (by kernel_rfl)) (by unfold Func.isWrapper; first | (rw [if_pos (by decide +kernel)]; kernel_rfl) | (rw [if_neg (by decide +kernel)]; exact ⟨rfl, rfl⟩))
    (fun os started H enc _ => lifted os started H enc)
theorem proved : Rows.FnExactInsideSaid := over
end Go.Proofs.Ytfppiankgapakaa.fnExactInside

namespace Go.Proofs.Ytfppiankgapakaa
theorem fnExactInside_holds : Rows.FnExactInsideSaid := fnExactInside.proved
end Go.Proofs.Ytfppiankgapakaa
