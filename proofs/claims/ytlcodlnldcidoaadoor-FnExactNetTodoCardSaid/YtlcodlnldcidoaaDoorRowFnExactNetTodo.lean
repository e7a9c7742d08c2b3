/- The row: the law FnExactNetTodo returns true for all its arguments, under no further condition than the given row bears. -/
import Derived.Test.YtlcodlnldcidoaaDoorSNr
import Derived.Test.YtlcodlnldcidoaaDoorTie
import Derived.Test.YtlcodlnldcidoaaDoorCards
import Derived.ProofKit
import Derived.OpenShut
import Derived.LaidMore
import Derived.Lay
import Derived.SevenTiedAt
import Derived.Stop.Joined
import Derived.Lib.LaidTab
import Derived.Stop.LaidErr
set_option linter.constructorNameAsVariable false
set_option linter.unusedVariables false
set_option linter.unusedSimpArgs false
set_option linter.unusedVariables false
set_option linter.unusedSimpArgs false
namespace Go.Proofs.YtlcodlnldcidoaaDoor.Ev
open Go Go.Proofs
section
theorem rd9_6 {l : List AV} (h : Ty Cf 6 9 l) : ∃ x : ByteArray, l = sv x ∧ (fun s : ByteArray => s.size ≤ maxLen) x := by
  obtain ⟨x, rfl, h⟩ := h
  exact ⟨x, rfl, h⟩

theorem rd22_7 {l : List AV} (h : Ty Cf 7 22 l) : ∃ x : List ByteArray, l = (fun l : List ByteArray => [.ro true true 1 (l.map sv)]) x ∧ Strs x := by
  obtain ⟨rows, rfl, hl, hr⟩ := h
  obtain ⟨x, rfl, hx⟩ := rows_map (fun r hr => rd9_6 hr) rows hr
  exact ⟨x, rfl, by simpa using hl, hx⟩

theorem rd3_5 {l : List AV} (h : Ty Cf 5 3 l) : ∃ x : Int, l = iv x ∧ I64 x := by
  obtain ⟨n, rfl, h⟩ := h
  exact ⟨n, rfl, wf64 h⟩

theorem rd130_6 {l : List AV} (h : Ty Cf 6 130 l) : ∃ x : Send, l = Send.av x ∧ Send.ok x := by
  replace h : Cat (Ty Cf 5) [3, 3] l := h
  obtain ⟨_, _, rfl, h0, h⟩ := h
  obtain ⟨_, _, rfl, h1, h⟩ := h
  subst h
  obtain ⟨x0, rfl, g0⟩ := rd3_5 h0
  obtain ⟨x1, rfl, g1⟩ := rd3_5 h1
  exact ⟨⟨x0, x1⟩, rfl, ⟨g0, g1⟩⟩

theorem rd23_7 {l : List AV} (h : Ty Cf 7 23 l) : ∃ x : List Send, l = (fun l : List Send => [.ro true true 2 (l.map Send.av)]) x ∧ (fun l : List Send => l.length ≤ maxLen ∧ ∀ x ∈ l, Send.ok x) x := by
  obtain ⟨rows, rfl, hl, hr⟩ := h
  obtain ⟨x, rfl, hx⟩ := rows_map (fun r hr => rd130_6 hr) rows hr
  exact ⟨x, rfl, by simpa using hl, hx⟩

theorem rd3_7 {l : List AV} (h : Ty Cf 7 3 l) : ∃ x : Int, l = iv x ∧ I64 x := by
  obtain ⟨n, rfl, h⟩ := h
  exact ⟨n, rfl, wf64 h⟩

theorem rd3_6 {l : List AV} (h : Ty Cf 6 3 l) : ∃ x : Int, l = iv x ∧ I64 x := by
  obtain ⟨n, rfl, h⟩ := h
  exact ⟨n, rfl, wf64 h⟩

theorem rd24_7 {l : List AV} (h : Ty Cf 7 24 l) : ∃ x : List Int, l = (fun l : List Int => [.ro true true 1 (l.map iv)]) x ∧ I64s x := by
  obtain ⟨rows, rfl, hl, hr⟩ := h
  obtain ⟨x, rfl, hx⟩ := rows_map (fun r hr => rd3_6 hr) rows hr
  exact ⟨x, rfl, by simpa using hl, hx⟩

theorem rd26_8 {l : List AV} (h : Ty Cf 8 26 l) : ∃ x : Net, l = (Net.av true) x ∧ Net.ok x := by
  replace h : Cat (Ty Cf 7) [22, 23, 3, 24] l := h
  obtain ⟨_, _, rfl, h0, h⟩ := h
  obtain ⟨_, _, rfl, h1, h⟩ := h
  obtain ⟨_, _, rfl, h2, h⟩ := h
  obtain ⟨_, _, rfl, h3, h⟩ := h
  subst h
  obtain ⟨x0, rfl, g0⟩ := rd22_7 h0
  obtain ⟨x1, rfl, g1⟩ := rd23_7 h1
  obtain ⟨x2, rfl, g2⟩ := rd3_7 h2
  obtain ⟨x3, rfl, g3⟩ := rd24_7 h3
  exact ⟨⟨x0, x1, x2, x3⟩, rfl, ⟨g0, g1, g2, g3⟩⟩
theorem law_all {xs : List AV} (h : All2 (TyA Cf 8) [26] xs) : RO Cf Tryd.prog 7 xs (.b true) := by
  obtain ⟨y0, xs, rfl, ⟨l0, h0, e0⟩, h⟩ := All2_cons h
  obtain rfl := All2_nil h
  obtain ⟨a0, rfl, g0⟩ := rd26_8 h0
  replace e0 : y0 = .ag ((Net.av true) a0) := e0
  subst e0
  exact law_FnExactNetTodo a0 g0
end
end Go.Proofs.YtlcodlnldcidoaaDoor.Ev
namespace Go.Proofs.YtlcodlnldcidoaaDoor.fnExactNetTodo
open Go Go.ChangeShapes Go.WideShapes Go.ChangeAt Go.RowKit
theorem own : ownKnob Tryd.prog.godebug = none := by kernel_rfl
theorem laidOut : laidOutB Tryd.prog = true := by kernel_rfl
set_option maxRecDepth 100000 in
theorem lifted (os : Os) (started : os.Started) (H : Type) (enc : TypeId × Value → H) :
    ReturnsInHanded {} Tryd.checked os 7 .any (fun w args => (Rows.fnExactNetTodoSpec.pre enc Tryd.prog Tryd.f7 Rows.fnExactNetTodoRow.domain false w args ∧ laidMetH Tryd.prog Rows.fnExactNetTodoRow.laid w) ∧ sizedMet enc Tryd.prog Tryd.f7 (OpenSpec.ofChange Rows.fnExactNetTodoSpec) false w args)
      (Rows.fnExactNetTodoSpec.post enc Tryd.prog Tryd.f7 false true false false) := by
  refine returnsInHanded_of_change_and (C := Tryd.checked) (X := fun w _ => laidMetH Tryd.prog Rows.fnExactNetTodoRow.laid w) (fun _ _ _ hh h => h.of_heap hh) own started (by kernel_rfl) Tryd.func7
    (ChangeSpec.witness_shaped (enc := enc) (C := Tryd.checked) (os := os) (X := fun w _ => laidMetH Tryd.prog Rows.fnExactNetTodoRow.laid w) false (World.laidAll Tryd.prog os Rows.fnExactNetTodoRow.laid) #[.agg #[.slice none 0 0, .slice none 0 0, .int .i64 0, .slice none 0 0]] 8 (World.laidAll_os _ _ _)
      (World.shaped_of_ZipB (by kernel_rfl) (by kernel_rfl)) (by kernel_rfl) (by kernel_rfl) (by kernel_rfl)
      (by rw [MakeChecks.laidMetH_plain _ _ _ (by kernel_rfl)]; exact laidMet_laidAll _ (by kernel_rfl) (by kernel_rfl))) ?_
  intro W base args ds gs before hval0 hW hcnd _ hL _
  have hval : ∀ (j : Nat) t v, Tryd.f7.params[j]? = some t → args[j]? = some v → Value.okWide Tryd.prog W .any base t v := hval0
  have hW' := hW
  obtain ⟨p, q, hA0, hV, rfl, hfz, hnd⟩ := hW
  have hA : DataW.TrodAll enc Tryd.prog W 0 (fun _ => true) true Tryd.f7.params.toList args.toList ds p := hA0
  rw [Tryd.params7] at hA hval
  obtain ⟨rfl, rfl⟩ := trodVars_none hV
  obtain ⟨xs, hx, hty⟩ := Go.Proofs.YtlcodlnldcidoaaDoor.Ev.open_args Go.Proofs.YtlcodlnldcidoaaDoor.Ev.Cf_ok.ty [26] args.toList ds p (Go.Proofs.YtlcodlnldcidoaaDoor.Ev.allB_spec (f := fun t => Go.Proofs.YtlcodlnldcidoaaDoor.Ev.wkTy Go.Proofs.YtlcodlnldcidoaaDoor.Ev.Cf 8 t) (by decide +kernel)) (fun j t v h1 h2 => hval j t v (by simpa using h1) (by simpa using h2)) hA
  refine (Go.Proofs.YtlcodlnldcidoaaDoor.Ev.law_calls (vals := args.toList) (Go.Proofs.YtlcodlnldcidoaaDoor.Ev.enter_of Go.Proofs.YtlcodlnldcidoaaDoor.Ev.Cf_ok (by rfl) Tryd.func7 rfl _ _) (Go.Proofs.YtlcodlnldcidoaaDoor.Ev.law_all hty) hx (by intro x hx; cases hx)).mono fun e W' ⟨he, bel⟩ => ?_
  subst he
  have keep := Go.Proofs.YtlcodlnldcidoaaDoor.Ev.keep_args laidOut [26] args.toList ds p (Go.Proofs.YtlcodlnldcidoaaDoor.Ev.allB_spec (f := fun t => Tryd.prog.readableRec t) (by kernel_rfl)) (fun t ht => of_decide_eq_true (Go.Proofs.YtlcodlnldcidoaaDoor.Ev.allB_spec (f := fun t => decide (t < Tryd.prog.types.size)) (by kernel_rfl) t ht)) hA bel
  have hlen := Go.Proofs.YtlcodlnldcidoaaDoor.Ev.args_size hA
  obtain ⟨v0, vs0, d0, ds0, p0, q0, hargs, rfl, rfl, h0, r0⟩ := trodAll_cons hA
  obtain ⟨rfl, rfl, rfl⟩ := trodAll_nil r0
  exact ⟨_, rfl, _, _, _, [], _, [], hW', trodAll_mk1 (shut_bool Tryd.underlying4 _), keep, rfl, bel.frame _, fun h => by cases h⟩
theorem over : Rows.fnExactNetTodoRow.holds Tryd.pinned (OpenSpec.ofChange Rows.fnExactNetTodoSpec) :=
  OpenClaim.holds_of_wide 7 Tryd.f7 rfl rfl rfl rfl rfl rfl rfl ⟨rfl, rfl, rfl, rfl, rfl⟩ rfl rfl rfl rfl rfl (by kernel_rfl) Tryd.func7 (by kernel_rfl)
    (of_decide_eq_true (by kernel_rfl)) (by unfold Func.isWrapper; first | (rw [if_pos (by decide +kernel)]; kernel_rfl) | (rw [if_neg (by decide +kernel)]; exact ⟨rfl, rfl⟩))
    (fun os started H enc _ => lifted os started H enc)
theorem card : Rows.FnExactNetTodoCardSaid :=
  Claim7.holds_tied_plain_at .later [] [.data, .pinned] true (true, "b56cf614e796498b68a4d7846c29b992fa8621cedde53014eb7c5f3028f06b61") false over (fun _ h => by cases h) (by kernel_rfl) (fun _ h => by cases h) fnExactNetTodo_row_tie rfl ⟨rfl, rfl⟩ (by kernel_rfl) rfl
    (fun f fn hf hfn => by
      obtain rfl : f = 7 := Option.some.inj ((show Tryd.prog.funcNamed "loop.example/g01608/laws.FnExactNetTodo" = some 7 by kernel_rfl).symm.trans hf) |>.symm
      obtain rfl : fn = Tryd.f7 := (Option.some.inj (Tryd.func7.symm.trans hfn)).symm
      exact ⟨by kernel_rfl, fun j t ht => by
        rw [Tryd.params7] at ht
        have hm : t ∈ [26] := by simpa using Array.mem_of_getElem? ht
        have hall : ([26].all fun u => !Tryd.prog.wantsStandIn u) = true := by kernel_rfl
        exact (show Tryd.prog.wantsStandIn t = false by simpa using List.all_eq_true.1 hall t hm)⟩)
    (by kernel_rfl)
end Go.Proofs.YtlcodlnldcidoaaDoor.fnExactNetTodo

namespace Go.Proofs.YtlcodlnldcidoaaDoor
theorem fnExactNetTodo_holds : Rows.FnExactNetTodoCardSaid := fnExactNetTodo.card
end Go.Proofs.YtlcodlnldcidoaaDoor
