/- The row: the law FnNets returns true for all its arguments, under no further condition than the given row bears. -/
import Derived.Test.YtpgamddjpclbaaaDoorSFv
import Derived.Test.YtpgamddjpclbaaaDoorTie
import Derived.Test.YtpgamddjpclbaaaDoorCards
import Derived.ProofKit
import Derived.OpenShut
import Derived.LaidMore
import Derived.Lay
import Derived.SevenTiedAt
import Derived.Stop.Joined
import Derived.Lib.LaidTab
import Derived.Stop.LaidErr
set_option linter.constructorNameAsVariable false
set_option linter.unusedVariables false
set_option linter.unusedSimpArgs false
set_option linter.unusedVariables false
set_option linter.unusedSimpArgs false
namespace Go.Proofs.YtpgamddjpclbaaaDoor.Ev
open Go Go.Proofs
section
theorem rd5_7 {l : List AV} (h : Ty Cf 7 5 l) : ∃ x : UInt8, l = bv x ∧ (fun _ => True) x := by
  obtain ⟨n, rfl, h⟩ := h
  exact ⟨UInt8.ofNat n.toNat, by simp only [bv]; have := wf8 h; congr 2; simp; omega, trivial⟩

theorem rd22_8 {l : List AV} (h : Ty Cf 8 22 l) : ∃ x : List UInt8, l = (fun l : List UInt8 => [.ro true true 1 (l.map bv)]) x ∧ (fun l : List UInt8 => l.length ≤ maxLen) x := by
  obtain ⟨rows, rfl, hl, hr⟩ := h
  obtain ⟨x, rfl, hx⟩ := rows_map (fun r hr => rd5_7 hr) rows hr
  exact ⟨x, rfl, by simpa using hl⟩
theorem law_all {xs : List AV} (h : All2 (TyA Cf 8) [22] xs) : RO Cf Tryd.prog 3 xs (.b true) := by
  obtain ⟨y0, xs, rfl, ⟨l0, h0, e0⟩, h⟩ := All2_cons h
  obtain rfl := All2_nil h
  obtain ⟨a0, rfl, g0⟩ := rd22_8 h0
  replace e0 : y0 = nth ((fun l : List UInt8 => [.ro true true 1 (l.map bv)]) a0) 0 := e0
  subst e0
  exact law_FnNets a0 g0
end
end Go.Proofs.YtpgamddjpclbaaaDoor.Ev
namespace Go.Proofs.YtpgamddjpclbaaaDoor.fnNets
open Go Go.ChangeShapes Go.WideShapes Go.ChangeAt Go.RowKit
theorem own : ownKnob Tryd.prog.godebug = none := by kernel_rfl
theorem laidOut : laidOutB Tryd.prog = true := by kernel_rfl
set_option maxRecDepth 100000 in
theorem lifted (os : Os) (started : os.Started) (H : Type) (enc : TypeId × Value → H) :
    ReturnsInHanded {} Tryd.checked os 3 .any (fun w args => (Rows.fnNetsSpec.pre enc Tryd.prog Tryd.f3 Rows.fnNetsRow.domain false w args ∧ laidMetH Tryd.prog Rows.fnNetsRow.laid w) ∧ sizedMet enc Tryd.prog Tryd.f3 (OpenSpec.ofChange Rows.fnNetsSpec) false w args)
      (Rows.fnNetsSpec.post enc Tryd.prog Tryd.f3 false true false false) := by
  refine returnsInHanded_of_change_and (C := Tryd.checked) (X := fun w _ => laidMetH Tryd.prog Rows.fnNetsRow.laid w) (fun _ _ _ hh h => h.of_heap hh) own started (by kernel_rfl) Tryd.func3
    (ChangeSpec.witness_shaped (enc := enc) (C := Tryd.checked) (os := os) (X := fun w _ => laidMetH Tryd.prog Rows.fnNetsRow.laid w) false (World.laidAll Tryd.prog os Rows.fnNetsRow.laid) #[.slice none 0 0] 8 (World.laidAll_os _ _ _)
      (World.shaped_of_ZipB (by kernel_rfl) (by kernel_rfl)) (by kernel_rfl) (by kernel_rfl) (by kernel_rfl)
      (by rw [MakeChecks.laidMetH_plain _ _ _ (by kernel_rfl)]; exact laidMet_laidAll _ (by kernel_rfl) (by kernel_rfl))) ?_
  intro W base args ds gs before hval0 hW hcnd _ hL _
  have hval : ∀ (j : Nat) t v, Tryd.f3.params[j]? = some t → args[j]? = some v → Value.okWide Tryd.prog W .any base t v := hval0
  have hW' := hW
  obtain ⟨p, q, hA0, hV, rfl, hfz, hnd⟩ := hW
  have hA : DataW.TrodAll enc Tryd.prog W 0 (fun _ => true) true Tryd.f3.params.toList args.toList ds p := hA0
  rw [Tryd.params3] at hA hval
  obtain ⟨rfl, rfl⟩ := trodVars_none hV
  obtain ⟨xs, hx, hty⟩ := Go.Proofs.YtpgamddjpclbaaaDoor.Ev.open_args Go.Proofs.YtpgamddjpclbaaaDoor.Ev.Cf_ok.ty [22] args.toList ds p (Go.Proofs.YtpgamddjpclbaaaDoor.Ev.allB_spec (f := fun t => Go.Proofs.YtpgamddjpclbaaaDoor.Ev.wkTy Go.Proofs.YtpgamddjpclbaaaDoor.Ev.Cf 8 t) (by decide +kernel)) (fun j t v h1 h2 => hval j t v (by simpa using h1) (by simpa using h2)) hA
  refine (Go.Proofs.YtpgamddjpclbaaaDoor.Ev.law_calls (vals := args.toList) (Go.Proofs.YtpgamddjpclbaaaDoor.Ev.enter_of Go.Proofs.YtpgamddjpclbaaaDoor.Ev.Cf_ok (by rfl) Tryd.func3 rfl _ _) (Go.Proofs.YtpgamddjpclbaaaDoor.Ev.law_all hty) hx (by intro x hx; cases hx)).mono fun e W' ⟨he, bel⟩ => ?_
  subst he
  have keep := Go.Proofs.YtpgamddjpclbaaaDoor.Ev.keep_args laidOut [22] args.toList ds p (Go.Proofs.YtpgamddjpclbaaaDoor.Ev.allB_spec (f := fun t => Tryd.prog.readableRec t) (by kernel_rfl)) (fun t ht => of_decide_eq_true (Go.Proofs.YtpgamddjpclbaaaDoor.Ev.allB_spec (f := fun t => decide (t < Tryd.prog.types.size)) (by kernel_rfl) t ht)) hA bel
  have hlen := Go.Proofs.YtpgamddjpclbaaaDoor.Ev.args_size hA
  obtain ⟨v0, vs0, d0, ds0, p0, q0, hargs, rfl, rfl, h0, r0⟩ := trodAll_cons hA
  obtain ⟨rfl, rfl, rfl⟩ := trodAll_nil r0
  exact ⟨_, rfl, _, _, _, [], _, [], hW', trodAll_mk1 (shut_bool Tryd.underlying4 _), keep, rfl, bel.frame _, fun h => by cases h⟩
theorem over : Rows.fnNetsRow.holds Tryd.pinned (OpenSpec.ofChange Rows.fnNetsSpec) :=
  OpenClaim.holds_of_wide 3 Tryd.f3 rfl rfl rfl rfl rfl rfl rfl ⟨rfl, rfl, rfl, rfl, rfl⟩ rfl rfl rfl rfl rfl (by kernel_rfl) Tryd.func3 (by kernel_rfl)
    (of_decide_eq_true (by kernel_rfl)) (by unfold Func.isWrapper; first | (rw [if_pos (by decide +kernel)]; kernel_rfl) | (rw [if_neg (by decide +kernel)]; exact ⟨rfl, rfl⟩))
    (fun os started H enc _ => lifted os started H enc)
theorem card : Rows.FnNetsCardSaid :=
  Claim7.holds_tied_plain_at .later [] [.data, .pinned] true (true, "d5e88e9d6e0293b5b4cd4ffcd2f7c6ed45bf9449a3bbd825659d72d946b005bd") false over (fun _ h => by cases h) (by kernel_rfl) (fun _ h => by cases h) fnNets_row_tie rfl ⟨rfl, rfl⟩ (by kernel_rfl) rfl
    (fun f fn hf hfn => by
      obtain rfl : f = 3 := Option.some.inj ((show Tryd.prog.funcNamed "loop.example/g01608/laws.FnNets" = some 3 by kernel_rfl).symm.trans hf) |>.symm
      obtain rfl : fn = Tryd.f3 := (Option.some.inj (Tryd.func3.symm.trans hfn)).symm
      exact ⟨by kernel_rfl, fun j t ht => by
        rw [Tryd.params3] at ht
        have hm : t ∈ [22] := by simpa using Array.mem_of_getElem? ht
        have hall : ([22].all fun u => !Tryd.prog.wantsStandIn u) = true := by kernel_rfl
        exact (show Tryd.prog.wantsStandIn t = false by simpa using List.all_eq_true.1 hall t hm)⟩)
    (by kernel_rfl)
end Go.Proofs.YtpgamddjpclbaaaDoor.fnNets

namespace Go.Proofs.YtpgamddjpclbaaaDoor
theorem fnNets_holds : Rows.FnNetsCardSaid := fnNets.card
end Go.Proofs.YtpgamddjpclbaaaDoor
