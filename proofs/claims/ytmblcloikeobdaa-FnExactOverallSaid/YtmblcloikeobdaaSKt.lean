/- Contracts: what the functions of this part return, for arguments as each contract says. -/
import Derived.Test.YtmblcloikeobdaaEvD
import Derived.Test.YtmblcloikeobdaaEvTab
import Derived.Test.YtmblcloikeobdaaSTy
set_option linter.constructorNameAsVariable false
set_option linter.unusedVariables false
set_option linter.unusedSimpArgs false
set_option linter.unusedVariables false
set_option maxHeartbeats 4000000
set_option maxRecDepth 20000
set_option linter.unusedSimpArgs false
set_option linter.constructorNameAsVariable false
namespace Go.Proofs.Ytmblcloikeobdaa.Ev
open Go Go.Proofs
attribute [local irreducible] RO Fn IntKind.wrap TriL
/- contracts whose booleans are known -/
theorem back_bool {hp : Hp} {d : Nat} {r0 : AV} {b : Bool} (h : Back hp (d + 1) r0 (.b b)) : r0 = .b b ∨ r0 = .k b := by
  cases r0 with
  | k x =>
    rcases h with h | h
    · injection h with h; exact .inr (by rw [h])
    · cases h
  | b x => exact .inl (by have := (show AV.b b = AV.b x from h); exact this.symm)
  | sl id lo len =>
    exfalso
    simp only [Back] at h
    split at h
    · obtain ⟨rows, _, h2⟩ := h
      split at h2
      · cases h2
      · obtain ⟨r, _, h3⟩ := h2; cases h3
    · exact h
  | nl => obtain ⟨_, _, h⟩ := h; cases h
  | ag l => obtain ⟨_, _, h⟩ := h; cases h
  | tp l => obtain ⟨_, _, h⟩ := h; cases h
  | pt _ _ _ => exact h.elim
  | lp _ _ => exact h.elim
  | fn _ _ => exact h.elim
  | sc _ _ _ _ => exact h.elim
  | _ => exact absurd (show AV.b b = _ from h) (by intro e; cases e)
theorem VR_k {J : Inj} {w : World} {r0 : AV} {b : Bool} {v : Value} (h : r0 = .b b ∨ r0 = .k b) (hr : VR J w r0 v) : VR J w (.k b) v := by
  rcases h with rfl | rfl
  · exact hr
  · exact hr
theorem RO_kt {C : Cfg} {P : Program} {f : Nat} {args : List AV} {b : Bool} (h : RO C P f args (.b b)) : RO C P f args (.k b) := by
  unfold RO at *
  intro J w vals hG hI hv
  refine (h J w vals hG hI hv).mono ?_
  rintro v w' ⟨r0, hp', J', hB, E, I, hr⟩
  exact ⟨.k b, hp', J', Or.inr rfl, E, I, VR_k (back_bool hB) hr⟩
theorem RO_ktp {C : Cfg} {P : Program} {f : Nat} {args : List AV} {x : AV} {b : Bool} (h : RO C P f args (.tp [x, .b b])) : RO C P f args (.tp [x, .k b]) := by
  unfold RO at *
  intro J w vals hG hI hv
  refine (h J w vals hG hI hv).mono ?_
  rintro v w' ⟨r0, hp', J', hB, E, I, hr⟩
  cases r0 with
  | tp l =>
    obtain ⟨l2, h1, h2⟩ := hB
    injection h2 with h2
    subst h2
    match l, h1, hr with
    | [a, c], ⟨q1, q2, q3⟩, hr =>
      obtain ⟨cs, e, hc⟩ := hr
      match cs, hc with
      | [v1, v2], ⟨g1, g2, g3⟩ =>
        exact ⟨.tp [a, .k b], hp', J', ⟨[x, .k b], ⟨q1, Or.inr rfl, trivial⟩, rfl⟩, E, I, ⟨_, e, g1, VR_k (back_bool q2) g2, g3⟩⟩
  | sl id lo len =>
    exfalso
    simp only [Back] at hB
    split at hB
    · obtain ⟨rows, _, h2⟩ := hB
      split at h2
      · cases h2
      · obtain ⟨r, _, h3⟩ := h2; cases h3
    · exact hB
  | nl => obtain ⟨_, _, h⟩ := hB; cases h
  | ag l => obtain ⟨_, _, h⟩ := hB; cases h
  | k x => rcases hB with h | h <;> cases h
  | pt _ _ _ => exact hB.elim
  | lp _ _ => exact hB.elim
  | fn _ _ => exact hB.elim
  | sc _ _ _ _ => exact hB.elim
  | _ => exact absurd (show AV.tp _ = _ from hB) (by intro e; cases e)

end Go.Proofs.Ytmblcloikeobdaa.Ev
