/- Contracts: what the functions of this part return, for arguments as each contract says. -/
import Derived.Test.YtpgamddjpclbaaaDoorEvD
import Derived.Test.YtpgamddjpclbaaaDoorEvTab
import Derived.Test.YtpgamddjpclbaaaDoorSTy
import Derived.Test.YtpgamddjpclbaaaDoorSKb
import Derived.Test.YtpgamddjpclbaaaDoorSLb
import Derived.Test.YtpgamddjpclbaaaDoorSSp
import Derived.Test.YtpgamddjpclbaaaDoorSSq
import Derived.Test.YtpgamddjpclbaaaDoorSLn
set_option linter.constructorNameAsVariable false
set_option linter.unusedVariables false
set_option linter.unusedSimpArgs false
set_option linter.unusedVariables false
set_option maxHeartbeats 4000000
set_option maxRecDepth 20000
set_option linter.unusedSimpArgs false
set_option linter.constructorNameAsVariable false
namespace Go.Proofs.YtpgamddjpclbaaaDoor.Ev
open Go Go.Proofs
attribute [local irreducible] RO Fn IntKind.wrap TriL
/- no record of a drawn datagram has the key zz -/
def zOk (t : List UInt8) : Prop := cntB 122 t + cntB 10 t ≤ 1 ∧ t ≠ [122]
def zGood (l : List UInt8) : Prop := ∀ a b, l = a ++ 122 :: 122 :: b → ∃ a' y, a = a' ++ [y] ∧ y ≠ (10 : UInt8)
def zTail (l : List UInt8) : Prop := ∀ a, l = a ++ [122] → ∃ a' y, a = a' ++ [y] ∧ y ≠ (10 : UInt8)
theorem cntB_app' (c : Int) : ∀ a b : List UInt8, cntB c (a ++ b) = cntB c a + cntB c b
  | [], b => by simp [cntB]
  | x :: a, b => by rw [List.cons_append, cntB, cntB, cntB_app' c a b]; omega
theorem cnt122 (l : List UInt8) : cntB 122 (122 :: l) = cntB 122 l + 1 := by rw [cntB, if_pos (by decide)]; omega
theorem cnt10 (l : List UInt8) : cntB 10 (10 :: l) = cntB 10 l + 1 := by rw [cntB, if_pos (by decide)]; omega
theorem z_nil : zGood [] ∧ zTail [] := by
  refine ⟨?_, ?_⟩
  · intro a b h; have := congrArg List.length h; simp at this
  · intro a h; have := congrArg List.length h; simp at this
theorem z_step {l t : List UInt8} (h1 : zGood l) (h2 : zTail l) (h3 : zOk t) : zGood (l ++ t) ∧ zTail (l ++ t) := by
  refine ⟨?_, ?_⟩
  · intro a b h
    rcases List.append_eq_append_iff.1 h with ⟨c, e1, e2⟩ | ⟨c, e1, e2⟩
    · exfalso
      have := h3.1
      rw [e2, cntB_app', cnt122, cnt122] at this; omega
    · match c, e1, e2 with
      | [], e1, e2 =>
        exfalso
        have := h3.1
        rw [List.nil_append] at e2
        rw [← e2, cnt122, cnt122] at this; omega
      | [x], e1, e2 =>
        rw [List.singleton_append] at e2
        injection e2 with q1 q2
        subst q1
        exact h2 a e1
      | x :: y :: c', e1, e2 =>
        rw [List.cons_append, List.cons_append] at e2
        injection e2 with q1 q2
        injection q2 with q2 q3
        subst q1; subst q2
        exact h1 a c' e1
  · intro a h
    rcases List.eq_nil_or_concat t with e | ⟨t0, x, e⟩
    · subst e
      rw [List.append_nil] at h
      exact h2 a h
    · rw [List.concat_eq_append] at e
      subst e
      rw [← List.append_assoc] at h
      have hx := List.append_inj_right' h rfl
      have ha := List.append_inj_left' h rfl
      injection hx with hx _
      subst hx
      rcases List.eq_nil_or_concat t0 with e | ⟨t1, y, e⟩
      · subst e
        exact absurd rfl h3.2
      · rw [List.concat_eq_append] at e
        subst e
        refine ⟨l ++ t1, y, by rw [← ha, List.append_assoc], ?_⟩
        rintro rfl
        have := h3.1
        simp only [cntB_app'] at this
        have e1 : cntB 122 [(122 : UInt8)] = 1 := rfl
        have e2 : cntB 10 [(10 : UInt8)] = 1 := rfl
        omega
theorem split_pos {c : Int} : ∀ (l p0 : List UInt8) (ps : List (List UInt8)), splitB c l = p0 :: ps → (∃ b, l = p0 ++ b) ∧ ∀ p ∈ ps, ∃ a x b, l = a ++ x :: (p ++ b) ∧ (x.toNat : Int) = c
  | [], p0, ps, h => by
    simp only [splitB] at h
    injection h with h1 h2
    subst h1; subst h2
    exact ⟨⟨[], rfl⟩, by intro p hp; simp at hp⟩
  | x :: l, p0, ps, h => by
    rw [splitB] at h
    by_cases hx : (x.toNat : Int) = c
    · rw [if_pos hx] at h
      injection h with h1 h2
      subst h1; subst h2
      refine ⟨⟨x :: l, rfl⟩, ?_⟩
      intro p hp
      cases hs : splitB c l with
      | nil => rw [hs] at hp; simp at hp
      | cons q qs =>
        obtain ⟨⟨b, hb⟩, ih⟩ := split_pos l q qs hs
        rw [hs] at hp
        rcases List.mem_cons.1 hp with e | e
        · subst e; exact ⟨[], x, b, by rw [hb]; rfl, hx⟩
        · obtain ⟨a, y, b', e1, e2⟩ := ih p e
          exact ⟨x :: a, y, b', by rw [e1]; rfl, e2⟩
    · rw [if_neg hx] at h
      cases hs : splitB c l with
      | nil => have := splitB_len c l; rw [hs] at this; simp at this
      | cons q qs =>
        rw [hs] at h
        obtain ⟨⟨b, hb⟩, ih⟩ := split_pos l q qs hs
        injection h with h1 h2
        subst h1; subst h2
        refine ⟨⟨b, by rw [hb]; rfl⟩, ?_⟩
        intro p hp
        obtain ⟨a, y, b', e1, e2⟩ := ih p hp
        exact ⟨x :: a, y, b', by rw [e1]; rfl, e2⟩
theorem line_zz {s x : ByteArray} (h : zGood (bs s)) (hx : x ∈ linesS s) : ∀ b, bs x ≠ 122 :: 122 :: b := by
  intro b e
  rw [linesS, linesL, List.mem_filter, List.mem_map] at hx
  obtain ⟨⟨p, hp, rfl⟩, _⟩ := hx
  rw [bs_ofBs] at e
  subst e
  cases hs : splitB 10 (bs s) with
  | nil => rw [hs] at hp; simp at hp
  | cons q qs =>
    obtain ⟨⟨b', hb⟩, ih⟩ := split_pos _ q qs hs
    rw [hs] at hp
    rcases List.mem_cons.1 hp with e | e
    · subst e
      obtain ⟨a', y, e1, _⟩ := h [] (b ++ b') (by rw [hb]; rfl)
      have := congrArg List.length e1; simp at this
    · obtain ⟨a, y, b2, e1, e2⟩ := ih _ e
      obtain ⟨a', y', e3, e4⟩ := h (a ++ [y]) (b ++ b2) (by rw [e1]; simp)
      have := List.append_inj_right' e3 rfl
      injection this with this _
      subst this
      exact e4 (UInt8.toNat_inj.1 (by show y.toNat = 10; omega))

end Go.Proofs.YtpgamddjpclbaaaDoor.Ev
