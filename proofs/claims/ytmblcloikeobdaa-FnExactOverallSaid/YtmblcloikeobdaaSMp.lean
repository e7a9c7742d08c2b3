/- Contracts: what the functions of this part return, for arguments as each contract says. -/
import Derived.Test.YtmblcloikeobdaaEvD
import Derived.Test.YtmblcloikeobdaaEvTab
import Derived.Test.YtmblcloikeobdaaSTy
import Derived.Test.YtmblcloikeobdaaSKb
import Derived.Test.YtmblcloikeobdaaSLb
import Derived.Test.YtmblcloikeobdaaSRw
import Derived.Test.YtmblcloikeobdaaSFr
import Derived.Test.YtmblcloikeobdaaSMk
import Derived.Test.YtmblcloikeobdaaSTl
import Derived.Test.YtmblcloikeobdaaSDh
import Derived.Test.YtmblcloikeobdaaSIs
import Derived.Test.YtmblcloikeobdaaEvE
set_option linter.constructorNameAsVariable false
set_option linter.unusedVariables false
set_option linter.unusedSimpArgs false
set_option linter.unusedVariables false
set_option maxHeartbeats 4000000
set_option maxRecDepth 20000
set_option linter.unusedSimpArgs false
set_option linter.constructorNameAsVariable false
namespace Go.Proofs.Ytmblcloikeobdaa.Ev
open Go Go.Proofs
attribute [local irreducible] RO Fn IntKind.wrap TriL
/- merging reports: the pure part, Clone -/
def leS (a b : ByteArray) : Bool := Op.bytesLess a.toList b.toList || a.toList == b.toList
theorem Fx_one {C : Cfg} {P : Program} {f n wd : Nat} {args : List AV} {rows : List (List AV)} (h : Fx C P f args [] (fun r hp => ∃ id, r = .sl id 0 n ∧ at? hp id = some (some ⟨wd, true, rows⟩))) : Fn C P f args [] (.sl 0 0 n) [some ⟨wd, true, rows⟩] := by
  unfold Fx at h
  unfold Fn
  intro J w vals hG hI hv
  refine (h J w vals hG hI hv).mono ?_
  rintro v w' ⟨r, hp1, J1, ⟨id, rfl, hat⟩, E1, I1, hr⟩
  have R1 : Rel J1 (fun _ => 0) w' { tmps := #[v], defers := [] } ⟨[.sl id 0 n], [], hp1⟩ := by
    refine ⟨I1, rfl, ?_, by intro s c h; simp [at?] at h, by rintro s s' ⟨c, h⟩; simp [at?] at h, by rintro s i x ⟨c, h⟩; simp [at?] at h, rfl⟩
    intro t ht
    have : t = 0 := by simpa using ht
    subst this
    exact VR_EV hr
  have g : GhS 0 ⟨[.sl id 0 n], [], hp1⟩ ⟨[.sl 0 0 n], [], [some ⟨wd, true, rows⟩]⟩ :=
    gh_ren (σ := [id]) (by simp [nodupB, headOk]) (by simp [renL, ren, idx]) rfl ⟨by rw [hat]; exact .inl ⟨rfl, by simp⟩, trivial⟩
  obtain ⟨J2, E2, R2⟩ := g J1 _ w' _ R1
  exact ⟨J2, (Ext.transN (E1.low 0) E2).unlow hI, R2.inv, EV_VR (R2.env 0 (by simp)) rfl⟩
theorem slices_CloneRow (l : List Row) (hl : l.length ≤ 1048576) : Fn Cf Try.prog 23 [.ro true true 10 (l.map Row.av)] [] (.sl 0 0 l.length) [some ⟨10, true, l.map Row.av⟩] := by
  have hlm : (l.map Row.av).length = l.length := List.length_map _
  refine fnP_Fn Cf_ok (by rfl) ?_
  repeat' first | refine And.intro rfl ?_ | (refine And.intro (fun h => ?_) (fun h => ?_) <;> (try simp only [decide_eq_true_eq, decide_eq_false_iff_not, Bool.not_eq_true', Bool.not_eq_false', Bool.and_eq_true, Bool.or_eq_true, Bool.not_eq_eq_eq_not, Bool.not_true, Bool.not_false, beq_iff_eq, bne_iff_ne, beq_eq_false_iff_ne, bne_eq_false_iff_eq, Nat.not_lt, Int.not_lt, Int.not_le, wrap_byteAt, List.length_map, eqB_Row, eqB_Op, eqB_Rec, toList_inj, toList_nil, ne_eq, Int.toNat_natCast] at h) <;> (try simp only [wrap64] at h) <;> (try (exfalso; first | exact absurd h Bool.false_ne_true | exact absurd h.symm Bool.false_ne_true | exact h trivial | exact h rfl | omega))) | refine And.intro ⟨by (first | omega | (simp only [wrap64, maxLen, List.length_map, List.length_append, List.length_cons, List.length_nil, Int.toNat_natCast] at *; omega)), by (first | omega | (simp only [wrap64, maxLen, List.length_map, List.length_append, List.length_cons, List.length_nil, Int.toNat_natCast] at *; omega))⟩ ?_ | refine And.intro (show (_ : Int) ≠ 0 by decide) ?_ | refine And.intro ⟨by (first | omega | (simp only [wrap64, maxLen, List.length_map, List.length_append, List.length_cons, List.length_nil, Int.toNat_natCast] at *; omega)), by (first | omega | (simp only [wrap64, maxLen, List.length_map, List.length_append, List.length_cons, List.length_nil, Int.toNat_natCast] at *; omega)), room (by exact rfl) (by (first | omega | (simp only [wrap64, maxLen, List.length_map, List.length_append, List.length_cons, List.length_nil, Int.toNat_natCast] at *; omega))) (by (first | omega | (simp only [wrap64, maxLen, List.length_map, List.length_append, List.length_cons, List.length_nil, Int.toNat_natCast] at *; omega)))⟩ ?_ | refine And.intro (roomN (by exact rfl) (by (first | omega | (simp only [wrap64, maxLen, List.length_map, List.length_append, List.length_cons, List.length_nil, Int.toNat_natCast] at *; omega)))) ?_ | exact trivial | exact rfl | refine Exists.intro _ (And.intro rfl ?_) | refine' cut1 _ ?_ ?_ | refine And.intro (deep_ag (by exact rfl) (by exact rfl)) ?_ | refine And.intro (deep_ag2 (by repeat' first | exact trivial | refine And.intro (by exact rfl) ?_)) ?_ | refine And.intro (deep_sl (by exact rfl) (by first | exact (List.length_map _).symm | assumption | exact rfl | (simp; done))) ?_ | refine And.intro (deep_rows (by intro x hx; repeat' first | exact trivial | refine And.intro (by exact rfl) ?_)) ?_ | refine And.intro (by exact rfl) ?_ | refine And.intro (Or.inl (by exact rfl)) ?_ | (rintro (bb : Bool) hbb) | (refine' Exists.intro _ (Exists.intro _ (And.intro (show rowsR _ _ _ _ _ from ?_) (And.intro (show bytesOf _ = _ from ?_) ?_)))) | (refine' Exists.intro _ (Exists.intro _ (And.intro (show rowsR _ _ _ _ _ from ?_) (And.intro (show rowsR _ _ _ _ _ from ?_) (And.intro ?_ ?_))))) | (refine cut_full _ ?_; first | assumption | exact (List.length_map _).symm | exact rfl | (simp; done)) | refine roomN (by exact rfl) (by (first | omega | (simp only [wrap64, maxLen, List.length_map, List.length_append, List.length_cons, List.length_nil, Int.toNat_natCast] at *; omega))) | refine And.intro (show ByteArray.size _ + ByteArray.size _ ≤ _ from by (first | omega | (simp only [size_mk, size_add, List.size_toArray, List.length_cons, List.length_nil, maxLen] at *; omega))) ?_ | refine Exists.intro _ (And.intro (by with_unfolding_all exact rfl) ?_) | refine And.intro (by decide +kernel) ?_ | refine Exists.intro _ (And.intro (at_map (by (first | omega | (simp only [wrap64, maxLen, List.length_map, List.length_append, List.length_cons, List.length_nil, Int.toNat_natCast] at *; omega)))) ?_) | (refine wrap_id' ?_; (first | omega | (simp only [wrap64, maxLen, List.length_map, List.length_append, List.length_cons, List.length_nil, Int.toNat_natCast] at *; omega))) | refine And.intro ?_ ?_ | fail
  all_goals first
    | (have he : l = [] := List.map_eq_nil_iff.1 (hbb h)
       subst he
       exact gh_nil (h' := []) (e := [some ⟨10, true, []⟩]) ⟨.inr ⟨rfl, 0, rfl⟩, trivial⟩ trivial trivial ⟨rfl, trivial⟩)
    | (refine gh_ren (σ := [1]) (h' := [some ⟨10, true, l.map Row.av⟩]) rfl ?_ rfl ⟨.inl ⟨rfl, rfl⟩, trivial⟩; simp [renL, ren, idx])
   
/-! the merge -/
def gtS (r : Row) (x : Row) : Bool := !leS x.key r.key
def sameK (r : Row) (x : Row) : Bool := decide (x.key = r.key)
theorem findIdx_or {α : Type} (p : α → Bool) : ∀ (l : List α) (n : Nat), (findIdx p l n = -1 ∧ ∀ x ∈ l, p x = false) ∨ ∃ i : Nat, ∃ h : i < l.length, findIdx p l n = ((n + i : Nat) : Int) ∧ p l[i] = true ∧ ∀ j (hj : j < i), p (l[j]'(by omega)) = false
  | [], n => .inl ⟨rfl, by simp⟩
  | x :: l, n => by
    rw [findIdx_cons]
    cases hx : p x with
    | true => exact .inr ⟨0, by simp, by simp, hx, fun j hj => by omega⟩
    | false =>
      simp only [Bool.false_eq_true, if_false]
      rcases findIdx_or p l (n + 1) with ⟨h1, h2⟩ | ⟨i, hi, h1, h2, h3⟩
      · refine .inl ⟨h1, fun y hy => ?_⟩
        rcases List.mem_cons.1 hy with rfl | hy
        · exact hx
        · exact h2 y hy
      · refine .inr ⟨i + 1, by simpa using hi, by rw [h1]; congr 1; omega, h2, fun j hj => ?_⟩
        cases j with
        | zero => exact hx
        | succ j => exact h3 j (by omega)
def plcR (l : List Row) (r : Row) : Nat := if findIdx (gtS r) l 0 < 0 then l.length else (findIdx (gtS r) l 0).toNat
def putR (l : List Row) (r : Row) : List Row := l.take (plcR l r) ++ [r] ++ l.drop (plcR l r)
theorem plcR_le (l : List Row) (r : Row) : plcR l r ≤ l.length := by
  unfold plcR
  rcases findIdx_or (gtS r) l 0 with ⟨h1, _⟩ | ⟨i, hi, h1, _, _⟩
  · rw [if_pos (by omega)]; exact Nat.le_refl _
  · rw [if_neg (by omega), h1]; omega
theorem plcR_or (l : List Row) (r : Row) : (plcR l r = l.length ∨ ∃ h : plcR l r < l.length, gtS r l[plcR l r] = true) ∧ ∀ j (hj : j < plcR l r) (hl : j < l.length), gtS r l[j] = false := by
  unfold plcR
  rcases findIdx_or (gtS r) l 0 with ⟨h1, h2⟩ | ⟨i, hi, h1, h2, h3⟩
  · rw [if_pos (by omega)]
    exact ⟨.inl rfl, fun j hj hl => h2 _ (List.getElem_mem hl)⟩
  · have e : (findIdx (gtS r) l 0).toNat = i := by rw [h1]; omega
    simp only [if_neg (show ¬ findIdx (gtS r) l 0 < 0 by omega), e]
    exact ⟨.inr ⟨hi, h2⟩, fun j hj hl => h3 j hj⟩
def mstep (out : List Row) (r : Row) : List Row := if 0 ≤ findIdx (sameK r) out 0 then out.set (findIdx (sameK r) out 0).toNat (mergeRow (out.getD (findIdx (sameK r) out 0).toNat Row.zero) r) else putR out r
def mergeRep (a b : List Row) : List Row := b.foldl mstep a
theorem mstep_len (out : List Row) (r : Row) : (mstep out r).length = out.length ∨ (mstep out r).length = out.length + 1 := by
  unfold mstep
  split
  · left; rw [List.length_set]
  · right
    have := plcR_le out r
    rw [putR, List.length_append, List.length_append, List.length_take, List.length_drop]; simp; omega
theorem mergeRep_at {a b : List Row} {k : Nat} (h : k < b.length) : mergeRep a (b.take (k + 1)) = mstep (mergeRep a (b.take k)) b[k] := by
  rw [mergeRep, List.take_succ_eq_append_getElem h, List.foldl_append]; rfl
theorem mergeRep_len (a b : List Row) : ∀ k, k ≤ b.length → (mergeRep a (b.take k)).length ≤ a.length + k := by
  intro k
  induction k with
  | zero => intro _; exact Nat.le_refl _
  | succ k ih =>
    intro hk
    rw [mergeRep_at (by omega)]
    have := ih (by omega)
    rcases mstep_len (mergeRep a (b.take k)) b[k] with h | h <;> omega

end Go.Proofs.Ytmblcloikeobdaa.Ev
