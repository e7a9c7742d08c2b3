/- Contracts: what the functions of this part return, for arguments as each contract says. -/
import Derived.Test.YtfppiankgapakaaEvD
import Derived.Test.YtfppiankgapakaaEvTab
import Derived.Test.YtfppiankgapakaaSTy
import Derived.Test.YtfppiankgapakaaSKb
import Derived.Test.YtfppiankgapakaaSLb
import Derived.Test.YtfppiankgapakaaSRw
import Derived.Test.YtfppiankgapakaaSFr
import Derived.Test.YtfppiankgapakaaSMk
import Derived.Test.YtfppiankgapakaaSTl
import Derived.Test.YtfppiankgapakaaSDh
import Derived.Test.YtfppiankgapakaaSOb
import Derived.Test.YtfppiankgapakaaSEs
import Derived.Test.YtfppiankgapakaaSDg
import Derived.Test.YtfppiankgapakaaSWd
import Derived.Test.YtfppiankgapakaaSMo
import Derived.Test.YtfppiankgapakaaSDj
import Derived.Test.YtfppiankgapakaaSDk
set_option linter.constructorNameAsVariable false
set_option linter.unusedVariables false
set_option linter.unusedSimpArgs false
set_option linter.unusedVariables false
set_option maxHeartbeats 4000000
set_option maxRecDepth 20000
set_option linter.unusedSimpArgs false
set_option linter.constructorNameAsVariable false
namespace Go.Proofs.Ytfppiankgapakaa.Ev
open Go Go.Proofs
attribute [local irreducible] RO Fn IntKind.wrap TriL
/- marks in jobs, queues and events of one's own -/
theorem st_next {e : List AV} {bx : List (Option (List AV))} {H : Hp} {b k o wd : Nat} {fl' : Bool} {v : AV} {rows : List (List AV)} {c0 c : List AV} {K : St → Prop} (hb : b < H.length) (hk : k < rows.length)
    (hf : (!fl' || allSc (leaves v)) = true) (ho : over (leaves v) o c0 = some c) (q : K ⟨e, bx, upd H b (some ⟨wd, fl', upd rows k c⟩)⟩) : (match at? (St.mk e bx (upd H b (some ⟨wd, fl', upd rows k c0⟩))).hp b with
    | some (some ob) => (!ob.fl || allSc (leaves v)) = true ∧ ∃ row, at? ob.rows k = some row ∧ match over (leaves v) o row with
      | some c => match (St.mk e bx (upd H b (some ⟨wd, fl', upd rows k c0⟩))) with | ⟨e, b', h⟩ => fl c fun c => updK h b (some ⟨ob.wd, ob.fl, upd ob.rows k c⟩) fun h => K ⟨e, b', h⟩
      | none => False
    | _ => False) := by
  refine st_mk2 (at_updS hb) hf (at_updS hk) ho ?_
  have e1 : upd (upd H b (some ⟨wd, fl', upd rows k c0⟩)) b (some ⟨wd, fl', upd (upd rows k c0) k c⟩) = upd H b (some ⟨wd, fl', upd rows k c⟩) := by
    rw [upd_upd]; simp [upd_eq]
  rw [e1]; exact q
theorem len_upd {α : Type} {l : List α} {i : Nat} {x : α} : (upd l i x).length = l.length := by rw [upd_eq, List.length_set]
def jobSz (x : Job) : Nat := x.keys.length + x.raw.length
def queueSz (x : Queue) : Nat := x.ops.length
def evSz (x : Evt) : Nat := x.rows.length
theorem sumS_take {α : Type} {f : α → Nat} {l : List α} {k : Nat} (hk : k < l.length) : ((l.take (k + 1)).map f).sum = ((l.take k).map f).sum + f l[k] := by
  rw [List.take_succ_eq_append_getElem hk, List.map_append, List.sum_append]; simp
theorem sumS_le {α : Type} {f : α → Nat} {l : List α} (k : Nat) : ((l.take k).map f).sum ≤ (l.map f).sum := by
  have : ((l.take k).map f).sum + ((l.drop k).map f).sum = (l.map f).sum := by rw [← List.sum_append, ← List.map_append, List.take_append_drop]
  omega
theorem markI_at {hp : Hp} {i n : Nat} {L : List Int} (hn : L.length = n) (h : at? hp i = some (some ⟨1, true, L.map iv⟩)) (h20 : n ≤ 1048576) (k0 : Int) (h0 : 0 < k0) (h1 : k0 ≤ 1073741824) :
    Fn Cf Try.prog 11 [.sl i 0 n, .i .i64 k0] hp (.i .i64 (k0 + 1 * n)) (upd hp i (some ⟨1, true, (mInt k0 n).map iv⟩)) := by
  subst hn
  exact Fn_at1 i (laws_markIntS L h20 k0 h0 h1) (by have := at_lt h; simpa using this) (ren1 _ _ _ _) h rfl rfl rfl
theorem markO_at {hp : Hp} {i n : Nat} {L : List Op} (hn : L.length = n) (h : at? hp i = some (some ⟨4, true, L.map Op.av⟩)) (h20 : n ≤ 1048576) (k0 : Int) (h0 : 0 < k0) (h1 : k0 ≤ 1073741824) :
    Fn Cf Try.prog 41 [.sl i 0 n, .i .i64 k0] hp (.i .i64 (k0 + 4 * n)) (upd hp i (some ⟨4, true, (mOp k0 n).map Op.av⟩)) := by
  subst hn
  exact Fn_at1 i (laws_markOpS L h20 k0 h0 h1) (by have := at_lt h; simpa using this) (ren1 _ _ _ _) h rfl rfl rfl
theorem own_markQueueS (H0 : Hp) (b : Nat) (l : List Queue) (hA : LAt 1 1 queueRow queueObs H0 b l) (hl : l.length ≤ 1048576) (hs : (l.map queueSz).sum ≤ 1048576) (k0 : Int) (h0 : 0 < k0) (h1 : k0 ≤ 300000000) :
    Fx Cf Try.prog 28 [.sl b 0 l.length, .i .i64 k0] H0 (fun r hp => r = .i .i64 (k0 + 4 * ((l.map queueSz).sum : Int)) ∧ hp.length = H0.length ∧ ∀ i, (i < b ∨ b + 1 + 1 * l.length ≤ i) → at? hp i = at? H0 i) := by
  refine Fx_of Cf_ok ?_
  repeat' first | refine And.intro rfl ?_ | (refine And.intro (fun h => ?_) (fun h => ?_) <;> (try simp only [decide_eq_true_eq, decide_eq_false_iff_not, Bool.not_eq_true', Bool.not_eq_false', Bool.and_eq_true, Bool.or_eq_true, Bool.not_eq_eq_eq_not, Bool.not_true, Bool.not_false, beq_iff_eq, bne_iff_ne, beq_eq_false_iff_ne, bne_eq_false_iff_eq, Nat.not_lt, Int.not_lt, Int.not_le, wrap_byteAt, List.length_map, eqB_Row, eqB_Op, eqB_Rec, toList_inj, toList_nil, ne_eq, Int.toNat_natCast] at h) <;> (try simp only [wrap64] at h) <;> (try (exfalso; first | exact absurd h Bool.false_ne_true | exact absurd h.symm Bool.false_ne_true | exact h trivial | exact h rfl | omega))) | refine And.intro ⟨by (first | omega | (simp only [wrap64, maxLen, List.length_map, List.length_append, List.length_cons, List.length_nil, Int.toNat_natCast] at *; omega)), by (first | omega | (simp only [wrap64, maxLen, List.length_map, List.length_append, List.length_cons, List.length_nil, Int.toNat_natCast] at *; omega))⟩ ?_ | refine And.intro (show (_ : Int) ≠ 0 by decide) ?_ | refine And.intro ⟨by (first | omega | (simp only [wrap64, maxLen, List.length_map, List.length_append, List.length_cons, List.length_nil, Int.toNat_natCast] at *; omega)), by (first | omega | (simp only [wrap64, maxLen, List.length_map, List.length_append, List.length_cons, List.length_nil, Int.toNat_natCast] at *; omega)), room (by exact rfl) (by (first | omega | (simp only [wrap64, maxLen, List.length_map, List.length_append, List.length_cons, List.length_nil, Int.toNat_natCast] at *; omega))) (by (first | omega | (simp only [wrap64, maxLen, List.length_map, List.length_append, List.length_cons, List.length_nil, Int.toNat_natCast] at *; omega)))⟩ ?_ | refine And.intro (roomN (by exact rfl) (by (first | omega | (simp only [wrap64, maxLen, List.length_map, List.length_append, List.length_cons, List.length_nil, Int.toNat_natCast] at *; omega)))) ?_ | exact trivial | exact rfl | refine Exists.intro _ (And.intro rfl ?_) | refine' cut1 _ ?_ ?_ | refine And.intro (deep_ag (by exact rfl) (by exact rfl)) ?_ | refine And.intro (deep_ag2 (by repeat' first | exact trivial | refine And.intro (by exact rfl) ?_)) ?_ | refine And.intro (deep_sl (by exact rfl) (by first | exact (List.length_map _).symm | assumption | exact rfl | (simp; done))) ?_ | refine And.intro (deep_rows (by intro x hx; repeat' first | exact trivial | refine And.intro (by exact rfl) ?_)) ?_ | refine And.intro (by exact rfl) ?_ | refine And.intro (Or.inl (by exact rfl)) ?_ | refine flH_mk ?_ | refine And.intro (show ByteArray.size _ + ByteArray.size _ ≤ _ from by (first | omega | (simp only [size_mk, size_add, List.size_toArray, List.length_cons, List.length_nil, maxLen] at *; omega))) ?_ | refine Exists.intro _ (And.intro (by with_unfolding_all exact rfl) ?_) | refine And.intro (by decide +kernel) ?_ | refine Exists.intro _ (And.intro (at_map (by (first | omega | (simp only [wrap64, maxLen, List.length_map, List.length_append, List.length_cons, List.length_nil, Int.toNat_natCast] at *; omega)))) ?_) | (refine wrap_id' ?_; (first | omega | (simp only [wrap64, maxLen, List.length_map, List.length_append, List.length_cons, List.length_nil, Int.toNat_natCast] at *; omega))) | refine And.intro ?_ ?_ | fail
  refine loop_nat 28 Cf_ok l.length (fun i (p : Int × Hp) => ⟨[.sl b 0 l.length, .i .i64 p.1, .u, .u, .u, .i .i64 i, .u, .u, .u, .u, .u, .u, .u, .u, .u, .u, .u, .u, .u, .u], [none, none, none, none, none, none, none, none, none, none, none, none, none, none, none, none, none, none, none, none], p.2⟩)
    (fun k p => p.1 = k0 + 4 * (((l.take k).map queueSz).sum : Int) ∧ LM 1 1 queueRow queueObs H0 b l k p.2) ?hc ?_ ?_ (_, _) ?_
  case hc => decide +kernel
  · rintro k ⟨m, H⟩ hk ⟨e1, e2⟩ ih
    simp only [] at e1 e2
    have hsk := sumS_take (f := queueSz) hk
    have hsl := sumS_le (f := queueSz) (l := l) (k + 1)
    obtain ⟨rows, g0, g1, g2⟩ := e2.out
    obtain ⟨g3, g4⟩ := g2 k hk (Nat.le_refl _)
    have hob := g4 0 (by show 0 < 1; omega)
    replace hob : at? H (b + 1 + 1 * k) = some (some ⟨4, true, l[k].ops.map Op.av⟩) := hob
    replace g3 : at? rows k = some [.sl (b + 1 + 1 * k) 0 l[k].ops.length] := g3
    have hz : queueSz l[k] = l[k].ops.length := rfl
    have cM := markO_at rfl hob (by omega) m (by omega) (by omega)
    have hbl : b < H.length := at_lt g0
    have hst := LM_step (H' := upd H (b + 1 + 1 * k) (some ⟨4, true, (mOp m l[k].ops.length).map Op.av⟩)) (c := queueRow l[k] (b + 1 + 1 * k)) e2 (fun _ => rfl) hk g0 len_upd (by
      rw [at_updN (by omega), g0]
      have : upd rows k (queueRow l[k] (b + 1 + 1 * k)) = rows := by
        rw [upd_eq]; rw [at?_eq] at g3
        obtain ⟨q1, q2⟩ := List.getElem?_eq_some_iff.1 g3
        rw [show queueRow l[k] (b + 1 + 1 * k) = rows[k] from q2.symm]; exact List.set_getElem_self q1
      rw [this]) (fun i hi1 hi2 => at_updN (by omega))
    have hkr : k < rows.length := by omega
    dsimp only
    repeat' first | refine And.intro rfl ?_ | (refine And.intro (fun h => ?_) (fun h => ?_) <;> (try simp only [decide_eq_true_eq, decide_eq_false_iff_not, Bool.not_eq_true', Bool.not_eq_false', Bool.and_eq_true, Bool.or_eq_true, Bool.not_eq_eq_eq_not, Bool.not_true, Bool.not_false, beq_iff_eq, bne_iff_ne, beq_eq_false_iff_ne, bne_eq_false_iff_eq, Nat.not_lt, Int.not_lt, Int.not_le, wrap_byteAt, List.length_map, eqB_Row, eqB_Op, eqB_Rec, toList_inj, toList_nil, ne_eq, Int.toNat_natCast] at h) <;> (try simp only [wrap64] at h) <;> (try (exfalso; first | exact absurd h Bool.false_ne_true | exact absurd h.symm Bool.false_ne_true | exact h trivial | exact h rfl | omega))) | refine And.intro ⟨by (first | omega | (simp only [wrap64, maxLen, List.length_map, List.length_append, List.length_cons, List.length_nil, Int.toNat_natCast] at *; omega)), by (first | omega | (simp only [wrap64, maxLen, List.length_map, List.length_append, List.length_cons, List.length_nil, Int.toNat_natCast] at *; omega))⟩ ?_ | refine And.intro (show (_ : Int) ≠ 0 by decide) ?_ | refine And.intro ⟨by (first | omega | (simp only [wrap64, maxLen, List.length_map, List.length_append, List.length_cons, List.length_nil, Int.toNat_natCast] at *; omega)), by (first | omega | (simp only [wrap64, maxLen, List.length_map, List.length_append, List.length_cons, List.length_nil, Int.toNat_natCast] at *; omega)), room (by exact rfl) (by (first | omega | (simp only [wrap64, maxLen, List.length_map, List.length_append, List.length_cons, List.length_nil, Int.toNat_natCast] at *; omega))) (by (first | omega | (simp only [wrap64, maxLen, List.length_map, List.length_append, List.length_cons, List.length_nil, Int.toNat_natCast] at *; omega)))⟩ ?_ | refine And.intro (roomN (by exact rfl) (by (first | omega | (simp only [wrap64, maxLen, List.length_map, List.length_append, List.length_cons, List.length_nil, Int.toNat_natCast] at *; omega)))) ?_ | exact trivial | exact rfl | refine Exists.intro _ (And.intro rfl ?_) | refine' cut1 _ ?_ ?_ | refine And.intro (deep_ag (by exact rfl) (by exact rfl)) ?_ | refine And.intro (deep_ag2 (by repeat' first | exact trivial | refine And.intro (by exact rfl) ?_)) ?_ | refine And.intro (deep_sl (by exact rfl) (by first | exact (List.length_map _).symm | assumption | exact rfl | (simp; done))) ?_ | refine And.intro (deep_rows (by intro x hx; repeat' first | exact trivial | refine And.intro (by exact rfl) ?_)) ?_ | refine And.intro (by exact rfl) ?_ | refine And.intro (Or.inl (by exact rfl)) ?_ | refine And.intro (wd_at g0 rfl) ?_ | refine ld_mk g0 ?_ | refine Exists.intro _ (And.intro g3 ?_) | refine' Or.inr (Or.inr (Or.inl (And.intro rfl (And.intro rfl (Exists.intro _ (Exists.intro _ (And.intro (cM) ?_))))))) | refine flH_mk ?_ | refine fl_mk ?_ | refine ih _ (_, _) ?_ ?_ | refine And.intro (show ByteArray.size _ + ByteArray.size _ ≤ _ from by (first | omega | (simp only [size_mk, size_add, List.size_toArray, List.length_cons, List.length_nil, maxLen] at *; omega))) ?_ | refine Exists.intro _ (And.intro (by with_unfolding_all exact rfl) ?_) | refine And.intro (by decide +kernel) ?_ | refine Exists.intro _ (And.intro (at_map (by (first | omega | (simp only [wrap64, maxLen, List.length_map, List.length_append, List.length_cons, List.length_nil, Int.toNat_natCast] at *; omega)))) ?_) | (refine wrap_id' ?_; (first | omega | (simp only [wrap64, maxLen, List.length_map, List.length_append, List.length_cons, List.length_nil, Int.toNat_natCast] at *; omega))) | refine And.intro ?_ ?_ | fail
    all_goals first
      | exact Hold.mk ⟨by rw [e1, hsk, hz]; push_cast; omega, hst⟩
     
  · rintro ⟨m, H⟩ ⟨e1, e2⟩
    simp only [] at e1 e2
    rw [List.take_length] at e1
    have q1 := e2.len
    have q2 := e2.keep
    repeat' first | refine And.intro rfl ?_ | (refine And.intro (fun h => ?_) (fun h => ?_) <;> (try simp only [decide_eq_true_eq, decide_eq_false_iff_not, Bool.not_eq_true', Bool.not_eq_false', Bool.and_eq_true, Bool.or_eq_true, Bool.not_eq_eq_eq_not, Bool.not_true, Bool.not_false, beq_iff_eq, bne_iff_ne, beq_eq_false_iff_ne, bne_eq_false_iff_eq, Nat.not_lt, Int.not_lt, Int.not_le, wrap_byteAt, List.length_map, eqB_Row, eqB_Op, eqB_Rec, toList_inj, toList_nil, ne_eq, Int.toNat_natCast] at h) <;> (try simp only [wrap64] at h) <;> (try (exfalso; first | exact absurd h Bool.false_ne_true | exact absurd h.symm Bool.false_ne_true | exact h trivial | exact h rfl | omega))) | refine And.intro ⟨by (first | omega | (simp only [wrap64, maxLen, List.length_map, List.length_append, List.length_cons, List.length_nil, Int.toNat_natCast] at *; omega)), by (first | omega | (simp only [wrap64, maxLen, List.length_map, List.length_append, List.length_cons, List.length_nil, Int.toNat_natCast] at *; omega))⟩ ?_ | refine And.intro (show (_ : Int) ≠ 0 by decide) ?_ | refine And.intro ⟨by (first | omega | (simp only [wrap64, maxLen, List.length_map, List.length_append, List.length_cons, List.length_nil, Int.toNat_natCast] at *; omega)), by (first | omega | (simp only [wrap64, maxLen, List.length_map, List.length_append, List.length_cons, List.length_nil, Int.toNat_natCast] at *; omega)), room (by exact rfl) (by (first | omega | (simp only [wrap64, maxLen, List.length_map, List.length_append, List.length_cons, List.length_nil, Int.toNat_natCast] at *; omega))) (by (first | omega | (simp only [wrap64, maxLen, List.length_map, List.length_append, List.length_cons, List.length_nil, Int.toNat_natCast] at *; omega)))⟩ ?_ | refine And.intro (roomN (by exact rfl) (by (first | omega | (simp only [wrap64, maxLen, List.length_map, List.length_append, List.length_cons, List.length_nil, Int.toNat_natCast] at *; omega)))) ?_ | exact trivial | exact rfl | refine Exists.intro _ (And.intro rfl ?_) | refine' cut1 _ ?_ ?_ | refine And.intro (deep_ag (by exact rfl) (by exact rfl)) ?_ | refine And.intro (deep_ag2 (by repeat' first | exact trivial | refine And.intro (by exact rfl) ?_)) ?_ | refine And.intro (deep_sl (by exact rfl) (by first | exact (List.length_map _).symm | assumption | exact rfl | (simp; done))) ?_ | refine And.intro (deep_rows (by intro x hx; repeat' first | exact trivial | refine And.intro (by exact rfl) ?_)) ?_ | refine And.intro (by exact rfl) ?_ | refine And.intro (Or.inl (by exact rfl)) ?_ | refine And.intro (show ByteArray.size _ + ByteArray.size _ ≤ _ from by (first | omega | (simp only [size_mk, size_add, List.size_toArray, List.length_cons, List.length_nil, maxLen] at *; omega))) ?_ | refine Exists.intro _ (And.intro (by with_unfolding_all exact rfl) ?_) | refine And.intro (by decide +kernel) ?_ | refine Exists.intro _ (And.intro (at_map (by (first | omega | (simp only [wrap64, maxLen, List.length_map, List.length_append, List.length_cons, List.length_nil, Int.toNat_natCast] at *; omega)))) ?_) | (refine wrap_id' ?_; (first | omega | (simp only [wrap64, maxLen, List.length_map, List.length_append, List.length_cons, List.length_nil, Int.toNat_natCast] at *; omega))) | refine And.intro ?_ ?_ | fail
    all_goals first
      | exact congrArg (AV.i IntKind.i64) e1
      | exact q1
      | exact q2
     
  · exact ⟨by simp, LM_zero hA⟩

end Go.Proofs.Ytfppiankgapakaa.Ev
