/- Contracts: what the functions of this part return, for arguments as each contract says. -/
import Derived.Test.YtpgamddjpclbaaaDoorEvD
import Derived.Test.YtpgamddjpclbaaaDoorEvTab
import Derived.Test.YtpgamddjpclbaaaDoorSTy
import Derived.Test.YtpgamddjpclbaaaDoorSKb
import Derived.Test.YtpgamddjpclbaaaDoorSLb
import Derived.Test.YtpgamddjpclbaaaDoorSSp
import Derived.Test.YtpgamddjpclbaaaDoorSSq
import Derived.Test.YtpgamddjpclbaaaDoorSLn
import Derived.Test.YtpgamddjpclbaaaDoorSPl
import Derived.Test.YtpgamddjpclbaaaDoorSCq
import Derived.Test.YtpgamddjpclbaaaDoorSPg
import Derived.Test.YtpgamddjpclbaaaDoorSPh
import Derived.Test.YtpgamddjpclbaaaDoorSMk
import Derived.Test.YtpgamddjpclbaaaDoorSMr
import Derived.Test.YtpgamddjpclbaaaDoorSPw
import Derived.Test.YtpgamddjpclbaaaDoorSNt
import Derived.Test.YtpgamddjpclbaaaDoorSMs
import Derived.Test.YtpgamddjpclbaaaDoorSRj
import Derived.Test.YtpgamddjpclbaaaDoorSKt
import Derived.Test.YtpgamddjpclbaaaDoorSTd
import Derived.Test.YtpgamddjpclbaaaDoorSTe
import Derived.Test.YtpgamddjpclbaaaDoorSTf
import Derived.Test.YtpgamddjpclbaaaDoorSMo
import Derived.Test.YtpgamddjpclbaaaDoorSOb
import Derived.Test.YtpgamddjpclbaaaDoorSRw
import Derived.Test.YtpgamddjpclbaaaDoorSFr
import Derived.Test.YtpgamddjpclbaaaDoorSEs
import Derived.Test.YtpgamddjpclbaaaDoorSWd
set_option linter.constructorNameAsVariable false
set_option linter.unusedVariables false
set_option linter.unusedSimpArgs false
set_option linter.unusedVariables false
set_option maxHeartbeats 4000000
set_option maxRecDepth 20000
set_option linter.unusedSimpArgs false
set_option linter.constructorNameAsVariable false
namespace Go.Proofs.YtpgamddjpclbaaaDoor.Ev
open Go Go.Proofs
attribute [local irreducible] RO Fn IntKind.wrap TriL
/- NetTodo: contracts and the law -/
def qs4 (a b c d : List Op) : List Queue := [⟨a⟩, ⟨b⟩, ⟨c⟩, ⟨d⟩]
def heap5 (a b c d : List Op) : Hp := [some ⟨1, false, [[.sl 1 0 a.length], [.sl 2 0 b.length], [.sl 3 0 c.length], [.sl 4 0 d.length]]⟩, some ⟨4, true, a.map Op.av⟩, some ⟨4, true, b.map Op.av⟩, some ⟨4, true, c.map Op.av⟩, some ⟨4, true, d.map Op.av⟩]
theorem flQ_len (k : Nat) : (flQ k).length = k := by simp [flQ]
theorem impl_todo' (n : Net) (hn : n.ok) (hg : ∀ s ∈ n.grams, s.size ≤ 1048576) (hk : netOk n = true) : Fn Cf Tryd.prog 17 [.ag (n.av true)] [] (.tp [.sl 0 0 4, .i .i64 (todoQ n).lost]) (heap5 (todoQ n).a (todoQ n).b (todoQ n).c (flQ n.flushes.toNat)) := by
  have h := impl_todo n hn hg hk
  unfold heap5
  rw [flQ_len]; exact h
theorem back_slq {hp : Hp} {d id n wd : Nat} {rows : List (List AV)} (h : at? hp id = some (some ⟨wd, true, rows⟩)) (hn : n = rows.length) : Back hp (d + 1) (.sl id 0 n) (.ro false true wd rows) := by
  simp only [Back, h]
  exact ⟨rows, cut_full _ hn, rfl⟩
theorem ro_of5 {f : Nat} {args : List AV} {a b c d : List Op} (h : Fn Cf Tryd.prog f args [] (.sl 0 0 4) (heap5 a b c d)) : RO Cf Tryd.prog f args (.ro false false 1 ((qs4 a b c d).map (Queue.av false))) := by
  refine RO_of_Fn h ?_
  rw [Back]
  refine ⟨_, cut_full _ rfl, ?_⟩
  rw [if_neg (show ¬ (false = true) from Bool.false_ne_true)]
  refine ⟨_, ?_, rfl⟩
  exact ⟨⟨back_slq rfl (by simp), trivial⟩, ⟨back_slq rfl (by simp), trivial⟩, ⟨back_slq rfl (by simp), trivial⟩, ⟨back_slq rfl (by simp), trivial⟩, trivial⟩
theorem impl_NetTodo (n : Net) (hn : n.ok) (hg : ∀ s ∈ n.grams, s.size ≤ 1048576) (hk : netOk n = true) : Fn Cf Tryd.prog 8 [.ag (n.av true)] [] (.sl 0 0 4) (heap5 (todoQ n).a (todoQ n).b (todoQ n).c (flQ n.flushes.toNat)) := by
  have cN := impl_NetOk n hn
  rw [hk] at cN
  replace cN := RO_kt cN
  have c2 := impl_todo' n hn hg hk
  unfold heap5 at *
  refine Fn_of Cf_ok ?_
  repeat' first | refine And.intro rfl ?_ | (refine And.intro (fun h => ?_) (fun h => ?_) <;> (try simp only [decide_eq_true_eq, decide_eq_false_iff_not, Bool.not_eq_true', Bool.not_eq_false', Bool.and_eq_true, Bool.or_eq_true, Bool.not_eq_eq_eq_not, Bool.not_true, Bool.not_false, beq_iff_eq, bne_iff_ne, beq_eq_false_iff_ne, bne_eq_false_iff_eq, Nat.not_lt, Int.not_lt, Int.not_le, wrap_byteAt, List.length_map, eqB_Row, eqB_Op, eqB_Rec, toList_inj, toList_nil, ne_eq, Int.toNat_natCast] at h) <;> (try simp only [wrap64] at h) <;> (try (exfalso; first | exact absurd h Bool.false_ne_true | exact absurd h.symm Bool.false_ne_true | exact h trivial | exact h rfl | omega))) | refine And.intro ⟨by (first | omega | (simp only [wrap64, maxLen, List.length_map, List.length_append, List.length_cons, List.length_nil, Int.toNat_natCast] at *; omega)), by (first | omega | (simp only [wrap64, maxLen, List.length_map, List.length_append, List.length_cons, List.length_nil, Int.toNat_natCast] at *; omega))⟩ ?_ | refine And.intro (show (_ : Int) ≠ 0 by decide) ?_ | refine And.intro ⟨by (first | omega | (simp only [wrap64, maxLen, List.length_map, List.length_append, List.length_cons, List.length_nil, Int.toNat_natCast] at *; omega)), by (first | omega | (simp only [wrap64, maxLen, List.length_map, List.length_append, List.length_cons, List.length_nil, Int.toNat_natCast] at *; omega)), room (by exact rfl) (by (first | omega | (simp only [wrap64, maxLen, List.length_map, List.length_append, List.length_cons, List.length_nil, Int.toNat_natCast] at *; omega))) (by (first | omega | (simp only [wrap64, maxLen, List.length_map, List.length_append, List.length_cons, List.length_nil, Int.toNat_natCast] at *; omega)))⟩ ?_ | refine And.intro (roomN (by exact rfl) (by (first | omega | (simp only [wrap64, maxLen, List.length_map, List.length_append, List.length_cons, List.length_nil, Int.toNat_natCast] at *; omega)))) ?_ | exact trivial | exact rfl | refine Exists.intro _ (And.intro rfl ?_) | refine' cut1 _ ?_ ?_ | refine And.intro (deep_ag (by exact rfl) (by exact rfl)) ?_ | refine And.intro (deep_ag2 (by repeat' first | exact trivial | refine And.intro (by exact rfl) ?_)) ?_ | refine And.intro (deep_sl (by exact rfl) (by first | exact (List.length_map _).symm | assumption | exact rfl | (simp; done))) ?_ | refine And.intro (deep_rows (by intro x hx; repeat' first | exact trivial | refine And.intro (by exact rfl) ?_)) ?_ | refine And.intro (by exact rfl) ?_ | refine And.intro (Or.inl (by exact rfl)) ?_ | refine' Or.inl (Exists.intro _ (And.intro ?_ (Exists.intro _ (And.intro (cN) (And.intro rfl ?_))))) | refine' Or.inr (Or.inl (And.intro rfl (Exists.intro _ (And.intro ?_ (Exists.intro _ (Exists.intro _ (And.intro (c2) (And.intro rfl ?_)))))))) | refine And.intro (show ByteArray.size _ + ByteArray.size _ ≤ _ from by (first | omega | (simp only [size_mk, size_add, List.size_toArray, List.length_cons, List.length_nil, maxLen] at *; omega))) ?_ | refine Exists.intro _ (And.intro (by with_unfolding_all exact rfl) ?_) | refine And.intro (by decide +kernel) ?_ | refine Exists.intro _ (And.intro (at_map (by (first | omega | (simp only [wrap64, maxLen, List.length_map, List.length_append, List.length_cons, List.length_nil, Int.toNat_natCast] at *; omega)))) ?_) | (refine wrap_id' ?_; (first | omega | (simp only [wrap64, maxLen, List.length_map, List.length_append, List.length_cons, List.length_nil, Int.toNat_natCast] at *; omega))) | refine And.intro ?_ ?_ | fail
theorem impl_NetTodo_no (n : Net) (hn : n.ok) (hk : netOk n = false) : RO Cf Tryd.prog 8 [.ag (n.av true)] (.ro false false 1 []) := by
  have cN := impl_NetOk n hn
  rw [hk] at cN
  replace cN := RO_kt cN
  refine RO_of Cf_ok ?_
  repeat' first | refine And.intro rfl ?_ | (refine And.intro (fun h => ?_) (fun h => ?_) <;> (try simp only [decide_eq_true_eq, decide_eq_false_iff_not, Bool.not_eq_true', Bool.not_eq_false', Bool.and_eq_true, Bool.or_eq_true, Bool.not_eq_eq_eq_not, Bool.not_true, Bool.not_false, beq_iff_eq, bne_iff_ne, beq_eq_false_iff_ne, bne_eq_false_iff_eq, Nat.not_lt, Int.not_lt, Int.not_le, wrap_byteAt, List.length_map, eqB_Row, eqB_Op, eqB_Rec, toList_inj, toList_nil, ne_eq, Int.toNat_natCast] at h) <;> (try simp only [wrap64] at h) <;> (try (exfalso; first | exact absurd h Bool.false_ne_true | exact absurd h.symm Bool.false_ne_true | exact h trivial | exact h rfl | omega))) | refine And.intro ⟨by (first | omega | (simp only [wrap64, maxLen, List.length_map, List.length_append, List.length_cons, List.length_nil, Int.toNat_natCast] at *; omega)), by (first | omega | (simp only [wrap64, maxLen, List.length_map, List.length_append, List.length_cons, List.length_nil, Int.toNat_natCast] at *; omega))⟩ ?_ | refine And.intro (show (_ : Int) ≠ 0 by decide) ?_ | refine And.intro ⟨by (first | omega | (simp only [wrap64, maxLen, List.length_map, List.length_append, List.length_cons, List.length_nil, Int.toNat_natCast] at *; omega)), by (first | omega | (simp only [wrap64, maxLen, List.length_map, List.length_append, List.length_cons, List.length_nil, Int.toNat_natCast] at *; omega)), room (by exact rfl) (by (first | omega | (simp only [wrap64, maxLen, List.length_map, List.length_append, List.length_cons, List.length_nil, Int.toNat_natCast] at *; omega))) (by (first | omega | (simp only [wrap64, maxLen, List.length_map, List.length_append, List.length_cons, List.length_nil, Int.toNat_natCast] at *; omega)))⟩ ?_ | refine And.intro (roomN (by exact rfl) (by (first | omega | (simp only [wrap64, maxLen, List.length_map, List.length_append, List.length_cons, List.length_nil, Int.toNat_natCast] at *; omega)))) ?_ | exact trivial | exact rfl | refine Exists.intro _ (And.intro rfl ?_) | refine' cut1 _ ?_ ?_ | refine And.intro (deep_ag (by exact rfl) (by exact rfl)) ?_ | refine And.intro (deep_ag2 (by repeat' first | exact trivial | refine And.intro (by exact rfl) ?_)) ?_ | refine And.intro (deep_sl (by exact rfl) (by first | exact (List.length_map _).symm | assumption | exact rfl | (simp; done))) ?_ | refine And.intro (deep_rows (by intro x hx; repeat' first | exact trivial | refine And.intro (by exact rfl) ?_)) ?_ | refine And.intro (by exact rfl) ?_ | refine And.intro (Or.inl (by exact rfl)) ?_ | refine' Or.inl (Exists.intro _ (And.intro ?_ (Exists.intro _ (And.intro (cN) (And.intro rfl ?_))))) | refine And.intro (show ByteArray.size _ + ByteArray.size _ ≤ _ from by (first | omega | (simp only [size_mk, size_add, List.size_toArray, List.length_cons, List.length_nil, maxLen] at *; omega))) ?_ | refine Exists.intro _ (And.intro (by with_unfolding_all exact rfl) ?_) | refine And.intro (by decide +kernel) ?_ | refine Exists.intro _ (And.intro (at_map (by (first | omega | (simp only [wrap64, maxLen, List.length_map, List.length_append, List.length_cons, List.length_nil, Int.toNat_natCast] at *; omega)))) ?_) | (refine wrap_id' ?_; (first | omega | (simp only [wrap64, maxLen, List.length_map, List.length_append, List.length_cons, List.length_nil, Int.toNat_natCast] at *; omega))) | refine And.intro ?_ ?_ | fail
  all_goals first
    | exact ⟨_, _, rfl⟩
   
def mk4 (a b c d : List Op) : Int := 1 + 4 * a.length + 4 * b.length + 4 * c.length + 4 * d.length
end Go.Proofs.YtpgamddjpclbaaaDoor.Ev
