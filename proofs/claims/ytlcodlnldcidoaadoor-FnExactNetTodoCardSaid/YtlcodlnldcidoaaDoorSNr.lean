/- Contracts: what the functions of this part return, for arguments as each contract says. -/
import Derived.Test.YtlcodlnldcidoaaDoorEvD
import Derived.Test.YtlcodlnldcidoaaDoorEvTab
import Derived.Test.YtlcodlnldcidoaaDoorSTy
import Derived.Test.YtlcodlnldcidoaaDoorSKb
import Derived.Test.YtlcodlnldcidoaaDoorSLb
import Derived.Test.YtlcodlnldcidoaaDoorSSp
import Derived.Test.YtlcodlnldcidoaaDoorSSq
import Derived.Test.YtlcodlnldcidoaaDoorSLn
import Derived.Test.YtlcodlnldcidoaaDoorSPl
import Derived.Test.YtlcodlnldcidoaaDoorSCq
import Derived.Test.YtlcodlnldcidoaaDoorSPg
import Derived.Test.YtlcodlnldcidoaaDoorSPh
import Derived.Test.YtlcodlnldcidoaaDoorSMk
import Derived.Test.YtlcodlnldcidoaaDoorSMr
import Derived.Test.YtlcodlnldcidoaaDoorSPw
import Derived.Test.YtlcodlnldcidoaaDoorSNt
import Derived.Test.YtlcodlnldcidoaaDoorSMs
import Derived.Test.YtlcodlnldcidoaaDoorSRj
import Derived.Test.YtlcodlnldcidoaaDoorSKt
import Derived.Test.YtlcodlnldcidoaaDoorSTd
import Derived.Test.YtlcodlnldcidoaaDoorSTe
import Derived.Test.YtlcodlnldcidoaaDoorSTf
import Derived.Test.YtlcodlnldcidoaaDoorSMo
import Derived.Test.YtlcodlnldcidoaaDoorSOb
import Derived.Test.YtlcodlnldcidoaaDoorSRw
import Derived.Test.YtlcodlnldcidoaaDoorSFr
import Derived.Test.YtlcodlnldcidoaaDoorSEs
import Derived.Test.YtlcodlnldcidoaaDoorSWd
import Derived.Test.YtlcodlnldcidoaaDoorSNq
set_option linter.constructorNameAsVariable false
set_option linter.unusedVariables false
set_option linter.unusedSimpArgs false
set_option linter.unusedVariables false
set_option maxHeartbeats 4000000
set_option maxRecDepth 20000
set_option linter.unusedSimpArgs false
set_option linter.constructorNameAsVariable false
namespace Go.Proofs.YtlcodlnldcidoaaDoor.Ev
open Go Go.Proofs
attribute [local irreducible] RO Fn IntKind.wrap TriL
theorem pkW_Nr : (∀ n : Int, IntKind.i64.wrap n = (n + 9223372036854775808) % 18446744073709551616 - 9223372036854775808) ∧ maxLen = 2 ^ 63 - 1 ∧ (∀ (α β : Type) (f : α → β) (l : List α), (l.map f).length = l.length) ∧ (∀ (α : Type) (a b : List α), (a ++ b).length = a.length + b.length) ∧ (∀ (α : Type) (x : α) (l : List α), (x :: l).length = l.length + 1) ∧ (∀ α : Type, ([] : List α).length = 0) ∧ (∀ n : Nat, (n : Int).toNat = n) := ⟨wrap64, rfl, fun _ _ _ _ => List.length_map _, fun _ _ _ => List.length_append, fun _ _ _ => List.length_cons, fun _ => rfl, Int.toNat_natCast⟩
theorem laws_eqQueueW (a b : Queue) (ha : a.ops.length ≤ maxLen) (hb : b.ops.length ≤ maxLen) : RO Cf Tryd.prog 92 [.ag (a.av true), .ag (b.av true)] (.b (decide (a = b))) := by
  refine RO_of Cf_ok ?_
  repeat' first | refine And.intro rfl ?_ | (refine And.intro (fun h => ?_) (fun h => ?_) <;> (try simp only [decide_eq_true_eq, decide_eq_false_iff_not, Bool.not_eq_true', Bool.not_eq_false', Bool.and_eq_true, Bool.or_eq_true, Bool.not_eq_eq_eq_not, Bool.not_true, Bool.not_false, beq_iff_eq, bne_iff_ne, beq_eq_false_iff_ne, bne_eq_false_iff_eq, Nat.not_lt, Int.not_lt, Int.not_le, wrap_byteAt, List.length_map, eqB_Row, eqB_Op, eqB_Rec, toList_inj, toList_nil, ne_eq, Int.toNat_natCast] at h) <;> (try simp only [wrap64] at h) <;> (try (exfalso; first | (cases h; done) | exact h trivial | exact h rfl | omega))) | refine And.intro ⟨by (first | omega | (simp only [pkW_Nr] at *; omega)), by (first | omega | (simp only [pkW_Nr] at *; omega))⟩ ?_ | refine And.intro (show (_ : Int) ≠ 0 by decide) ?_ | refine And.intro ⟨by (first | omega | (simp only [pkW_Nr] at *; omega)), by (first | omega | (simp only [pkW_Nr] at *; omega)), room (by exact rfl) (by (first | omega | (simp only [pkW_Nr] at *; omega))) (by (first | omega | (simp only [pkW_Nr] at *; omega)))⟩ ?_ | refine And.intro (roomN (by exact rfl) (by (first | omega | (simp only [pkW_Nr] at *; omega)))) ?_ | exact trivial | exact rfl | refine Exists.intro _ (And.intro rfl ?_) | refine' cut1 _ ?_ ?_ | refine And.intro (deep_ag (by exact rfl) (by exact rfl)) ?_ | refine And.intro (deep_ag2 (by repeat' first | exact trivial | refine And.intro (by exact rfl) ?_)) ?_ | refine And.intro (deep_sl (by exact rfl) (by first | exact (List.length_map _).symm | assumption | exact rfl | (simp; done))) ?_ | refine And.intro (deep_rows (by intro x hx; repeat' first | exact trivial | refine And.intro (by exact rfl) ?_)) ?_ | refine And.intro (by exact rfl) ?_ | refine And.intro (Or.inl (by exact rfl)) ?_ | refine' Or.inl (Exists.intro _ (And.intro ?_ (Exists.intro _ (And.intro (laws_eqOpS _ _ ha hb) (And.intro rfl ?_))))) | refine And.intro (show ByteArray.size _ + ByteArray.size _ ≤ _ from by (first | omega | (simp only [size_mk, size_add, List.size_toArray, List.length_cons, List.length_nil, maxLen] at *; omega))) ?_ | refine Exists.intro _ (And.intro (by with_unfolding_all exact rfl) ?_) | refine And.intro (by decide +kernel) ?_ | refine Exists.intro _ (And.intro (at_map (by (first | omega | (simp only [pkW_Nr] at *; omega)))) ?_) | (refine wrap_id' ?_; (first | omega | (simp only [pkW_Nr] at *; omega))) | refine And.intro ?_ ?_ | fail
  (all_goals first | refine back_k ?_ | refine back_b ?_ | refine back_i ?_ | refine back_s ?_ | (refine back_ag rfl ?_) | skip)
  all_goals simp_all [Queue.eq_iff]
theorem laws_eqQueueSW (l r : List Queue) (hl : l.length ≤ maxLen ∧ ∀ x ∈ l, x.ops.length ≤ maxLen) (hr : r.length ≤ maxLen ∧ ∀ x ∈ r, x.ops.length ≤ maxLen) :
    RO Cf Tryd.prog 37 [.ro true false 1 (l.map (Queue.av true)), .ro true false 1 (r.map (Queue.av true))] (.b (decide (l = r))) := by
  have hl1 := hl.1; have hr1 := hr.1
  simp only [maxLen] at hl1 hr1
  refine RO_of Cf_ok ?_
  repeat' first | refine And.intro rfl ?_ | (refine And.intro (fun h => ?_) (fun h => ?_) <;> (try simp only [decide_eq_true_eq, decide_eq_false_iff_not, Bool.not_eq_true', Bool.not_eq_false', Bool.and_eq_true, Bool.or_eq_true, Bool.not_eq_eq_eq_not, Bool.not_true, Bool.not_false, beq_iff_eq, bne_iff_ne, beq_eq_false_iff_ne, bne_eq_false_iff_eq, Nat.not_lt, Int.not_lt, Int.not_le, wrap_byteAt, List.length_map, eqB_Row, eqB_Op, eqB_Rec, toList_inj, toList_nil, ne_eq, Int.toNat_natCast] at h) <;> (try simp only [wrap64] at h) <;> (try (exfalso; first | (cases h; done) | exact h trivial | exact h rfl | omega))) | refine And.intro ⟨by (first | omega | (simp only [pkW_Nr] at *; omega)), by (first | omega | (simp only [pkW_Nr] at *; omega))⟩ ?_ | refine And.intro (show (_ : Int) ≠ 0 by decide) ?_ | refine And.intro ⟨by (first | omega | (simp only [pkW_Nr] at *; omega)), by (first | omega | (simp only [pkW_Nr] at *; omega)), room (by exact rfl) (by (first | omega | (simp only [pkW_Nr] at *; omega))) (by (first | omega | (simp only [pkW_Nr] at *; omega)))⟩ ?_ | refine And.intro (roomN (by exact rfl) (by (first | omega | (simp only [pkW_Nr] at *; omega)))) ?_ | exact trivial | exact rfl | refine Exists.intro _ (And.intro rfl ?_) | refine' cut1 _ ?_ ?_ | refine And.intro (deep_ag (by exact rfl) (by exact rfl)) ?_ | refine And.intro (deep_ag2 (by repeat' first | exact trivial | refine And.intro (by exact rfl) ?_)) ?_ | refine And.intro (deep_sl (by exact rfl) (by first | exact (List.length_map _).symm | assumption | exact rfl | (simp; done))) ?_ | refine And.intro (deep_rows (by intro x hx; repeat' first | exact trivial | refine And.intro (by exact rfl) ?_)) ?_ | refine And.intro (by exact rfl) ?_ | refine And.intro (Or.inl (by exact rfl)) ?_ | refine And.intro (show ByteArray.size _ + ByteArray.size _ ≤ _ from by (first | omega | (simp only [size_mk, size_add, List.size_toArray, List.length_cons, List.length_nil, maxLen] at *; omega))) ?_ | refine Exists.intro _ (And.intro (by with_unfolding_all exact rfl) ?_) | refine And.intro (by decide +kernel) ?_ | refine Exists.intro _ (And.intro (at_map (by (first | omega | (simp only [pkW_Nr] at *; omega)))) ?_) | (refine wrap_id' ?_; (first | omega | (simp only [pkW_Nr] at *; omega))) | refine And.intro ?_ ?_ | fail
  · (all_goals first | refine back_k ?_ | refine back_b ?_ | refine back_i ?_ | refine back_s ?_ | (refine back_ag rfl ?_) | skip)
    symm; rw [decide_eq_false_iff_not]; rintro rfl; simp at h
  have hlen : l.length = r.length := by omega
  refine loop_nat 37 Cf_ok l.length (fun i (_ : Unit) => ⟨[.ro true false 1 (l.map (Queue.av true)), .ro true false 1 (r.map (Queue.av true)), .u, .u, .u, .i .i64 i, .u, .u, .u, .u, .u, .u, .u, .u, .u, .u, .u, .u, .u, .u, .u, .u, .u, .u, .u, .u, .u], [none, none, none, none, none, none, none, none, none, none, none, none, none, none, none, none, none, none, none, none, none, none, none, none, none, none, none], []⟩)
    (fun k _ => (l.drop k = r.drop k) ↔ l = r) ?hc ?_ ?_ () ?_
  case hc => decide +kernel
  · rintro k _ hk h2 ih
    have hk' : k < r.length := by omega
    rw [eq_drop hk hk'] at h2
    have e1 := hl.2 _ (List.getElem_mem hk); have e2 := hr.2 _ (List.getElem_mem hk')
    repeat' first | refine And.intro rfl ?_ | (refine And.intro (fun h => ?_) (fun h => ?_) <;> (try simp only [decide_eq_true_eq, decide_eq_false_iff_not, Bool.not_eq_true', Bool.not_eq_false', Bool.and_eq_true, Bool.or_eq_true, Bool.not_eq_eq_eq_not, Bool.not_true, Bool.not_false, beq_iff_eq, bne_iff_ne, beq_eq_false_iff_ne, bne_eq_false_iff_eq, Nat.not_lt, Int.not_lt, Int.not_le, wrap_byteAt, List.length_map, eqB_Row, eqB_Op, eqB_Rec, toList_inj, toList_nil, ne_eq, Int.toNat_natCast] at h) <;> (try simp only [wrap64] at h) <;> (try (exfalso; first | (cases h; done) | exact h trivial | exact h rfl | omega))) | refine And.intro ⟨by (first | omega | (simp only [pkW_Nr] at *; omega)), by (first | omega | (simp only [pkW_Nr] at *; omega))⟩ ?_ | refine And.intro (show (_ : Int) ≠ 0 by decide) ?_ | refine And.intro ⟨by (first | omega | (simp only [pkW_Nr] at *; omega)), by (first | omega | (simp only [pkW_Nr] at *; omega)), room (by exact rfl) (by (first | omega | (simp only [pkW_Nr] at *; omega))) (by (first | omega | (simp only [pkW_Nr] at *; omega)))⟩ ?_ | refine And.intro (roomN (by exact rfl) (by (first | omega | (simp only [pkW_Nr] at *; omega)))) ?_ | exact trivial | exact rfl | refine Exists.intro _ (And.intro rfl ?_) | refine' cut1 _ ?_ ?_ | refine And.intro (deep_ag (by exact rfl) (by exact rfl)) ?_ | refine And.intro (deep_ag2 (by repeat' first | exact trivial | refine And.intro (by exact rfl) ?_)) ?_ | refine And.intro (deep_sl (by exact rfl) (by first | exact (List.length_map _).symm | assumption | exact rfl | (simp; done))) ?_ | refine And.intro (deep_rows (by intro x hx; repeat' first | exact trivial | refine And.intro (by exact rfl) ?_)) ?_ | refine And.intro (by exact rfl) ?_ | refine And.intro (Or.inl (by exact rfl)) ?_ | refine' Or.inl (Exists.intro _ (And.intro ?_ (Exists.intro _ (And.intro (laws_eqQueueW l[k] r[k] e1 e2) (And.intro rfl ?_))))) | refine ih _ () ?_ ?_ | refine And.intro (show ByteArray.size _ + ByteArray.size _ ≤ _ from by (first | omega | (simp only [size_mk, size_add, List.size_toArray, List.length_cons, List.length_nil, maxLen] at *; omega))) ?_ | refine Exists.intro _ (And.intro (by with_unfolding_all exact rfl) ?_) | refine And.intro (by decide +kernel) ?_ | refine Exists.intro _ (And.intro (at_map (by (first | omega | (simp only [pkW_Nr] at *; omega)))) ?_) | (refine wrap_id' ?_; (first | omega | (simp only [pkW_Nr] at *; omega))) | refine And.intro ?_ ?_ | fail
    · (all_goals first | refine back_k ?_ | refine back_b ?_ | refine back_i ?_ | refine back_s ?_ | (refine back_ag rfl ?_) | skip)
      first | (simp only [← h2, h]; simp; done) | simp [← h2, h]
    · refine Hold.mk ?_
      rw [← h2]; simp [h]
  · rintro _ h2
    repeat' first | refine And.intro rfl ?_ | (refine And.intro (fun h => ?_) (fun h => ?_) <;> (try simp only [decide_eq_true_eq, decide_eq_false_iff_not, Bool.not_eq_true', Bool.not_eq_false', Bool.and_eq_true, Bool.or_eq_true, Bool.not_eq_eq_eq_not, Bool.not_true, Bool.not_false, beq_iff_eq, bne_iff_ne, beq_eq_false_iff_ne, bne_eq_false_iff_eq, Nat.not_lt, Int.not_lt, Int.not_le, wrap_byteAt, List.length_map, eqB_Row, eqB_Op, eqB_Rec, toList_inj, toList_nil, ne_eq, Int.toNat_natCast] at h) <;> (try simp only [wrap64] at h) <;> (try (exfalso; first | (cases h; done) | exact h trivial | exact h rfl | omega))) | refine And.intro ⟨by (first | omega | (simp only [pkW_Nr] at *; omega)), by (first | omega | (simp only [pkW_Nr] at *; omega))⟩ ?_ | refine And.intro (show (_ : Int) ≠ 0 by decide) ?_ | refine And.intro ⟨by (first | omega | (simp only [pkW_Nr] at *; omega)), by (first | omega | (simp only [pkW_Nr] at *; omega)), room (by exact rfl) (by (first | omega | (simp only [pkW_Nr] at *; omega))) (by (first | omega | (simp only [pkW_Nr] at *; omega)))⟩ ?_ | refine And.intro (roomN (by exact rfl) (by (first | omega | (simp only [pkW_Nr] at *; omega)))) ?_ | exact trivial | exact rfl | refine Exists.intro _ (And.intro rfl ?_) | refine' cut1 _ ?_ ?_ | refine And.intro (deep_ag (by exact rfl) (by exact rfl)) ?_ | refine And.intro (deep_ag2 (by repeat' first | exact trivial | refine And.intro (by exact rfl) ?_)) ?_ | refine And.intro (deep_sl (by exact rfl) (by first | exact (List.length_map _).symm | assumption | exact rfl | (simp; done))) ?_ | refine And.intro (deep_rows (by intro x hx; repeat' first | exact trivial | refine And.intro (by exact rfl) ?_)) ?_ | refine And.intro (by exact rfl) ?_ | refine And.intro (Or.inl (by exact rfl)) ?_ | refine And.intro (show ByteArray.size _ + ByteArray.size _ ≤ _ from by (first | omega | (simp only [size_mk, size_add, List.size_toArray, List.length_cons, List.length_nil, maxLen] at *; omega))) ?_ | refine Exists.intro _ (And.intro (by with_unfolding_all exact rfl) ?_) | refine And.intro (by decide +kernel) ?_ | refine Exists.intro _ (And.intro (at_map (by (first | omega | (simp only [pkW_Nr] at *; omega)))) ?_) | (refine wrap_id' ?_; (first | omega | (simp only [pkW_Nr] at *; omega))) | refine And.intro ?_ ?_ | fail
    (all_goals first | refine back_k ?_ | refine back_b ?_ | refine back_i ?_ | refine back_s ?_ | (refine back_ag rfl ?_) | skip)
    rw [List.drop_length, hlen, List.drop_length] at h2
    simp [← h2]
  · simp
theorem All2_map2 {α : Type} {f g : α → List AV} {R : List AV → List AV → Prop} : ∀ l : List α, (∀ x, R (f x) (g x)) → All2 R (l.map f) (l.map g)
  | [], _ => trivial
  | x :: l, h => ⟨h x, All2_map2 l h⟩
theorem deep_queue2 {hp : Hp} {d : Nat} (g : Bool) (x : Queue) : All2 (Deep hp (d + 1)) (x.av g) (x.av true) := by
  unfold Queue.av
  exact ⟨rfl, trivial⟩
theorem deep_qro {hp : Hp} (l : List Queue) : Deep hp 4 (.ro false false 1 (l.map (Queue.av false))) (.ro true false 1 (l.map (Queue.av true))) :=
  ⟨_, All2_map2 _ (fun x => deep_queue2 false x), rfl⟩
theorem deep_q4 {hp : Hp} {id : Nat} {a b c d : List Op} (h0 : at? hp id = some (some ⟨1, false, [[.sl (id + 1) 0 a.length], [.sl (id + 2) 0 b.length], [.sl (id + 3) 0 c.length], [.sl (id + 4) 0 d.length]]⟩)) (h1 : at? hp (id + 1) = some (some ⟨4, true, a.map Op.av⟩)) (h2 : at? hp (id + 2) = some (some ⟨4, true, b.map Op.av⟩)) (h3 : at? hp (id + 3) = some (some ⟨4, true, c.map Op.av⟩)) (h4 : at? hp (id + 4) = some (some ⟨4, true, d.map Op.av⟩)) :
    Deep hp 4 (.sl id 0 4) (.ro true false 1 ((qs4 a b c d).map (Queue.av true))) := by
  rw [Deep, h0]
  refine ⟨_, cut_full _ rfl, ?_⟩
  rw [if_neg (show ¬ (false = true) from Bool.false_ne_true)]
  refine ⟨_, ?_, rfl⟩
  exact ⟨⟨deep_sl h1 (by simp), trivial⟩, ⟨deep_sl h2 (by simp), trivial⟩, ⟨deep_sl h3 (by simp), trivial⟩, ⟨deep_sl h4 (by simp), trivial⟩, trivial⟩
theorem deep_net3 {hp : Hp} {d i : Nat} {n : Net} {l : List AV} (hl : l = [.sl i 0 n.grams.length, .sl (i + 1) 0 n.sends.length, .i .i64 n.flushes, .sl (i + 2) 0 n.picks.length]) (h1 : at? hp i = some (some ⟨1, true, n.grams.map sv⟩)) (h2 : at? hp (i + 1) = some (some ⟨2, true, n.sends.map Send.av⟩)) (h3 : at? hp (i + 2) = some (some ⟨1, true, n.picks.map iv⟩)) : Deep hp (d + 2) (.ag l) (.ag (n.av true)) := by
  subst hl
  exact deep_ag2 ⟨deep_sl h1 (by simp), deep_sl h2 (by simp), rfl, deep_sl h3 (by simp), trivial⟩
def mkA (a : List Op) : List Op := mOp 1 a.length
def mkB (a b : List Op) : List Op := mOp (1 + 4 * a.length) b.length
def mkC (a b c : List Op) : List Op := mOp (1 + 4 * a.length + 4 * b.length) c.length
def mkD (a b c d : List Op) : List Op := mOp (1 + 4 * a.length + 4 * b.length + 4 * c.length) d.length
/-- What the law's heap holds behind the two calls: the net's own copy, then the queues. -/
def heap8 (x y z : Option Ob) (a b c d : List Op) : Hp := [x, y, z, some ⟨1, false, [[.sl 4 0 a.length], [.sl 5 0 b.length], [.sl 6 0 c.length], [.sl 7 0 d.length]]⟩, some ⟨4, true, a.map Op.av⟩, some ⟨4, true, b.map Op.av⟩, some ⟨4, true, c.map Op.av⟩, some ⟨4, true, d.map Op.av⟩]
theorem mark8 (g : List ByteArray) (s : List Send) (f : Int) (p : List Int) (h1 : g.length ≤ 1048576) (h2 : s.length ≤ 1048576) (h3 : p.length ≤ 1048576) (a b c d : List Op) :
    Fn Cf Tryd.prog 17 [.ag [.sl 0 0 g.length, .sl 1 0 s.length, .i .i64 f, .sl 2 0 p.length], .i .i64 1] (heap8 (some ⟨1, true, g.map sv⟩) (some ⟨2, true, s.map Send.av⟩) (some ⟨1, true, p.map iv⟩) a b c d)
      (.i .i64 (1 + 1 * g.length + 2 * s.length + 1 * p.length)) (heap8 (some ⟨1, true, (mStr 1 g.length).map sv⟩) (some ⟨2, true, (mSend (1 + 1 * g.length) s.length).map Send.av⟩) (some ⟨1, true, (mInt (1 + 1 * g.length + 2 * s.length) p.length).map iv⟩) a b c d) :=
  Fn_frame [0, 1, 2] (fn_markNet g s f p h1 h2 h3) (by rfl) (by rfl) ⟨Or.inl ⟨rfl, rfl⟩, Or.inl ⟨rfl, rfl⟩, Or.inl ⟨rfl, rfl⟩, trivial⟩ (by rfl) (hr := [some ⟨1, true, (mStr 1 g.length).map sv⟩, some ⟨2, true, (mSend (1 + 1 * g.length) s.length).map Send.av⟩, some ⟨1, true, (mInt (1 + 1 * g.length + 2 * s.length) p.length).map iv⟩]) ⟨Or.inl ⟨rfl, rfl⟩, Or.inl ⟨rfl, rfl⟩, Or.inl ⟨rfl, rfl⟩, trivial⟩ (by rfl)
theorem markQ8 (x y z : Option Ob) (a b c d : List Op) (ha : a.length ≤ 10) (hb : b.length ≤ 10) (hc : c.length ≤ 10) (hd : d.length ≤ 10) :
    Fn Cf Tryd.prog 38 [.sl 3 0 4, .i .i64 1] (heap8 x y z a b c d) (.i .i64 (mk4 a b c d)) (heap8 x y z (mkA a) (mkB a b) (mkC a b c) (mkD a b c d)) :=
  Fn_frame [3, 4, 5, 6, 7] (laws_markQueueS4 a b c d ha hb hc hd) (by rfl) (by rfl) ⟨Or.inr rfl, Or.inl ⟨rfl, rfl⟩, Or.inl ⟨rfl, rfl⟩, Or.inl ⟨rfl, rfl⟩, Or.inl ⟨rfl, rfl⟩, trivial⟩ (by rfl)
    (hr := [some ⟨1, false, [[.sl 4 0 (mkA a).length], [.sl 5 0 (mkB a b).length], [.sl 6 0 (mkC a b c).length], [.sl 7 0 (mkD a b c d).length]]⟩, some ⟨4, true, (mkA a).map Op.av⟩, some ⟨4, true, (mkB a b).map Op.av⟩, some ⟨4, true, (mkC a b c).map Op.av⟩, some ⟨4, true, (mkD a b c d).map Op.av⟩])
    ⟨Or.inr rfl, Or.inl ⟨rfl, rfl⟩, Or.inl ⟨rfl, rfl⟩, Or.inl ⟨rfl, rfl⟩, Or.inl ⟨rfl, rfl⟩, trivial⟩ (by rfl)
theorem fillQ_len : ∀ (l : List Rec) (q : List Op) (lost : Int), q.length ≤ 10 → (fillQ q lost l).1.length ≤ 10
  | [], q, _, h => h
  | r :: l, q, lost, h => by
    rw [fillQ]
    split
    · exact fillQ_len l q _ h
    · exact fillQ_len l _ _ (by rw [enq_len]; omega)
theorem todoQ_len (n : Net) : (todoQ n).a.length ≤ 10 ∧ (todoQ n).b.length ≤ 10 ∧ (todoQ n).c.length ≤ 10 := by
  unfold todoQ
  suffices h : ∀ (l : List Send) (s : Qs), s.a.length ≤ 10 ∧ s.b.length ≤ 10 ∧ s.c.length ≤ 10 → (l.foldl (sendQ n) s).a.length ≤ 10 ∧ (l.foldl (sendQ n) s).b.length ≤ 10 ∧ (l.foldl (sendQ n) s).c.length ≤ 10 from
    h _ _ ⟨by simp, by simp, by simp⟩
  intro l
  induction l with
  | nil => intro s h; exact h
  | cons x l ih =>
    intro s h
    rw [List.foldl_cons]
    refine ih _ ?_
    rw [sendQ]
    split
    · exact ⟨fillQ_len _ _ _ h.1, h.2.1, h.2.2⟩
    · split
      · exact ⟨h.1, fillQ_len _ _ _ h.2.1, h.2.2⟩
      · exact ⟨h.1, h.2.1, fillQ_len _ _ _ h.2.2⟩
theorem qs4_ok {a b c d : List Op} (ha : a.length ≤ 10) (hb : b.length ≤ 10) (hc : c.length ≤ 10) (hd : d.length ≤ 10) : (qs4 a b c d).length ≤ maxLen ∧ ∀ x ∈ qs4 a b c d, x.ops.length ≤ maxLen := by
  refine ⟨by simp [qs4, maxLen], ?_⟩
  intro x hx
  simp only [qs4, List.mem_cons, List.not_mem_nil, or_false] at hx
  rcases hx with rfl | rfl | rfl | rfl <;> simp only [maxLen] <;> omega
theorem law_NetTodo_ok (n : Net) (hn : n.ok) (h0 : ¬ szNet n 1048576 < 0) (hk : netOk n = true) : RO Cf Tryd.prog 7 [.ag (n.av true)] (.b true) := by
  have hz := laws_szNet n hn 1048576 (by omega) (by omega)
  obtain ⟨l1, l2, l3, l4⟩ := szNet_le n 1048576 (by omega) (by omega)
  have hg : ∀ s ∈ n.grams, s.size ≤ 1048576 := fun s hs => by have := l4 s hs; omega
  have hfl := netOk_len hk
  have c1 := ro_of5 (spec_NetTodo n hn hg hk)
  have c2 := impl_NetTodo n hn hg hk
  have c2r := ro_of5 c2
  obtain ⟨q1, q2, q3⟩ := todoQ_len n
  have q4 : (flQ n.flushes.toNat).length ≤ 10 := by rw [flQ_len]; omega
  have t1 := ro_toNet n (by omega) (by omega) (by omega)
  have t2 := fn_toNet n (by omega) (by omega) (by omega)
  have t3 := laws_eqNet n n hn hn
  rw [show decide (n = n) = true from by simp] at t3
  replace t3 := RO_kt t3
  generalize (todoQ n).a = a at *
  generalize (todoQ n).b = b at *
  generalize (todoQ n).c = c at *
  generalize flQ n.flushes.toNat = d at *
  have e1 := laws_eqQueueSW (qs4 a b c d) (qs4 a b c d) (qs4_ok q1 q2 q3 q4) (qs4_ok q1 q2 q3 q4)
  rw [show decide (qs4 a b c d = qs4 a b c d) = true from by simp] at e1
  replace e1 := RO_kt e1
  have mk := mark8 n.grams n.sends n.flushes n.picks (by omega) (by omega) (by omega) a b c d
  have mq := fun x y z => markQ8 x y z a b c d q1 q2 q3 q4
  have he := laws_heldQueueS4 a.length b.length c.length d.length q1 q2 q3 q4
  have hm4 : mk4 a b c d = 1 + 4 * a.length + 4 * b.length + 4 * c.length + 4 * d.length := rfl
  rw [← hm4] at he
  have hmp : 0 ≤ mk4 a b c d := by omega
  generalize mk4 a b c d = M at *
  clear hm4
  change RO Cf Tryd.prog 39 [.ro true false 1 ((qs4 (mkA a) (mkB a b) (mkC a b c) (mkD a b c d)).map (Queue.av true)), .i .i64 1] (.i .i64 M) at he
  unfold heap8 at mk mq
  unfold heap5 at c2
  generalize szNet n 1048576 = zz at *
  refine RO_of Cf_ok ?_
  repeat' first | refine And.intro rfl ?_ | (refine And.intro (fun h => ?_) (fun h => ?_) <;> (try simp only [decide_eq_true_eq, decide_eq_false_iff_not, Bool.not_eq_true', Bool.not_eq_false', Bool.and_eq_true, Bool.or_eq_true, Bool.not_eq_eq_eq_not, Bool.not_true, Bool.not_false, beq_iff_eq, bne_iff_ne, beq_eq_false_iff_ne, bne_eq_false_iff_eq, Nat.not_lt, Int.not_lt, Int.not_le, wrap_byteAt, List.length_map, eqB_Row, eqB_Op, eqB_Rec, toList_inj, toList_nil, ne_eq, Int.toNat_natCast] at h) <;> (try simp only [wrap64] at h) <;> (try (exfalso; first | exact absurd h Bool.false_ne_true | exact absurd h.symm Bool.false_ne_true | exact h trivial | exact h rfl | omega))) | refine And.intro ⟨by (first | omega | (simp only [pkW_Nr] at *; omega)), by (first | omega | (simp only [pkW_Nr] at *; omega))⟩ ?_ | refine And.intro (show (_ : Int) ≠ 0 by decide) ?_ | refine And.intro ⟨by (first | omega | (simp only [pkW_Nr] at *; omega)), by (first | omega | (simp only [pkW_Nr] at *; omega)), room (by exact rfl) (by (first | omega | (simp only [pkW_Nr] at *; omega))) (by (first | omega | (simp only [pkW_Nr] at *; omega)))⟩ ?_ | refine And.intro (roomN (by exact rfl) (by (first | omega | (simp only [pkW_Nr] at *; omega)))) ?_ | exact trivial | exact rfl | refine Exists.intro _ (And.intro rfl ?_) | refine' cut1 _ ?_ ?_ | refine And.intro (deep_ag (by exact rfl) (by exact rfl)) ?_ | refine And.intro (deep_ag2 (by repeat' first | exact trivial | refine And.intro (by exact rfl) ?_)) ?_ | refine And.intro (deep_sl (by exact rfl) (by first | exact (List.length_map _).symm | assumption | exact rfl | (simp; done))) ?_ | refine And.intro (deep_rows (by intro x hx; repeat' first | exact trivial | refine And.intro (by exact rfl) ?_)) ?_ | refine And.intro (by exact rfl) ?_ | refine And.intro (Or.inl (by exact rfl)) ?_ | refine' Or.inl (Exists.intro _ (And.intro ?_ (Exists.intro _ (And.intro (hz) (And.intro rfl ?_))))) | (have _q := mk2; refine' Or.inl (Exists.intro _ (And.intro ?_ (Exists.intro _ (And.intro (t1) (And.intro rfl ?_)))))) | (have _q := mk1; refine' Or.inr (Or.inl (And.intro rfl (Exists.intro _ (And.intro ?_ (Exists.intro _ (Exists.intro _ (And.intro (t2) (And.intro rfl ?_)))))))) <;> have mk2 : True := trivial) | (refine' Or.inl (Exists.intro _ (And.intro ?_ (Exists.intro _ (And.intro (t1) (And.intro rfl ?_))))) <;> have mk1 : True := trivial) | refine' Or.inl (Exists.intro _ (And.intro ?_ (Exists.intro _ (And.intro (c1) (And.intro rfl ?_))))) | (have _q := mk3; refine' Or.inl (Exists.intro _ (And.intro ?_ (Exists.intro _ (And.intro (c2r) (And.intro rfl ?_)))))) | ((refine' Or.inr (Or.inl (And.intro rfl (Exists.intro _ (And.intro ?_ (Exists.intro _ (Exists.intro _ (And.intro (c2) (And.intro rfl ?_)))))))); focus (exact And.intro (deep_net3 (n := n) (i := 0) rfl rfl rfl rfl) trivial)) <;> have mk3 : True := trivial) | (refine' Or.inl (Exists.intro _ (And.intro ?_ (Exists.intro _ (And.intro (e1) (And.intro rfl ?_))))); focus (exact And.intro (deep_q4 (id := 3) rfl rfl rfl rfl rfl) (And.intro (deep_qro _) trivial))) | (refine' Or.inl (Exists.intro _ (And.intro ?_ (Exists.intro _ (And.intro (e1) (And.intro rfl ?_))))); focus (exact And.intro (deep_qro _) (And.intro (deep_qro _) trivial))) | (refine' Or.inl (Exists.intro _ (And.intro ?_ (Exists.intro _ (And.intro (t3) (And.intro rfl ?_))))); focus (refine And.intro (deep_net3 (n := n) (i := 0) rfl rfl rfl rfl) (And.intro (deep_ag2 ?_) trivial); repeat' first | exact trivial | refine And.intro (by exact rfl) ?_)) | refine' Or.inr (Or.inr (Or.inl (And.intro rfl (And.intro rfl (Exists.intro _ (Exists.intro _ (And.intro (mk) ?_))))))) | refine' Or.inr (Or.inr (Or.inl (And.intro rfl (And.intro rfl (Exists.intro _ (Exists.intro _ (And.intro (mq _ _ _) ?_))))))) | (refine' Or.inl (Exists.intro _ (And.intro ?_ (Exists.intro _ (And.intro (he) (And.intro rfl ?_))))); focus (exact And.intro (deep_q4 (id := 3) rfl rfl rfl rfl rfl) (And.intro rfl trivial))) | refine And.intro (show ByteArray.size _ + ByteArray.size _ ≤ _ from by (first | omega | (simp only [size_mk, size_add, List.size_toArray, List.length_cons, List.length_nil, maxLen] at *; omega))) ?_ | refine Exists.intro _ (And.intro (by with_unfolding_all exact rfl) ?_) | refine And.intro (by decide +kernel) ?_ | refine Exists.intro _ (And.intro (at_map (by (first | omega | (simp only [pkW_Nr] at *; omega)))) ?_) | (refine wrap_id' ?_; (first | omega | (simp only [pkW_Nr] at *; omega))) | refine And.intro ?_ ?_ | fail
  all_goals first
    | exact back_k rfl
    | (exfalso; omega)
    | exact absurd rfl h
   
theorem markQ_no (k : Int) : RO Cf Tryd.prog 38 [.ro true false 1 [], .i .i64 k] (.i .i64 k) := by
  refine RO_of Cf_ok ?_
  repeat' first | refine And.intro rfl ?_ | (refine And.intro (fun h => ?_) (fun h => ?_) <;> (try simp only [decide_eq_true_eq, decide_eq_false_iff_not, Bool.not_eq_true', Bool.not_eq_false', Bool.and_eq_true, Bool.or_eq_true, Bool.not_eq_eq_eq_not, Bool.not_true, Bool.not_false, beq_iff_eq, bne_iff_ne, beq_eq_false_iff_ne, bne_eq_false_iff_eq, Nat.not_lt, Int.not_lt, Int.not_le, wrap_byteAt, List.length_map, eqB_Row, eqB_Op, eqB_Rec, toList_inj, toList_nil, ne_eq, Int.toNat_natCast] at h) <;> (try simp only [wrap64] at h) <;> (try (exfalso; first | exact absurd h Bool.false_ne_true | exact absurd h.symm Bool.false_ne_true | exact h trivial | exact h rfl | omega))) | refine And.intro ⟨by (first | omega | (simp only [pkW_Nr] at *; omega)), by (first | omega | (simp only [pkW_Nr] at *; omega))⟩ ?_ | refine And.intro (show (_ : Int) ≠ 0 by decide) ?_ | refine And.intro ⟨by (first | omega | (simp only [pkW_Nr] at *; omega)), by (first | omega | (simp only [pkW_Nr] at *; omega)), room (by exact rfl) (by (first | omega | (simp only [pkW_Nr] at *; omega))) (by (first | omega | (simp only [pkW_Nr] at *; omega)))⟩ ?_ | refine And.intro (roomN (by exact rfl) (by (first | omega | (simp only [pkW_Nr] at *; omega)))) ?_ | exact trivial | exact rfl | refine Exists.intro _ (And.intro rfl ?_) | refine' cut1 _ ?_ ?_ | refine And.intro (deep_ag (by exact rfl) (by exact rfl)) ?_ | refine And.intro (deep_ag2 (by repeat' first | exact trivial | refine And.intro (by exact rfl) ?_)) ?_ | refine And.intro (deep_sl (by exact rfl) (by first | exact (List.length_map _).symm | assumption | exact rfl | (simp; done))) ?_ | refine And.intro (deep_rows (by intro x hx; repeat' first | exact trivial | refine And.intro (by exact rfl) ?_)) ?_ | refine And.intro (by exact rfl) ?_ | refine And.intro (Or.inl (by exact rfl)) ?_ | refine And.intro (show ByteArray.size _ + ByteArray.size _ ≤ _ from by (first | omega | (simp only [size_mk, size_add, List.size_toArray, List.length_cons, List.length_nil, maxLen] at *; omega))) ?_ | refine Exists.intro _ (And.intro (by with_unfolding_all exact rfl) ?_) | refine And.intro (by decide +kernel) ?_ | refine Exists.intro _ (And.intro (at_map (by (first | omega | (simp only [pkW_Nr] at *; omega)))) ?_) | (refine wrap_id' ?_; (first | omega | (simp only [pkW_Nr] at *; omega))) | refine And.intro ?_ ?_ | fail
  refine loop_nat 38 Cf_ok 0 (fun i (_ : Unit) => ⟨[.ro true false 1 [], .i .i64 k, .u, .u, .u, .i .i64 i, .u, .u, .u, .u, .u, .u, .u, .u, .u, .u, .u, .u, .u, .u], [none, none, none, none, none, none, none, none, none, none, none, none, none, none, none, none, none, none, none, none], []⟩) (fun _ _ => True) ?hc ?_ ?_ () trivial
  case hc => decide +kernel
  · rintro j _ hj; exfalso; omega
  · rintro _ _
    repeat' first | refine And.intro rfl ?_ | (refine And.intro (fun h => ?_) (fun h => ?_) <;> (try simp only [decide_eq_true_eq, decide_eq_false_iff_not, Bool.not_eq_true', Bool.not_eq_false', Bool.and_eq_true, Bool.or_eq_true, Bool.not_eq_eq_eq_not, Bool.not_true, Bool.not_false, beq_iff_eq, bne_iff_ne, beq_eq_false_iff_ne, bne_eq_false_iff_eq, Nat.not_lt, Int.not_lt, Int.not_le, wrap_byteAt, List.length_map, eqB_Row, eqB_Op, eqB_Rec, toList_inj, toList_nil, ne_eq, Int.toNat_natCast] at h) <;> (try simp only [wrap64] at h) <;> (try (exfalso; first | exact absurd h Bool.false_ne_true | exact absurd h.symm Bool.false_ne_true | exact h trivial | exact h rfl | omega))) | refine And.intro ⟨by (first | omega | (simp only [pkW_Nr] at *; omega)), by (first | omega | (simp only [pkW_Nr] at *; omega))⟩ ?_ | refine And.intro (show (_ : Int) ≠ 0 by decide) ?_ | refine And.intro ⟨by (first | omega | (simp only [pkW_Nr] at *; omega)), by (first | omega | (simp only [pkW_Nr] at *; omega)), room (by exact rfl) (by (first | omega | (simp only [pkW_Nr] at *; omega))) (by (first | omega | (simp only [pkW_Nr] at *; omega)))⟩ ?_ | refine And.intro (roomN (by exact rfl) (by (first | omega | (simp only [pkW_Nr] at *; omega)))) ?_ | exact trivial | exact rfl | refine Exists.intro _ (And.intro rfl ?_) | refine' cut1 _ ?_ ?_ | refine And.intro (deep_ag (by exact rfl) (by exact rfl)) ?_ | refine And.intro (deep_ag2 (by repeat' first | exact trivial | refine And.intro (by exact rfl) ?_)) ?_ | refine And.intro (deep_sl (by exact rfl) (by first | exact (List.length_map _).symm | assumption | exact rfl | (simp; done))) ?_ | refine And.intro (deep_rows (by intro x hx; repeat' first | exact trivial | refine And.intro (by exact rfl) ?_)) ?_ | refine And.intro (by exact rfl) ?_ | refine And.intro (Or.inl (by exact rfl)) ?_ | refine And.intro (show ByteArray.size _ + ByteArray.size _ ≤ _ from by (first | omega | (simp only [size_mk, size_add, List.size_toArray, List.length_cons, List.length_nil, maxLen] at *; omega))) ?_ | refine Exists.intro _ (And.intro (by with_unfolding_all exact rfl) ?_) | refine And.intro (by decide +kernel) ?_ | refine Exists.intro _ (And.intro (at_map (by (first | omega | (simp only [pkW_Nr] at *; omega)))) ?_) | (refine wrap_id' ?_; (first | omega | (simp only [pkW_Nr] at *; omega))) | refine And.intro ?_ ?_ | fail
    all_goals first | exact back_i rfl | (exfalso; simp only [List.length_nil] at h; omega)
theorem heldQ_no (k : Int) : RO Cf Tryd.prog 39 [.ro true false 1 [], .i .i64 k] (.i .i64 k) := by
  refine RO_of Cf_ok ?_
  repeat' first | refine And.intro rfl ?_ | (refine And.intro (fun h => ?_) (fun h => ?_) <;> (try simp only [decide_eq_true_eq, decide_eq_false_iff_not, Bool.not_eq_true', Bool.not_eq_false', Bool.and_eq_true, Bool.or_eq_true, Bool.not_eq_eq_eq_not, Bool.not_true, Bool.not_false, beq_iff_eq, bne_iff_ne, beq_eq_false_iff_ne, bne_eq_false_iff_eq, Nat.not_lt, Int.not_lt, Int.not_le, wrap_byteAt, List.length_map, eqB_Row, eqB_Op, eqB_Rec, toList_inj, toList_nil, ne_eq, Int.toNat_natCast] at h) <;> (try simp only [wrap64] at h) <;> (try (exfalso; first | exact absurd h Bool.false_ne_true | exact absurd h.symm Bool.false_ne_true | exact h trivial | exact h rfl | omega))) | refine And.intro ⟨by (first | omega | (simp only [pkW_Nr] at *; omega)), by (first | omega | (simp only [pkW_Nr] at *; omega))⟩ ?_ | refine And.intro (show (_ : Int) ≠ 0 by decide) ?_ | refine And.intro ⟨by (first | omega | (simp only [pkW_Nr] at *; omega)), by (first | omega | (simp only [pkW_Nr] at *; omega)), room (by exact rfl) (by (first | omega | (simp only [pkW_Nr] at *; omega))) (by (first | omega | (simp only [pkW_Nr] at *; omega)))⟩ ?_ | refine And.intro (roomN (by exact rfl) (by (first | omega | (simp only [pkW_Nr] at *; omega)))) ?_ | exact trivial | exact rfl | refine Exists.intro _ (And.intro rfl ?_) | refine' cut1 _ ?_ ?_ | refine And.intro (deep_ag (by exact rfl) (by exact rfl)) ?_ | refine And.intro (deep_ag2 (by repeat' first | exact trivial | refine And.intro (by exact rfl) ?_)) ?_ | refine And.intro (deep_sl (by exact rfl) (by first | exact (List.length_map _).symm | assumption | exact rfl | (simp; done))) ?_ | refine And.intro (deep_rows (by intro x hx; repeat' first | exact trivial | refine And.intro (by exact rfl) ?_)) ?_ | refine And.intro (by exact rfl) ?_ | refine And.intro (Or.inl (by exact rfl)) ?_ | refine And.intro (show ByteArray.size _ + ByteArray.size _ ≤ _ from by (first | omega | (simp only [size_mk, size_add, List.size_toArray, List.length_cons, List.length_nil, maxLen] at *; omega))) ?_ | refine Exists.intro _ (And.intro (by with_unfolding_all exact rfl) ?_) | refine And.intro (by decide +kernel) ?_ | refine Exists.intro _ (And.intro (at_map (by (first | omega | (simp only [pkW_Nr] at *; omega)))) ?_) | (refine wrap_id' ?_; (first | omega | (simp only [pkW_Nr] at *; omega))) | refine And.intro ?_ ?_ | fail
  refine loop_nat 39 Cf_ok 0 (fun i (_ : Unit) => ⟨[.ro true false 1 [], .i .i64 k, .u, .u, .u, .i .i64 i, .u, .u, .u, .u, .u, .u, .u, .u, .u, .u, .u, .u, .u, .u, .u, .u], [none, none, none, none, none, none, none, none, none, none, none, none, none, none, none, none, none, none, none, none, none, none], []⟩) (fun _ _ => True) ?hc ?_ ?_ () trivial
  case hc => decide +kernel
  · rintro j _ hj; exfalso; omega
  · rintro _ _
    repeat' first | refine And.intro rfl ?_ | (refine And.intro (fun h => ?_) (fun h => ?_) <;> (try simp only [decide_eq_true_eq, decide_eq_false_iff_not, Bool.not_eq_true', Bool.not_eq_false', Bool.and_eq_true, Bool.or_eq_true, Bool.not_eq_eq_eq_not, Bool.not_true, Bool.not_false, beq_iff_eq, bne_iff_ne, beq_eq_false_iff_ne, bne_eq_false_iff_eq, Nat.not_lt, Int.not_lt, Int.not_le, wrap_byteAt, List.length_map, eqB_Row, eqB_Op, eqB_Rec, toList_inj, toList_nil, ne_eq, Int.toNat_natCast] at h) <;> (try simp only [wrap64] at h) <;> (try (exfalso; first | exact absurd h Bool.false_ne_true | exact absurd h.symm Bool.false_ne_true | exact h trivial | exact h rfl | omega))) | refine And.intro ⟨by (first | omega | (simp only [pkW_Nr] at *; omega)), by (first | omega | (simp only [pkW_Nr] at *; omega))⟩ ?_ | refine And.intro (show (_ : Int) ≠ 0 by decide) ?_ | refine And.intro ⟨by (first | omega | (simp only [pkW_Nr] at *; omega)), by (first | omega | (simp only [pkW_Nr] at *; omega)), room (by exact rfl) (by (first | omega | (simp only [pkW_Nr] at *; omega))) (by (first | omega | (simp only [pkW_Nr] at *; omega)))⟩ ?_ | refine And.intro (roomN (by exact rfl) (by (first | omega | (simp only [pkW_Nr] at *; omega)))) ?_ | exact trivial | exact rfl | refine Exists.intro _ (And.intro rfl ?_) | refine' cut1 _ ?_ ?_ | refine And.intro (deep_ag (by exact rfl) (by exact rfl)) ?_ | refine And.intro (deep_ag2 (by repeat' first | exact trivial | refine And.intro (by exact rfl) ?_)) ?_ | refine And.intro (deep_sl (by exact rfl) (by first | exact (List.length_map _).symm | assumption | exact rfl | (simp; done))) ?_ | refine And.intro (deep_rows (by intro x hx; repeat' first | exact trivial | refine And.intro (by exact rfl) ?_)) ?_ | refine And.intro (by exact rfl) ?_ | refine And.intro (Or.inl (by exact rfl)) ?_ | refine And.intro (show ByteArray.size _ + ByteArray.size _ ≤ _ from by (first | omega | (simp only [size_mk, size_add, List.size_toArray, List.length_cons, List.length_nil, maxLen] at *; omega))) ?_ | refine Exists.intro _ (And.intro (by with_unfolding_all exact rfl) ?_) | refine And.intro (by decide +kernel) ?_ | refine Exists.intro _ (And.intro (at_map (by (first | omega | (simp only [pkW_Nr] at *; omega)))) ?_) | (refine wrap_id' ?_; (first | omega | (simp only [pkW_Nr] at *; omega))) | refine And.intro ?_ ?_ | fail
    all_goals first | exact back_i rfl | (exfalso; simp only [List.length_nil] at h; omega)
theorem law_NetTodo_no (n : Net) (hn : n.ok) (h0 : ¬ szNet n 1048576 < 0) (hk : netOk n = false) : RO Cf Tryd.prog 7 [.ag (n.av true)] (.b true) := by
  have hz := laws_szNet n hn 1048576 (by omega) (by omega)
  obtain ⟨l1, l2, l3, l4⟩ := szNet_le n 1048576 (by omega) (by omega)
  have c1 := spec_NetTodo_no n hn hk
  have c2 := impl_NetTodo_no n hn hk
  have t1 := ro_toNet n (by omega) (by omega) (by omega)
  have t2 := fn_toNet n (by omega) (by omega) (by omega)
  have t3 := laws_eqNet n n hn hn
  rw [show decide (n = n) = true from by simp] at t3
  replace t3 := RO_kt t3
  have e1 := laws_eqQueueSW [] [] ⟨by simp [maxLen], by simp⟩ ⟨by simp [maxLen], by simp⟩
  rw [show decide (([] : List Queue) = []) = true from by simp] at e1
  replace e1 := RO_kt e1
  have mk := fn_markNet n.grams n.sends n.flushes n.picks (by omega) (by omega) (by omega)
  have mq := markQ_no 1
  have he := heldQ_no 1
  generalize szNet n 1048576 = zz at *
  refine RO_of Cf_ok ?_
  repeat' first | refine And.intro rfl ?_ | (refine And.intro (fun h => ?_) (fun h => ?_) <;> (try simp only [decide_eq_true_eq, decide_eq_false_iff_not, Bool.not_eq_true', Bool.not_eq_false', Bool.and_eq_true, Bool.or_eq_true, Bool.not_eq_eq_eq_not, Bool.not_true, Bool.not_false, beq_iff_eq, bne_iff_ne, beq_eq_false_iff_ne, bne_eq_false_iff_eq, Nat.not_lt, Int.not_lt, Int.not_le, wrap_byteAt, List.length_map, eqB_Row, eqB_Op, eqB_Rec, toList_inj, toList_nil, ne_eq, Int.toNat_natCast] at h) <;> (try simp only [wrap64] at h) <;> (try (exfalso; first | exact absurd h Bool.false_ne_true | exact absurd h.symm Bool.false_ne_true | exact h trivial | exact h rfl | omega))) | refine And.intro ⟨by (first | omega | (simp only [pkW_Nr] at *; omega)), by (first | omega | (simp only [pkW_Nr] at *; omega))⟩ ?_ | refine And.intro (show (_ : Int) ≠ 0 by decide) ?_ | refine And.intro ⟨by (first | omega | (simp only [pkW_Nr] at *; omega)), by (first | omega | (simp only [pkW_Nr] at *; omega)), room (by exact rfl) (by (first | omega | (simp only [pkW_Nr] at *; omega))) (by (first | omega | (simp only [pkW_Nr] at *; omega)))⟩ ?_ | refine And.intro (roomN (by exact rfl) (by (first | omega | (simp only [pkW_Nr] at *; omega)))) ?_ | exact trivial | exact rfl | refine Exists.intro _ (And.intro rfl ?_) | refine' cut1 _ ?_ ?_ | refine And.intro (deep_ag (by exact rfl) (by exact rfl)) ?_ | refine And.intro (deep_ag2 (by repeat' first | exact trivial | refine And.intro (by exact rfl) ?_)) ?_ | refine And.intro (deep_sl (by exact rfl) (by first | exact (List.length_map _).symm | assumption | exact rfl | (simp; done))) ?_ | refine And.intro (deep_rows (by intro x hx; repeat' first | exact trivial | refine And.intro (by exact rfl) ?_)) ?_ | refine And.intro (by exact rfl) ?_ | refine And.intro (Or.inl (by exact rfl)) ?_ | refine' Or.inl (Exists.intro _ (And.intro ?_ (Exists.intro _ (And.intro (hz) (And.intro rfl ?_))))) | (have _q := mk2; refine' Or.inl (Exists.intro _ (And.intro ?_ (Exists.intro _ (And.intro (t1) (And.intro rfl ?_)))))) | (have _q := mk1; refine' Or.inr (Or.inl (And.intro rfl (Exists.intro _ (And.intro ?_ (Exists.intro _ (Exists.intro _ (And.intro (t2) (And.intro rfl ?_)))))))) <;> have mk2 : True := trivial) | (refine' Or.inl (Exists.intro _ (And.intro ?_ (Exists.intro _ (And.intro (t1) (And.intro rfl ?_))))) <;> have mk1 : True := trivial) | refine' Or.inl (Exists.intro _ (And.intro ?_ (Exists.intro _ (And.intro (c1) (And.intro rfl ?_))))) | (refine' Or.inl (Exists.intro _ (And.intro ?_ (Exists.intro _ (And.intro (c2) (And.intro rfl ?_))))); focus (exact And.intro (deep_net3 (n := n) (i := 0) rfl rfl rfl rfl) trivial)) | (refine' Or.inl (Exists.intro _ (And.intro ?_ (Exists.intro _ (And.intro (c2) (And.intro rfl ?_))))); focus ((repeat' first | exact trivial | refine And.intro (deep_ag (by exact rfl) (by exact rfl)) ?_ | refine And.intro (deep_ag2 ?_) ?_ | refine And.intro (deep_sl (by exact rfl) (by first | exact (List.length_map _).symm | assumption | exact rfl | (simp; done))) ?_ | refine And.intro (deep_rows (by intro x hx; repeat' first | exact trivial | refine And.intro (by exact rfl) ?_)) ?_ | refine And.intro (by exact rfl) ?_ | refine And.intro (Or.inl (by exact rfl)) ?_); done)) | (refine' Or.inl (Exists.intro _ (And.intro ?_ (Exists.intro _ (And.intro (e1) (And.intro rfl ?_))))); focus (exact And.intro (deep_qro []) (And.intro (deep_qro []) trivial))) | (refine' Or.inl (Exists.intro _ (And.intro ?_ (Exists.intro _ (And.intro (t3) (And.intro rfl ?_))))); focus (refine And.intro (deep_net3 (n := n) (i := 0) rfl rfl rfl rfl) (And.intro (deep_ag2 ?_) trivial); repeat' first | exact trivial | refine And.intro (by exact rfl) ?_)) | refine' Or.inr (Or.inr (Or.inl (And.intro rfl (And.intro rfl (Exists.intro _ (Exists.intro _ (And.intro (mk) ?_))))))) | (refine' Or.inl (Exists.intro _ (And.intro ?_ (Exists.intro _ (And.intro (mq) (And.intro rfl ?_))))); focus (exact And.intro (deep_qro []) (And.intro rfl trivial))) | (refine' Or.inl (Exists.intro _ (And.intro ?_ (Exists.intro _ (And.intro (he) (And.intro rfl ?_))))); focus (exact And.intro (deep_qro []) (And.intro rfl trivial))) | refine And.intro (show ByteArray.size _ + ByteArray.size _ ≤ _ from by (first | omega | (simp only [size_mk, size_add, List.size_toArray, List.length_cons, List.length_nil, maxLen] at *; omega))) ?_ | refine Exists.intro _ (And.intro (by with_unfolding_all exact rfl) ?_) | refine And.intro (by decide +kernel) ?_ | refine Exists.intro _ (And.intro (at_map (by (first | omega | (simp only [pkW_Nr] at *; omega)))) ?_) | (refine wrap_id' ?_; (first | omega | (simp only [pkW_Nr] at *; omega))) | refine And.intro ?_ ?_ | fail
  all_goals first
    | exact back_k rfl
    | (exfalso; omega)
    | exact absurd rfl h
   
theorem law_FnExactNetTodo (n : Net) (hn : n.ok) : RO Cf Tryd.prog 7 [.ag (n.av true)] (.b true) := by
  by_cases h0 : szNet n 1048576 < 0
  · have hz := laws_szNet n hn 1048576 (by omega) (by omega)
    refine RO_of Cf_ok ?_
    repeat' first | refine And.intro rfl ?_ | (refine And.intro (fun h => ?_) (fun h => ?_) <;> (try simp only [decide_eq_true_eq, decide_eq_false_iff_not, Bool.not_eq_true', Bool.not_eq_false', Bool.and_eq_true, Bool.or_eq_true, Bool.not_eq_eq_eq_not, Bool.not_true, Bool.not_false, beq_iff_eq, bne_iff_ne, beq_eq_false_iff_ne, bne_eq_false_iff_eq, Nat.not_lt, Int.not_lt, Int.not_le, wrap_byteAt, List.length_map, eqB_Row, eqB_Op, eqB_Rec, toList_inj, toList_nil, ne_eq, Int.toNat_natCast] at h) <;> (try simp only [wrap64] at h) <;> (try (exfalso; first | (cases h; done) | exact h trivial | exact h rfl | omega))) | refine And.intro ⟨by (first | omega | (simp only [pkW_Nr] at *; omega)), by (first | omega | (simp only [pkW_Nr] at *; omega))⟩ ?_ | refine And.intro (show (_ : Int) ≠ 0 by decide) ?_ | refine And.intro ⟨by (first | omega | (simp only [pkW_Nr] at *; omega)), by (first | omega | (simp only [pkW_Nr] at *; omega)), room (by exact rfl) (by (first | omega | (simp only [pkW_Nr] at *; omega))) (by (first | omega | (simp only [pkW_Nr] at *; omega)))⟩ ?_ | refine And.intro (roomN (by exact rfl) (by (first | omega | (simp only [pkW_Nr] at *; omega)))) ?_ | exact trivial | exact rfl | refine Exists.intro _ (And.intro rfl ?_) | refine' cut1 _ ?_ ?_ | refine And.intro (deep_ag (by exact rfl) (by exact rfl)) ?_ | refine And.intro (deep_ag2 (by repeat' first | exact trivial | refine And.intro (by exact rfl) ?_)) ?_ | refine And.intro (deep_sl (by exact rfl) (by first | exact (List.length_map _).symm | assumption | exact rfl | (simp; done))) ?_ | refine And.intro (deep_rows (by intro x hx; repeat' first | exact trivial | refine And.intro (by exact rfl) ?_)) ?_ | refine And.intro (by exact rfl) ?_ | refine And.intro (Or.inl (by exact rfl)) ?_ | refine' Or.inl (Exists.intro _ (And.intro ?_ (Exists.intro _ (And.intro (hz) (And.intro rfl ?_))))) | refine And.intro (show ByteArray.size _ + ByteArray.size _ ≤ _ from by (first | omega | (simp only [size_mk, size_add, List.size_toArray, List.length_cons, List.length_nil, maxLen] at *; omega))) ?_ | refine Exists.intro _ (And.intro (by with_unfolding_all exact rfl) ?_) | refine And.intro (by decide +kernel) ?_ | refine Exists.intro _ (And.intro (at_map (by (first | omega | (simp only [pkW_Nr] at *; omega)))) ?_) | (refine wrap_id' ?_; (first | omega | (simp only [pkW_Nr] at *; omega))) | refine And.intro ?_ ?_ | fail
    all_goals exact back_k rfl
  · cases hk : netOk n with
    | true => exact law_NetTodo_ok n hn h0 hk
    | false => exact law_NetTodo_no n hn h0 hk

end Go.Proofs.YtlcodlnldcidoaaDoor.Ev
