/- Contracts: what the functions of this part return, for arguments as each contract says. -/
import Derived.Test.YtbkejhjjojdmnaaEvD
import Derived.Test.YtbkejhjjojdmnaaEvTab
import Derived.Test.YtbkejhjjojdmnaaSTy
import Derived.Test.YtbkejhjjojdmnaaSKt
import Derived.Test.YtbkejhjjojdmnaaSKb
import Derived.Test.YtbkejhjjojdmnaaSLb
import Derived.Test.YtbkejhjjojdmnaaSOb
import Derived.Test.YtbkejhjjojdmnaaSRw
import Derived.Test.YtbkejhjjojdmnaaSFr
import Derived.Test.YtbkejhjjojdmnaaSEs
import Derived.Test.YtbkejhjjojdmnaaSWd
import Derived.Test.YtbkejhjjojdmnaaSWk
import Derived.Test.YtbkejhjjojdmnaaSWl
import Derived.Test.YtbkejhjjojdmnaaSWm
import Derived.Test.YtbkejhjjojdmnaaSSp
import Derived.Test.YtbkejhjjojdmnaaSKq
import Derived.Test.YtbkejhjjojdmnaaSKr
import Derived.Test.YtbkejhjjojdmnaaSKs
import Derived.Test.YtbkejhjjojdmnaaSKv
import Derived.Test.YtbkejhjjojdmnaaSKu
import Derived.Test.YtbkejhjjojdmnaaSKy
import Derived.Test.YtbkejhjjojdmnaaSWn
import Derived.Test.YtbkejhjjojdmnaaSWo
import Derived.Test.YtbkejhjjojdmnaaSIn
set_option linter.constructorNameAsVariable false
set_option linter.unusedVariables false
set_option linter.unusedSimpArgs false
set_option linter.unusedVariables false
set_option maxHeartbeats 4000000
set_option maxRecDepth 20000
set_option linter.unusedSimpArgs false
set_option linter.constructorNameAsVariable false
namespace Go.Proofs.Ytbkejhjjojdmnaa.Ev
open Go Go.Proofs
attribute [local irreducible] RO Fn IntKind.wrap TriL
/- safety of a world: the pure part -/
def tabAt (a : List Int) (s : Nat) : Bool := decide (a.getD (3 + (s : Int)).toNat 0 = 0 ∨ (findKey a (untag (a.getD (3 + (s : Int)).toNat 0)).1).1 = (s : Int))
def tabF (a : List Int) : Nat → Nat → Bool
  | 0, _ => true
  | m + 1, n => tabAt a n && tabF a m (n + 1)
def tableOk (a : List Int) : Bool := cellsOk a && tabF a 4 0
theorem tabF_at (a : List Int) {k : Nat} (hk : k < 4) : tabF a (4 - k) k = (tabAt a k && tabF a (4 - (k + 1)) (k + 1)) := by
  rw [show 4 - k = (4 - (k + 1)) + 1 from by omega, tabF]
theorem untag_key {n : Int} (h : ¬ (untag n).2 = 0) : keyOk (untag n).1 = true := by
  rw [untag] at h ⊢
  split at h
  · rename_i q; rw [if_pos q]; exact (unpack_true q.1).2.2.1
  · exact absurd rfl h
theorem untag_none {n : Int} (h : (untag n).2 = 0) : (untag n).1 = ⟨#[]⟩ := by
  rw [untag] at h ⊢
  split at h
  · rename_i q
    have h' : n.tmod 4 = 0 := h
    omega
  · rename_i q; rw [if_neg q]
theorem keyOk_nil : keyOk ⟨#[]⟩ = false := by decide +kernel
theorem find_nil (a : List Int) : (findKey a ⟨#[]⟩).1 = -1 := by
  rw [findKey, if_neg (by rw [keyOk_nil]; simp)]
theorem find_out {a : List Int} {s : ByteArray} (h : cellsOk a = true) (hk : keyOk s = true) : (outS a s 4 0).1 = (findKey a s).1 := by
  rw [(outS_find a s 4 0).1, findKey, if_pos ⟨h, hk⟩]
def drJ (b : Int) (j : Job) : Bool := decide ((j.busy = true ∧ j.op.kind = 3 ∧ 13 ≤ j.pc ∧ j.pc ≤ 15) ∧ j.e.tmod 2 = b)
def draining (l : List Job) (b : Int) : Bool := l.any (drJ b)
def bufL (a : List Int) (b : Nat) : List Int := (a.drop (7 + 32 * b)).take 32
def zeroB (x : Int) : Bool := decide (x = 0)
def bufClear (a : List Int) (b : Nat) : Bool := (bufL a b).all zeroB
theorem bufL_len {a : List Int} (h : a.length = 71) {b : Nat} (hb : b ≤ 1) : (bufL a b).length = 32 := by
  rw [bufL, List.length_take, List.length_drop, h]; omega
theorem bufL_at {a : List Int} (h : a.length = 71) {b : Nat} (hb : b ≤ 1) {i : Nat} (hi : i < 32) : (bufL a b)[i]'(by rw [bufL_len h hb]; exact hi) = a[7 + 32 * b + i]'(by omega) := by
  simp only [bufL, List.getElem_take, List.getElem_drop]
def clr (a : List Int) (b : Nat) : List Int := a.take (7 + 32 * b) ++ List.replicate 32 0 ++ a.drop (7 + 32 * b + 32)
theorem clr_eq {a : List Int} (h : a.length = 71) {b : Nat} (hb : b ≤ 1) : a = clr a b ↔ bufClear a b = true := by
  have e : a = a.take (7 + 32 * b) ++ bufL a b ++ a.drop (7 + 32 * b + 32) := by
    have h1 : (a.drop (7 + 32 * b)).drop 32 = a.drop (7 + 32 * b + 32) := List.drop_drop
    rw [bufL, ← h1, List.append_assoc, List.take_append_drop, List.take_append_drop]
  have hl := bufL_len h hb
  rw [bufClear, List.all_eq_true]
  constructor
  · intro q x hx
    rw [clr] at q
    have q2 := e.symm.trans q
    have q3 := List.append_inj_left' q2 rfl
    have q4 := List.append_inj_right q3 rfl
    rw [q4] at hx
    rw [zeroB, decide_eq_true_eq]
    exact List.eq_of_mem_replicate hx
  · intro q
    have : bufL a b = List.replicate 32 0 := by
      rw [List.eq_replicate_iff]
      refine ⟨hl, fun x hx => ?_⟩
      have := q x hx
      rw [zeroB, decide_eq_true_eq] at this
      exact this
    rw [this] at e
    exact e
def clash (f j : Job) : Bool := decide ((f.busy = true ∧ (f.pc = 14 ∨ f.pc = 15)) ∧ jin j = true ∧ j.e = f.e ∧ 5 ≤ j.pc ∧ j.pc ≤ 9)
def alone (l : List Job) : Bool := l.all fun f => l.all fun j => !clash f j
structure SafeP (w : World') : Prop where
  o : worldOk w = true
  t : tableOk w.cells = true
  a : alone w.jobs = true
  n0 : w.cells.getD 1 0 = insN 0 w.jobs
  n1 : w.cells.getD 2 0 = insN 1 w.jobs
  b0 : w.cells.getD 0 0 % 2 = 1 → draining w.jobs 0 = true ∨ bufClear w.cells 0 = true
  b1 : w.cells.getD 0 0 % 2 = 0 → draining w.jobs 1 = true ∨ bufClear w.cells 1 = true
open Classical in
noncomputable def safeOk (w : World') : Bool := decide (SafeP w)
theorem safe_yes {w : World'} (h : SafeP w) : safeOk w = true := by simp only [safeOk, decide_eq_true_eq]; exact h
theorem safe_no {w : World'} (h : ¬ SafeP w) : safeOk w = false := by simp only [safeOk, decide_eq_false_iff_not]; exact h
theorem world_cells {w : World'} (h : worldOk w = true) : cellsOk w.cells = true ∧ w.jobs.length = 4 ∧ allI jobAt w.jobs 0 = true := by
  rw [worldOk, Bool.and_eq_true, Bool.and_eq_true, Bool.and_eq_true, decide_eq_true_eq] at h
  exact ⟨h.1.1.1, h.1.2.2.2, h.2⟩
theorem allI_mem {p : Nat → Job → Bool} : ∀ (l : List Job) (n : Nat), allI p l n = true → ∀ j ∈ l, ∃ t, p t j = true
  | [], _, _, _, h => absurd h (List.not_mem_nil)
  | x :: l, n, h, j, hj => by
    rw [allI, Bool.and_eq_true] at h
    rcases List.mem_cons.1 hj with rfl | hj
    · exact ⟨n, h.1⟩
    · exact allI_mem l (n + 1) h.2 j hj
theorem busy_kind {w : World'} (h : worldOk w = true) {f : Job} (hf : f ∈ w.jobs) (hb : f.busy = true) (hp : f.pc = 14 ∨ f.pc = 15) : f.op.kind = 3 := by
  obtain ⟨t, ht⟩ := allI_mem _ _ (world_cells h).2.2 f hf
  rw [jobAt, if_pos hb, Bool.and_eq_true] at ht
  have := ht.1
  simp only [jobOk, decide_eq_true_eq] at this
  have := this.2.place
  omega

end Go.Proofs.Ytbkejhjjojdmnaa.Ev
