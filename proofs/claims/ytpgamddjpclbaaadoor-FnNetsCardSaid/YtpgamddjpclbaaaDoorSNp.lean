/- Contracts: what the functions of this part return, for arguments as each contract says. -/
import Derived.Test.YtpgamddjpclbaaaDoorEvD
import Derived.Test.YtpgamddjpclbaaaDoorEvTab
import Derived.Test.YtpgamddjpclbaaaDoorSTy
import Derived.Test.YtpgamddjpclbaaaDoorSKb
import Derived.Test.YtpgamddjpclbaaaDoorSLb
import Derived.Test.YtpgamddjpclbaaaDoorSSp
import Derived.Test.YtpgamddjpclbaaaDoorSSq
import Derived.Test.YtpgamddjpclbaaaDoorSLn
import Derived.Test.YtpgamddjpclbaaaDoorSPl
import Derived.Test.YtpgamddjpclbaaaDoorSCq
import Derived.Test.YtpgamddjpclbaaaDoorSPg
import Derived.Test.YtpgamddjpclbaaaDoorSPh
import Derived.Test.YtpgamddjpclbaaaDoorSMk
import Derived.Test.YtpgamddjpclbaaaDoorSMr
import Derived.Test.YtpgamddjpclbaaaDoorSPw
import Derived.Test.YtpgamddjpclbaaaDoorSNt
import Derived.Test.YtpgamddjpclbaaaDoorSMs
import Derived.Test.YtpgamddjpclbaaaDoorSRj
import Derived.Test.YtpgamddjpclbaaaDoorSRm
import Derived.Test.YtpgamddjpclbaaaDoorSOb
import Derived.Test.YtpgamddjpclbaaaDoorSTd
set_option linter.constructorNameAsVariable false
set_option linter.unusedVariables false
set_option linter.unusedSimpArgs false
set_option linter.unusedVariables false
set_option maxHeartbeats 4000000
set_option maxRecDepth 20000
set_option linter.unusedSimpArgs false
set_option linter.constructorNameAsVariable false
namespace Go.Proofs.YtpgamddjpclbaaaDoor.Ev
open Go Go.Proofs
attribute [local irreducible] RO Fn IntKind.wrap TriL
/- what FnNets says of a net (pure) -/
structure RecOk (r : Rec) : Prop where
  key : keyOk r.key = true
  what : 1 ≤ r.what ∧ r.what ≤ 3
  val : 0 ≤ r.val ∧ r.val ≤ 65535
theorem valL_nn2 : ∀ (l : List UInt8), digs l = true → ∀ n : Int, 0 ≤ n → n ≤ valL l n
  | [], _, n, h => Int.le_refl _
  | x :: l, hd, n, h => by
    rw [digs, List.all_cons, Bool.and_eq_true, dig, decide_eq_true_iff] at hd
    have := valL_nn2 l hd.2 (10 * n + ((x.toNat : Int) - 48)) (by omega)
    rw [valL]; omega
theorem readV_rng (s : ByteArray) (h : (readV s).2 = true) : 0 ≤ (readV s).1 ∧ (readV s).1 ≤ 65535 := by
  rw [readV] at h ⊢
  split at h
  · rename_i q
    rw [if_pos q]
    refine ⟨?_, q.2.2.2⟩
    exact valL_nn2 _ q.2.2.1 0 (Int.le_refl 0)
  · cases h
theorem parseL_good {s : ByteArray} {r : Rec} (h : parseL s = (r, 0)) : RecOk r := by
  rw [parseL] at h
  generalize idxB 124 ((bs s).drop (idxB 58 (bs s) 0 + 1).toNat) (idxB 58 (bs s) 0 + 1) = k at h
  generalize idxB 58 (bs s) 0 = i at h
  rw [parseK] at h
  repeat' split at h
  all_goals first
    | exact absurd (show (_ : Int) = 0 from congrArg Prod.snd h) (by decide)
    | (rename_i q1 q2 q3 q4 q5
       have hr := congrArg Prod.fst h
       simp only [] at hr
       subst hr
       have := kindOf_rng (s.extract (k + 1).toNat s.size)
       exact ⟨by simpa using q3, by show 1 ≤ kindOf _ ∧ kindOf _ ≤ 3; omega, readV_rng _ (by simpa using q5)⟩)
theorem gstep_mem' {p : List Rec × List Int} {s : ByteArray} {r : Rec} (h : r ∈ (gstep p s).1) : r ∈ p.1 ∨ parseL s = (r, 0) := by
  rw [gstep] at h
  simp only [List.mem_append] at h
  rcases h with h | h
  · exact .inl h
  · split at h
    · rename_i h0
      rw [List.mem_singleton] at h
      subst h
      exact .inr (by rw [← h0])
    · simp at h
theorem gramF_good (l : List ByteArray) : ∀ (p : List Rec × List Int), (∀ r ∈ p.1, RecOk r) → ∀ r ∈ (l.foldl gstep p).1, RecOk r := by
  induction l with
  | nil => intro p h; exact h
  | cons x l ih =>
    intro p h
    rw [List.foldl_cons]
    refine ih _ fun r hr => ?_
    rcases gstep_mem' hr with q | q
    · exact h r q
    · exact parseL_good q
theorem parseG_good (s : ByteArray) : ∀ r ∈ (parseG s).1, RecOk r := by
  rw [parseG]
  split
  · intro r hr; simp at hr
  · exact gramF_good _ _ (by intro r hr; simp at hr)
/-- The first count is that of the records. -/
theorem gramF_zero (l : List ByteArray) : ∀ (p : List Rec × List Int), p.2.length = 6 → p.2.getD 0 0 = (p.1.length : Int) → (l.foldl gstep p).2.getD 0 0 = ((l.foldl gstep p).1.length : Int) := by
  induction l with
  | nil => intro p _ h; exact h
  | cons x l ih =>
    intro p h6 h
    rw [List.foldl_cons]
    have hr := parseL_rng x
    refine ih _ (by rw [gstep]; simpa using h6) ?_
    rw [gstep]
    simp only [List.getD_eq_getElem?_getD] at h ⊢
    by_cases h0 : (parseL x).2 = 0
    · rw [if_pos h0, h0, show (0 : Int).toNat = 0 from rfl, List.getElem?_set_self (by omega)]
      simp only [Option.getD_some, List.length_append, List.length_cons, List.length_nil]
      rw [h]; push_cast; rfl
    · rw [if_neg h0, List.getElem?_set_ne (by omega), List.append_nil]
      exact h
theorem parseG_zero (s : ByteArray) : (parseG s).2.getD 0 0 = ((parseG s).1.length : Int) := by
  rw [parseG]
  split
  · rfl
  · exact gramF_zero _ _ rfl rfl
theorem fillQ_two : ∀ (l : List Rec) (q : List Op) (lost : Int), ((fillQ q lost l).1.length : Int) + 2 * (fillQ q lost l).2 = (q.length : Int) + 2 * lost + 2 * l.length
  | [], q, lost => by simp [fillQ]
  | r :: l, q, lost => by
    rw [fillQ]
    split
    · rw [fillQ_two l q (lost + 1), List.length_cons]; push_cast; omega
    · rw [fillQ_two l _ lost, enq_len, List.length_cons]; push_cast; omega
def opW (o : Op) : Prop := o.kind ≠ 3 ∧ opOk o = true
theorem enq_good {q : List Op} {r : Rec} (hq : ∀ o ∈ q, opW o) (hr : RecOk r) : ∀ o ∈ enq q r, opW o := by
  intro o ho
  rw [enq, List.mem_append] at ho
  rcases ho with ho | ho
  · exact hq o ho
  · simp only [List.mem_cons, List.not_mem_nil, or_false] at ho
    rcases ho with rfl | rfl
    · exact ⟨by show (1 : Int) ≠ 3; omega, by rw [opOk, decide_eq_true_eq]; exact .inl ⟨rfl, hr.key, hr.what, rfl⟩⟩
    · exact ⟨by show (2 : Int) ≠ 3; omega, by rw [opOk, decide_eq_true_eq]; exact .inr (.inl ⟨rfl, hr.key, rfl, hr.val⟩)⟩
theorem fillQ_good : ∀ (l : List Rec) (q : List Op) (lost : Int), (∀ r ∈ l, RecOk r) → (∀ o ∈ q, opW o) → ∀ o ∈ (fillQ q lost l).1, opW o
  | [], q, _, _, h => h
  | r :: l, q, lost, hl, h => by
    rw [fillQ]
    split
    · exact fillQ_good l q _ (fun x hx => hl x (by simp [hx])) h
    · exact fillQ_good l _ _ (fun x hx => hl x (by simp [hx])) (enq_good h (hl r (by simp)))
structure QsGood (s : Qs) : Prop where
  a : ∀ o ∈ s.a, opW o
  b : ∀ o ∈ s.b, opW o
  c : ∀ o ∈ s.c, opW o
theorem todoQ_good (n : Net) : QsGood (todoQ n) := by
  unfold todoQ
  suffices h : ∀ (l : List Send) (s : Qs), QsGood s → QsGood (l.foldl (sendQ n) s) from h _ _ ⟨by simp, by simp, by simp⟩
  intro l
  induction l with
  | nil => intro s h; exact h
  | cons x l ih =>
    intro s h
    rw [List.foldl_cons]
    refine ih _ ?_
    have hg := parseG_good (gramOf n x)
    rw [sendQ]
    split
    · exact ⟨fillQ_good _ _ _ hg h.a, h.b, h.c⟩
    · split
      · exact ⟨h.a, fillQ_good _ _ _ hg h.b, h.c⟩
      · exact ⟨h.a, h.b, fillQ_good _ _ _ hg h.c⟩
theorem todoQ_two (n : Net) : ((todoQ n).a.length : Int) + (todoQ n).b.length + (todoQ n).c.length + 2 * (todoQ n).lost = 2 * ((delT n n.sends.length).length : Int) := by
  unfold todoQ delT
  rw [List.take_length]
  suffices h : ∀ (l : List Send) (s : Qs), ((l.foldl (sendQ n) s).a.length : Int) + (l.foldl (sendQ n) s).b.length + (l.foldl (sendQ n) s).c.length + 2 * (l.foldl (sendQ n) s).lost = (s.a.length : Int) + s.b.length + s.c.length + 2 * s.lost + 2 * ((l.flatMap fun x => (parseG (gramOf n x)).1).length : Int) by
    have := h n.sends ⟨[], [], [], 0⟩
    rw [this]; simp
  intro l
  induction l with
  | nil => intro s; simp
  | cons x l ih =>
    intro s
    rw [List.foldl_cons, ih, List.flatMap_cons, List.length_append]
    have h1 := fillQ_two (parseG (gramOf n x)).1 s.a s.lost
    have h2 := fillQ_two (parseG (gramOf n x)).1 s.b s.lost
    have h3 := fillQ_two (parseG (gramOf n x)).1 s.c s.lost
    rw [sendQ]
    split
    · simp only []; push_cast; omega
    · split <;> simp only [] <;> push_cast <;> omega
theorem addL_zero {a b : List Int} (ha : a.length = 6) (hb : b.length = 6) : (addL a b).getD 0 0 = a.getD 0 0 + b.getD 0 0 := by
  match a, b, ha, hb with
  | x :: a, y :: b, _, _ => rfl
theorem rej_zero (n : Net) (hg : ∀ s ∈ n.grams, s.size ≤ 1048576) : (rejT n n.sends.length).getD 0 0 = ((delT n n.sends.length).length : Int) := by
  suffices h : ∀ k, k ≤ n.sends.length → (rejT n k).getD 0 0 = ((delT n k).length : Int) from h _ (Nat.le_refl _)
  intro k
  induction k with
  | zero => intro _; simp [rejT, delT]
  | succ k ih =>
    intro hk
    have hs : (gramOf n n.sends[k]).size ≤ 1048576 := by
      rw [gramOf, List.getD_eq_getElem?_getD]
      cases e : n.grams[n.sends[k].gram.toNat]? with
      | none => show (0 : Nat) ≤ 1048576; omega
      | some x => exact hg x (List.mem_of_getElem? e)
    rw [rejT_succ n (by omega), delT_succ n (by omega), addL_zero (rejT_ok n hg k (by omega)).1 (parseG_len _ hs).2, ih (by omega), parseG_zero, List.length_append]
    push_cast; rfl
theorem flQ_good (k : Nat) : ∀ o ∈ flQ k, o.kind = 3 ∧ opOk o = true := by
  intro o ho
  rw [flQ, List.mem_replicate] at ho
  rw [ho.2]
  exact ⟨rfl, by decide⟩

end Go.Proofs.YtpgamddjpclbaaaDoor.Ev
