/- Contracts: what the functions of this part return, for arguments as each contract says. -/
import Derived.Test.YtlcodlnldcidoaaDoorEvD
import Derived.Test.YtlcodlnldcidoaaDoorEvTab
import Derived.Test.YtlcodlnldcidoaaDoorSTy
import Derived.Test.YtlcodlnldcidoaaDoorSKb
import Derived.Test.YtlcodlnldcidoaaDoorSLb
import Derived.Test.YtlcodlnldcidoaaDoorSIt
import Derived.Test.YtlcodlnldcidoaaDoorSRo
import Derived.Test.YtlcodlnldcidoaaDoorSSw
import Derived.Test.YtlcodlnldcidoaaDoorSVi
import Derived.Test.YtlcodlnldcidoaaDoorSPl
import Derived.Test.YtlcodlnldcidoaaDoorSVa
import Derived.Test.YtlcodlnldcidoaaDoorSSp
import Derived.Test.YtlcodlnldcidoaaDoorSSq
import Derived.Test.YtlcodlnldcidoaaDoorSLn
set_option linter.constructorNameAsVariable false
set_option linter.unusedVariables false
set_option linter.unusedSimpArgs false
set_option linter.unusedVariables false
set_option maxHeartbeats 4000000
set_option maxRecDepth 20000
set_option linter.unusedSimpArgs false
set_option linter.constructorNameAsVariable false
namespace Go.Proofs.YtlcodlnldcidoaaDoor.Ev
open Go Go.Proofs
attribute [local irreducible] RO Fn IntKind.wrap TriL
def decV (s : ByteArray) : Int := if 1 ≤ s.size ∧ s.size ≤ 15 ∧ digs (bs s) = true then valL (bs s) 0 else -1
def skL : List UInt8 → Int → Int
  | [], n => n
  | x :: l, n => if dig x.toNat = true then skL l (10 * n + ((x.toNat : Int) - 48)) else skL l n
def skV (s : ByteArray) : Int := skL ((bs s).take 15) 0
theorem skL_digs : ∀ (l : List UInt8) (n : Int), digs l = true → skL l n = valL l n
  | [], n, _ => rfl
  | x :: l, n, h => by
    rw [digs, List.all_cons, Bool.and_eq_true] at h
    rw [skL, if_pos h.1, valL]; exact skL_digs l _ h.2
theorem digs_no32 : ∀ l : List UInt8, digs l = true → cntB 32 l = 0
  | [], _ => rfl
  | x :: l, h => by
    rw [digs, List.all_cons, Bool.and_eq_true, dig, decide_eq_true_iff] at h
    have h1 := h.1
    have := digs_no32 l h.2
    rw [cntB, if_neg (by omega)]; omega
theorem key_no32 {s : ByteArray} (h : keyOk s = true) : cntB 32 (bs s) = 0 := by
  rw [keyOk, Bool.and_eq_true] at h
  have h := h.1
  generalize bs s = l at h
  induction l with
  | nil => rfl
  | cons x l ih =>
    rw [List.all_cons, Bool.and_eq_true, keyB, decide_eq_true_iff] at h
    have h1 := h.1
    rw [cntB, if_neg (by omega), ih h.2]
theorem kw_no32 (n : Int) : cntB 32 (bs (kw n)) = 0 := by
  unfold kw
  repeat' split
  all_goals rfl
theorem dec_no32 {n : Int} (h : 0 ≤ n) : cntB 32 (bs (decI n)) = 0 := digs_no32 _ (decI_val h).2
theorem showL_bs (l : List Int) : ∀ s : ByteArray, bs (showL s l) = bs s ++ (l.map fun n => 32 :: bs (decI n)).flatten := by
  induction l with
  | nil => intro s; simp [showL]
  | cons n l ih =>
    intro s
    rw [showL_cons, ih, bs_append, bs_append]
    simp only [List.map_cons, List.flatten_cons, List.append_assoc]; rfl
theorem split_nums : ∀ (l : List Int) (p : List UInt8), (∀ n ∈ l, 0 ≤ n) → cntB 32 p = 0 → splitB 32 (p ++ (l.map fun n => 32 :: bs (decI n)).flatten) = p :: l.map fun n => bs (decI n)
  | [], p, _, hp => by rw [List.map_nil, List.flatten_nil, List.append_nil, splitB_none hp]; rfl
  | n :: l, p, h, hp => by
    rw [List.map_cons, List.flatten_cons, List.cons_append, splitB_pre (by rfl) _ hp, split_nums l (bs (decI n)) (fun x hx => h x (List.mem_cons_of_mem _ hx)) (dec_no32 (h n List.mem_cons_self))]
    rfl
theorem nums_nn {r : Row} (h : rowOk r = true) : ∀ n ∈ nums r, 0 ≤ n ∧ n ≤ 281474976710655 := by
  have hk := rowOk_kind h
  simp only [rowOk, Bool.and_eq_true] at h
  have h := h.2
  intro n hn
  unfold nums at hn
  rcases hk with k | k | k
  · rw [if_pos k] at hn h
    simp only [decide_eq_true_eq] at h
    simp only [List.mem_singleton] at hn; subst hn; omega
  · rw [if_neg (by omega), if_pos k] at hn h
    simp only [decide_eq_true_eq] at h
    simp only [List.mem_singleton] at hn; subst hn; omega
  · rw [if_neg (by omega), if_neg (by omega)] at hn h
    rw [if_pos k] at h
    simp only [Bool.and_eq_true, decide_eq_true_eq, timerOk] at h
    obtain ⟨_, h⟩ := h
    simp only [List.mem_cons, List.not_mem_nil, or_false] at hn
    split at h
    · rename_i h0
      simp only [decide_eq_true_eq] at h
      omega
    · simp only [decide_eq_true_eq] at h
      obtain ⟨⟨a1, a2⟩, ⟨a3, a4⟩, a5, ⟨a6, a7⟩, ⟨a8, a9⟩, _⟩ := h
      have hn3 : r.n = 1 ∨ r.n = 2 ∨ r.n = 3 := by omega
      rcases hn3 with q | q | q <;> (rw [q, wrap_id (by omega) (by omega)] at a6 a7) <;> omega
theorem split_show {r : Row} (h : rowOk r = true) (hq : quiet r = false) : splitS 32 (showRow r) = r.key :: kw r.kind :: (nums r).map decI := by
  have hk : keyOk r.key = true := by simp only [rowOk, Bool.and_eq_true] at h; exact h.1
  have hn := nums_nn h
  rw [showRow, if_pos ⟨h, hq⟩, splitS, showL_bs, bs_append, bs_append]
  rw [show bs (⟨#[32]⟩ : ByteArray) = [32] from rfl, List.append_assoc, List.append_assoc, List.singleton_append, splitB_pre (by rfl) _ (key_no32 hk), split_nums _ _ (fun n hx => (hn n hx).1) (kw_no32 _)]
  simp only [List.map_cons, ofBs_bs, List.map_map]
  rfl
theorem dec_size {n : Int} (h : 0 ≤ n ∧ n ≤ 281474976710655) : 1 ≤ (decI n).size ∧ (decI n).size ≤ 15 := by
  by_cases h0 : n = 0
  · subst h0
    rw [← bs_len, decI_zero]; exact ⟨Nat.le_refl _, by simp⟩
  · have e := dgs_len 15 (u := n.natAbs) (by omega)
    rw [← bs_len, decI_pos (by omega)]
    refine ⟨?_, e⟩
    rw [dgs_step (by omega)]; simp
theorem decV_dec {n : Int} (h : 0 ≤ n ∧ n ≤ 281474976710655) : decV (decI n) = n := by
  obtain ⟨h1, h2⟩ := dec_size h
  obtain ⟨h3, h4⟩ := decI_val h.1
  rw [decV, if_pos ⟨h1, h2, h4⟩, h3]
theorem skV_dec {n : Int} (h : 0 ≤ n ∧ n ≤ 281474976710655) : skV (decI n) = n := by
  obtain ⟨h1, h2⟩ := dec_size h
  obtain ⟨h3, h4⟩ := decI_val h.1
  rw [skV, List.take_of_length_le (by rw [bs_len]; exact h2), skL_digs _ _ h4, h3]
theorem kindOf_kw {n : Int} (h : n = 1 ∨ n = 2 ∨ n = 3) : kindOf (kw n) = n := ((kindOf_lem _ n h).1 rfl)
def mkRowI (k : ByteArray) (d : Int) (n : Nat → Int) : Row := if d = 1 then ⟨k, d, n 0, false, 0, 0, 0, 0, 0, 0⟩ else if d = 2 then ⟨k, d, 0, true, n 0, 0, 0, 0, 0, 0⟩ else if d = 3 then ⟨k, d, 0, false, 0, n 0, n 1, n 2, n 3, n 4⟩ else ⟨k, d, 0, false, 0, 0, 0, 0, 0, 0⟩
def mkRowS (k : ByteArray) (d : Int) (n : Nat → Int) : Row := if d = 1 then ⟨k, d, n 0, false, 0, 0, 0, 0, 0, 0⟩ else if d = 2 then ⟨k, d, 0, true, n 0, 0, 0, 0, 0, 0⟩ else ⟨k, d, 0, false, 0, n 0, n 1, n 2, n 3, n 4⟩
def numI (ws : List ByteArray) (i : Nat) : Int := if i + 2 < ws.length then decV (ws.getD (i + 2) ⟨#[]⟩) else 0
def candI (ws : List ByteArray) : Row := mkRowI (ws.getD 0 ⟨#[]⟩) (kindOf (ws.getD 1 ⟨#[]⟩)) (numI ws)
def candS (ws : List ByteArray) : Row := mkRowS (ws.getD 0 ⟨#[]⟩) (kindOf (ws.getD 1 ⟨#[]⟩)) fun i => skV (ws.getD (i + 2) ⟨#[]⟩)
def readRow (s : ByteArray) : Row × Bool := if 3 ≤ (splitS 32 s).length ∧ showRow (candI (splitS 32 s)) = s then (candI (splitS 32 s), true) else (Row.zero, false)
theorem cand_of {r : Row} (h : rowOk r = true) (hq : quiet r = false) : candI (splitS 32 (showRow r)) = r ∧ candS (splitS 32 (showRow r)) = r ∧ 3 ≤ (splitS 32 (showRow r)).length := by
  have hk := rowOk_kind h
  have hn := nums_nn h
  rw [split_show h hq]
  simp only [rowOk, Bool.and_eq_true] at h
  have h := h.2
  have hd := kindOf_kw hk
  rw [quiet, decide_eq_false_iff_not] at hq
  simp only [candI, candS, List.getD_cons_zero, List.getD_cons_succ, hd]
  rcases hk with k | k | k
  · rw [if_pos k] at h
    simp only [decide_eq_true_eq] at h
    have e : nums r = [r.sum] := by rw [nums, if_pos k]
    rw [e] at hn ⊢
    have h1 := hn r.sum (by simp)
    simp only [mkRowI, mkRowS, numI, if_pos k, List.map_cons, List.map_nil, List.getD_cons_zero, List.getD_cons_succ, List.length_cons, List.length_nil, decV_dec h1, skV_dec h1]
    exact ⟨h.1.symm, h.1.symm, by omega⟩
  · rw [if_neg (by omega), if_pos k] at h
    simp only [decide_eq_true_eq] at h
    have e : nums r = [r.last] := by rw [nums, if_neg (by omega), if_pos k]
    rw [e] at hn ⊢
    have h1 := hn r.last (by simp)
    have k1 : ¬ r.kind = 1 := by omega
    have hs : r.set = true := by
      have h0 := h.1
      have a1 : r.sum = 0 := by rw [h0]
      have a2 : r.n = 0 := by rw [h0]
      cases hb : r.set with
      | true => rfl
      | false => exact absurd ⟨a1, a2, hb⟩ hq
    simp only [mkRowI, mkRowS, numI, if_neg k1, if_pos k, List.map_cons, List.map_nil, List.getD_cons_zero, List.getD_cons_succ, List.length_cons, List.length_nil, decV_dec h1, skV_dec h1]
    have h0 := h.1
    rw [hs] at h0
    exact ⟨h0.symm, h0.symm, by omega⟩
  · have k1 : ¬ r.kind = 1 := by omega
    have k2 : ¬ r.kind = 2 := by omega
    rw [if_neg k1, if_neg k2, if_pos k] at h
    simp only [Bool.and_eq_true, decide_eq_true_eq] at h
    obtain ⟨⟨a1, a2, a3⟩, _⟩ := h
    have e : nums r = [r.n, r.min, r.max, r.total, r.dropped] := by rw [nums, if_neg k1, if_neg k2]
    rw [e] at hn ⊢
    have h1 := hn r.n (by simp)
    have h2 := hn r.min (by simp)
    have h3 := hn r.max (by simp)
    have h4 := hn r.total (by simp)
    have h5 := hn r.dropped (by simp)
    simp only [mkRowI, mkRowS, numI, if_neg k1, if_neg k2, if_pos k, List.map_cons, List.map_nil, List.getD_cons_zero, List.getD_cons_succ, List.length_cons, List.length_nil, decV_dec h1, skV_dec h1, decV_dec h2, skV_dec h2, decV_dec h3, skV_dec h3, decV_dec h4, skV_dec h4, decV_dec h5, skV_dec h5]
    refine ⟨?_, ?_, by omega⟩ <;> exact Row.ext' rfl rfl a1.symm a2.symm a3.symm rfl rfl rfl rfl rfl
theorem showRow_ok {r : Row} (h : showRow r ≠ ⟨#[]⟩) : rowOk r = true ∧ quiet r = false := by
  by_cases q : rowOk r = true ∧ quiet r = false
  · exact q
  · exact absurd (by rw [showRow, if_neg q]) h
theorem readRow_spec (s : ByteArray) : readRow s = if s ≠ ⟨#[]⟩ ∧ showRow (candS (splitS 32 s)) = s then (candS (splitS 32 s), true) else (Row.zero, false) := by
  rw [readRow]
  by_cases h0 : s = ⟨#[]⟩
  · subst h0
    rw [if_neg, if_neg (by simp)]
    rintro ⟨h, _⟩
    have : (splitS 32 (⟨#[]⟩ : ByteArray)).length = 1 := rfl
    omega
  · by_cases h1 : showRow (candI (splitS 32 s)) = s
    · obtain ⟨q1, q2⟩ := showRow_ok (r := candI (splitS 32 s)) (by rw [h1]; exact h0)
      obtain ⟨_, a2, a3⟩ := cand_of q1 q2
      rw [h1] at a2 a3
      rw [a2, if_pos ⟨a3, h1⟩, if_pos ⟨h0, h1⟩]
    · rw [if_neg (fun q => h1 q.2)]
      by_cases h2 : showRow (candS (splitS 32 s)) = s
      · obtain ⟨q1, q2⟩ := showRow_ok (r := candS (splitS 32 s)) (by rw [h2]; exact h0)
        obtain ⟨a1, _, _⟩ := cand_of q1 q2
        rw [h2] at a1
        rw [a1] at h1; exact absurd h2 h1
      · rw [if_neg (fun q => h2 q.2)]

end Go.Proofs.YtlcodlnldcidoaaDoor.Ev
