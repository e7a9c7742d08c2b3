/- Contracts: what the functions of this part return, for arguments as each contract says. -/
import Derived.Test.YtlcodlnldcidoaaDoorEvD
import Derived.Test.YtlcodlnldcidoaaDoorEvTab
import Derived.Test.YtlcodlnldcidoaaDoorSTy
import Derived.Test.YtlcodlnldcidoaaDoorSKb
import Derived.Test.YtlcodlnldcidoaaDoorSLb
import Derived.Test.YtlcodlnldcidoaaDoorSIt
import Derived.Test.YtlcodlnldcidoaaDoorSRo
import Derived.Test.YtlcodlnldcidoaaDoorSSw
import Derived.Test.YtlcodlnldcidoaaDoorSVi
import Derived.Test.YtlcodlnldcidoaaDoorSPl
import Derived.Test.YtlcodlnldcidoaaDoorSVa
import Derived.Test.YtlcodlnldcidoaaDoorSSp
import Derived.Test.YtlcodlnldcidoaaDoorSSq
import Derived.Test.YtlcodlnldcidoaaDoorSLn
import Derived.Test.YtlcodlnldcidoaaDoorSRp
import Derived.Test.YtlcodlnldcidoaaDoorSRc
import Derived.Test.YtlcodlnldcidoaaDoorSRe
import Derived.Test.YtlcodlnldcidoaaDoorSSy
import Derived.Test.YtlcodlnldcidoaaDoorSSz
set_option linter.constructorNameAsVariable false
set_option linter.unusedVariables false
set_option linter.unusedSimpArgs false
set_option linter.unusedVariables false
set_option maxHeartbeats 4000000
set_option maxRecDepth 20000
set_option linter.unusedSimpArgs false
set_option linter.constructorNameAsVariable false
namespace Go.Proofs.YtlcodlnldcidoaaDoor.Ev
open Go Go.Proofs
attribute [local irreducible] RO Fn IntKind.wrap TriL
theorem digs_no10 : ∀ l : List UInt8, digs l = true → cntB 10 l = 0
  | [], _ => rfl
  | x :: l, h => by
    rw [digs, List.all_cons, Bool.and_eq_true, dig, decide_eq_true_iff] at h
    have h1 := h.1
    have := digs_no10 l h.2
    rw [cntB, if_neg (by omega)]; omega
theorem key_no10 {s : ByteArray} (h : keyOk s = true) : cntB 10 (bs s) = 0 := by
  rw [keyOk, Bool.and_eq_true] at h
  have h := h.1
  generalize bs s = l at h
  induction l with
  | nil => rfl
  | cons x l ih =>
    rw [List.all_cons, Bool.and_eq_true, keyB, decide_eq_true_iff] at h
    have h1 := h.1
    rw [cntB, if_neg (by omega), ih h.2]
theorem kw_no10 (n : Int) : cntB 10 (bs (kw n)) = 0 := by
  unfold kw
  repeat' split
  all_goals rfl
theorem nums_no10 : ∀ l : List Int, (∀ n ∈ l, 0 ≤ n) → cntB 10 ((l.map fun n => 32 :: bs (decI n)).flatten) = 0
  | [], _ => rfl
  | n :: l, h => by
    rw [List.map_cons, List.flatten_cons, List.cons_append, cntB, if_neg (by decide), cntB_app, digs_no10 _ (decI_val (h n List.mem_cons_self)).2, nums_no10 l fun x hx => h x (List.mem_cons_of_mem _ hx)]
theorem show_no10 {r : Row} (h : rowOk r = true) (hq : quiet r = false) : cntB 10 (bs (showRow r)) = 0 := by
  have hk : keyOk r.key = true := by simp only [rowOk, Bool.and_eq_true] at h; exact h.1
  have hn := nums_nn h
  rw [showRow, if_pos ⟨h, hq⟩, showL_bs, bs_append, bs_append, cntB_app, cntB_app, cntB_app, key_no10 hk, kw_no10, nums_no10 _ fun n hx => (hn n hx).1]
  rfl
theorem rep_bs : ∀ (l : List Row) (s : ByteArray), bs (l.foldl addRow s) = bs s ++ (l.map fun r => bs (showRow r) ++ [10]).flatten
  | [], s => by simp
  | r :: l, s => by
    rw [List.foldl_cons, rep_bs l, addRow, bs_append, bs_append, List.map_cons, List.flatten_cons]
    simp only [List.append_assoc]; rfl
theorem split_rep : ∀ l : List Row, (∀ r ∈ l, rowOk r = true ∧ quiet r = false) → splitB 10 ((l.map fun r => bs (showRow r) ++ [10]).flatten) = (l.map fun r => bs (showRow r)) ++ [[]]
  | [], _ => rfl
  | r :: l, h => by
    have hr := h r List.mem_cons_self
    rw [List.map_cons, List.flatten_cons, List.append_assoc, List.singleton_append, splitB_pre (by rfl) _ (show_no10 hr.1 hr.2), split_rep l fun x hx => h x (List.mem_cons_of_mem _ hx)]
    rfl
theorem rep_rows {l : List Row} (h : reportOk l = true) : ∀ r ∈ l, rowOk r = true ∧ quiet r = false := by
  intro r hr
  obtain ⟨k, hk, rfl⟩ := List.getElem_of_mem hr
  exact report_row h hk
theorem showRow_ne {r : Row} (h : rowOk r = true) (hq : quiet r = false) : showRow r ≠ ⟨#[]⟩ := by
  intro e
  have hk : keyOk r.key = true := by simp only [rowOk, Bool.and_eq_true] at h; exact h.1
  have h1 := (keyOk_size' hk).1
  have : bs (showRow r) = [] := by rw [e]; rfl
  rw [showRow, if_pos ⟨h, hq⟩, showL_bs, bs_append, bs_append] at this
  have := congrArg List.length this
  simp only [List.length_append, bs_len, List.length_nil] at this
  omega
theorem pieces_rep {l : List Row} (h : reportOk l = true) : splitS 10 (showRep l) = l.map showRow ++ [⟨#[]⟩] := by
  rw [splitS, showRep, if_pos h, rep_bs, show bs (⟨#[]⟩ : ByteArray) = [] from rfl, List.nil_append, split_rep l (rep_rows h), List.map_append, List.map_map]
  congr 1
theorem lines_rep {l : List Row} (h : reportOk l = true) : linesS (showRep l) = l.map showRow := by
  have e := pieces_rep h
  rw [splitS] at e
  rw [linesS, linesL, e, List.filter_append]
  rw [List.filter_eq_self.2, show List.filter (fun x => decide (x ≠ (⟨#[]⟩ : ByteArray))) [⟨#[]⟩] = [] from rfl, List.append_nil]
  intro x hx
  obtain ⟨r, hr, rfl⟩ := List.mem_map.1 hx
  have := rep_rows h r hr
  rw [decide_eq_true_iff]; exact showRow_ne this.1 this.2
theorem readRow_show {r : Row} (h : rowOk r = true) (hq : quiet r = false) : readRow (showRow r) = (r, true) := by
  obtain ⟨a, b, c⟩ := cand_of h hq
  rw [readRow, a, if_pos ⟨c, rfl⟩]
def rowsRd (l : List ByteArray) : List Row := l.map fun x => (readRow x).1
theorem rows_of_show {l : List Row} (h : reportOk l = true) : rowsRd (l.map showRow) = l := by
  rw [rowsRd, List.map_map]
  conv => rhs; rw [← List.map_id l]
  refine List.map_congr_left fun r hr => ?_
  have := rep_rows h r hr
  show (readRow (showRow r)).1 = _
  rw [readRow_show this.1 this.2]; rfl
def readRep (s : ByteArray) : List Row × Bool := if reportOk (rowsRd (linesS s)) = true ∧ showRep (rowsRd (linesS s)) = s then (rowsRd (linesS s), true) else ([], false)
def pcs (s : ByteArray) : List ByteArray := (splitS 10 s).dropLast
theorem readRep_bad {s x : ByteArray} (hx : x ∈ pcs s) (h : (readRow x).2 = false) : readRep s = ([], false) := by
  rw [readRep, if_neg]
  rintro ⟨h1, h2⟩
  have e := pieces_rep h1
  rw [h2] at e
  rw [pcs, e, List.dropLast_concat] at hx
  obtain ⟨r, hr, rfl⟩ := List.mem_map.1 hx
  have := rep_rows h1 r hr
  rw [readRow_show this.1 this.2] at h
  exact absurd h (by simp)
theorem readRep_good (s : ByteArray) : readRep s = if reportOk (rowsRd (pcs s)) = true ∧ showRep (rowsRd (pcs s)) = s then (rowsRd (pcs s), true) else ([], false) := by
  rw [readRep]
  by_cases h : reportOk (rowsRd (linesS s)) = true ∧ showRep (rowsRd (linesS s)) = s
  · have e := pieces_rep h.1
    have e2 := lines_rep h.1
    rw [h.2] at e e2
    have e3 : pcs s = linesS s := by
      conv => rhs; rw [e2]
      rw [pcs, e, List.dropLast_concat]
    rw [e3]
  · rw [if_neg h]
    by_cases q : reportOk (rowsRd (pcs s)) = true ∧ showRep (rowsRd (pcs s)) = s
    · exfalso
      have e := pieces_rep q.1
      have e2 := lines_rep q.1
      rw [q.2] at e e2
      have e4 : (splitS 10 s).dropLast = List.map showRow (rowsRd (pcs s)) := by rw [e, List.dropLast_concat]
      have e3 : pcs s = linesS s := e4.trans e2.symm
      rw [e3] at q
      exact h q
    · rw [if_neg q]
theorem numI_ok (L : List ByteArray) (i : Nat) : I64 (numI L i) := by
  rw [numI]; split
  · exact decV_ok _
  · exact ⟨by decide, by decide⟩
theorem readRow_ok (s : ByteArray) (hs : s.size ≤ 1048576) : (readRow s).1.ok := by
  have k0 : I64 0 := ⟨by decide, by decide⟩
  rw [readRow]
  split
  · show (candI _).ok
    have hk : ((splitS 32 s).getD 0 ⟨#[]⟩).size ≤ maxLen := by
      rw [List.getD_eq_getElem?_getD]
      cases e : (splitS 32 s)[0]? with
      | none => show (0 : Nat) ≤ maxLen; unfold maxLen; omega
      | some x =>
        have := splitS_mem (List.mem_of_getElem? e)
        show x.size ≤ maxLen; unfold maxLen; omega
    have hd := kindOf_rng ((splitS 32 s).getD 1 ⟨#[]⟩)
    have kd : I64 (kindOf ((splitS 32 s).getD 1 ⟨#[]⟩)) := ⟨by omega, by omega⟩
    rw [candI, mkRowI]
    repeat' split
    · exact ⟨hk, kd, numI_ok _ _, k0, k0, k0, k0, k0, k0⟩
    · exact ⟨hk, kd, k0, numI_ok _ _, k0, k0, k0, k0, k0⟩
    · exact ⟨hk, kd, k0, k0, numI_ok _ _, numI_ok _ _, numI_ok _ _, numI_ok _ _, numI_ok _ _⟩
    · exact ⟨hk, kd, k0, k0, k0, k0, k0, k0, k0⟩
  · exact ⟨by show (0 : Nat) ≤ maxLen; unfold maxLen; omega, k0, k0, k0, k0, k0, k0, k0, k0⟩

end Go.Proofs.YtlcodlnldcidoaaDoor.Ev
