/- Contracts: what the functions of this part return, for arguments as each contract says. -/
import Derived.Test.YthnjhephkbokeaaEvD
import Derived.Test.YthnjhephkbokeaaEvTab
import Derived.Test.YthnjhephkbokeaaSTy
import Derived.Test.YthnjhephkbokeaaSKb
import Derived.Test.YthnjhephkbokeaaSLb
import Derived.Test.YthnjhephkbokeaaSRw
import Derived.Test.YthnjhephkbokeaaSCu
import Derived.Test.YthnjhephkbokeaaSCv
import Derived.Test.YthnjhephkbokeaaSGr
set_option linter.constructorNameAsVariable false
set_option linter.unusedVariables false
set_option linter.unusedSimpArgs false
set_option linter.unusedVariables false
set_option maxHeartbeats 4000000
set_option maxRecDepth 20000
set_option linter.unusedSimpArgs false
set_option linter.constructorNameAsVariable false
namespace Go.Proofs.Ythnjhephkbokeaa.Ev
open Go Go.Proofs
attribute [local irreducible] RO Fn IntKind.wrap TriL
theorem u8_app {l : List UInt8} {rows : List (List AV)} {m : Nat} (e : rows = l.map bv) (n : Int) (h : l.length = m) : ∃ l' : List UInt8, rows ++ [[AV.i .u8 (IntKind.u8.wrap n)]] = l'.map bv ∧ l'.length = m + 1 := by
  refine ⟨l ++ [UInt8.ofNat (IntKind.u8.wrap n).toNat], ?_, by simp [h]⟩
  rw [List.map_append, ← e, List.map_cons, List.map_nil, u8_back]
theorem back_sl {hp : Hp} {d id n wd : Nat} {rows : List (List AV)} (h : at? hp id = some (some ⟨wd, true, rows⟩)) (hn : n = rows.length) : Back hp (d + 1) (.sl id 0 n) (.ro false true wd rows) := by
  simp only [Back, h]
  exact ⟨rows, cut_full _ hn, rfl⟩
theorem laws_fresh (code : List UInt8) (hl : code.length ≤ 1048576) (salt : Int) (hs : 0 ≤ salt) (hs2 : salt ≤ 1000) : Rx Cf Try.prog 37 [.ro true true 1 (code.map bv), .i .i64 salt] (bytesQ 601) := by
  obtain ⟨N, hN1, hN2, hN3⟩ : ∃ N : Nat, N ≤ code.length ∧ N ≤ 600 ∧ (N = code.length ∨ N = 600) := ⟨min code.length 600, by omega, by omega, by omega⟩
  refine Rx_of Cf_ok ?_
  repeat' first | refine And.intro rfl ?_ | (refine And.intro (fun h => ?_) (fun h => ?_) <;> (try simp only [decide_eq_true_eq, decide_eq_false_iff_not, Bool.not_eq_true', Bool.not_eq_false', Bool.and_eq_true, Bool.or_eq_true, Bool.not_eq_eq_eq_not, Bool.not_true, Bool.not_false, beq_iff_eq, bne_iff_ne, beq_eq_false_iff_ne, bne_eq_false_iff_eq, Nat.not_lt, Int.not_lt, Int.not_le, wrap_byteAt, List.length_map, eqB_Row, eqB_Op, eqB_Rec, toList_inj, toList_nil, ne_eq, Int.toNat_natCast] at h) <;> (try simp only [wrap64] at h) <;> (try (exfalso; first | (cases h; done) | exact h trivial | exact h rfl | omega))) | refine And.intro ⟨by (first | omega | (simp only [wrap64, maxLen, List.length_map, List.length_append, List.length_cons, List.length_nil, Int.toNat_natCast] at *; omega)), by (first | omega | (simp only [wrap64, maxLen, List.length_map, List.length_append, List.length_cons, List.length_nil, Int.toNat_natCast] at *; omega))⟩ ?_ | refine And.intro (show (_ : Int) ≠ 0 by decide) ?_ | refine And.intro ⟨by (first | omega | (simp only [wrap64, maxLen, List.length_map, List.length_append, List.length_cons, List.length_nil, Int.toNat_natCast] at *; omega)), by (first | omega | (simp only [wrap64, maxLen, List.length_map, List.length_append, List.length_cons, List.length_nil, Int.toNat_natCast] at *; omega)), room (by exact rfl) (by (first | omega | (simp only [wrap64, maxLen, List.length_map, List.length_append, List.length_cons, List.length_nil, Int.toNat_natCast] at *; omega))) (by (first | omega | (simp only [wrap64, maxLen, List.length_map, List.length_append, List.length_cons, List.length_nil, Int.toNat_natCast] at *; omega)))⟩ ?_ | refine And.intro (roomN (by exact rfl) (by (first | omega | (simp only [wrap64, maxLen, List.length_map, List.length_append, List.length_cons, List.length_nil, Int.toNat_natCast] at *; omega)))) ?_ | exact trivial | exact rfl | refine Exists.intro _ (And.intro rfl ?_) | refine' cut1 _ ?_ ?_ | refine And.intro (deep_ag (by exact rfl) (by exact rfl)) ?_ | refine And.intro (deep_ag2 (by repeat' first | exact trivial | refine And.intro (by exact rfl) ?_)) ?_ | refine And.intro (deep_sl (by exact rfl) (by first | exact (List.length_map _).symm | assumption | exact rfl | (simp; done))) ?_ | refine And.intro (deep_rows (by intro x hx; repeat' first | exact trivial | refine And.intro (by exact rfl) ?_)) ?_ | refine And.intro (by exact rfl) ?_ | refine And.intro (Or.inl (by exact rfl)) ?_ | refine And.intro (show ByteArray.size _ + ByteArray.size _ ≤ _ from by (first | omega | (simp only [size_mk, size_add, List.size_toArray, List.length_cons, List.length_nil, maxLen] at *; omega))) ?_ | refine Exists.intro _ (And.intro (by with_unfolding_all exact rfl) ?_) | refine And.intro (by decide +kernel) ?_ | refine Exists.intro _ (And.intro (at_map (by (first | omega | (simp only [wrap64, maxLen, List.length_map, List.length_append, List.length_cons, List.length_nil, Int.toNat_natCast] at *; omega)))) ?_) | (refine wrap_id' ?_; (first | omega | (simp only [wrap64, maxLen, List.length_map, List.length_append, List.length_cons, List.length_nil, Int.toNat_natCast] at *; omega))) | refine And.intro ?_ ?_ | fail
  refine loop_nat 37 Cf_ok N (fun i (p : Nat × List (List AV)) => ⟨[.ro true true 1 (code.map bv), .i .i64 salt, .u, .u, .u, .sl 0 0 p.1, .i .i64 i, .u, .u, .u, .u, .u, .u, .u, .u, .u, .u, .u, .u, .u, .u, .u, .u, .u, .u, .u, .u, .u, .u, .u, .u, .u, .u, .u, .u, .u, .u], [none, none, none, none, none, none, none, none, none, none, none, none, none, none, none, none, none, none, none, none, none, none, none, none, none, none, none, none, none, none, none, none, none, none, none, none, none], [some ⟨1, true, p.2⟩]⟩)
    (fun k p => p.1 = p.2.length ∧ ∃ l : List UInt8, p.2 = l.map bv ∧ l.length = k + 1) ?hc ?_ ?_ (_, _) ?_
  case hc => decide +kernel
  · rintro k ⟨n, rows⟩ hk ⟨e1, l, e2, h2⟩ ih
    simp only [] at e1 e2
    have h4 : rows.length = k + 1 := by rw [e2]; simpa using h2
    repeat' first | refine And.intro rfl ?_ | (refine And.intro (fun h => ?_) (fun h => ?_) <;> (try simp only [decide_eq_true_eq, decide_eq_false_iff_not, Bool.not_eq_true', Bool.not_eq_false', Bool.and_eq_true, Bool.or_eq_true, Bool.not_eq_eq_eq_not, Bool.not_true, Bool.not_false, beq_iff_eq, bne_iff_ne, beq_eq_false_iff_ne, bne_eq_false_iff_eq, Nat.not_lt, Int.not_lt, Int.not_le, wrap_byteAt, List.length_map, eqB_Row, eqB_Op, eqB_Rec, toList_inj, toList_nil, ne_eq, Int.toNat_natCast] at h) <;> (try simp only [wrap64] at h) <;> (try (exfalso; first | (cases h; done) | exact h trivial | exact h rfl | omega))) | refine And.intro ⟨by (first | omega | (simp only [wrap64, maxLen, List.length_map, List.length_append, List.length_cons, List.length_nil, Int.toNat_natCast] at *; omega)), by (first | omega | (simp only [wrap64, maxLen, List.length_map, List.length_append, List.length_cons, List.length_nil, Int.toNat_natCast] at *; omega))⟩ ?_ | refine And.intro (show (_ : Int) ≠ 0 by decide) ?_ | refine And.intro ⟨by (first | omega | (simp only [wrap64, maxLen, List.length_map, List.length_append, List.length_cons, List.length_nil, Int.toNat_natCast] at *; omega)), by (first | omega | (simp only [wrap64, maxLen, List.length_map, List.length_append, List.length_cons, List.length_nil, Int.toNat_natCast] at *; omega)), room (by exact rfl) (by (first | omega | (simp only [wrap64, maxLen, List.length_map, List.length_append, List.length_cons, List.length_nil, Int.toNat_natCast] at *; omega))) (by (first | omega | (simp only [wrap64, maxLen, List.length_map, List.length_append, List.length_cons, List.length_nil, Int.toNat_natCast] at *; omega)))⟩ ?_ | refine And.intro (roomN (by exact rfl) (by (first | omega | (simp only [wrap64, maxLen, List.length_map, List.length_append, List.length_cons, List.length_nil, Int.toNat_natCast] at *; omega)))) ?_ | exact trivial | exact rfl | refine Exists.intro _ (And.intro rfl ?_) | refine' cut1 _ ?_ ?_ | refine And.intro (deep_ag (by exact rfl) (by exact rfl)) ?_ | refine And.intro (deep_ag2 (by repeat' first | exact trivial | refine And.intro (by exact rfl) ?_)) ?_ | refine And.intro (deep_sl (by exact rfl) (by first | exact (List.length_map _).symm | assumption | exact rfl | (simp; done))) ?_ | refine And.intro (deep_rows (by intro x hx; repeat' first | exact trivial | refine And.intro (by exact rfl) ?_)) ?_ | refine And.intro (by exact rfl) ?_ | refine And.intro (Or.inl (by exact rfl)) ?_ | (refine' Exists.intro _ (Exists.intro _ (And.intro (show rowsR _ _ _ _ _ from ?_) (And.intro (show bytesOf _ = _ from ?_) ?_)))) | (refine' Exists.intro _ (Exists.intro _ (And.intro (show rowsR _ _ _ _ _ from ?_) (And.intro (show rowsR _ _ _ _ _ from ?_) (And.intro ?_ ?_))))) | (refine cut_full _ ?_; first | assumption | exact (List.length_map _).symm | exact rfl | (simp; done)) | refine roomN (by exact rfl) (by (first | omega | (simp only [wrap64, maxLen, List.length_map, List.length_append, List.length_cons, List.length_nil, Int.toNat_natCast] at *; omega))) | refine TriL_gh (gh_ren (σ := [2]) (h' := [some ⟨1, true, _⟩]) rfl rfl rfl ⟨Or.inl ⟨rfl, rfl⟩, trivial⟩) (ih _ (_, _) ?_ ?_) | refine And.intro (show ByteArray.size _ + ByteArray.size _ ≤ _ from by (first | omega | (simp only [size_mk, size_add, List.size_toArray, List.length_cons, List.length_nil, maxLen] at *; omega))) ?_ | refine Exists.intro _ (And.intro (by with_unfolding_all exact rfl) ?_) | refine And.intro (by decide +kernel) ?_ | refine Exists.intro _ (And.intro (at_map (by (first | omega | (simp only [wrap64, maxLen, List.length_map, List.length_append, List.length_cons, List.length_nil, Int.toNat_natCast] at *; omega)))) ?_) | (refine wrap_id' ?_; (first | omega | (simp only [wrap64, maxLen, List.length_map, List.length_append, List.length_cons, List.length_nil, Int.toNat_natCast] at *; omega))) | refine And.intro ?_ ?_ | fail
    exact Hold.mk ⟨by simp, u8_app e2 _ h2⟩
  · rintro ⟨n, rows⟩ ⟨e1, l, e2, h2⟩
    simp only [] at e1 e2
    have h4 : rows.length = N + 1 := by rw [e2]; simpa using h2
    repeat' first | refine And.intro rfl ?_ | (refine And.intro (fun h => ?_) (fun h => ?_) <;> (try simp only [decide_eq_true_eq, decide_eq_false_iff_not, Bool.not_eq_true', Bool.not_eq_false', Bool.and_eq_true, Bool.or_eq_true, Bool.not_eq_eq_eq_not, Bool.not_true, Bool.not_false, beq_iff_eq, bne_iff_ne, beq_eq_false_iff_ne, bne_eq_false_iff_eq, Nat.not_lt, Int.not_lt, Int.not_le, wrap_byteAt, List.length_map, eqB_Row, eqB_Op, eqB_Rec, toList_inj, toList_nil, ne_eq, Int.toNat_natCast] at h) <;> (try simp only [wrap64] at h) <;> (try (exfalso; first | (cases h; done) | exact h trivial | exact h rfl | omega))) | refine And.intro ⟨by (first | omega | (simp only [wrap64, maxLen, List.length_map, List.length_append, List.length_cons, List.length_nil, Int.toNat_natCast] at *; omega)), by (first | omega | (simp only [wrap64, maxLen, List.length_map, List.length_append, List.length_cons, List.length_nil, Int.toNat_natCast] at *; omega))⟩ ?_ | refine And.intro (show (_ : Int) ≠ 0 by decide) ?_ | refine And.intro ⟨by (first | omega | (simp only [wrap64, maxLen, List.length_map, List.length_append, List.length_cons, List.length_nil, Int.toNat_natCast] at *; omega)), by (first | omega | (simp only [wrap64, maxLen, List.length_map, List.length_append, List.length_cons, List.length_nil, Int.toNat_natCast] at *; omega)), room (by exact rfl) (by (first | omega | (simp only [wrap64, maxLen, List.length_map, List.length_append, List.length_cons, List.length_nil, Int.toNat_natCast] at *; omega))) (by (first | omega | (simp only [wrap64, maxLen, List.length_map, List.length_append, List.length_cons, List.length_nil, Int.toNat_natCast] at *; omega)))⟩ ?_ | refine And.intro (roomN (by exact rfl) (by (first | omega | (simp only [wrap64, maxLen, List.length_map, List.length_append, List.length_cons, List.length_nil, Int.toNat_natCast] at *; omega)))) ?_ | exact trivial | exact rfl | refine Exists.intro _ (And.intro rfl ?_) | refine' cut1 _ ?_ ?_ | refine And.intro (deep_ag (by exact rfl) (by exact rfl)) ?_ | refine And.intro (deep_ag2 (by repeat' first | exact trivial | refine And.intro (by exact rfl) ?_)) ?_ | refine And.intro (deep_sl (by exact rfl) (by first | exact (List.length_map _).symm | assumption | exact rfl | (simp; done))) ?_ | refine And.intro (deep_rows (by intro x hx; repeat' first | exact trivial | refine And.intro (by exact rfl) ?_)) ?_ | refine And.intro (by exact rfl) ?_ | refine And.intro (Or.inl (by exact rfl)) ?_ | refine And.intro (show ByteArray.size _ + ByteArray.size _ ≤ _ from by (first | omega | (simp only [size_mk, size_add, List.size_toArray, List.length_cons, List.length_nil, maxLen] at *; omega))) ?_ | refine Exists.intro _ (And.intro (by with_unfolding_all exact rfl) ?_) | refine And.intro (by decide +kernel) ?_ | refine Exists.intro _ (And.intro (at_map (by (first | omega | (simp only [wrap64, maxLen, List.length_map, List.length_append, List.length_cons, List.length_nil, Int.toNat_natCast] at *; omega)))) ?_) | (refine wrap_id' ?_; (first | omega | (simp only [wrap64, maxLen, List.length_map, List.length_append, List.length_cons, List.length_nil, Int.toNat_natCast] at *; omega))) | refine And.intro ?_ ?_ | fail
    all_goals exact ⟨_, ⟨l, by omega, rfl⟩, by rw [← e2]; exact back_sl rfl e1⟩
  · exact ⟨rfl, [UInt8.ofNat (IntKind.u8.wrap salt).toNat], by show [[AV.i .u8 (IntKind.u8.wrap salt)]] = _; rw [u8_back]; rfl, rfl⟩
theorem rowOk_ne {a : Row} (h : rowOk a = true) : a ≠ Row.zero := by
  rintro rfl
  simp [rowOk, keyOk] at h
structure RowN (r : Row) : Prop where
  sum : 0 ≤ r.sum ∧ r.sum ≤ 281474976710655
  n : 0 ≤ r.n ∧ r.n ≤ 3
  z : r.n = 0 → r.min = 0 ∧ r.max = 0 ∧ r.total = 0 ∧ r.dropped = 0
  p : r.n > 0 → 0 ≤ r.min ∧ r.min ≤ r.max ∧ r.max ≤ 65535
  tot : 0 ≤ r.total ∧ r.total ≤ 196605
  drop : 0 ≤ r.dropped ∧ r.dropped ≤ 65535
theorem rowOk_num {r : Row} (h : rowOk r = true) : RowN r := by
  simp only [rowOk, Bool.and_eq_true] at h
  obtain ⟨_, h⟩ := h
  split at h
  · simp only [decide_eq_true_eq] at h
    obtain ⟨e, h1, h2⟩ := h
    rw [e]
    exact ⟨⟨h1, h2⟩, ⟨by simp, by simp⟩, fun _ => ⟨rfl, rfl, rfl, rfl⟩, fun q => absurd q (by simp), ⟨by simp, by simp⟩, ⟨by simp, by simp⟩⟩
  · split at h
    · simp only [decide_eq_true_eq] at h
      obtain ⟨e, h1, h2⟩ := h
      rw [e]
      exact ⟨⟨by simp, by simp⟩, ⟨by simp, by simp⟩, fun _ => ⟨rfl, rfl, rfl, rfl⟩, fun q => absurd q (by simp), ⟨by simp, by simp⟩, ⟨by simp, by simp⟩⟩
    · split at h
      · simp only [Bool.and_eq_true, decide_eq_true_eq, timerOk] at h
        obtain ⟨⟨e1, e2, e3⟩, h⟩ := h
        split at h
        · rename_i h0
          simp only [decide_eq_true_eq] at h
          refine ⟨by omega, by omega, fun _ => h, fun q => by omega, by omega, by omega⟩
        · rename_i h0
          simp only [decide_eq_true_eq] at h
          obtain ⟨⟨a1, a2⟩, ⟨a3, a4⟩, a5, ⟨a6, a7⟩, ⟨a8, a9⟩, _⟩ := h
          have hn : r.n = 1 ∨ r.n = 2 ∨ r.n = 3 := by omega
          rcases hn with q | q | q <;> (rw [q, wrap_id (by omega) (by omega)] at a6 a7) <;> exact ⟨by omega, by omega, fun _ => by omega, fun _ => by omega, by omega, by omega⟩
      · cases h
theorem mergeRow_same {a b : Row} (h0 : a ≠ Row.zero) (hk : b.key = a.key) (hd : b.kind = a.kind) : mergeRow a b =
    { key := a.key, kind := a.kind, sum := (a.sum + b.sum) % 281474976710656, set := a.set || b.set, last := if b.set then b.last else a.last,
      n := add64 a.n b.n, min := if a.n = 0 then b.min else if b.n > 0 then (if b.min < a.min then b.min else a.min) else a.min,
      max := if a.n = 0 then b.max else if b.n > 0 then (if b.max > a.max then b.max else a.max) else a.max, total := add64 a.total b.total, dropped := add64 a.dropped b.dropped } := by
  rw [mergeRow, if_neg h0, if_neg (by simp [hk, hd])]
theorem key_ne {a : Row} (h : rowOk a = true) : a.key ≠ ⟨#[]⟩ := by
  intro e
  simp only [rowOk, keyOk, e, Bool.and_eq_true, decide_eq_true_eq] at h
  have : (⟨#[]⟩ : ByteArray).size = 0 := rfl
  omega
theorem ne_zero_key {a : Row} (h : a.key ≠ ⟨#[]⟩) : a ≠ Row.zero := by rintro rfl; exact h rfl
theorem add_ok {a b : Int} (h1 : 0 ≤ a) (h2 : a ≤ 1000000) (h3 : 0 ≤ b) (h4 : b ≤ 1000000) : add64 a b = a + b := by
  simp only [add64, wrap64]; omega
theorem merge_grouped {a b c : Row} (ha : rowOk a = true) (hb : rowOk b = true) (hc : rowOk c = true) (kb : b.key = a.key) (db : b.kind = a.kind) (kc : c.key = a.key) (dc : c.kind = a.kind) :
    mergeRow (mergeRow a b) c = mergeRow a (mergeRow b c) ∧ (mergeRow (mergeRow a b) c).n = a.n + b.n + c.n ∧ (mergeRow (mergeRow a b) c).sum = (a.sum + b.sum + c.sum) % 281474976710656 ∧ (mergeRow (mergeRow a b) c).set = (a.set || b.set || c.set) := by
  have na := rowOk_num ha
  have nb := rowOk_num hb
  have nc := rowOk_num hc
  have ka := key_ne ha
  obtain ⟨⟨a1, a2⟩, ⟨a3, a4⟩, a5, a6, ⟨a7, a8⟩, ⟨a9, a10⟩⟩ := na
  obtain ⟨⟨b1, b2⟩, ⟨b3, b4⟩, b5, b6, ⟨b7, b8⟩, ⟨b9, b10⟩⟩ := nb
  obtain ⟨⟨c1, c2⟩, ⟨c3, c4⟩, c5, c6, ⟨c7, c8⟩, ⟨c9, c10⟩⟩ := nc
  rw [mergeRow_same (a := a) (b := b) (ne_zero_key ka) kb db, mergeRow_same (a := b) (b := c) (ne_zero_key (by rw [kb]; exact ka)) (by rw [kc, kb]) (by rw [dc, db])]
  rw [mergeRow_same (b := c) (ne_zero_key ?_) ?_ ?_, mergeRow_same (a := a) (ne_zero_key ka) ?_ ?_]
  rotate_left
  · exact kb
  · exact db
  · exact ka
  · exact kc
  · exact dc
  simp only [add_ok a3 (by omega) b3 (by omega), add_ok b3 (by omega) c3 (by omega), add_ok a7 (by omega) b7 (by omega), add_ok b7 (by omega) c7 (by omega), add_ok a9 (by omega) b9 (by omega), add_ok b9 (by omega) c9 (by omega),
    add_ok a3 (by omega) (show 0 ≤ b.n + c.n by omega) (by omega), add_ok (show 0 ≤ a.n + b.n by omega) (by omega) c3 (by omega), add_ok a7 (by omega) (show 0 ≤ b.total + c.total by omega) (by omega), add_ok (show 0 ≤ a.total + b.total by omega) (by omega) c7 (by omega),
    add_ok a9 (by omega) (show 0 ≤ b.dropped + c.dropped by omega) (by omega), add_ok (show 0 ≤ a.dropped + b.dropped by omega) (by omega) c9 (by omega)]
  refine ⟨Row.ext' rfl rfl ?_ ?_ ?_ ?_ ?_ ?_ ?_ ?_, ?_⟩
  · show ((a.sum + b.sum) % 281474976710656 + c.sum) % 281474976710656 = (a.sum + (b.sum + c.sum) % 281474976710656) % 281474976710656
    omega
  · simp [Bool.or_assoc]
  · cases b.set <;> cases c.set <;> simp
  · simp only []; omega
  · simp only []
    repeat' split
    all_goals omega
  · simp only []
    repeat' split
    all_goals omega
  · simp only []; omega
  · simp only []; omega
  · refine ⟨?_, ?_, ?_⟩ <;> first | trivial | (show ((a.sum + b.sum) % 281474976710656 + c.sum) % 281474976710656 = _; omega) | rfl | (show a.n + b.n + c.n = _; rfl)

end Go.Proofs.Ythnjhephkbokeaa.Ev
