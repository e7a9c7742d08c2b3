/- Contracts: what the functions of this part return, for arguments as each contract says. -/
import Derived.Test.YtlcodlnldcidoaaDoorEvD
import Derived.Test.YtlcodlnldcidoaaDoorEvTab
import Derived.Test.YtlcodlnldcidoaaDoorSTy
import Derived.Test.YtlcodlnldcidoaaDoorSKb
import Derived.Test.YtlcodlnldcidoaaDoorSLb
import Derived.Test.YtlcodlnldcidoaaDoorSSp
import Derived.Test.YtlcodlnldcidoaaDoorSSq
import Derived.Test.YtlcodlnldcidoaaDoorSLn
import Derived.Test.YtlcodlnldcidoaaDoorSPl
import Derived.Test.YtlcodlnldcidoaaDoorSCq
import Derived.Test.YtlcodlnldcidoaaDoorSPg
import Derived.Test.YtlcodlnldcidoaaDoorSMk
import Derived.Test.YtlcodlnldcidoaaDoorSMr
import Derived.Test.YtlcodlnldcidoaaDoorSPw
import Derived.Test.YtlcodlnldcidoaaDoorSNt
import Derived.Test.YtlcodlnldcidoaaDoorSMs
set_option linter.constructorNameAsVariable false
set_option linter.unusedVariables false
set_option linter.unusedSimpArgs false
set_option linter.unusedVariables false
set_option maxHeartbeats 4000000
set_option maxRecDepth 20000
set_option linter.unusedSimpArgs false
set_option linter.constructorNameAsVariable false
namespace Go.Proofs.YtlcodlnldcidoaaDoor.Ev
open Go Go.Proofs
attribute [local irreducible] RO Fn IntKind.wrap TriL
theorem fn_toNet (n : Net) (h1 : n.grams.length ≤ 1048576) (h2 : n.sends.length ≤ 1048576) (h3 : n.picks.length ≤ 1048576) :
    Fn Cf Tryd.prog 13 [.ag (n.av true)] [] (.ag [.sl 0 0 n.grams.length, .sl 1 0 n.sends.length, .i .i64 n.flushes, .sl 2 0 n.picks.length]) [some ⟨1, true, n.grams.map sv⟩, some ⟨2, true, n.sends.map Send.av⟩, some ⟨1, true, n.picks.map iv⟩] := by
  refine Fn_of Cf_ok ?_
  repeat' first | refine And.intro rfl ?_ | (refine And.intro (fun h => ?_) (fun h => ?_) <;> (try simp only [decide_eq_true_eq, decide_eq_false_iff_not, Bool.not_eq_true', Bool.not_eq_false', Bool.and_eq_true, Bool.or_eq_true, Bool.not_eq_eq_eq_not, Bool.not_true, Bool.not_false, beq_iff_eq, bne_iff_ne, beq_eq_false_iff_ne, bne_eq_false_iff_eq, Nat.not_lt, Int.not_lt, Int.not_le, wrap_byteAt, List.length_map, eqB_Row, eqB_Op, eqB_Rec, toList_inj, toList_nil, ne_eq, Int.toNat_natCast] at h) <;> (try simp only [wrap64] at h) <;> (try (exfalso; first | (cases h; done) | exact h trivial | exact h rfl | omega))) | refine And.intro ⟨by (first | omega | (simp only [wrap64, maxLen, List.length_map, List.length_append, List.length_cons, List.length_nil, Int.toNat_natCast] at *; omega)), by (first | omega | (simp only [wrap64, maxLen, List.length_map, List.length_append, List.length_cons, List.length_nil, Int.toNat_natCast] at *; omega))⟩ ?_ | refine And.intro (show (_ : Int) ≠ 0 by decide) ?_ | refine And.intro ⟨by (first | omega | (simp only [wrap64, maxLen, List.length_map, List.length_append, List.length_cons, List.length_nil, Int.toNat_natCast] at *; omega)), by (first | omega | (simp only [wrap64, maxLen, List.length_map, List.length_append, List.length_cons, List.length_nil, Int.toNat_natCast] at *; omega)), room (by exact rfl) (by (first | omega | (simp only [wrap64, maxLen, List.length_map, List.length_append, List.length_cons, List.length_nil, Int.toNat_natCast] at *; omega))) (by (first | omega | (simp only [wrap64, maxLen, List.length_map, List.length_append, List.length_cons, List.length_nil, Int.toNat_natCast] at *; omega)))⟩ ?_ | refine And.intro (roomN (by exact rfl) (by (first | omega | (simp only [wrap64, maxLen, List.length_map, List.length_append, List.length_cons, List.length_nil, Int.toNat_natCast] at *; omega)))) ?_ | exact trivial | exact rfl | refine Exists.intro _ (And.intro rfl ?_) | refine' cut1 _ ?_ ?_ | refine And.intro (deep_ag (by exact rfl) (by exact rfl)) ?_ | refine And.intro (deep_ag2 (by repeat' first | exact trivial | refine And.intro (by exact rfl) ?_)) ?_ | refine And.intro (deep_sl (by exact rfl) (by first | exact (List.length_map _).symm | assumption | exact rfl | (simp; done))) ?_ | refine And.intro (deep_rows (by intro x hx; repeat' first | exact trivial | refine And.intro (by exact rfl) ?_)) ?_ | refine And.intro (by exact rfl) ?_ | refine And.intro (Or.inl (by exact rfl)) ?_ | refine' Or.inr (Or.inl (And.intro rfl (Exists.intro _ (And.intro ?_ (Exists.intro _ (Exists.intro _ (And.intro (laws_toStringS _ h1) (And.intro rfl ?_)))))))) | refine' Or.inr (Or.inl (And.intro rfl (Exists.intro _ (And.intro ?_ (Exists.intro _ (Exists.intro _ (And.intro (laws_toSendS _ h2) (And.intro rfl ?_)))))))) | refine' Or.inr (Or.inl (And.intro rfl (Exists.intro _ (And.intro ?_ (Exists.intro _ (Exists.intro _ (And.intro (laws_toIntS _ h3) (And.intro rfl ?_)))))))) | refine And.intro (show ByteArray.size _ + ByteArray.size _ ≤ _ from by (first | omega | (simp only [size_mk, size_add, List.size_toArray, List.length_cons, List.length_nil, maxLen] at *; omega))) ?_ | refine Exists.intro _ (And.intro (by with_unfolding_all exact rfl) ?_) | refine And.intro (by decide +kernel) ?_ | refine Exists.intro _ (And.intro (at_map (by (first | omega | (simp only [wrap64, maxLen, List.length_map, List.length_append, List.length_cons, List.length_nil, Int.toNat_natCast] at *; omega)))) ?_) | (refine wrap_id' ?_; (first | omega | (simp only [wrap64, maxLen, List.length_map, List.length_append, List.length_cons, List.length_nil, Int.toNat_natCast] at *; omega))) | refine And.intro ?_ ?_ | fail
theorem fn_markNet (g : List ByteArray) (s : List Send) (f : Int) (p : List Int) (h1 : g.length ≤ 1048576) (h2 : s.length ≤ 1048576) (h3 : p.length ≤ 1048576) :
    Fn Cf Tryd.prog 17 [.ag [.sl 0 0 g.length, .sl 1 0 s.length, .i .i64 f, .sl 2 0 p.length], .i .i64 1] [some ⟨1, true, g.map sv⟩, some ⟨2, true, s.map Send.av⟩, some ⟨1, true, p.map iv⟩]
      (.i .i64 (1 + 1 * g.length + 2 * s.length + 1 * p.length)) [some ⟨1, true, (mStr 1 g.length).map sv⟩, some ⟨2, true, (mSend (1 + 1 * g.length) s.length).map Send.av⟩, some ⟨1, true, (mInt (1 + 1 * g.length + 2 * s.length) p.length).map iv⟩] := by
  refine Fn_of Cf_ok ?_
  repeat' first | refine And.intro rfl ?_ | (refine And.intro (fun h => ?_) (fun h => ?_) <;> (try simp only [decide_eq_true_eq, decide_eq_false_iff_not, Bool.not_eq_true', Bool.not_eq_false', Bool.and_eq_true, Bool.or_eq_true, Bool.not_eq_eq_eq_not, Bool.not_true, Bool.not_false, beq_iff_eq, bne_iff_ne, beq_eq_false_iff_ne, bne_eq_false_iff_eq, Nat.not_lt, Int.not_lt, Int.not_le, wrap_byteAt, List.length_map, eqB_Row, eqB_Op, eqB_Rec, toList_inj, toList_nil, ne_eq, Int.toNat_natCast] at h) <;> (try simp only [wrap64] at h) <;> (try (exfalso; first | (cases h; done) | exact h trivial | exact h rfl | omega))) | refine And.intro ⟨by (first | omega | (simp only [wrap64, maxLen, List.length_map, List.length_append, List.length_cons, List.length_nil, Int.toNat_natCast] at *; omega)), by (first | omega | (simp only [wrap64, maxLen, List.length_map, List.length_append, List.length_cons, List.length_nil, Int.toNat_natCast] at *; omega))⟩ ?_ | refine And.intro (show (_ : Int) ≠ 0 by decide) ?_ | refine And.intro ⟨by (first | omega | (simp only [wrap64, maxLen, List.length_map, List.length_append, List.length_cons, List.length_nil, Int.toNat_natCast] at *; omega)), by (first | omega | (simp only [wrap64, maxLen, List.length_map, List.length_append, List.length_cons, List.length_nil, Int.toNat_natCast] at *; omega)), room (by exact rfl) (by (first | omega | (simp only [wrap64, maxLen, List.length_map, List.length_append, List.length_cons, List.length_nil, Int.toNat_natCast] at *; omega))) (by (first | omega | (simp only [wrap64, maxLen, List.length_map, List.length_append, List.length_cons, List.length_nil, Int.toNat_natCast] at *; omega)))⟩ ?_ | refine And.intro (roomN (by exact rfl) (by (first | omega | (simp only [wrap64, maxLen, List.length_map, List.length_append, List.length_cons, List.length_nil, Int.toNat_natCast] at *; omega)))) ?_ | exact trivial | exact rfl | refine Exists.intro _ (And.intro rfl ?_) | refine' cut1 _ ?_ ?_ | refine And.intro (deep_ag (by exact rfl) (by exact rfl)) ?_ | refine And.intro (deep_ag2 (by repeat' first | exact trivial | refine And.intro (by exact rfl) ?_)) ?_ | refine And.intro (deep_sl (by exact rfl) (by first | exact (List.length_map _).symm | assumption | exact rfl | (simp; done))) ?_ | refine And.intro (deep_rows (by intro x hx; repeat' first | exact trivial | refine And.intro (by exact rfl) ?_)) ?_ | refine And.intro (by exact rfl) ?_ | refine And.intro (Or.inl (by exact rfl)) ?_ | refine' Or.inr (Or.inr (Or.inl (And.intro rfl (And.intro rfl (Exists.intro _ (Exists.intro _ (And.intro (Fn_at1 0 (laws_markStringS g h1 1 (by omega) (by omega)) rfl rfl rfl rfl rfl rfl) ?_))))))) | refine' Or.inr (Or.inr (Or.inl (And.intro rfl (And.intro rfl (Exists.intro _ (Exists.intro _ (And.intro (Fn_at1 1 (laws_markSendS s h2 (1 + 1 * g.length) (by omega) (by omega)) rfl rfl rfl rfl rfl rfl) ?_))))))) | refine' Or.inr (Or.inr (Or.inl (And.intro rfl (And.intro rfl (Exists.intro _ (Exists.intro _ (And.intro (Fn_at1 2 (laws_markIntS p h3 (1 + 1 * g.length + 2 * s.length) (by omega) (by omega)) rfl rfl rfl rfl rfl rfl) ?_))))))) | refine And.intro (show ByteArray.size _ + ByteArray.size _ ≤ _ from by (first | omega | (simp only [size_mk, size_add, List.size_toArray, List.length_cons, List.length_nil, maxLen] at *; omega))) ?_ | refine Exists.intro _ (And.intro (by with_unfolding_all exact rfl) ?_) | refine And.intro (by decide +kernel) ?_ | refine Exists.intro _ (And.intro (at_map (by (first | omega | (simp only [wrap64, maxLen, List.length_map, List.length_append, List.length_cons, List.length_nil, Int.toNat_natCast] at *; omega)))) ?_) | (refine wrap_id' ?_; (first | omega | (simp only [wrap64, maxLen, List.length_map, List.length_append, List.length_cons, List.length_nil, Int.toNat_natCast] at *; omega))) | refine And.intro ?_ ?_ | fail
theorem parseG_bnd (s : ByteArray) : ∀ x ∈ (parseG s).2, 0 ≤ x ∧ x ≤ 121 := by
  rw [parseG]
  split
  · decide
  · intro x hx
    have h := (gramF_ok (linesS s)).2.2 x hx
    have := linesL_len (bs s)
    rw [bs_len] at this
    unfold linesS at h
    omega
def gramOf (n : Net) (x : Send) : ByteArray := n.grams.getD x.gram.toNat ⟨#[]⟩
def addL (a b : List Int) : List Int := List.zipWith (· + ·) a b
def rejT (n : Net) (k : Nat) : List Int := (n.sends.take k).foldl (fun o x => addL o (parseG (gramOf n x)).2) [0, 0, 0, 0, 0, 0]
def rejected (n : Net) : List Int := if netOk n = true then rejT n n.sends.length else [0, 0, 0, 0, 0, 0]
def delT (n : Net) (k : Nat) : List Rec := (n.sends.take k).flatMap fun x => (parseG (gramOf n x)).1
def delivered (n : Net) : List Rec := if netOk n = true then delT n n.sends.length else []
theorem rejT_succ (n : Net) {k : Nat} (h : k < n.sends.length) : rejT n (k + 1) = addL (rejT n k) (parseG (gramOf n n.sends[k])).2 := by
  rw [rejT, List.take_succ_eq_append_getElem h, List.foldl_append]; rfl
theorem delT_succ (n : Net) {k : Nat} (h : k < n.sends.length) : delT n (k + 1) = delT n k ++ (parseG (gramOf n n.sends[k])).1 := by
  rw [delT, List.take_succ_eq_append_getElem h, List.flatMap_append, delT]; simp
theorem netOk_send {n : Net} (h : netOk n = true) {k : Nat} (hk : k < n.sends.length) : 0 ≤ n.sends[k].gram ∧ n.sends[k].gram.toNat < n.grams.length ∧ n.sends[k].to.toNat < 3 ∧ 0 ≤ n.sends[k].to := by
  simp only [netOk, Bool.and_eq_true, List.all_eq_true] at h
  have := h.1 _ (List.getElem_mem hk)
  simp only [sendOk, Bool.and_eq_true, decide_eq_true_eq] at this
  omega
theorem netOk_len {n : Net} (h : netOk n = true) : n.sends.length ≤ 12 ∧ 0 ≤ n.flushes ∧ n.flushes ≤ 10 := by
  simp only [netOk, Bool.and_eq_true, decide_eq_true_eq] at h
  exact ⟨h.2.1, h.2.2⟩
theorem rejT_ok (n : Net) (hg : ∀ s ∈ n.grams, s.size ≤ 1048576) : ∀ k, k ≤ n.sends.length → (rejT n k).length = 6 ∧ ∀ x ∈ rejT n k, 0 ≤ x ∧ x ≤ 121 * k := by
  intro k
  induction k with
  | zero => intro _; exact ⟨rfl, by intro x hx; simp [rejT] at hx; omega⟩
  | succ k ih =>
    intro hk
    obtain ⟨i1, i2⟩ := ih (by omega)
    have hs : (gramOf n n.sends[k]).size ≤ 1048576 := by
      rw [gramOf, List.getD_eq_getElem?_getD]
      cases e : n.grams[n.sends[k].gram.toNat]? with
      | none => show (0 : Nat) ≤ 1048576; omega
      | some x => exact hg x (List.mem_of_getElem? e)
    have hl := (parseG_len _ hs).2
    have hb := parseG_bnd (gramOf n n.sends[k])
    rw [rejT_succ n (by omega), addL]
    refine ⟨by rw [List.length_zipWith, i1, hl]; rfl, ?_⟩
    intro x hx
    obtain ⟨j, hj, rfl⟩ := List.getElem_of_mem hx
    rw [List.getElem_zipWith]
    rw [List.length_zipWith] at hj
    have b1 := i2 _ (List.getElem_mem (l := rejT n k) (n := j) (by omega))
    have b2 := hb _ (List.getElem_mem (l := (parseG (gramOf n n.sends[k])).2) (n := j) (by omega))
    omega

end Go.Proofs.YtlcodlnldcidoaaDoor.Ev
