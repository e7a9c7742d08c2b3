/- Contracts: what the functions of this part return, for arguments as each contract says. -/
import Derived.Test.YtlcodlnldcidoaaDoorEvD
import Derived.Test.YtlcodlnldcidoaaDoorEvTab
import Derived.Test.YtlcodlnldcidoaaDoorSTy
import Derived.Test.YtlcodlnldcidoaaDoorSKb
import Derived.Test.YtlcodlnldcidoaaDoorSLb
import Derived.Test.YtlcodlnldcidoaaDoorSIt
import Derived.Test.YtlcodlnldcidoaaDoorSVi
import Derived.Test.YtlcodlnldcidoaaDoorSPl
set_option linter.constructorNameAsVariable false
set_option linter.unusedVariables false
set_option linter.unusedSimpArgs false
set_option linter.unusedVariables false
set_option maxHeartbeats 4000000
set_option maxRecDepth 20000
set_option linter.unusedSimpArgs false
set_option linter.constructorNameAsVariable false
namespace Go.Proofs.YtlcodlnldcidoaaDoor.Ev
open Go Go.Proofs
attribute [local irreducible] RO Fn IntKind.wrap TriL
theorem digs_app (a b : List UInt8) : digs (a ++ b) = (digs a && digs b) := by simp [digs, List.all_append]
theorem valL_app : ∀ (a b : List UInt8) (n : Int), valL (a ++ b) n = valL b (valL a n)
  | [], b, n => rfl
  | x :: a, b, n => valL_app a b _
theorem valL_zeros : ∀ (k : Nat) (l : List UInt8), valL (List.replicate k 48 ++ l) 0 = valL l 0
  | 0, l => rfl
  | k + 1, l => by rw [List.replicate_succ, List.cons_append, valL]; exact valL_zeros k l
theorem digs_zeros (k : Nat) : digs (List.replicate k 48) = true := by
  rw [digs, List.all_eq_true]; intro x hx
  rw [List.eq_of_mem_replicate hx]; decide
theorem u8_dig {u : Nat} : ((UInt8.ofNat (48 + u % 10)).toNat : Int) = 48 + (u % 10 : Nat) := by
  rw [UInt8.toNat_ofNat']; omega
theorem dgs_val : ∀ u : Nat, valL (dgs u) 0 = (u : Int) ∧ digs (dgs u) = true := by
  intro u
  induction u using Nat.strongRecOn with
  | _ u ih =>
    by_cases h : u = 0
    · subst h; exact ⟨rfl, rfl⟩
    · obtain ⟨i1, i2⟩ := ih (u / 10) (by omega)
      rw [dgs_step h]
      refine ⟨?_, ?_⟩
      · rw [valL_app, i1, valL, valL, u8_dig]; omega
      · rw [digs_app, i2, Bool.true_and, digs, List.all_cons, List.all_nil, Bool.and_true, u8_dig]
        exact dig_t (by omega) (by omega)
theorem decI_zero : bs (decI 0) = [48] := by
  show bs ⟨(Lib.itoa 0).toArray⟩ = _
  rw [bs_mk]; simp [Lib.itoa, Lib.decDigits]
theorem decI_pos {v : Int} (h : 0 < v) : bs (decI v) = dgs v.natAbs := by
  show bs ⟨(Lib.itoa v).toArray⟩ = _
  rw [bs_mk, dec_of (by omega), if_neg (by omega)]
theorem decI_val {v : Int} (h : 0 ≤ v) : valL (bs (decI v)) 0 = v ∧ digs (bs (decI v)) = true := by
  by_cases h0 : v = 0
  · subst h0; rw [decI_zero]; exact ⟨rfl, rfl⟩
  · rw [decI_pos (by omega)]
    have := dgs_val v.natAbs
    refine ⟨by rw [this.1]; omega, this.2⟩
theorem valL_nn : ∀ (l : List UInt8), digs l = true → ∀ n : Int, 0 ≤ n → n ≤ valL l n
  | [], _, n, h => Int.le_refl _
  | x :: l, hd, n, h => by
    rw [digs, List.all_cons, Bool.and_eq_true, dig, decide_eq_true_iff] at hd
    have := valL_nn l hd.2 (10 * n + ((x.toNat : Int) - 48)) (by omega)
    rw [valL]; omega
theorem rev_ind {P : List UInt8 → Prop} (h0 : P []) (h1 : ∀ l x, P l → P (l ++ [x])) (l : List UInt8) : P l := by
  have : ∀ r : List UInt8, P r.reverse := by
    intro r
    induction r with
    | nil => exact h0
    | cons x r ih => rw [List.reverse_cons]; exact h1 _ _ ih
  have := this l.reverse
  rwa [List.reverse_reverse] at this
theorem dgs_of (l : List UInt8) : digs l = true → (dgs (valL l 0).toNat).length ≤ l.length ∧ l = List.replicate (l.length - (dgs (valL l 0).toNat).length) 48 ++ dgs (valL l 0).toNat := by
  refine rev_ind (P := fun l => digs l = true → (dgs (valL l 0).toNat).length ≤ l.length ∧ l = List.replicate (l.length - (dgs (valL l 0).toNat).length) 48 ++ dgs (valL l 0).toNat) (fun _ => ⟨Nat.le_refl _, rfl⟩) ?_ l
  intro l x ih hd
  rw [digs_app, Bool.and_eq_true] at hd
  obtain ⟨i1, i2⟩ := ih hd.1
  have hx := hd.2
  rw [digs, List.all_cons, List.all_nil, Bool.and_true, dig, decide_eq_true_iff] at hx
  have hn := valL_nn l hd.1 0 (Int.le_refl _)
  rw [valL_app, valL, valL]
  generalize valL l 0 = v at i1 i2 hn
  by_cases h0 : (10 * v + ((x.toNat : Int) - 48)).toNat = 0
  · rw [h0, show dgs 0 = [] from rfl]
    have hv : v = 0 := by omega
    subst hv
    rw [show dgs (0 : Int).toNat = [] from rfl] at i2
    simp only [List.length_nil, Nat.sub_zero, List.append_nil] at i2 ⊢
    refine ⟨Nat.zero_le _, ?_⟩
    have hx48 : x = 48 := UInt8.toNat_inj.1 (by show x.toNat = 48; omega)
    rw [List.length_append, List.length_singleton, ← List.replicate_append_replicate, ← i2, hx48]; rfl
  · have e : (10 * v + ((x.toNat : Int) - 48)).toNat / 10 = v.toNat := by omega
    have e2 : (10 * v + ((x.toNat : Int) - 48)).toNat % 10 = x.toNat - 48 := by omega
    rw [dgs_step h0, e, e2]
    have ex : UInt8.ofNat (48 + (x.toNat - 48)) = x := by rw [show 48 + (x.toNat - 48) = x.toNat by omega]; exact UInt8.ofNat_toNat
    rw [ex, List.length_append, List.length_append]
    simp only [List.length_singleton]
    refine ⟨by omega, ?_⟩
    rw [← List.append_assoc, show l.length + 1 - ((dgs v.toNat).length + 1) = l.length - (dgs v.toNat).length by omega, ← i2]
theorem valueIs_read (s : ByteArray) (v : Int) : valueIs s v = ((readV s).2 && decide ((readV s).1 = v)) := by
  rw [Bool.eq_iff_iff, valueIs, decide_eq_true_iff, Bool.and_eq_true, decide_eq_true_iff, readV]
  constructor
  · rintro ⟨h1, h2, h3, h4, h5⟩
    obtain ⟨d1, d2⟩ := decI_val h3
    have e1 : digs (bs s) = true := by rw [h5, digs_app, digs_zeros, d2]; rfl
    have e2 : valL (bs s) 0 = v := by rw [h5, valL_zeros, d1]
    rw [e1, e2, if_pos ⟨h1, h2, rfl, h4⟩]; exact ⟨rfl, rfl⟩
  · intro h
    by_cases q : 1 ≤ s.size ∧ s.size ≤ 5 ∧ digs (bs s) = true ∧ valL (bs s) 0 ≤ 65535
    · rw [if_pos q] at h
      obtain ⟨q1, q2, q3, q4⟩ := q
      obtain ⟨_, rfl⟩ := h
      have hn := valL_nn _ q3 0 (Int.le_refl _)
      obtain ⟨a1, a2⟩ := dgs_of (bs s) q3
      refine ⟨q1, q2, hn, q4, ?_⟩
      generalize valL (bs s) 0 = v at *
      rw [bs_len] at a1 a2
      by_cases h0 : v = 0
      · subst h0
        rw [show dgs (0 : Int).toNat = [] from rfl] at a2
        simp only [List.length_nil, Nat.sub_zero, List.append_nil] at a2
        have hz : (decI 0).size = 1 := by rw [← bs_len, decI_zero]; rfl
        rw [hz, decI_zero, a2]
        conv => lhs; rw [show s.size = (s.size - 1) + 1 by omega, ← List.replicate_append_replicate]
        rfl
      · have e : bs (decI v) = dgs v.toNat := by rw [decI_pos (by omega)]; congr 1; omega
        have hz : (decI v).size = (dgs v.toNat).length := by rw [← bs_len, e]
        rw [hz, e]; exact a2
    · rw [if_neg q] at h; exact absurd h.1 (by simp)

end Go.Proofs.YtlcodlnldcidoaaDoor.Ev
