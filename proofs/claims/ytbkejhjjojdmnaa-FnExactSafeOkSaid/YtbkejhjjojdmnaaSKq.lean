/- Contracts: what the functions of this part return, for arguments as each contract says. -/
import Derived.Test.YtbkejhjjojdmnaaEvD
import Derived.Test.YtbkejhjjojdmnaaEvTab
import Derived.Test.YtbkejhjjojdmnaaSTy
import Derived.Test.YtbkejhjjojdmnaaSKb
import Derived.Test.YtbkejhjjojdmnaaSSp
set_option linter.constructorNameAsVariable false
set_option linter.unusedVariables false
set_option linter.unusedSimpArgs false
set_option linter.unusedVariables false
set_option maxHeartbeats 4000000
set_option maxRecDepth 20000
set_option linter.unusedSimpArgs false
set_option linter.constructorNameAsVariable false
namespace Go.Proofs.Ytbkejhjjojdmnaa.Ev
open Go Go.Proofs
attribute [local irreducible] RO Fn IntKind.wrap TriL
/- keys as numbers (pure) -/
def packN (l : List UInt8) : Nat := l.foldl (fun n x => n * 256 + x.toNat) 0
theorem packN_app (l : List UInt8) (x : UInt8) : packN (l ++ [x]) = packN l * 256 + x.toNat := by
  rw [packN, List.foldl_append]; rfl
theorem packN_take {l : List UInt8} {k : Nat} (h : k < l.length) : packN (l.take (k + 1)) = packN (l.take k) * 256 + l[k].toNat := by
  rw [List.take_succ_eq_append_getElem h, packN_app]
theorem packN_lt : ∀ l : List UInt8, packN l < 256 ^ l.length := by
  intro l
  suffices h : ∀ k, k ≤ l.length → packN (l.take k) < 256 ^ k by
    have := h l.length (Nat.le_refl _); rwa [List.take_length] at this
  intro k
  induction k with
  | zero => intro _; simp [packN]
  | succ k ih =>
    intro hk
    have := ih (by omega)
    have hx := l[k].toNat_lt
    rw [packN_take (by omega), Nat.pow_succ]; omega
def dig (n : Nat) : List UInt8 := if h : n = 0 then [] else dig (n / 256) ++ [UInt8.ofNat (n % 256)]
termination_by n
decreasing_by omega
theorem dig_zero : dig 0 = [] := by rw [dig]; simp
theorem dig_step {n : Nat} (h : n ≠ 0) : dig n = dig (n / 256) ++ [UInt8.ofNat (n % 256)] := by rw [dig, dif_neg h]
theorem u8_mod (n : Nat) : (UInt8.ofNat (n % 256)).toNat = n % 256 := by rw [UInt8.toNat_ofNat']; omega
theorem packN_dig (n : Nat) : packN (dig n) = n := by
  induction n using Nat.strongRecOn with
  | _ n ih =>
    by_cases h : n = 0
    · subst h; rw [dig_zero]; rfl
    · rw [dig_step h, packN_app, ih (n / 256) (by omega), u8_mod]; omega
theorem dig_len : ∀ (k n : Nat), n < 256 ^ k → (dig n).length ≤ k
  | 0, n, h => by
    have : n = 0 := by simpa using h
    subst this; rw [dig_zero]; exact Nat.le_refl 0
  | k + 1, n, h => by
    by_cases h0 : n = 0
    · subst h0; rw [dig_zero]; exact Nat.zero_le _
    · rw [dig_step h0, List.length_append]
      have := dig_len k (n / 256) (by rw [Nat.pow_succ] at h; omega)
      simp; omega
def fx : (w n : Nat) → List UInt8
  | 0, _ => []
  | w + 1, n => fx w (n / 256) ++ [UInt8.ofNat (n % 256)]
theorem fx_len : ∀ w n, (fx w n).length = w
  | 0, _ => rfl
  | w + 1, n => by rw [fx, List.length_append, fx_len]; rfl
theorem packN_fx : ∀ w n, n < 256 ^ w → packN (fx w n) = n
  | 0, n, h => by
    have : n = 0 := by simpa using h
    subst this; rfl
  | w + 1, n, h => by
    rw [fx, packN_app, packN_fx w (n / 256) (by rw [Nat.pow_succ] at h; omega), u8_mod]; omega
theorem fx_zero : ∀ w, fx w 0 = List.replicate w 0
  | 0 => rfl
  | w + 1 => by rw [fx, show 0 / 256 = 0 from rfl, fx_zero w, List.replicate_succ']; rfl
/-- As many bytes as there are digits, or a zero first. -/
theorem fx_dig : ∀ w n, n < 256 ^ w → fx w n = dig n ∨ ∃ l, fx w n = 0 :: l
  | 0, n, h => by
    have : n = 0 := by simpa using h
    subst this; exact .inl (by rw [dig_zero]; rfl)
  | w + 1, n, h => by
    by_cases h0 : n = 0
    · subst h0; exact .inr ⟨List.replicate w 0, by rw [fx_zero]; rfl⟩
    · rw [fx, dig_step h0]
      rcases fx_dig w (n / 256) (by rw [Nat.pow_succ] at h; omega) with e | ⟨l, e⟩
      · exact .inl (by rw [e])
      · exact .inr ⟨l ++ [UInt8.ofNat (n % 256)], by rw [e]; rfl⟩
theorem fx_ok {w n : Nat} (h : n < 256 ^ w) (h2 : keyOk (ofBs (fx w n)) = true) : fx w n = dig n := by
  rcases fx_dig w n h with e | ⟨l, e⟩
  · exact e
  · exfalso
    rw [keyOk, bs_ofBs, e, List.all_cons] at h2
    have : keyB ((0 : UInt8).toNat : Int) = false := by decide
    rw [this] at h2; simp at h2
def packKey (s : ByteArray) : Int := if keyOk s = true then (packN (bs s) : Int) else 0
def unpackOk (n : Int) : Bool := decide (1 ≤ n ∧ n ≤ 4294967295) && keyOk (ofBs (dig n.toNat))
def unpackKey (n : Int) : ByteArray × Bool := if unpackOk n = true then (ofBs (dig n.toNat), true) else (⟨#[]⟩, false)
theorem keyOk_len {s : ByteArray} (h : keyOk s = true) : 1 ≤ s.size ∧ s.size ≤ 4 := by
  rw [keyOk, Bool.and_eq_true, decide_eq_true_eq] at h; exact h.2
theorem packKey_rng (s : ByteArray) : 0 ≤ packKey s ∧ packKey s ≤ 4294967295 := by
  rw [packKey]
  split
  · rename_i h
    have h1 := packN_lt (bs s)
    have h2 := keyOk_len h
    rw [bs_len] at h1
    have : (256 : Nat) ^ s.size ≤ 256 ^ 4 := Nat.pow_le_pow_right (by omega) h2.2
    omega
  · omega
/-- What the loop of the widths looks for. -/
theorem unpack_at {n : Int} {w : Nat} (h0 : 0 < n) (h1 : n < 256 ^ w) (h2 : w ≤ 4) (h3 : packKey (ofBs (fx w n.toNat)) = n) : unpackKey n = (ofBs (fx w n.toNat), true) := by
  have hn : n.toNat < 256 ^ w := by
    have : ((n.toNat : Nat) : Int) = n := by omega
    have e : ((256 ^ w : Nat) : Int) = (256 : Int) ^ w := by simp
    omega
  have hk : keyOk (ofBs (fx w n.toNat)) = true := by
    rw [packKey] at h3
    split at h3
    · assumption
    · omega
  have e := fx_ok hn hk
  rw [e] at hk ⊢
  have h4 : (256 : Nat) ^ w ≤ 256 ^ 4 := Nat.pow_le_pow_right (by omega) h2
  rw [unpackKey, if_pos]
  rw [unpackOk, hk, Bool.and_true, decide_eq_true_eq]
  omega
theorem unpack_no {n : Int} (h : ∀ w : Nat, 1 ≤ w → w ≤ 4 → 0 < n → n < 256 ^ w → packKey (ofBs (fx w n.toNat)) ≠ n) : unpackKey n = (⟨#[]⟩, false) := by
  rw [unpackKey, if_neg]
  intro hu
  rw [unpackOk, Bool.and_eq_true, decide_eq_true_eq] at hu
  obtain ⟨⟨h1, h2⟩, h3⟩ := hu
  have hl := keyOk_len h3
  have hsz : (ofBs (dig n.toNat)).size = (dig n.toNat).length := by rw [← bs_len, bs_ofBs]
  rw [hsz] at hl
  have hp := packN_lt (dig n.toNat)
  rw [packN_dig] at hp
  have hp' : n < 256 ^ (dig n.toNat).length := by
    have e : ((256 ^ (dig n.toNat).length : Nat) : Int) = (256 : Int) ^ (dig n.toNat).length := by simp
    omega
  have e : fx (dig n.toNat).length n.toNat = dig n.toNat := by
    rcases fx_dig _ _ hp with e | ⟨l, e⟩
    · exact e
    · exfalso
      have e2 := packN_fx _ _ hp
      rw [e] at e2
      have h5 : packN (0 :: l) = packN l := by simp [packN]
      have h6 := fx_len (dig n.toNat).length n.toNat
      rw [e] at h6
      have h7 := packN_lt l
      have h8 := dig_len l.length n.toNat (by omega)
      simp at h6; omega
  refine h (dig n.toNat).length hl.1 hl.2 (by omega) hp' ?_
  rw [e, packKey, if_pos h3, bs_ofBs, packN_dig]; omega
def tagged (s : ByteArray) (kind : Int) : Int := if keyOk s = true ∧ 1 ≤ kind ∧ kind ≤ 3 then 4 * packKey s + kind else 0
def untag (n : Int) : ByteArray × Int := if (unpackKey (n.tdiv 4)).2 = true ∧ 1 ≤ n.tmod 4 ∧ n.tmod 4 ≤ 3 then ((unpackKey (n.tdiv 4)).1, n.tmod 4) else (⟨#[]⟩, 0)
theorem unpack_true {n : Int} (h : (unpackKey n).2 = true) : 1 ≤ n ∧ n ≤ 4294967295 ∧ keyOk (unpackKey n).1 = true ∧ packKey (unpackKey n).1 = n := by
  rw [unpackKey] at h ⊢
  split at h
  · rename_i hu
    rw [if_pos hu]
    rw [unpackOk, Bool.and_eq_true, decide_eq_true_eq] at hu
    obtain ⟨⟨h1, h2⟩, h3⟩ := hu
    refine ⟨h1, h2, h3, ?_⟩
    show packKey (ofBs (dig n.toNat)) = n
    rw [packKey, if_pos h3, bs_ofBs, packN_dig]; omega
  · exact absurd h (by simp)
theorem untag_impl {n : Int} (h : (unpackKey (n.tdiv 4)).2 = true) : tagged (unpackKey (n.tdiv 4)).1 (n.tmod 4) = n ↔ 1 ≤ n.tmod 4 ∧ n.tmod 4 ≤ 3 := by
  obtain ⟨h1, h2, h3, h4⟩ := unpack_true h
  rw [tagged, h3, h4]
  have e : n.tdiv 4 * 4 + n.tmod 4 = n := Int.tdiv_mul_add_tmod n 4
  constructor
  · intro hq
    split at hq
    · rename_i q; exact q.2
    · exfalso; subst hq; simp at h1
  · intro q
    rw [if_pos ⟨rfl, q⟩]; omega
theorem untag_spec {n : Int} (h : ¬ (1 ≤ n ∧ n ≤ 17179869183)) : untag n = (⟨#[]⟩, 0) := by
  rw [untag, if_neg]
  rintro ⟨h1, h2, h3⟩
  obtain ⟨q1, q2, _, _⟩ := unpack_true h1
  have e : n.tdiv 4 * 4 + n.tmod 4 = n := Int.tdiv_mul_add_tmod n 4
  omega
/- hashes -/
def hstep (h : Nat) (x : UInt8) : Nat := ((h ^^^ x.toNat) * 16777619) % 4294967296
def hashF (n : Nat) (l : List UInt8) : Nat := l.foldl hstep n
def hashK (l : List UInt8) : Nat := hashF 2166136261 l
theorem hashF_take (n : Nat) {l : List UInt8} {k : Nat} (h : k < l.length) : hashF n (l.take (k + 1)) = hstep (hashF n (l.take k)) l[k] := by
  rw [hashF, hashF, List.take_succ_eq_append_getElem h, List.foldl_append, List.foldl_cons, List.foldl_nil]
theorem hstep_lt (n : Nat) (x : UInt8) : hstep n x < 4294967296 := by
  unfold hstep
  omega
theorem hashF_lt (n : Nat) (h : n < 4294967296) (l : List UInt8) : hashF n l < 4294967296 := by
  rcases List.eq_nil_or_concat l with e | ⟨t, x, e⟩
  · subst e; rw [hashF, List.foldl_nil]; exact h
  · rw [e, List.concat_eq_append, hashF, List.foldl_append, List.foldl_cons, List.foldl_nil]
    exact hstep_lt _ _
theorem hashK_take {l : List UInt8} {k : Nat} (h : k < l.length) : hashK (l.take (k + 1)) = hstep (hashK (l.take k)) l[k] := by
  rw [hashK, hashK]; exact hashF_take _ h
theorem hashK_lt (l : List UInt8) : hashK l < 4294967296 := by
  rw [hashK]; exact hashF_lt _ (by omega) l
theorem xor_lt32 {a b : Nat} (ha : a < 4294967296) (hb : b < 256) : a ^^^ b < 4294967296 := Nat.xor_lt_two_pow (n := 32) ha (by omega)
theorem xor64 {a b : Nat} (ha : a < 4294967296) (hb : b < 256) : IntKind.i64.wrap ((BitVec.ofInt IntKind.i64.bits (a : Int) ^^^ BitVec.ofInt IntKind.i64.bits (b : Int)).toNat : Int) = ((a ^^^ b : Nat) : Int) := by
  have h := xor_lt32 ha hb
  have e : (BitVec.ofInt IntKind.i64.bits (a : Int) ^^^ BitVec.ofInt IntKind.i64.bits (b : Int)).toNat = a ^^^ b := by
    show (BitVec.ofInt 64 (a : Int) ^^^ BitVec.ofInt 64 (b : Int)).toNat = a ^^^ b
    rw [BitVec.ofInt_natCast, BitVec.ofInt_natCast, BitVec.toNat_xor, BitVec.toNat_ofNat, BitVec.toNat_ofNat, Nat.mod_eq_of_lt (by omega), Nat.mod_eq_of_lt (by omega)]
  rw [e]; exact wrap_id (by omega) (by omega)
theorem xor32 {a b : Nat} (ha : a < 4294967296) (hb : b < 256) : IntKind.u32.wrap ((BitVec.ofInt IntKind.u32.bits (a : Int) ^^^ BitVec.ofInt IntKind.u32.bits (b : Int)).toNat : Int) = ((a ^^^ b : Nat) : Int) := by
  have h := xor_lt32 ha hb
  have e : (BitVec.ofInt IntKind.u32.bits (a : Int) ^^^ BitVec.ofInt IntKind.u32.bits (b : Int)).toNat = a ^^^ b := by
    show (BitVec.ofInt 32 (a : Int) ^^^ BitVec.ofInt 32 (b : Int)).toNat = a ^^^ b
    rw [BitVec.ofInt_natCast, BitVec.ofInt_natCast, BitVec.toNat_xor, BitVec.toNat_ofNat, BitVec.toNat_ofNat, Nat.mod_eq_of_lt (by omega), Nat.mod_eq_of_lt (by omega)]
  rw [e, wrap32]; omega
theorem or8 {a b : Nat} (ha : a < 72057594037927936) (hb : b < 256) : IntKind.i64.wrap ((BitVec.ofInt IntKind.i64.bits ((a * 256 : Nat) : Int) ||| BitVec.ofInt IntKind.i64.bits (b : Int)).toNat : Int) = IntKind.i64.wrap ((a * 256 + b : Nat) : Int) := by
  have e : (BitVec.ofInt IntKind.i64.bits ((a * 256 : Nat) : Int) ||| BitVec.ofInt IntKind.i64.bits (b : Int)).toNat = a * 256 + b := by
    show (BitVec.ofInt 64 ((a * 256 : Nat) : Int) ||| BitVec.ofInt 64 (b : Int)).toNat = _
    rw [BitVec.ofInt_natCast, BitVec.ofInt_natCast, BitVec.toNat_or, BitVec.toNat_ofNat, BitVec.toNat_ofNat, Nat.mod_eq_of_lt (by omega), Nat.mod_eq_of_lt (by omega)]
    have := Nat.shiftLeft_add_eq_or_of_lt (i := 8) (b := b) (by omega) a
    rw [Nat.shiftLeft_eq] at this
    exact this.symm
  rw [e]
def probe (s : ByteArray) (n : Int) : Int := if keyOk s = true ∧ 0 ≤ n ∧ n ≤ 3 then ((hashK (bs s) : Int) + n) % 4 else -1
def wordOk (n : Int) : Bool := decide (0 ≤ n ∧ n ≤ 281474976710655)
def cellsOk (l : List Int) : Bool := decide (l.length = 71) && l.all wordOk
/-- The search for a key, from the probe n on. -/
def tagAt (a : List Int) (s : ByteArray) (n : Nat) : Int := a.getD (3 + probe s n).toNat 0
def findP (a : List Int) (s : ByteArray) : (m n : Nat) → Int × Int
  | 0, _ => (-1, 0)
  | m + 1, n => if tagAt a s n = 0 then (-1, 0) else if (untag (tagAt a s n)).1 = s then (probe s n, (untag (tagAt a s n)).2) else findP a s m (n + 1)
def findKey (a : List Int) (s : ByteArray) : Int × Int := if cellsOk a = true ∧ keyOk s = true then findP a s 4 0 else (-1, 0)

end Go.Proofs.Ytbkejhjjojdmnaa.Ev
