/- Contracts: what the functions of this part return, for arguments as each contract says. -/
import Derived.Test.YtfhpbcclhcjkbaaEvD
import Derived.Test.YtfhpbcclhcjkbaaEvTab
import Derived.Test.YtfhpbcclhcjkbaaSTy
import Derived.Test.YtfhpbcclhcjkbaaSKb
import Derived.Test.YtfhpbcclhcjkbaaSRo
set_option linter.constructorNameAsVariable false
set_option linter.unusedVariables false
set_option linter.unusedSimpArgs false
set_option linter.unusedVariables false
set_option maxHeartbeats 4000000
set_option maxRecDepth 20000
set_option linter.unusedSimpArgs false
set_option linter.constructorNameAsVariable false
namespace Go.Proofs.Ytfhpbcclhcjkbaa.Ev
open Go Go.Proofs
attribute [local irreducible] RO Fn IntKind.wrap TriL
abbrev CurOb (code : List UInt8) (i h : Int) : Ob := ⟨3, false, [[.ro true true 1 (code.map bv), .i .i64 i, .i .i64 h]]⟩
def CurR (code : List UInt8) (q : AV → Prop) (r : AV) (ob : Ob) : Prop := ∃ i h : Int, 0 ≤ i ∧ i ≤ code.length ∧ q r ∧ ob = CurOb code i h
structure CurX (code : List UInt8) (q : AV → Prop) (r : AV) (hp : Hp) : Prop where
  out : ∃ ob', hp = [some ob'] ∧ CurR code q r ob' ∧ clean r = true ∧ (ob'.fl || cleanRows ob'.rows) = true
theorem CurX.mk2 {code : List UInt8} {q : AV → Prop} {r : AV} (i h : Int) (h1 : 0 ≤ i) (h2 : i ≤ code.length) (h3 : q r) (h4 : clean r = true) : CurX code q r [some (CurOb code i h)] :=
  ⟨_, rfl, ⟨i, h, h1, h2, h3, rfl⟩, h4, rfl⟩
theorem cur_at {code : List UInt8} {q : AV → Prop} {i : Int} {h : Int} {f : Nat} {args xs : List AV} (k : Nat) {hp : Hp} (hF : Fx Cf Try.prog f xs [some (CurOb code i h)] (CurX code q))
    (hk : Nat.blt k hp.length = true) (hx : renL (idx [k]) args = xs) (ho : at? hp k = some (some (CurOb code i h))) : Fx Cf Try.prog f args hp fun r hp' => ∃ ob', CurR code q r ob' ∧ hp' = upd hp k (some ob') :=
  Fx_at1 k (Fx_imp hF fun r hp' hr => hr.out) hk hx ho rfl
structure CurG (code : List UInt8) (q : AV → Prop) (r : AV) (hp : Hp) : Prop where
  out : ∃ ob' ex, hp = some ob' :: ex ∧ CurR code q r ob' ∧ clean r = true
theorem CurG.mk2 {code : List UInt8} {q : AV → Prop} {r : AV} {i h : Int} {ex : Hp} (h1 : 0 ≤ i) (h2 : i ≤ code.length) (h3 : q r) (h4 : clean r = true) : CurG code q r (some (CurOb code i h) :: ex) :=
  ⟨_, _, rfl, ⟨i, h, h1, h2, h3, rfl⟩, h4⟩
def kbA : AV → AV
  | .ag l => .ag (l.map kb)
  | x => kb x
theorem VRs_kb {J : Inj} {w : World} : ∀ (l : List AV) (vs : List Value), VRs J w l vs → VRs J w (l.map kb) vs
  | [], [], _ => trivial
  | x :: l, v :: vs, h => ⟨VR_kb h.1, VRs_kb l vs h.2⟩
  | [], _ :: _, h => h.elim
  | _ :: _, [], h => h.elim
theorem VR_kbA {J : Inj} {w : World} (r : AV) {v : Value} (h : VR J w r v) : VR J w (kbA r) v := by
  cases r <;> first | exact VR_kb h | skip
  obtain ⟨vs, h1, h2⟩ := h
  exact ⟨vs, h1, VRs_kb _ _ h2⟩
theorem cleans_kb : ∀ l : List AV, cleans l = true → cleans (l.map kb) = true
  | [], _ => rfl
  | x :: l, h => by
    simp only [cleans, Bool.and_eq_true] at h
    simp only [List.map_cons, cleans, Bool.and_eq_true]
    exact ⟨by cases x <;> exact h.1, cleans_kb l h.2⟩
theorem clean_kbA (r : AV) (h : clean r = true) : clean (kbA r) = true := by
  cases r <;> first | exact h | exact cleans_kb _ h
theorem Fx_kb {f : Nat} {args : List AV} {hp : Hp} {Q : AV → Hp → Prop} (h : Fx Cf Try.prog f args hp fun r hp' => Q (kbA r) hp') : Fx Cf Try.prog f args hp Q := by
  intro J w vals hG hI hv
  refine (h J w vals hG hI hv).mono ?_
  rintro v w' ⟨r, hp', J', h1, h2, h3, h4⟩
  exact ⟨kbA r, hp', J', h1, h2, h3, VR_kbA r h4⟩
theorem cur_of {code : List UInt8} {q : AV → Prop} {i h : Int} {f : Nat} {args : List AV} (g : fnR Cf Try.prog f args [some (CurOb code i h)] (CurG code fun r => q (kbA r))) : Fx Cf Try.prog f args [some (CurOb code i h)] (CurX code q) := by
  refine Fx_kb (Fx_drop (Fx_of Cf_ok g) ?_)
  rintro r hp' ⟨ob', ex, rfl, ⟨i1, h1, a, b, c, rfl⟩, hc⟩
  refine ⟨[some (CurOb code i1 h1)], ex, rfl, Nat.le_refl _, CurX.mk2 _ _ a b c (clean_kbA r hc), hc, ?_⟩
  intro k ob hk
  match k with
  | 0 => simp [at?] at hk; subst hk; rfl
  | k + 1 => simp [at?] at hk
def numQ (lo hi : Int) (r : AV) : Prop := ∃ x : Int, lo ≤ x ∧ x ≤ hi ∧ r = .i .i64 x
theorem and_rng (a m : Int) (h : 0 ≤ m) (h2 : m < 9223372036854775808) : 0 ≤ IntKind.i64.wrap ((BitVec.ofInt 64 a &&& BitVec.ofInt 64 m).toNat) ∧ IntKind.i64.wrap ((BitVec.ofInt 64 a &&& BitVec.ofInt 64 m).toNat) ≤ m := by
  have e : (BitVec.ofInt 64 m).toNat = m.toNat := by
    rw [BitVec.toNat_ofInt]; omega
  have : (BitVec.ofInt 64 a &&& BitVec.ofInt 64 m).toNat ≤ m.toNat := by
    rw [BitVec.toNat_and, e]; exact Nat.and_le_right
  rw [wrap_id (by omega) (by omega)]
  omega
theorem mod_rng {x n : Int} (h : 0 ≤ x) (hn : 0 < n) : 0 ≤ x.tmod n ∧ x.tmod n ≤ n - 1 := by
  rw [tmod_nn _ h]
  have := Int.emod_nonneg x (b := n) (by omega)
  have := Int.emod_lt_of_pos x hn
  omega
theorem all_of {α : Type} {l : List α} {p : α → Prop} [DecidablePred p] {x : α} (hx : x ∈ l) (h : l.all (fun x => decide (p x)) = true) : p x := by
  have := List.all_eq_true.1 h x hx
  simpa using this
def rowQ (r : AV) : Prop := ∃ x : Row, x.ok ∧ x.key.size ≤ 5 ∧ r = .ag x.av
theorem rowQ_mk {k : ByteArray} {a b : Int} {s : Bool} {c d e f g h : Int} (hk : k.size ≤ 5) (h1 : I64 a) (h2 : I64 b) (h3 : I64 c) (h4 : I64 d) (h5 : I64 e) (h6 : I64 f) (h7 : I64 g) (h8 : I64 h) :
    rowQ (.ag [.s k, .i .i64 a, .i .i64 b, .b s, .i .i64 c, .i .i64 d, .i .i64 e, .i .i64 f, .i .i64 g, .i .i64 h]) :=
  ⟨⟨k, a, b, s, c, d, e, f, g, h⟩, ⟨by simp only [maxLen]; omega, h1, h2, h3, h4, h5, h6, h7, h8⟩, hk, rfl⟩
end Go.Proofs.Ytfhpbcclhcjkbaa.Ev
