/- Contracts: what the functions of this part return, for arguments as each contract says. -/
import Derived.Test.YtpgamddjpclbaaaDoorEvD
import Derived.Test.YtpgamddjpclbaaaDoorEvTab
import Derived.Test.YtpgamddjpclbaaaDoorSTy
import Derived.Test.YtpgamddjpclbaaaDoorSKb
import Derived.Test.YtpgamddjpclbaaaDoorSLb
import Derived.Test.YtpgamddjpclbaaaDoorSSp
import Derived.Test.YtpgamddjpclbaaaDoorSSq
import Derived.Test.YtpgamddjpclbaaaDoorSLn
import Derived.Test.YtpgamddjpclbaaaDoorSPl
import Derived.Test.YtpgamddjpclbaaaDoorSCq
import Derived.Test.YtpgamddjpclbaaaDoorSPg
import Derived.Test.YtpgamddjpclbaaaDoorSMk
import Derived.Test.YtpgamddjpclbaaaDoorSMr
import Derived.Test.YtpgamddjpclbaaaDoorSPw
import Derived.Test.YtpgamddjpclbaaaDoorSNt
import Derived.Test.YtpgamddjpclbaaaDoorSMs
set_option linter.constructorNameAsVariable false
set_option linter.unusedVariables false
set_option linter.unusedSimpArgs false
set_option linter.unusedVariables false
set_option maxHeartbeats 4000000
set_option maxRecDepth 20000
set_option linter.unusedSimpArgs false
set_option linter.constructorNameAsVariable false
namespace Go.Proofs.YtpgamddjpclbaaaDoor.Ev
open Go Go.Proofs
attribute [local irreducible] RO Fn IntKind.wrap TriL
theorem parseG_bnd (s : ByteArray) : ∀ x ∈ (parseG s).2, 0 ≤ x ∧ x ≤ 121 := by
  rw [parseG]
  split
  · decide
  · intro x hx
    have h := (gramF_ok (linesS s)).2.2 x hx
    have := linesL_len (bs s)
    rw [bs_len] at this
    unfold linesS at h
    omega
def gramOf (n : Net) (x : Send) : ByteArray := n.grams.getD x.gram.toNat ⟨#[]⟩
def addL (a b : List Int) : List Int := List.zipWith (· + ·) a b
def rejT (n : Net) (k : Nat) : List Int := (n.sends.take k).foldl (fun o x => addL o (parseG (gramOf n x)).2) [0, 0, 0, 0, 0, 0]
def rejected (n : Net) : List Int := if netOk n = true then rejT n n.sends.length else [0, 0, 0, 0, 0, 0]
def delT (n : Net) (k : Nat) : List Rec := (n.sends.take k).flatMap fun x => (parseG (gramOf n x)).1
def delivered (n : Net) : List Rec := if netOk n = true then delT n n.sends.length else []
theorem rejT_succ (n : Net) {k : Nat} (h : k < n.sends.length) : rejT n (k + 1) = addL (rejT n k) (parseG (gramOf n n.sends[k])).2 := by
  rw [rejT, List.take_succ_eq_append_getElem h, List.foldl_append]; rfl
theorem delT_succ (n : Net) {k : Nat} (h : k < n.sends.length) : delT n (k + 1) = delT n k ++ (parseG (gramOf n n.sends[k])).1 := by
  rw [delT, List.take_succ_eq_append_getElem h, List.flatMap_append, delT]; simp
theorem netOk_send {n : Net} (h : netOk n = true) {k : Nat} (hk : k < n.sends.length) : 0 ≤ n.sends[k].gram ∧ n.sends[k].gram.toNat < n.grams.length ∧ n.sends[k].to.toNat < 3 ∧ 0 ≤ n.sends[k].to := by
  simp only [netOk, Bool.and_eq_true, List.all_eq_true] at h
  have := h.1 _ (List.getElem_mem hk)
  simp only [sendOk, Bool.and_eq_true, decide_eq_true_eq] at this
  omega
theorem netOk_len {n : Net} (h : netOk n = true) : n.sends.length ≤ 12 ∧ 0 ≤ n.flushes ∧ n.flushes ≤ 10 := by
  simp only [netOk, Bool.and_eq_true, decide_eq_true_eq] at h
  exact ⟨h.2.1, h.2.2⟩
theorem rejT_ok (n : Net) (hg : ∀ s ∈ n.grams, s.size ≤ 1048576) : ∀ k, k ≤ n.sends.length → (rejT n k).length = 6 ∧ ∀ x ∈ rejT n k, 0 ≤ x ∧ x ≤ 121 * k := by
  intro k
  induction k with
  | zero => intro _; exact ⟨rfl, by intro x hx; simp [rejT] at hx; omega⟩
  | succ k ih =>
    intro hk
    obtain ⟨i1, i2⟩ := ih (by omega)
    have hs : (gramOf n n.sends[k]).size ≤ 1048576 := by
      rw [gramOf, List.getD_eq_getElem?_getD]
      cases e : n.grams[n.sends[k].gram.toNat]? with
      | none => show (0 : Nat) ≤ 1048576; omega
      | some x => exact hg x (List.mem_of_getElem? e)
    have hl := (parseG_len _ hs).2
    have hb := parseG_bnd (gramOf n n.sends[k])
    rw [rejT_succ n (by omega), addL]
    refine ⟨by rw [List.length_zipWith, i1, hl]; rfl, ?_⟩
    intro x hx
    obtain ⟨j, hj, rfl⟩ := List.getElem_of_mem hx
    rw [List.getElem_zipWith]
    rw [List.length_zipWith] at hj
    have b1 := i2 _ (List.getElem_mem (l := rejT n k) (n := j) (by omega))
    have b2 := hb _ (List.getElem_mem (l := (parseG (gramOf n n.sends[k])).2) (n := j) (by omega))
    omega

end Go.Proofs.YtpgamddjpclbaaaDoor.Ev
