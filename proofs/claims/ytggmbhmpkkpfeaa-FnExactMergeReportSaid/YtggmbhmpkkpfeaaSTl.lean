/- Contracts: what the functions of this part return, for arguments as each contract says. -/
import Derived.Test.YtggmbhmpkkpfeaaEvD
import Derived.Test.YtggmbhmpkkpfeaaEvTab
import Derived.Test.YtggmbhmpkkpfeaaSTy
import Derived.Test.YtggmbhmpkkpfeaaSKb
import Derived.Test.YtggmbhmpkkpfeaaSLb
import Derived.Test.YtggmbhmpkkpfeaaSRw
set_option linter.constructorNameAsVariable false
set_option linter.unusedVariables false
set_option linter.unusedSimpArgs false
set_option linter.unusedVariables false
set_option maxHeartbeats 4000000
set_option maxRecDepth 20000
set_option linter.unusedSimpArgs false
set_option linter.constructorNameAsVariable false
namespace Go.Proofs.Ytggmbhmpkkpfeaa.Ev
open Go Go.Proofs
attribute [local irreducible] RO Fn IntKind.wrap TriL
def totRow (key : ByteArray) (acc : Row) (l : List Row) : Row := l.foldl (fun a r => if r.key = key then mergeRow a r else a) acc
def totalIn (rs : List (List Row)) (key : ByteArray) (acc : Row) : Row := rs.foldl (fun a l => totRow key a l) acc
theorem foldl_at {α β : Type} {l : List α} {f : β → α → β} {k : Nat} (h : k < l.length) (a : β) : (l.drop k).foldl f a = (l.drop (k + 1)).foldl f (f a l[k]) := by
  rw [List.drop_eq_getElem_cons h, List.foldl_cons]
theorem szRows_le (l : List Row) (n : Int) (h0 : 0 ≤ n) (h : 0 ≤ szRows l n) : (l.length : Int) ≤ n ∧ ∀ r ∈ l, (r.key.size : Int) ≤ n := by
  obtain ⟨a, b⟩ := szL_le' szLe_szRow l n h0
  obtain ⟨c, d⟩ := b h
  refine ⟨c, fun r hr => ?_⟩
  obtain ⟨m, e, f, g⟩ := d r hr
  have := szN_le _ _ (show 0 ≤ szN r.key.size m from g)
  omega
end Go.Proofs.Ytggmbhmpkkpfeaa.Ev
