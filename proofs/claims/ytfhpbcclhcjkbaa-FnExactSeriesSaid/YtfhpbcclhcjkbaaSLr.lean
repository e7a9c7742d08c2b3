/- Contracts: what the functions of this part return, for arguments as each contract says. -/
import Derived.Test.YtfhpbcclhcjkbaaEvD
import Derived.Test.YtfhpbcclhcjkbaaEvTab
import Derived.Test.YtfhpbcclhcjkbaaSTy
import Derived.Test.YtfhpbcclhcjkbaaSKb
import Derived.Test.YtfhpbcclhcjkbaaSRo
import Derived.Test.YtfhpbcclhcjkbaaSCu
import Derived.Test.YtfhpbcclhcjkbaaSCq
import Derived.Test.YtfhpbcclhcjkbaaSCv
import Derived.Test.YtfhpbcclhcjkbaaSGr
set_option linter.constructorNameAsVariable false
set_option linter.unusedVariables false
set_option linter.unusedSimpArgs false
set_option linter.unusedVariables false
set_option maxHeartbeats 4000000
set_option maxRecDepth 20000
set_option linter.unusedSimpArgs false
set_option linter.constructorNameAsVariable false
namespace Go.Proofs.Ytfhpbcclhcjkbaa.Ev
open Go Go.Proofs
attribute [local irreducible] RO Fn IntKind.wrap TriL
def keys6 : List ByteArray := [⟨#[90, 57]⟩, ⟨#[97]⟩, ⟨#[98]⟩, ⟨#[99, 112, 117]⟩, ⟨#[109, 101, 109]⟩, ⟨#[113]⟩]
def repQ (code : List UInt8) (r : AV) (hp : Hp) : Prop := ∃ (i h : Int) (L : List Row), 0 ≤ i ∧ i ≤ code.length ∧ (∀ a ∈ L, a.ok) ∧ L.length ≤ 4 ∧ r = .sl 1 0 L.length ∧ hp = [some (CurOb code i h), some ⟨10, true, L.map Row.av⟩, some ⟨1, true, keys6.map sv⟩]
end Go.Proofs.Ytfhpbcclhcjkbaa.Ev
