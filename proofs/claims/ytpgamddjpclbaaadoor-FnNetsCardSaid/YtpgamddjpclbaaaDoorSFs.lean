/- Contracts: what the functions of this part return, for arguments as each contract says. -/
import Derived.Test.YtpgamddjpclbaaaDoorEvD
import Derived.Test.YtpgamddjpclbaaaDoorEvTab
import Derived.Test.YtpgamddjpclbaaaDoorSTy
import Derived.Test.YtpgamddjpclbaaaDoorSKb
import Derived.Test.YtpgamddjpclbaaaDoorSRo
import Derived.Test.YtpgamddjpclbaaaDoorSCu
import Derived.Test.YtpgamddjpclbaaaDoorSCq
import Derived.Test.YtpgamddjpclbaaaDoorSCv
import Derived.Test.YtpgamddjpclbaaaDoorSGr
set_option linter.constructorNameAsVariable false
set_option linter.unusedVariables false
set_option linter.unusedSimpArgs false
set_option linter.unusedVariables false
set_option maxHeartbeats 4000000
set_option maxRecDepth 20000
set_option linter.unusedSimpArgs false
set_option linter.constructorNameAsVariable false
namespace Go.Proofs.YtpgamddjpclbaaaDoor.Ev
open Go Go.Proofs
attribute [local irreducible] RO Fn IntKind.wrap TriL
theorem u8_app {l : List UInt8} {rows : List (List AV)} {m : Nat} (e : rows = l.map bv) (n : Int) (h : l.length = m) : ∃ l' : List UInt8, rows ++ [[AV.i .u8 (IntKind.u8.wrap n)]] = l'.map bv ∧ l'.length = m + 1 := by
  refine ⟨l ++ [UInt8.ofNat (IntKind.u8.wrap n).toNat], ?_, by simp [h]⟩
  rw [List.map_append, ← e, List.map_cons, List.map_nil, u8_back]
theorem back_sl {hp : Hp} {d id n wd : Nat} {rows : List (List AV)} (h : at? hp id = some (some ⟨wd, true, rows⟩)) (hn : n = rows.length) : Back hp (d + 1) (.sl id 0 n) (.ro false true wd rows) := by
  simp only [Back, h]
  exact ⟨rows, cut_full _ hn, rfl⟩
end Go.Proofs.YtpgamddjpclbaaaDoor.Ev
