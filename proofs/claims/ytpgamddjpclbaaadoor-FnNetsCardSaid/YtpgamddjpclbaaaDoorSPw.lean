/- Contracts: what the functions of this part return, for arguments as each contract says. -/
import Derived.Test.YtpgamddjpclbaaaDoorEvD
import Derived.Test.YtpgamddjpclbaaaDoorEvTab
import Derived.Test.YtpgamddjpclbaaaDoorSTy
import Derived.Test.YtpgamddjpclbaaaDoorSCq
import Derived.Test.YtpgamddjpclbaaaDoorSKb
import Derived.Test.YtpgamddjpclbaaaDoorSLb
import Derived.Test.YtpgamddjpclbaaaDoorSSp
import Derived.Test.YtpgamddjpclbaaaDoorSSq
import Derived.Test.YtpgamddjpclbaaaDoorSLn
import Derived.Test.YtpgamddjpclbaaaDoorSPl
import Derived.Test.YtpgamddjpclbaaaDoorSMk
import Derived.Test.YtpgamddjpclbaaaDoorSMr
import Derived.Test.YtpgamddjpclbaaaDoorSPg
set_option linter.constructorNameAsVariable false
set_option linter.unusedVariables false
set_option linter.unusedSimpArgs false
set_option linter.unusedVariables false
set_option maxHeartbeats 4000000
set_option maxRecDepth 20000
set_option linter.unusedSimpArgs false
set_option linter.constructorNameAsVariable false
namespace Go.Proofs.YtpgamddjpclbaaaDoor.Ev
open Go Go.Proofs
attribute [local irreducible] RO Fn IntKind.wrap TriL
theorem parseG_len (s : ByteArray) (hs : s.size ≤ 1048576) : (parseG s).1.length ≤ 121 ∧ (parseG s).2.length = 6 := by
  rw [parseG]
  split
  · exact ⟨by simp, rfl⟩
  · have h := gramF_ok (linesS s)
    have := linesL_len (bs s)
    rw [bs_len] at this
    refine ⟨?_, h.2.1⟩
    have h1 := h.1
    unfold linesS at h1 ⊢
    omega
theorem back_sl2 {hp : Hp} {d id n wd : Nat} {rows : List (List AV)} (h : at? hp id = some (some ⟨wd, true, rows⟩)) (hn : n = rows.length) : Back hp (d + 1) (.sl id 0 n) (.ro false true wd rows) := by
  subst hn
  simp only [Back, h]
  exact ⟨_, cut_full _ rfl, rfl⟩
theorem ro_specParseGram (s : ByteArray) (hs : s.size ≤ 1048576) : RO Cf Tryd.prog 12 [.s s] (.tp [.ro false true 3 ((parseG s).1.map Rec.av), .ro false true 1 ((parseG s).2.map iv)]) :=
  RO_of_Fn (spec_ParseGram s hs) (back_tp ⟨back_sl2 rfl (by simp), back_sl2 rfl (by rw [List.length_map, (parseG_len s hs).2]), trivial⟩)
theorem ro_implParseGram (s : ByteArray) (hs : s.size ≤ 1048576) : RO Cf Tryd.prog 16 [.s s] (.tp [.ro false true 3 ((parseG s).1.map Rec.av), .ro false true 1 ((parseG s).2.map iv)]) :=
  RO_of_Fn (impl_ParseGram s hs) (back_tp ⟨back_sl2 rfl (by simp), back_sl2 rfl (by rw [List.length_map, (parseG_len s hs).2]), trivial⟩)
end Go.Proofs.YtpgamddjpclbaaaDoor.Ev
