/- Contracts: what the functions of this part return, for arguments as each contract says. -/
import Derived.Test.YtmblcloikeobdaaEvD
import Derived.Test.YtmblcloikeobdaaEvTab
import Derived.Test.YtmblcloikeobdaaSTy
import Derived.Test.YtmblcloikeobdaaSKt
import Derived.Test.YtmblcloikeobdaaSKb
import Derived.Test.YtmblcloikeobdaaSLb
import Derived.Test.YtmblcloikeobdaaSRw
import Derived.Test.YtmblcloikeobdaaSFr
import Derived.Test.YtmblcloikeobdaaSMk
import Derived.Test.YtmblcloikeobdaaSTl
import Derived.Test.YtmblcloikeobdaaSDh
import Derived.Test.YtmblcloikeobdaaSIs
import Derived.Test.YtmblcloikeobdaaSMp
import Derived.Test.YtmblcloikeobdaaSMq
import Derived.Test.YtmblcloikeobdaaSMt
import Derived.Test.YtmblcloikeobdaaSMu
set_option linter.constructorNameAsVariable false
set_option linter.unusedVariables false
set_option linter.unusedSimpArgs false
set_option linter.unusedVariables false
set_option maxHeartbeats 4000000
set_option maxRecDepth 20000
set_option linter.unusedSimpArgs false
set_option linter.constructorNameAsVariable false
namespace Go.Proofs.Ytmblcloikeobdaa.Ev
open Go Go.Proofs
attribute [local irreducible] RO Fn IntKind.wrap TriL
/- the law of MergeReport -/
theorem impl_MergeReport (a b : List Row) (hb : a.length + b.length ≤ 1048576) : Fn Cf Try.prog 16 [.ro true true 10 (a.map Row.av), .ro true true 10 (b.map Row.av)] [] (.sl 0 0 (mergeRep a b).length) [some ⟨10, true, (mergeRep a b).map Row.av⟩] := Fx_one (impl_MergeReportX a b hb)
theorem spec_MergeReport (a b : List Row) (hb : a.length + b.length ≤ 1048576) : Fn Cf Try.prog 14 [.ro true true 10 (a.map Row.av), .ro true true 10 (b.map Row.av)] [] (.sl 0 0 (mergeRep a b).length) [some ⟨10, true, (mergeRep a b).map Row.av⟩] := Fx_one (spec_MergeReportX a b hb)
theorem ro_specMergeReport (a b : List Row) (hb : a.length + b.length ≤ 1048576) : RO Cf Try.prog 14 [.ro true true 10 (a.map Row.av), .ro true true 10 (b.map Row.av)] (.ro false true 10 ((mergeRep a b).map Row.av)) :=
  RO_of_Fn (spec_MergeReport a b hb) ⟨_, cut_full _ (by simp), rfl⟩
theorem szRowL_sub {x : List Row} {n : Int} (h0 : 0 ≤ n) (h : 0 ≤ szL szRow x n) : szL szRow x n + x.length ≤ n := by
  unfold szL at *
  split at h
  · omega
  · rename_i q
    rw [if_neg q]
    have := (szAll_le' szLe_szRow x (n - x.length) (by omega)).1
    omega
end Go.Proofs.Ytmblcloikeobdaa.Ev
