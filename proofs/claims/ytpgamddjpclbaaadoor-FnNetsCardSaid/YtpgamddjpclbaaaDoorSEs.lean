/- Contracts: what the functions of this part return, for arguments as each contract says. -/
import Derived.Test.YtpgamddjpclbaaaDoorEvD
import Derived.Test.YtpgamddjpclbaaaDoorEvTab
import Derived.Test.YtpgamddjpclbaaaDoorSTy
import Derived.Test.YtpgamddjpclbaaaDoorSKb
import Derived.Test.YtpgamddjpclbaaaDoorSLb
import Derived.Test.YtpgamddjpclbaaaDoorSOb
import Derived.Test.YtpgamddjpclbaaaDoorSRw
import Derived.Test.YtpgamddjpclbaaaDoorSFr
set_option linter.constructorNameAsVariable false
set_option linter.unusedVariables false
set_option linter.unusedSimpArgs false
set_option linter.unusedVariables false
set_option maxHeartbeats 4000000
set_option maxRecDepth 20000
set_option linter.unusedSimpArgs false
set_option linter.constructorNameAsVariable false
namespace Go.Proofs.YtpgamddjpclbaaaDoor.Ev
open Go Go.Proofs
attribute [local irreducible] RO Fn IntKind.wrap TriL
abbrev evZ : List AV := [.i .i64 0, .i .i64 0, .i .i64 0, .i .i64 0, .i .i64 0, .s ⟨#[]⟩, .i .i64 0, .i .i64 0, .i .i64 0, .i .i64 0, .i .i64 0, .i .i64 0, .nl]
def smallEv (e : Evt) : Prop := e.rows.length ≤ 1048576
theorem Evt.eq_iff {a b : Evt} : a = b ↔ a.kind = b.kind ∧ a.who = b.who ∧ a.serial = b.serial ∧ a.at_ = b.at_ ∧ a.op = b.op ∧ a.code = b.code ∧ a.win = b.win ∧ a.steps = b.steps ∧ a.flips = b.flips ∧ a.rows = b.rows := by
  cases a; cases b; simp
def szEv (e : Evt) (n : Int) : Int := if szN e.op.key.size n < 0 then -1 else if szRows e.rows (szN e.op.key.size n) < 0 then -1 else szRows e.rows (szN e.op.key.size n)
theorem szLe_szEv (e : Evt) (n : Int) (h : 0 ≤ n) : szEv e n ≤ n := by
  unfold szEv
  have := szN_leq e.op.key.size n h
  split
  · omega
  · have := szLe_szRows e.rows (szN e.op.key.size n) (by omega)
    split <;> omega
abbrev Evs (l : List Evt) : Prop := l.length ≤ maxLen ∧ ∀ e ∈ l, e.ok
abbrev evs (l : List Evt) : AV := .ro true false 13 (l.map (Evt.av true))
def isAt (kind serial : Int) (e : Evt) : Bool := decide (e.kind = kind ∧ e.serial = serial)
def placeOf (l : List Evt) (kind serial : Int) : Int := findIdx (isAt kind serial) l 0
end Go.Proofs.YtpgamddjpclbaaaDoor.Ev
