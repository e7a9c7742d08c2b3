/- Contracts: what the functions of this part return, for arguments as each contract says. -/
import Derived.Test.YtpgamddjpclbaaaDoorEvD
import Derived.Test.YtpgamddjpclbaaaDoorEvTab
import Derived.Test.YtpgamddjpclbaaaDoorSTy
import Derived.Test.YtpgamddjpclbaaaDoorSKb
import Derived.Test.YtpgamddjpclbaaaDoorSLb
import Derived.Test.YtpgamddjpclbaaaDoorSOb
import Derived.Test.YtpgamddjpclbaaaDoorSRw
import Derived.Test.YtpgamddjpclbaaaDoorSFr
import Derived.Test.YtpgamddjpclbaaaDoorSEs
set_option linter.constructorNameAsVariable false
set_option linter.unusedVariables false
set_option linter.unusedSimpArgs false
set_option linter.unusedVariables false
set_option maxHeartbeats 4000000
set_option maxRecDepth 20000
set_option linter.unusedSimpArgs false
set_option linter.constructorNameAsVariable false
namespace Go.Proofs.YtpgamddjpclbaaaDoor.Ev
open Go Go.Proofs
attribute [local irreducible] RO Fn IntKind.wrap TriL
def szOp (o : Op) (n : Int) : Int := szN o.key.size n
theorem szLe_szOp (o : Op) (n : Int) (h : 0 ≤ n) : szOp o n ≤ n := szN_leq _ _ h
abbrev jobZ : List AV := [.k false, .i .i64 0, .s ⟨#[]⟩, .i .i64 0, .i .i64 0, .i .i64 0, .i .i64 0, .i .i64 0, .i .i64 0, .i .i64 0, .i .i64 0, .i .i64 0, .i .i64 0, .i .i64 0, .i .i64 0, .i .i64 0, .nl, .nl]
def smallJob (j : Job) : Prop := j.keys.length ≤ 1048576 ∧ j.raw.length ≤ 1048576
theorem Job.eq_iff {a b : Job} : a = b ↔ a.busy = b.busy ∧ a.op = b.op ∧ a.serial = b.serial ∧ a.pc = b.pc ∧ a.k = b.k ∧ a.slot = b.slot ∧ a.what = b.what ∧ a.e = b.e ∧ a.stamp = b.stamp ∧ a.old = b.old ∧ a.flips = b.flips ∧ a.steps = b.steps ∧ a.code = b.code ∧ a.keys = b.keys ∧ a.raw = b.raw := by
  cases a; cases b; simp
def szJob (j : Job) (n : Int) : Int :=
  let a := szN j.op.key.size n
  if a < 0 then -1 else
  let b := szN j.keys.length a
  if b < 0 then -1 else
  let c := szN j.raw.length b
  if c < 0 then -1 else c
theorem szLe_szJob (j : Job) (n : Int) (h : 0 ≤ n) : szJob j n ≤ n := by
  simp only [szJob]
  have := szN_leq j.op.key.size n h
  split
  · omega
  have := szN_leq j.keys.length (szN j.op.key.size n) (by omega)
  split
  · omega
  have := szN_leq j.raw.length (szN j.keys.length (szN j.op.key.size n)) (by omega)
  split <;> omega
abbrev queueZ : List AV := [.nl]
def smallQueue (q : Queue) : Prop := q.ops.length ≤ 1048576
theorem Queue.eq_iff {a b : Queue} : a = b ↔ a.ops = b.ops := by
  cases a; cases b; simp
def szQueue (q : Queue) (n : Int) : Int := if szL szOp q.ops n < 0 then -1 else szL szOp q.ops n
theorem szLe_szQueue (q : Queue) (n : Int) (h : 0 ≤ n) : szQueue q n ≤ n := by
  unfold szQueue
  have := (szL_le' szLe_szOp q.ops n h).1
  split <;> omega
theorem szL_nn {α : Type} {f : α → Int → Int} {l : List α} {n : Int} (h : 0 ≤ szL f l n) : 0 ≤ n := by
  unfold szL at h
  split at h <;> omega
def szWorld (w : World') (n : Int) : Int :=
  let a := szN w.cells.length n
  if a < 0 then -1 else
  let b := szL szJob w.jobs a
  if b < 0 then -1 else
  let c := szL szQueue w.todo b
  if c < 0 then -1 else
  let d := szL szEv w.log c
  if d < 0 then -1 else d
theorem World'.eq_iff {a b : World'} : a = b ↔ a.cells = b.cells ∧ a.jobs = b.jobs ∧ a.todo = b.todo ∧ a.log = b.log ∧ a.serial = b.serial ∧ a.now = b.now := by
  cases a; cases b; simp
theorem szWorld_small (w : World') (h : 0 ≤ szWorld w 1048576) : w.cells.length ≤ 1048576 ∧ w.jobs.length ≤ 1048576 ∧ (∀ j ∈ w.jobs, smallJob j) ∧ w.todo.length ≤ 1048576 ∧ (∀ j ∈ w.todo, smallQueue j) ∧ w.log.length ≤ 1048576 ∧ (∀ j ∈ w.log, smallEv j) := by
  simp only [szWorld] at h
  split at h
  · omega
  rename_i h1
  split at h
  · omega
  rename_i h2
  split at h
  · omega
  rename_i h3
  split at h
  · omega
  rename_i h4
  obtain ⟨a1, a2⟩ := szN_le _ _ (by omega : 0 ≤ szN w.cells.length 1048576)
  obtain ⟨b1, b2⟩ := szL_le' szLe_szJob w.jobs (szN w.cells.length 1048576) (by omega)
  obtain ⟨b3, b4⟩ := b2 (by omega)
  obtain ⟨c1, c2⟩ := szL_le' szLe_szQueue w.todo (szL szJob w.jobs (szN w.cells.length 1048576)) (by omega)
  obtain ⟨c3, c4⟩ := c2 (by omega)
  obtain ⟨d1, d2⟩ := szL_le' szLe_szEv w.log (szL szQueue w.todo (szL szJob w.jobs (szN w.cells.length 1048576))) (by omega)
  obtain ⟨d3, d4⟩ := d2 (by omega)
  refine ⟨by omega, by omega, ?_, by omega, ?_, by omega, ?_⟩
  · intro j hj
    obtain ⟨m, e1, e2, e3⟩ := b4 j hj
    simp only [szJob] at e3
    split at e3
    · omega
    rename_i q1
    split at e3
    · omega
    rename_i q2
    split at e3
    · omega
    rename_i q3
    obtain ⟨z1, z2⟩ := szN_le _ _ (by omega : 0 ≤ szN j.op.key.size m)
    obtain ⟨z3, z4⟩ := szN_le _ _ (by omega : 0 ≤ szN j.keys.length (szN j.op.key.size m))
    obtain ⟨z5, z6⟩ := szN_le _ _ (by omega : 0 ≤ szN j.raw.length (szN j.keys.length (szN j.op.key.size m)))
    exact ⟨by omega, by omega⟩
  · intro j hj
    obtain ⟨m, e1, e2, e3⟩ := c4 j hj
    simp only [szQueue] at e3
    split at e3
    · omega
    rename_i q1
    obtain ⟨z1, z2⟩ := szL_le' szLe_szOp j.ops m (by omega)
    have := (z2 (by omega)).1
    show j.ops.length ≤ 1048576
    omega
  · intro j hj
    obtain ⟨m, e1, e2, e3⟩ := d4 j hj
    simp only [szEv] at e3
    split at e3
    · omega
    rename_i q1
    split at e3
    · omega
    rename_i q2
    obtain ⟨z1, z2⟩ := szN_le _ _ (by omega : 0 ≤ szN j.op.key.size m)
    have := (szRows_le' j.rows (szN j.op.key.size m) (by omega) (by omega)).1
    show j.rows.length ≤ 1048576
    omega

end Go.Proofs.YtpgamddjpclbaaaDoor.Ev
