/- Contracts: what the functions of this part return, for arguments as each contract says. -/
import Derived.Test.YtpgamddjpclbaaaDoorEvD
import Derived.Test.YtpgamddjpclbaaaDoorEvTab
import Derived.Test.YtpgamddjpclbaaaDoorSTy
import Derived.Test.YtpgamddjpclbaaaDoorSKb
import Derived.Test.YtpgamddjpclbaaaDoorSLb
import Derived.Test.YtpgamddjpclbaaaDoorSSp
import Derived.Test.YtpgamddjpclbaaaDoorSSq
import Derived.Test.YtpgamddjpclbaaaDoorSLn
import Derived.Test.YtpgamddjpclbaaaDoorSPl
import Derived.Test.YtpgamddjpclbaaaDoorSCq
import Derived.Test.YtpgamddjpclbaaaDoorSPg
import Derived.Test.YtpgamddjpclbaaaDoorSPh
import Derived.Test.YtpgamddjpclbaaaDoorSMk
import Derived.Test.YtpgamddjpclbaaaDoorSMr
import Derived.Test.YtpgamddjpclbaaaDoorSPw
import Derived.Test.YtpgamddjpclbaaaDoorSNt
import Derived.Test.YtpgamddjpclbaaaDoorSMs
import Derived.Test.YtpgamddjpclbaaaDoorSRj
import Derived.Test.YtpgamddjpclbaaaDoorSKt
import Derived.Test.YtpgamddjpclbaaaDoorSTd
import Derived.Test.YtpgamddjpclbaaaDoorSTe
import Derived.Test.YtpgamddjpclbaaaDoorSTf
import Derived.Test.YtpgamddjpclbaaaDoorSMo
import Derived.Test.YtpgamddjpclbaaaDoorSOb
import Derived.Test.YtpgamddjpclbaaaDoorSRw
import Derived.Test.YtpgamddjpclbaaaDoorSFr
import Derived.Test.YtpgamddjpclbaaaDoorSEs
import Derived.Test.YtpgamddjpclbaaaDoorSWd
import Derived.Test.YtpgamddjpclbaaaDoorSNq
set_option linter.constructorNameAsVariable false
set_option linter.unusedVariables false
set_option linter.unusedSimpArgs false
set_option linter.unusedVariables false
set_option maxHeartbeats 4000000
set_option maxRecDepth 20000
set_option linter.unusedSimpArgs false
set_option linter.constructorNameAsVariable false
namespace Go.Proofs.YtpgamddjpclbaaaDoor.Ev
open Go Go.Proofs
attribute [local irreducible] RO Fn IntKind.wrap TriL
theorem All2_map2 {α : Type} {f g : α → List AV} {R : List AV → List AV → Prop} : ∀ l : List α, (∀ x, R (f x) (g x)) → All2 R (l.map f) (l.map g)
  | [], _ => trivial
  | x :: l, h => ⟨h x, All2_map2 l h⟩
theorem deep_queue2 {hp : Hp} {d : Nat} (g : Bool) (x : Queue) : All2 (Deep hp (d + 1)) (x.av g) (x.av true) := by
  unfold Queue.av
  exact ⟨rfl, trivial⟩
theorem deep_qro {hp : Hp} (l : List Queue) : Deep hp 4 (.ro false false 1 (l.map (Queue.av false))) (.ro true false 1 (l.map (Queue.av true))) :=
  ⟨_, All2_map2 _ (fun x => deep_queue2 false x), rfl⟩
theorem deep_q4 {hp : Hp} {id : Nat} {a b c d : List Op} (h0 : at? hp id = some (some ⟨1, false, [[.sl (id + 1) 0 a.length], [.sl (id + 2) 0 b.length], [.sl (id + 3) 0 c.length], [.sl (id + 4) 0 d.length]]⟩)) (h1 : at? hp (id + 1) = some (some ⟨4, true, a.map Op.av⟩)) (h2 : at? hp (id + 2) = some (some ⟨4, true, b.map Op.av⟩)) (h3 : at? hp (id + 3) = some (some ⟨4, true, c.map Op.av⟩)) (h4 : at? hp (id + 4) = some (some ⟨4, true, d.map Op.av⟩)) :
    Deep hp 4 (.sl id 0 4) (.ro true false 1 ((qs4 a b c d).map (Queue.av true))) := by
  rw [Deep, h0]
  refine ⟨_, cut_full _ rfl, ?_⟩
  rw [if_neg (show ¬ (false = true) from Bool.false_ne_true)]
  refine ⟨_, ?_, rfl⟩
  exact ⟨⟨deep_sl h1 (by simp), trivial⟩, ⟨deep_sl h2 (by simp), trivial⟩, ⟨deep_sl h3 (by simp), trivial⟩, ⟨deep_sl h4 (by simp), trivial⟩, trivial⟩
theorem deep_net3 {hp : Hp} {d i : Nat} {n : Net} {l : List AV} (hl : l = [.sl i 0 n.grams.length, .sl (i + 1) 0 n.sends.length, .i .i64 n.flushes, .sl (i + 2) 0 n.picks.length]) (h1 : at? hp i = some (some ⟨1, true, n.grams.map sv⟩)) (h2 : at? hp (i + 1) = some (some ⟨2, true, n.sends.map Send.av⟩)) (h3 : at? hp (i + 2) = some (some ⟨1, true, n.picks.map iv⟩)) : Deep hp (d + 2) (.ag l) (.ag (n.av true)) := by
  subst hl
  exact deep_ag2 ⟨deep_sl h1 (by simp), deep_sl h2 (by simp), rfl, deep_sl h3 (by simp), trivial⟩
def mkA (a : List Op) : List Op := mOp 1 a.length
def mkB (a b : List Op) : List Op := mOp (1 + 4 * a.length) b.length
def mkC (a b c : List Op) : List Op := mOp (1 + 4 * a.length + 4 * b.length) c.length
def mkD (a b c d : List Op) : List Op := mOp (1 + 4 * a.length + 4 * b.length + 4 * c.length) d.length
/-- What the law's heap holds behind the two calls: the net's own copy, then the queues. -/
def heap8 (x y z : Option Ob) (a b c d : List Op) : Hp := [x, y, z, some ⟨1, false, [[.sl 4 0 a.length], [.sl 5 0 b.length], [.sl 6 0 c.length], [.sl 7 0 d.length]]⟩, some ⟨4, true, a.map Op.av⟩, some ⟨4, true, b.map Op.av⟩, some ⟨4, true, c.map Op.av⟩, some ⟨4, true, d.map Op.av⟩]
theorem fillQ_len : ∀ (l : List Rec) (q : List Op) (lost : Int), q.length ≤ 10 → (fillQ q lost l).1.length ≤ 10
  | [], q, _, h => h
  | r :: l, q, lost, h => by
    rw [fillQ]
    split
    · exact fillQ_len l q _ h
    · exact fillQ_len l _ _ (by rw [enq_len]; omega)
theorem todoQ_len (n : Net) : (todoQ n).a.length ≤ 10 ∧ (todoQ n).b.length ≤ 10 ∧ (todoQ n).c.length ≤ 10 := by
  unfold todoQ
  suffices h : ∀ (l : List Send) (s : Qs), s.a.length ≤ 10 ∧ s.b.length ≤ 10 ∧ s.c.length ≤ 10 → (l.foldl (sendQ n) s).a.length ≤ 10 ∧ (l.foldl (sendQ n) s).b.length ≤ 10 ∧ (l.foldl (sendQ n) s).c.length ≤ 10 from
    h _ _ ⟨by simp, by simp, by simp⟩
  intro l
  induction l with
  | nil => intro s h; exact h
  | cons x l ih =>
    intro s h
    rw [List.foldl_cons]
    refine ih _ ?_
    rw [sendQ]
    split
    · exact ⟨fillQ_len _ _ _ h.1, h.2.1, h.2.2⟩
    · split
      · exact ⟨h.1, fillQ_len _ _ _ h.2.1, h.2.2⟩
      · exact ⟨h.1, h.2.1, fillQ_len _ _ _ h.2.2⟩
theorem qs4_ok {a b c d : List Op} (ha : a.length ≤ 10) (hb : b.length ≤ 10) (hc : c.length ≤ 10) (hd : d.length ≤ 10) : (qs4 a b c d).length ≤ maxLen ∧ ∀ x ∈ qs4 a b c d, x.ops.length ≤ maxLen := by
  refine ⟨by simp [qs4, maxLen], ?_⟩
  intro x hx
  simp only [qs4, List.mem_cons, List.not_mem_nil, or_false] at hx
  rcases hx with rfl | rfl | rfl | rfl <;> simp only [maxLen] <;> omega
end Go.Proofs.YtpgamddjpclbaaaDoor.Ev
