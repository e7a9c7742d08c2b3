/-
  No cell of these rows narrows 'for every input' (looked for: loops, veiled, ifaces, maps, wideKeys, modest, calm, conditions, laid).
  DERIVED. THE GIVEN ROWS OF THIS SEAT. 6 by the template 'for every input the law returns true; each argument reads behind the call as it read before'; 0 by the template 'total and deterministic' (their statements: YtjkgjpaodccgbaaTotals.lean).
  GIVEN WITH THE SEED: the statements are not yours to turn. If you find one false, say at which input.
  Laid BY PROGRAM, IN A SANDBOX (cutbox-rows.mjs): the forced cells as the released guide's own fill.sh prints them over the translation 9f9143c769d306fa… (all of the seat's roots in one cut). By AI agents, Wed Nov 11 2026. No macro, syntax, notation, axiom, sorry.
-/
import Derived.Test.YtjkgjpaodccgbaaChecked
import GoSem.Claim
import GoSem.ClaimJoined
import GoSem.ClaimMapViews
import Derived.JoinedTies
import Derived.KernelRfl
namespace Go.Proofs.Ytjkgjpaodccgbaa
/- THE CELL 'sum', in the pinned program and in every row, IS THE sha256 OF THE DUMP (.gsa) THAT YtjkgjpaodccgbaaProg.lean LOADS. Nothing in Lean hashes anything: it is a label: what it is worth is what the hold of that sum in a sandbox is worth. -/
noncomputable def Try.pinned : Pinned := { name := "ytjkgjpaodccgbaa", sum := "9f9143c769d306fa7dc0f2508948f2fcbb9121af88f7624bcaa856d4f7a4e8c8", checked := Try.checked }
namespace Rows
def none {H : Type} : Left H := { results := [], args := [] }

/-- 'laws.FnExactRejectWord': WHATEVER THE INPUT: true; the input reads as it did. -/
def fnExactRejectWordSpec : ChangeSpec := { name := "fnExactRejectWord", fn := fun _ => fun
  | [d] => { results := [.lit (.bool true)], args := [d] }
  | _ => none }
def fnExactRejectWordRow : OpenClaim := { program := "ytjkgjpaodccgbaa", sum := "9f9143c769d306fa7dc0f2508948f2fcbb9121af88f7624bcaa856d4f7a4e8c8", func := "loop.example/g01608/laws.FnExactRejectWord", spec := "fnExactRejectWord", apart := false }
def FnExactRejectWordSaid : Prop := fnExactRejectWordRow.holds Try.pinned (OpenSpec.ofChange fnExactRejectWordSpec)

/-- ITS FALSE NEIGHBOUR: 'it returns false'. Refute it at one input. -/
def fnExactRejectWordWrong : ChangeSpec := { name := "fnExactRejectWord", fn := fun _ => fun
  | [d] => { results := [.lit (.bool false)], args := [d] }
  | _ => none }
def FnExactRejectWordWrongFalsely : Prop := fnExactRejectWordRow.holds Try.pinned (OpenSpec.ofChange fnExactRejectWordWrong)

/-- 'laws.FnExactReadValue': WHATEVER THE INPUT: true; the input reads as it did. -/
def fnExactReadValueSpec : ChangeSpec := { name := "fnExactReadValue", fn := fun _ => fun
  | [d] => { results := [.lit (.bool true)], args := [d] }
  | _ => none }
def fnExactReadValueRow : OpenClaim := { program := "ytjkgjpaodccgbaa", sum := "9f9143c769d306fa7dc0f2508948f2fcbb9121af88f7624bcaa856d4f7a4e8c8", func := "loop.example/g01608/laws.FnExactReadValue", spec := "fnExactReadValue", apart := false }
def FnExactReadValueSaid : Prop := fnExactReadValueRow.holds Try.pinned (OpenSpec.ofChange fnExactReadValueSpec)

/-- ITS FALSE NEIGHBOUR: 'it returns false'. Refute it at one input. -/
def fnExactReadValueWrong : ChangeSpec := { name := "fnExactReadValue", fn := fun _ => fun
  | [d] => { results := [.lit (.bool false)], args := [d] }
  | _ => none }
def FnExactReadValueWrongFalsely : Prop := fnExactReadValueRow.holds Try.pinned (OpenSpec.ofChange fnExactReadValueWrong)

/-- 'laws.FnExactRank': WHATEVER THE INPUT: true; the input reads as it did. -/
def fnExactRankSpec : ChangeSpec := { name := "fnExactRank", fn := fun _ => fun
  | [d] => { results := [.lit (.bool true)], args := [d] }
  | _ => none }
def fnExactRankRow : OpenClaim := { program := "ytjkgjpaodccgbaa", sum := "9f9143c769d306fa7dc0f2508948f2fcbb9121af88f7624bcaa856d4f7a4e8c8", func := "loop.example/g01608/laws.FnExactRank", spec := "fnExactRank", apart := false }
def FnExactRankSaid : Prop := fnExactRankRow.holds Try.pinned (OpenSpec.ofChange fnExactRankSpec)

/-- ITS FALSE NEIGHBOUR: 'it returns false'. Refute it at one input. -/
def fnExactRankWrong : ChangeSpec := { name := "fnExactRank", fn := fun _ => fun
  | [d] => { results := [.lit (.bool false)], args := [d] }
  | _ => none }
def FnExactRankWrongFalsely : Prop := fnExactRankRow.holds Try.pinned (OpenSpec.ofChange fnExactRankWrong)

/-- 'laws.FnExactMoving': WHATEVER THE INPUT: true; the input reads as it did. -/
def fnExactMovingSpec : ChangeSpec := { name := "fnExactMoving", fn := fun _ => fun
  | [d1, d2] => { results := [.lit (.bool true)], args := [d1, d2] }
  | _ => none }
def fnExactMovingRow : OpenClaim := { program := "ytjkgjpaodccgbaa", sum := "9f9143c769d306fa7dc0f2508948f2fcbb9121af88f7624bcaa856d4f7a4e8c8", func := "loop.example/g01608/laws.FnExactMoving", spec := "fnExactMoving", apart := false }
def FnExactMovingSaid : Prop := fnExactMovingRow.holds Try.pinned (OpenSpec.ofChange fnExactMovingSpec)

/-- ITS FALSE NEIGHBOUR: 'it returns false'. Refute it at one input. -/
def fnExactMovingWrong : ChangeSpec := { name := "fnExactMoving", fn := fun _ => fun
  | [d1, d2] => { results := [.lit (.bool false)], args := [d1, d2] }
  | _ => none }
def FnExactMovingWrongFalsely : Prop := fnExactMovingRow.holds Try.pinned (OpenSpec.ofChange fnExactMovingWrong)

/-- 'laws.FnExactMergeRow': WHATEVER THE INPUT: true; the input reads as it did. -/
def fnExactMergeRowSpec : ChangeSpec := { name := "fnExactMergeRow", fn := fun _ => fun
  | [d1, d2] => { results := [.lit (.bool true)], args := [d1, d2] }
  | _ => none }
def fnExactMergeRowRow : OpenClaim := { program := "ytjkgjpaodccgbaa", sum := "9f9143c769d306fa7dc0f2508948f2fcbb9121af88f7624bcaa856d4f7a4e8c8", func := "loop.example/g01608/laws.FnExactMergeRow", spec := "fnExactMergeRow", apart := false }
def FnExactMergeRowSaid : Prop := fnExactMergeRowRow.holds Try.pinned (OpenSpec.ofChange fnExactMergeRowSpec)

/-- ITS FALSE NEIGHBOUR: 'it returns false'. Refute it at one input. -/
def fnExactMergeRowWrong : ChangeSpec := { name := "fnExactMergeRow", fn := fun _ => fun
  | [d1, d2] => { results := [.lit (.bool false)], args := [d1, d2] }
  | _ => none }
def FnExactMergeRowWrongFalsely : Prop := fnExactMergeRowRow.holds Try.pinned (OpenSpec.ofChange fnExactMergeRowWrong)

/-- 'laws.FnExactFindRow': WHATEVER THE INPUT: true; the input reads as it did. -/
def fnExactFindRowSpec : ChangeSpec := { name := "fnExactFindRow", fn := fun _ => fun
  | [d1, d2] => { results := [.lit (.bool true)], args := [d1, d2] }
  | _ => none }
def fnExactFindRowRow : OpenClaim := { program := "ytjkgjpaodccgbaa", sum := "9f9143c769d306fa7dc0f2508948f2fcbb9121af88f7624bcaa856d4f7a4e8c8", func := "loop.example/g01608/laws.FnExactFindRow", spec := "fnExactFindRow", unfollowed := true, recurses := true, apart := false }
def FnExactFindRowSaid : Prop := fnExactFindRowRow.holds Try.pinned (OpenSpec.ofChange fnExactFindRowSpec)

/-- ITS FALSE NEIGHBOUR: 'it returns false'. Refute it at one input. -/
def fnExactFindRowWrong : ChangeSpec := { name := "fnExactFindRow", fn := fun _ => fun
  | [d1, d2] => { results := [.lit (.bool false)], args := [d1, d2] }
  | _ => none }
def FnExactFindRowWrongFalsely : Prop := fnExactFindRowRow.holds Try.pinned (OpenSpec.ofChange fnExactFindRowWrong)

/- THE SECOND FORM. 'bulk': how many values and letters a reading holds, each counted each time it is reached (what is shared counts as often as it is met; a slice's spare places count too). A statement '..UptoSaid' is the law's where the arguments, and the package variables that the reading takes, are together of bulk at most 1048576: NARROWER than '..Said'. Prove '..Said' where nothing that the law and all that it calls make is longer than what came in: it says more and counts as full. Else prove '..UptoSaid'. A law counts once. -/
mutual
def uptoBulk {H : Type} : DataW H → Nat
  | .lit (.string bytes) => bytes.length + 1
  | .lit _ => 1
  | .nil => 1
  | .ptr d => uptoBulk d + 1
  | .slice elems spare => uptoBulkAll elems + uptoBulkAll spare + 1
  | .agg parts => uptoBulkAll parts + 1
  | .iface _ d => uptoBulk d + 1
  | .map entries => uptoBulkEntries entries + 1
  | .held _ => 1
def uptoBulkAll {H : Type} : List (DataW H) → Nat
  | [] => 0
  | d :: r => uptoBulk d + uptoBulkAll r
def uptoBulkEntries {H : Type} : List (Lit × DataW H) → Nat
  | [] => 0
  | x :: r => uptoBulkEntry x + uptoBulkEntries r
def uptoBulkEntry {H : Type} : Lit × DataW H → Nat
  | (.string bytes, d) => bytes.length + uptoBulk d + 1
  | (_, d) => uptoBulk d + 1
 end
def uptoSmall : (H : Type) → List (DataW H) → Bool := fun _ ds => decide (uptoBulkAll ds ≤ 1048576)
def OpenSpec.upto (s : _root_.Go.ChangeSpec) : _root_.Go.OpenSpec := { _root_.Go.OpenSpec.ofChange s with cond := some uptoSmall }

/-- 'laws.FnExactRejectWord', WHERE WHAT IT READS IS OF BULK AT MOST 1048576: true; the input reads as it did. -/
def fnExactRejectWordUptoRow : OpenClaim := { program := "ytjkgjpaodccgbaa", sum := "9f9143c769d306fa7dc0f2508948f2fcbb9121af88f7624bcaa856d4f7a4e8c8", func := "loop.example/g01608/laws.FnExactRejectWord", spec := "fnExactRejectWord", apart := false, narrowed := true }
def FnExactRejectWordUptoSaid : Prop := fnExactRejectWordUptoRow.holds Try.pinned (OpenSpec.upto fnExactRejectWordSpec)

/-- 'laws.FnExactReadValue', WHERE WHAT IT READS IS OF BULK AT MOST 1048576: true; the input reads as it did. -/
def fnExactReadValueUptoRow : OpenClaim := { program := "ytjkgjpaodccgbaa", sum := "9f9143c769d306fa7dc0f2508948f2fcbb9121af88f7624bcaa856d4f7a4e8c8", func := "loop.example/g01608/laws.FnExactReadValue", spec := "fnExactReadValue", apart := false, narrowed := true }
def FnExactReadValueUptoSaid : Prop := fnExactReadValueUptoRow.holds Try.pinned (OpenSpec.upto fnExactReadValueSpec)

/-- 'laws.FnExactRank', WHERE WHAT IT READS IS OF BULK AT MOST 1048576: true; the input reads as it did. -/
def fnExactRankUptoRow : OpenClaim := { program := "ytjkgjpaodccgbaa", sum := "9f9143c769d306fa7dc0f2508948f2fcbb9121af88f7624bcaa856d4f7a4e8c8", func := "loop.example/g01608/laws.FnExactRank", spec := "fnExactRank", apart := false, narrowed := true }
def FnExactRankUptoSaid : Prop := fnExactRankUptoRow.holds Try.pinned (OpenSpec.upto fnExactRankSpec)

/-- 'laws.FnExactMoving', WHERE WHAT IT READS IS OF BULK AT MOST 1048576: true; the input reads as it did. -/
def fnExactMovingUptoRow : OpenClaim := { program := "ytjkgjpaodccgbaa", sum := "9f9143c769d306fa7dc0f2508948f2fcbb9121af88f7624bcaa856d4f7a4e8c8", func := "loop.example/g01608/laws.FnExactMoving", spec := "fnExactMoving", apart := false, narrowed := true }
def FnExactMovingUptoSaid : Prop := fnExactMovingUptoRow.holds Try.pinned (OpenSpec.upto fnExactMovingSpec)

/-- 'laws.FnExactMergeRow', WHERE WHAT IT READS IS OF BULK AT MOST 1048576: true; the input reads as it did. -/
def fnExactMergeRowUptoRow : OpenClaim := { program := "ytjkgjpaodccgbaa", sum := "9f9143c769d306fa7dc0f2508948f2fcbb9121af88f7624bcaa856d4f7a4e8c8", func := "loop.example/g01608/laws.FnExactMergeRow", spec := "fnExactMergeRow", apart := false, narrowed := true }
def FnExactMergeRowUptoSaid : Prop := fnExactMergeRowUptoRow.holds Try.pinned (OpenSpec.upto fnExactMergeRowSpec)

/-- 'laws.FnExactFindRow', WHERE WHAT IT READS IS OF BULK AT MOST 1048576: true; the input reads as it did. -/
def fnExactFindRowUptoRow : OpenClaim := { program := "ytjkgjpaodccgbaa", sum := "9f9143c769d306fa7dc0f2508948f2fcbb9121af88f7624bcaa856d4f7a4e8c8", func := "loop.example/g01608/laws.FnExactFindRow", spec := "fnExactFindRow", unfollowed := true, recurses := true, apart := false, narrowed := true }
def FnExactFindRowUptoSaid : Prop := fnExactFindRowUptoRow.holds Try.pinned (OpenSpec.upto fnExactFindRowSpec)

end Rows
end Go.Proofs.Ytjkgjpaodccgbaa
