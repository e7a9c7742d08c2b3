/-
  No cell of these rows narrows 'for every input' (looked for: loops, veiled, ifaces, maps, wideKeys, modest, calm, conditions, laid).
  DERIVED. THE GIVEN ROWS OF THIS SEAT. 4 by the template 'for every input the law returns true; each argument reads behind the call as it read before'; 0 by the template 'total and deterministic' (their statements: YtlcodlnldcidoaaTotals.lean).
  GIVEN WITH THE SEED: the statements are not yours to turn. If you find one false, say at which input.
  Laid BY PROGRAM, IN A SANDBOX (cutbox-rows.mjs): the forced cells as the released guide's own fill.sh prints them over the translation f9464bf8da165084… (all of the seat's roots in one cut). By AI agents, Wed Nov 11 2026. No macro, syntax, notation, axiom, sorry.
-/
import Derived.Test.YtlcodlnldcidoaaChecked
import GoSem.Claim
import GoSem.ClaimJoined
import GoSem.ClaimMapViews
import Derived.JoinedTies
import Derived.KernelRfl
namespace Go.Proofs.Ytlcodlnldcidoaa
/- THE CELL 'sum', in the pinned program and in every row, IS THE sha256 OF THE DUMP (.gsa) THAT YtlcodlnldcidoaaProg.lean LOADS. Nothing in Lean hashes anything: it is a label: what it is worth is what the hold of that sum in a sandbox is worth. -/
noncomputable def Try.pinned : Pinned := { name := "ytlcodlnldcidoaa", sum := "f9464bf8da165084ebc80bfc8af02fc97efe47698a1eaba112a16cc81420e6a2", checked := Try.checked }
namespace Rows
def none {H : Type} : Left H := { results := [], args := [] }

/-- 'laws.FnExactInside': WHATEVER THE INPUT: true; the input reads as it did. -/
def fnExactInsideSpec : ChangeSpec := { name := "fnExactInside", fn := fun _ => fun
  | [d] => { results := [.lit (.bool true)], args := [d] }
  | _ => none }
def fnExactInsideRow : OpenClaim := { program := "ytlcodlnldcidoaa", sum := "f9464bf8da165084ebc80bfc8af02fc97efe47698a1eaba112a16cc81420e6a2", func := "loop.example/g01608/laws.FnExactInside", spec := "fnExactInside", apart := false }
def FnExactInsideSaid : Prop := fnExactInsideRow.holds Try.pinned (OpenSpec.ofChange fnExactInsideSpec)

/-- ITS FALSE NEIGHBOUR: 'it returns false'. Refute it at one input. -/
def fnExactInsideWrong : ChangeSpec := { name := "fnExactInside", fn := fun _ => fun
  | [d] => { results := [.lit (.bool false)], args := [d] }
  | _ => none }
def FnExactInsideWrongFalsely : Prop := fnExactInsideRow.holds Try.pinned (OpenSpec.ofChange fnExactInsideWrong)

/-- 'laws.FnTooLate': WHATEVER THE INPUT: true; the input reads as it did. -/
def fnTooLateSpec : ChangeSpec := { name := "fnTooLate", fn := fun _ => fun
  | [d] => { results := [.lit (.bool true)], args := [d] }
  | _ => none }
def fnTooLateRow : OpenClaim := { program := "ytlcodlnldcidoaa", sum := "f9464bf8da165084ebc80bfc8af02fc97efe47698a1eaba112a16cc81420e6a2", func := "loop.example/g01608/laws.FnTooLate", spec := "fnTooLate", inPlace := ["slices.overlaps[loop.example/g01608/impl.Row]"], unfollowed := true, recurses := true, apart := false }
def FnTooLateSaid : Prop := fnTooLateRow.holds Try.pinned (OpenSpec.ofChange fnTooLateSpec)

/-- ITS FALSE NEIGHBOUR: 'it returns false'. Refute it at one input. -/
def fnTooLateWrong : ChangeSpec := { name := "fnTooLate", fn := fun _ => fun
  | [d] => { results := [.lit (.bool false)], args := [d] }
  | _ => none }
def FnTooLateWrongFalsely : Prop := fnTooLateRow.holds Try.pinned (OpenSpec.ofChange fnTooLateWrong)

/-- 'laws.FnBounded': WHATEVER THE INPUT: true; the input reads as it did. -/
def fnBoundedSpec : ChangeSpec := { name := "fnBounded", fn := fun _ => fun
  | [d] => { results := [.lit (.bool true)], args := [d] }
  | _ => none }
def fnBoundedRow : OpenClaim := { program := "ytlcodlnldcidoaa", sum := "f9464bf8da165084ebc80bfc8af02fc97efe47698a1eaba112a16cc81420e6a2", func := "loop.example/g01608/laws.FnBounded", spec := "fnBounded", unfollowed := true, recurses := true, apart := false }
def FnBoundedSaid : Prop := fnBoundedRow.holds Try.pinned (OpenSpec.ofChange fnBoundedSpec)

/-- ITS FALSE NEIGHBOUR: 'it returns false'. Refute it at one input. -/
def fnBoundedWrong : ChangeSpec := { name := "fnBounded", fn := fun _ => fun
  | [d] => { results := [.lit (.bool false)], args := [d] }
  | _ => none }
def FnBoundedWrongFalsely : Prop := fnBoundedRow.holds Try.pinned (OpenSpec.ofChange fnBoundedWrong)

/-- 'laws.FnExactBoundsOk': WHATEVER THE INPUT: true; the input reads as it did. -/
def fnExactBoundsOkSpec : ChangeSpec := { name := "fnExactBoundsOk", fn := fun _ => fun
  | [d] => { results := [.lit (.bool true)], args := [d] }
  | _ => none }
def fnExactBoundsOkRow : OpenClaim := { program := "ytlcodlnldcidoaa", sum := "f9464bf8da165084ebc80bfc8af02fc97efe47698a1eaba112a16cc81420e6a2", func := "loop.example/g01608/laws.FnExactBoundsOk", spec := "fnExactBoundsOk", unfollowed := true, recurses := true, apart := false }
def FnExactBoundsOkSaid : Prop := fnExactBoundsOkRow.holds Try.pinned (OpenSpec.ofChange fnExactBoundsOkSpec)

/-- ITS FALSE NEIGHBOUR: 'it returns false'. Refute it at one input. -/
def fnExactBoundsOkWrong : ChangeSpec := { name := "fnExactBoundsOk", fn := fun _ => fun
  | [d] => { results := [.lit (.bool false)], args := [d] }
  | _ => none }
def FnExactBoundsOkWrongFalsely : Prop := fnExactBoundsOkRow.holds Try.pinned (OpenSpec.ofChange fnExactBoundsOkWrong)

/- THE SECOND FORM. 'bulk': how many values and letters a reading holds, each counted each time it is reached (what is shared counts as often as it is met; a slice's spare places count too). A statement '..UptoSaid' is the law's where the arguments, and the package variables that the reading takes, are together of bulk at most 1048576: NARROWER than '..Said'. Prove '..Said' where nothing that the law and all that it calls make is longer than what came in: it says more and counts as full. Else prove '..UptoSaid'. A law counts once. -/
mutual
def uptoBulk {H : Type} : DataW H → Nat
  | .lit (.string bytes) => bytes.length + 1
  | .lit _ => 1
  | .nil => 1
  | .ptr d => uptoBulk d + 1
  | .slice elems spare => uptoBulkAll elems + uptoBulkAll spare + 1
  | .agg parts => uptoBulkAll parts + 1
  | .iface _ d => uptoBulk d + 1
  | .map entries => uptoBulkEntries entries + 1
  | .held _ => 1
def uptoBulkAll {H : Type} : List (DataW H) → Nat
  | [] => 0
  | d :: r => uptoBulk d + uptoBulkAll r
def uptoBulkEntries {H : Type} : List (Lit × DataW H) → Nat
  | [] => 0
  | x :: r => uptoBulkEntry x + uptoBulkEntries r
def uptoBulkEntry {H : Type} : Lit × DataW H → Nat
  | (.string bytes, d) => bytes.length + uptoBulk d + 1
  | (_, d) => uptoBulk d + 1
 end
def uptoSmall : (H : Type) → List (DataW H) → Bool := fun _ ds => decide (uptoBulkAll ds ≤ 1048576)
def OpenSpec.upto (s : _root_.Go.ChangeSpec) : _root_.Go.OpenSpec := { _root_.Go.OpenSpec.ofChange s with cond := some uptoSmall }

/-- 'laws.FnExactInside', WHERE WHAT IT READS IS OF BULK AT MOST 1048576: true; the input reads as it did. -/
def fnExactInsideUptoRow : OpenClaim := { program := "ytlcodlnldcidoaa", sum := "f9464bf8da165084ebc80bfc8af02fc97efe47698a1eaba112a16cc81420e6a2", func := "loop.example/g01608/laws.FnExactInside", spec := "fnExactInside", apart := false, narrowed := true }
def FnExactInsideUptoSaid : Prop := fnExactInsideUptoRow.holds Try.pinned (OpenSpec.upto fnExactInsideSpec)

/-- 'laws.FnTooLate', WHERE WHAT IT READS IS OF BULK AT MOST 1048576: true; the input reads as it did. -/
def fnTooLateUptoRow : OpenClaim := { program := "ytlcodlnldcidoaa", sum := "f9464bf8da165084ebc80bfc8af02fc97efe47698a1eaba112a16cc81420e6a2", func := "loop.example/g01608/laws.FnTooLate", spec := "fnTooLate", inPlace := ["slices.overlaps[loop.example/g01608/impl.Row]"], unfollowed := true, recurses := true, apart := false, narrowed := true }
def FnTooLateUptoSaid : Prop := fnTooLateUptoRow.holds Try.pinned (OpenSpec.upto fnTooLateSpec)

/-- 'laws.FnBounded', WHERE WHAT IT READS IS OF BULK AT MOST 1048576: true; the input reads as it did. -/
def fnBoundedUptoRow : OpenClaim := { program := "ytlcodlnldcidoaa", sum := "f9464bf8da165084ebc80bfc8af02fc97efe47698a1eaba112a16cc81420e6a2", func := "loop.example/g01608/laws.FnBounded", spec := "fnBounded", unfollowed := true, recurses := true, apart := false, narrowed := true }
def FnBoundedUptoSaid : Prop := fnBoundedUptoRow.holds Try.pinned (OpenSpec.upto fnBoundedSpec)

/-- 'laws.FnExactBoundsOk', WHERE WHAT IT READS IS OF BULK AT MOST 1048576: true; the input reads as it did. -/
def fnExactBoundsOkUptoRow : OpenClaim := { program := "ytlcodlnldcidoaa", sum := "f9464bf8da165084ebc80bfc8af02fc97efe47698a1eaba112a16cc81420e6a2", func := "loop.example/g01608/laws.FnExactBoundsOk", spec := "fnExactBoundsOk", unfollowed := true, recurses := true, apart := false, narrowed := true }
def FnExactBoundsOkUptoSaid : Prop := fnExactBoundsOkUptoRow.holds Try.pinned (OpenSpec.upto fnExactBoundsOkSpec)

end Rows
end Go.Proofs.Ytlcodlnldcidoaa
