/-
  No cell of these rows narrows 'for every input' (looked for: loops, veiled, ifaces, maps, wideKeys, modest, calm, conditions, laid).
  DERIVED. THE GIVEN ROWS OF THIS SEAT. 10 by the template 'for every input the law returns true; each argument reads behind the call as it read before'; 0 by the template 'total and deterministic' (their statements: YthnjhephkbokeaaTotals.lean).
  GIVEN WITH THE SEED: the statements are not yours to turn. If you find one false, say at which input.
  Laid BY PROGRAM, IN A SANDBOX (cutbox-rows.mjs): the forced cells as the released guide's own fill.sh prints them over the translation f5c7a371b5922443… (all of the seat's roots in one cut). By AI agents, Wed Nov 11 2026. No macro, syntax, notation, axiom, sorry.
-/
import Derived.Test.YthnjhephkbokeaaChecked
import GoSem.Claim
import GoSem.ClaimJoined
import GoSem.ClaimMapViews
import Derived.JoinedTies
import Derived.KernelRfl
namespace Go.Proofs.Ythnjhephkbokeaa
/- THE CELL 'sum', in the pinned program and in every row, IS THE sha256 OF THE DUMP (.gsa) THAT YthnjhephkbokeaaProg.lean LOADS. Nothing in Lean hashes anything: it is a label: what it is worth is what the hold of that sum in a sandbox is worth. -/
noncomputable def Try.pinned : Pinned := { name := "ythnjhephkbokeaa", sum := "f5c7a371b592244331ac52098129535c6aeb70afca29b47d70ff76685f14c8ee", checked := Try.checked }
namespace Rows
def none {H : Type} : Left H := { results := [], args := [] }

/-- 'laws.FnExactStepBound': WHATEVER THE INPUT: true; the input reads as it did. -/
def fnExactStepBoundSpec : ChangeSpec := { name := "fnExactStepBound", fn := fun _ => fun
  | [d1, d2, d3, d4] => { results := [.lit (.bool true)], args := [d1, d2, d3, d4] }
  | _ => none }
def fnExactStepBoundRow : OpenClaim := { program := "ythnjhephkbokeaa", sum := "f5c7a371b592244331ac52098129535c6aeb70afca29b47d70ff76685f14c8ee", func := "loop.example/g01608/laws.FnExactStepBound", spec := "fnExactStepBound", apart := false }
def FnExactStepBoundSaid : Prop := fnExactStepBoundRow.holds Try.pinned (OpenSpec.ofChange fnExactStepBoundSpec)

/-- ITS FALSE NEIGHBOUR: 'it returns false'. Refute it at one input. -/
def fnExactStepBoundWrong : ChangeSpec := { name := "fnExactStepBound", fn := fun _ => fun
  | [d1, d2, d3, d4] => { results := [.lit (.bool false)], args := [d1, d2, d3, d4] }
  | _ => none }
def FnExactStepBoundWrongFalsely : Prop := fnExactStepBoundRow.holds Try.pinned (OpenSpec.ofChange fnExactStepBoundWrong)

/-- 'laws.FnExactNetOk': WHATEVER THE INPUT: true; the input reads as it did. -/
def fnExactNetOkSpec : ChangeSpec := { name := "fnExactNetOk", fn := fun _ => fun
  | [d] => { results := [.lit (.bool true)], args := [d] }
  | _ => none }
def fnExactNetOkRow : OpenClaim := { program := "ythnjhephkbokeaa", sum := "f5c7a371b592244331ac52098129535c6aeb70afca29b47d70ff76685f14c8ee", func := "loop.example/g01608/laws.FnExactNetOk", spec := "fnExactNetOk", apart := false }
def FnExactNetOkSaid : Prop := fnExactNetOkRow.holds Try.pinned (OpenSpec.ofChange fnExactNetOkSpec)

/-- ITS FALSE NEIGHBOUR: 'it returns false'. Refute it at one input. -/
def fnExactNetOkWrong : ChangeSpec := { name := "fnExactNetOk", fn := fun _ => fun
  | [d] => { results := [.lit (.bool false)], args := [d] }
  | _ => none }
def FnExactNetOkWrongFalsely : Prop := fnExactNetOkRow.holds Try.pinned (OpenSpec.ofChange fnExactNetOkWrong)

/-- 'laws.FnExactTotalIn': WHATEVER THE INPUT: true; the input reads as it did. -/
def fnExactTotalInSpec : ChangeSpec := { name := "fnExactTotalIn", fn := fun _ => fun
  | [d1, d2] => { results := [.lit (.bool true)], args := [d1, d2] }
  | _ => none }
def fnExactTotalInRow : OpenClaim := { program := "ythnjhephkbokeaa", sum := "f5c7a371b592244331ac52098129535c6aeb70afca29b47d70ff76685f14c8ee", func := "loop.example/g01608/laws.FnExactTotalIn", spec := "fnExactTotalIn", apart := false }
def FnExactTotalInSaid : Prop := fnExactTotalInRow.holds Try.pinned (OpenSpec.ofChange fnExactTotalInSpec)

/-- ITS FALSE NEIGHBOUR: 'it returns false'. Refute it at one input. -/
def fnExactTotalInWrong : ChangeSpec := { name := "fnExactTotalIn", fn := fun _ => fun
  | [d1, d2] => { results := [.lit (.bool false)], args := [d1, d2] }
  | _ => none }
def FnExactTotalInWrongFalsely : Prop := fnExactTotalInRow.holds Try.pinned (OpenSpec.ofChange fnExactTotalInWrong)

/-- 'laws.FnExactWithPrefix': WHATEVER THE INPUT: true; the input reads as it did. -/
def fnExactWithPrefixSpec : ChangeSpec := { name := "fnExactWithPrefix", fn := fun _ => fun
  | [d1, d2] => { results := [.lit (.bool true)], args := [d1, d2] }
  | _ => none }
def fnExactWithPrefixRow : OpenClaim := { program := "ythnjhephkbokeaa", sum := "f5c7a371b592244331ac52098129535c6aeb70afca29b47d70ff76685f14c8ee", func := "loop.example/g01608/laws.FnExactWithPrefix", spec := "fnExactWithPrefix", apart := false }
def FnExactWithPrefixSaid : Prop := fnExactWithPrefixRow.holds Try.pinned (OpenSpec.ofChange fnExactWithPrefixSpec)

/-- ITS FALSE NEIGHBOUR: 'it returns false'. Refute it at one input. -/
def fnExactWithPrefixWrong : ChangeSpec := { name := "fnExactWithPrefix", fn := fun _ => fun
  | [d1, d2] => { results := [.lit (.bool false)], args := [d1, d2] }
  | _ => none }
def FnExactWithPrefixWrongFalsely : Prop := fnExactWithPrefixRow.holds Try.pinned (OpenSpec.ofChange fnExactWithPrefixWrong)

/-- 'laws.FnGrouped': WHATEVER THE INPUT: true; the input reads as it did. -/
def fnGroupedSpec : ChangeSpec := { name := "fnGrouped", fn := fun _ => fun
  | [d] => { results := [.lit (.bool true)], args := [d] }
  | _ => none }
def fnGroupedRow : OpenClaim := { program := "ythnjhephkbokeaa", sum := "f5c7a371b592244331ac52098129535c6aeb70afca29b47d70ff76685f14c8ee", func := "loop.example/g01608/laws.FnGrouped", spec := "fnGrouped", apart := false }
def FnGroupedSaid : Prop := fnGroupedRow.holds Try.pinned (OpenSpec.ofChange fnGroupedSpec)

/-- ITS FALSE NEIGHBOUR: 'it returns false'. Refute it at one input. -/
def fnGroupedWrong : ChangeSpec := { name := "fnGrouped", fn := fun _ => fun
  | [d] => { results := [.lit (.bool false)], args := [d] }
  | _ => none }
def FnGroupedWrongFalsely : Prop := fnGroupedRow.holds Try.pinned (OpenSpec.ofChange fnGroupedWrong)

/-- 'laws.FnExactParseLine': WHATEVER THE INPUT: true; the input reads as it did. -/
def fnExactParseLineSpec : ChangeSpec := { name := "fnExactParseLine", fn := fun _ => fun
  | [d] => { results := [.lit (.bool true)], args := [d] }
  | _ => none }
def fnExactParseLineRow : OpenClaim := { program := "ythnjhephkbokeaa", sum := "f5c7a371b592244331ac52098129535c6aeb70afca29b47d70ff76685f14c8ee", func := "loop.example/g01608/laws.FnExactParseLine", spec := "fnExactParseLine", inPlace := ["internal/bytealg.IndexByteString", "internal/bytealg.IndexString"], named := ["internal/bytealg.MaxLen"], apart := false }
def FnExactParseLineSaid : Prop := fnExactParseLineRow.holds Try.pinned (OpenSpec.ofChange fnExactParseLineSpec)

/-- ITS FALSE NEIGHBOUR: 'it returns false'. Refute it at one input. -/
def fnExactParseLineWrong : ChangeSpec := { name := "fnExactParseLine", fn := fun _ => fun
  | [d] => { results := [.lit (.bool false)], args := [d] }
  | _ => none }
def FnExactParseLineWrongFalsely : Prop := fnExactParseLineRow.holds Try.pinned (OpenSpec.ofChange fnExactParseLineWrong)

/-- 'laws.FnExactSeries': WHATEVER THE INPUT: true; the input reads as it did. -/
def fnExactSeriesSpec : ChangeSpec := { name := "fnExactSeries", fn := fun _ => fun
  | [d1, d2] => { results := [.lit (.bool true)], args := [d1, d2] }
  | _ => none }
def fnExactSeriesRow : OpenClaim := { program := "ythnjhephkbokeaa", sum := "f5c7a371b592244331ac52098129535c6aeb70afca29b47d70ff76685f14c8ee", func := "loop.example/g01608/laws.FnExactSeries", spec := "fnExactSeries", unfollowed := true, recurses := true, apart := false }
def FnExactSeriesSaid : Prop := fnExactSeriesRow.holds Try.pinned (OpenSpec.ofChange fnExactSeriesSpec)

/-- ITS FALSE NEIGHBOUR: 'it returns false'. Refute it at one input. -/
def fnExactSeriesWrong : ChangeSpec := { name := "fnExactSeries", fn := fun _ => fun
  | [d1, d2] => { results := [.lit (.bool false)], args := [d1, d2] }
  | _ => none }
def FnExactSeriesWrongFalsely : Prop := fnExactSeriesRow.holds Try.pinned (OpenSpec.ofChange fnExactSeriesWrong)

/-- 'laws.FnSeries': WHATEVER THE INPUT: true; the input reads as it did. -/
def fnSeriesSpec : ChangeSpec := { name := "fnSeries", fn := fun _ => fun
  | [d] => { results := [.lit (.bool true)], args := [d] }
  | _ => none }
def fnSeriesRow : OpenClaim := { program := "ythnjhephkbokeaa", sum := "f5c7a371b592244331ac52098129535c6aeb70afca29b47d70ff76685f14c8ee", func := "loop.example/g01608/laws.FnSeries", spec := "fnSeries", unfollowed := true, recurses := true, apart := false }
def FnSeriesSaid : Prop := fnSeriesRow.holds Try.pinned (OpenSpec.ofChange fnSeriesSpec)

/-- ITS FALSE NEIGHBOUR: 'it returns false'. Refute it at one input. -/
def fnSeriesWrong : ChangeSpec := { name := "fnSeries", fn := fun _ => fun
  | [d] => { results := [.lit (.bool false)], args := [d] }
  | _ => none }
def FnSeriesWrongFalsely : Prop := fnSeriesRow.holds Try.pinned (OpenSpec.ofChange fnSeriesWrong)

/-- 'laws.FnExactFlipsOk': WHATEVER THE INPUT: true; the input reads as it did. -/
def fnExactFlipsOkSpec : ChangeSpec := { name := "fnExactFlipsOk", fn := fun _ => fun
  | [d] => { results := [.lit (.bool true)], args := [d] }
  | _ => none }
def fnExactFlipsOkRow : OpenClaim := { program := "ythnjhephkbokeaa", sum := "f5c7a371b592244331ac52098129535c6aeb70afca29b47d70ff76685f14c8ee", func := "loop.example/g01608/laws.FnExactFlipsOk", spec := "fnExactFlipsOk", unfollowed := true, recurses := true, apart := false }
def FnExactFlipsOkSaid : Prop := fnExactFlipsOkRow.holds Try.pinned (OpenSpec.ofChange fnExactFlipsOkSpec)

/-- ITS FALSE NEIGHBOUR: 'it returns false'. Refute it at one input. -/
def fnExactFlipsOkWrong : ChangeSpec := { name := "fnExactFlipsOk", fn := fun _ => fun
  | [d] => { results := [.lit (.bool false)], args := [d] }
  | _ => none }
def FnExactFlipsOkWrongFalsely : Prop := fnExactFlipsOkRow.holds Try.pinned (OpenSpec.ofChange fnExactFlipsOkWrong)

/-- 'laws.FnExactRivals': WHATEVER THE INPUT: true; the input reads as it did. -/
def fnExactRivalsSpec : ChangeSpec := { name := "fnExactRivals", fn := fun _ => fun
  | [d1, d2] => { results := [.lit (.bool true)], args := [d1, d2] }
  | _ => none }
def fnExactRivalsRow : OpenClaim := { program := "ythnjhephkbokeaa", sum := "f5c7a371b592244331ac52098129535c6aeb70afca29b47d70ff76685f14c8ee", func := "loop.example/g01608/laws.FnExactRivals", spec := "fnExactRivals", unfollowed := true, recurses := true, apart := false }
def FnExactRivalsSaid : Prop := fnExactRivalsRow.holds Try.pinned (OpenSpec.ofChange fnExactRivalsSpec)

/-- ITS FALSE NEIGHBOUR: 'it returns false'. Refute it at one input. -/
def fnExactRivalsWrong : ChangeSpec := { name := "fnExactRivals", fn := fun _ => fun
  | [d1, d2] => { results := [.lit (.bool false)], args := [d1, d2] }
  | _ => none }
def FnExactRivalsWrongFalsely : Prop := fnExactRivalsRow.holds Try.pinned (OpenSpec.ofChange fnExactRivalsWrong)

/- THE SECOND FORM. 'bulk': how many values and letters a reading holds, each counted each time it is reached (what is shared counts as often as it is met; a slice's spare places count too). A statement '..UptoSaid' is the law's where the arguments, and the package variables that the reading takes, are together of bulk at most 1048576: NARROWER than '..Said'. Prove '..Said' where nothing that the law and all that it calls make is longer than what came in: it says more and counts as full. Else prove '..UptoSaid'. A law counts once. -/
mutual
def uptoBulk {H : Type} : DataW H → Nat
  | .lit (.string bytes) => bytes.length + 1
  | .lit _ => 1
  | .nil => 1
  | .ptr d => uptoBulk d + 1
  | .slice elems spare => uptoBulkAll elems + uptoBulkAll spare + 1
  | .agg parts => uptoBulkAll parts + 1
  | .iface _ d => uptoBulk d + 1
  | .map entries => uptoBulkEntries entries + 1
  | .held _ => 1
def uptoBulkAll {H : Type} : List (DataW H) → Nat
  | [] => 0
  | d :: r => uptoBulk d + uptoBulkAll r
def uptoBulkEntries {H : Type} : List (Lit × DataW H) → Nat
  | [] => 0
  | x :: r => uptoBulkEntry x + uptoBulkEntries r
def uptoBulkEntry {H : Type} : Lit × DataW H → Nat
  | (.string bytes, d) => bytes.length + uptoBulk d + 1
  | (_, d) => uptoBulk d + 1
 end
def uptoSmall : (H : Type) → List (DataW H) → Bool := fun _ ds => decide (uptoBulkAll ds ≤ 1048576)
def OpenSpec.upto (s : _root_.Go.ChangeSpec) : _root_.Go.OpenSpec := { _root_.Go.OpenSpec.ofChange s with cond := some uptoSmall }

/-- 'laws.FnExactStepBound', WHERE WHAT IT READS IS OF BULK AT MOST 1048576: true; the input reads as it did. -/
def fnExactStepBoundUptoRow : OpenClaim := { program := "ythnjhephkbokeaa", sum := "f5c7a371b592244331ac52098129535c6aeb70afca29b47d70ff76685f14c8ee", func := "loop.example/g01608/laws.FnExactStepBound", spec := "fnExactStepBound", apart := false, narrowed := true }
def FnExactStepBoundUptoSaid : Prop := fnExactStepBoundUptoRow.holds Try.pinned (OpenSpec.upto fnExactStepBoundSpec)

/-- 'laws.FnExactNetOk', WHERE WHAT IT READS IS OF BULK AT MOST 1048576: true; the input reads as it did. -/
def fnExactNetOkUptoRow : OpenClaim := { program := "ythnjhephkbokeaa", sum := "f5c7a371b592244331ac52098129535c6aeb70afca29b47d70ff76685f14c8ee", func := "loop.example/g01608/laws.FnExactNetOk", spec := "fnExactNetOk", apart := false, narrowed := true }
def FnExactNetOkUptoSaid : Prop := fnExactNetOkUptoRow.holds Try.pinned (OpenSpec.upto fnExactNetOkSpec)

/-- 'laws.FnExactTotalIn', WHERE WHAT IT READS IS OF BULK AT MOST 1048576: true; the input reads as it did. -/
def fnExactTotalInUptoRow : OpenClaim := { program := "ythnjhephkbokeaa", sum := "f5c7a371b592244331ac52098129535c6aeb70afca29b47d70ff76685f14c8ee", func := "loop.example/g01608/laws.FnExactTotalIn", spec := "fnExactTotalIn", apart := false, narrowed := true }
def FnExactTotalInUptoSaid : Prop := fnExactTotalInUptoRow.holds Try.pinned (OpenSpec.upto fnExactTotalInSpec)

/-- 'laws.FnExactWithPrefix', WHERE WHAT IT READS IS OF BULK AT MOST 1048576: true; the input reads as it did. -/
def fnExactWithPrefixUptoRow : OpenClaim := { program := "ythnjhephkbokeaa", sum := "f5c7a371b592244331ac52098129535c6aeb70afca29b47d70ff76685f14c8ee", func := "loop.example/g01608/laws.FnExactWithPrefix", spec := "fnExactWithPrefix", apart := false, narrowed := true }
def FnExactWithPrefixUptoSaid : Prop := fnExactWithPrefixUptoRow.holds Try.pinned (OpenSpec.upto fnExactWithPrefixSpec)

/-- 'laws.FnGrouped', WHERE WHAT IT READS IS OF BULK AT MOST 1048576: true; the input reads as it did. -/
def fnGroupedUptoRow : OpenClaim := { program := "ythnjhephkbokeaa", sum := "f5c7a371b592244331ac52098129535c6aeb70afca29b47d70ff76685f14c8ee", func := "loop.example/g01608/laws.FnGrouped", spec := "fnGrouped", apart := false, narrowed := true }
def FnGroupedUptoSaid : Prop := fnGroupedUptoRow.holds Try.pinned (OpenSpec.upto fnGroupedSpec)

/-- 'laws.FnExactParseLine', WHERE WHAT IT READS IS OF BULK AT MOST 1048576: true; the input reads as it did. -/
def fnExactParseLineUptoRow : OpenClaim := { program := "ythnjhephkbokeaa", sum := "f5c7a371b592244331ac52098129535c6aeb70afca29b47d70ff76685f14c8ee", func := "loop.example/g01608/laws.FnExactParseLine", spec := "fnExactParseLine", inPlace := ["internal/bytealg.IndexByteString", "internal/bytealg.IndexString"], named := ["internal/bytealg.MaxLen"], apart := false, narrowed := true }
def FnExactParseLineUptoSaid : Prop := fnExactParseLineUptoRow.holds Try.pinned (OpenSpec.upto fnExactParseLineSpec)

/-- 'laws.FnExactSeries', WHERE WHAT IT READS IS OF BULK AT MOST 1048576: true; the input reads as it did. -/
def fnExactSeriesUptoRow : OpenClaim := { program := "ythnjhephkbokeaa", sum := "f5c7a371b592244331ac52098129535c6aeb70afca29b47d70ff76685f14c8ee", func := "loop.example/g01608/laws.FnExactSeries", spec := "fnExactSeries", unfollowed := true, recurses := true, apart := false, narrowed := true }
def FnExactSeriesUptoSaid : Prop := fnExactSeriesUptoRow.holds Try.pinned (OpenSpec.upto fnExactSeriesSpec)

/-- 'laws.FnSeries', WHERE WHAT IT READS IS OF BULK AT MOST 1048576: true; the input reads as it did. -/
def fnSeriesUptoRow : OpenClaim := { program := "ythnjhephkbokeaa", sum := "f5c7a371b592244331ac52098129535c6aeb70afca29b47d70ff76685f14c8ee", func := "loop.example/g01608/laws.FnSeries", spec := "fnSeries", unfollowed := true, recurses := true, apart := false, narrowed := true }
def FnSeriesUptoSaid : Prop := fnSeriesUptoRow.holds Try.pinned (OpenSpec.upto fnSeriesSpec)

/-- 'laws.FnExactFlipsOk', WHERE WHAT IT READS IS OF BULK AT MOST 1048576: true; the input reads as it did. -/
def fnExactFlipsOkUptoRow : OpenClaim := { program := "ythnjhephkbokeaa", sum := "f5c7a371b592244331ac52098129535c6aeb70afca29b47d70ff76685f14c8ee", func := "loop.example/g01608/laws.FnExactFlipsOk", spec := "fnExactFlipsOk", unfollowed := true, recurses := true, apart := false, narrowed := true }
def FnExactFlipsOkUptoSaid : Prop := fnExactFlipsOkUptoRow.holds Try.pinned (OpenSpec.upto fnExactFlipsOkSpec)

/-- 'laws.FnExactRivals', WHERE WHAT IT READS IS OF BULK AT MOST 1048576: true; the input reads as it did. -/
def fnExactRivalsUptoRow : OpenClaim := { program := "ythnjhephkbokeaa", sum := "f5c7a371b592244331ac52098129535c6aeb70afca29b47d70ff76685f14c8ee", func := "loop.example/g01608/laws.FnExactRivals", spec := "fnExactRivals", unfollowed := true, recurses := true, apart := false, narrowed := true }
def FnExactRivalsUptoSaid : Prop := fnExactRivalsUptoRow.holds Try.pinned (OpenSpec.upto fnExactRivalsSpec)

end Rows
end Go.Proofs.Ythnjhephkbokeaa
