/-
  No cell of these rows narrows 'for every input' (looked for: loops, veiled, ifaces, maps, wideKeys, modest, calm, conditions, laid).
  DERIVED. THE GIVEN ROWS OF THIS SEAT. 12 by the template 'for every input the law returns true; each argument reads behind the call as it read before'; 0 by the template 'total and deterministic' (their statements: YtglbjjpmokhaaaaTotals.lean).
  GIVEN WITH THE SEED: the statements are not yours to turn. If you find one false, say at which input.
  Laid BY PROGRAM, IN A SANDBOX (cutbox-rows.mjs): the forced cells as the released guide's own fill.sh prints them over the translation 40710e452744f84a… (all of the seat's roots in one cut). By AI agents, Wed Nov 11 2026. No macro, syntax, notation, axiom, sorry.
-/
import Derived.Test.YtglbjjpmokhaaaaChecked
import GoSem.Claim
import GoSem.ClaimJoined
import GoSem.ClaimMapViews
import Derived.JoinedTies
import Derived.KernelRfl
namespace Go.Proofs.Ytglbjjpmokhaaaa
/- THE CELL 'sum', in the pinned program and in every row, IS THE sha256 OF THE DUMP (.gsa) THAT YtglbjjpmokhaaaaProg.lean LOADS. Nothing in Lean hashes anything: it is a label: what it is worth is what the hold of that sum in a sandbox is worth. -/
noncomputable def Try.pinned : Pinned := { name := "ytglbjjpmokhaaaa", sum := "40710e452744f84a1ecc140bf20233249e166fc25fb71a71b8dbd753253b7fab", checked := Try.checked }
namespace Rows
def none {H : Type} : Left H := { results := [], args := [] }

/-- 'laws.FnExactClockRight': WHATEVER THE INPUT: true; the input reads as it did. -/
def fnExactClockRightSpec : ChangeSpec := { name := "fnExactClockRight", fn := fun _ => fun
  | [d] => { results := [.lit (.bool true)], args := [d] }
  | _ => none }
def fnExactClockRightRow : OpenClaim := { program := "ytglbjjpmokhaaaa", sum := "40710e452744f84a1ecc140bf20233249e166fc25fb71a71b8dbd753253b7fab", func := "loop.example/g00678/laws.FnExactClockRight", spec := "fnExactClockRight", apart := false }
def FnExactClockRightSaid : Prop := fnExactClockRightRow.holds Try.pinned (OpenSpec.ofChange fnExactClockRightSpec)

/-- ITS FALSE NEIGHBOUR: 'it returns false'. Refute it at one input. -/
def fnExactClockRightWrong : ChangeSpec := { name := "fnExactClockRight", fn := fun _ => fun
  | [d] => { results := [.lit (.bool false)], args := [d] }
  | _ => none }
def FnExactClockRightWrongFalsely : Prop := fnExactClockRightRow.holds Try.pinned (OpenSpec.ofChange fnExactClockRightWrong)

/-- 'laws.FnExactQueryRight': WHATEVER THE INPUT: true; the input reads as it did. -/
def fnExactQueryRightSpec : ChangeSpec := { name := "fnExactQueryRight", fn := fun _ => fun
  | [d] => { results := [.lit (.bool true)], args := [d] }
  | _ => none }
def fnExactQueryRightRow : OpenClaim := { program := "ytglbjjpmokhaaaa", sum := "40710e452744f84a1ecc140bf20233249e166fc25fb71a71b8dbd753253b7fab", func := "loop.example/g00678/laws.FnExactQueryRight", spec := "fnExactQueryRight", apart := false }
def FnExactQueryRightSaid : Prop := fnExactQueryRightRow.holds Try.pinned (OpenSpec.ofChange fnExactQueryRightSpec)

/-- ITS FALSE NEIGHBOUR: 'it returns false'. Refute it at one input. -/
def fnExactQueryRightWrong : ChangeSpec := { name := "fnExactQueryRight", fn := fun _ => fun
  | [d] => { results := [.lit (.bool false)], args := [d] }
  | _ => none }
def FnExactQueryRightWrongFalsely : Prop := fnExactQueryRightRow.holds Try.pinned (OpenSpec.ofChange fnExactQueryRightWrong)

/-- 'laws.FnExactStampLess': WHATEVER THE INPUT: true; the input reads as it did. -/
def fnExactStampLessSpec : ChangeSpec := { name := "fnExactStampLess", fn := fun _ => fun
  | [d1, d2] => { results := [.lit (.bool true)], args := [d1, d2] }
  | _ => none }
def fnExactStampLessRow : OpenClaim := { program := "ytglbjjpmokhaaaa", sum := "40710e452744f84a1ecc140bf20233249e166fc25fb71a71b8dbd753253b7fab", func := "loop.example/g00678/laws.FnExactStampLess", spec := "fnExactStampLess", apart := false }
def FnExactStampLessSaid : Prop := fnExactStampLessRow.holds Try.pinned (OpenSpec.ofChange fnExactStampLessSpec)

/-- ITS FALSE NEIGHBOUR: 'it returns false'. Refute it at one input. -/
def fnExactStampLessWrong : ChangeSpec := { name := "fnExactStampLess", fn := fun _ => fun
  | [d1, d2] => { results := [.lit (.bool false)], args := [d1, d2] }
  | _ => none }
def FnExactStampLessWrongFalsely : Prop := fnExactStampLessRow.holds Try.pinned (OpenSpec.ofChange fnExactStampLessWrong)

/-- 'laws.FnExactLocalOf': WHATEVER THE INPUT: true; the input reads as it did. -/
def fnExactLocalOfSpec : ChangeSpec := { name := "fnExactLocalOf", fn := fun _ => fun
  | [d1, d2] => { results := [.lit (.bool true)], args := [d1, d2] }
  | _ => none }
def fnExactLocalOfRow : OpenClaim := { program := "ytglbjjpmokhaaaa", sum := "40710e452744f84a1ecc140bf20233249e166fc25fb71a71b8dbd753253b7fab", func := "loop.example/g00678/laws.FnExactLocalOf", spec := "fnExactLocalOf", apart := false }
def FnExactLocalOfSaid : Prop := fnExactLocalOfRow.holds Try.pinned (OpenSpec.ofChange fnExactLocalOfSpec)

/-- ITS FALSE NEIGHBOUR: 'it returns false'. Refute it at one input. -/
def fnExactLocalOfWrong : ChangeSpec := { name := "fnExactLocalOf", fn := fun _ => fun
  | [d1, d2] => { results := [.lit (.bool false)], args := [d1, d2] }
  | _ => none }
def FnExactLocalOfWrongFalsely : Prop := fnExactLocalOfRow.holds Try.pinned (OpenSpec.ofChange fnExactLocalOfWrong)

/-- 'laws.FnExactApart': WHATEVER THE INPUT: true; the input reads as it did. -/
def fnExactApartSpec : ChangeSpec := { name := "fnExactApart", fn := fun _ => fun
  | [d1, d2, d3] => { results := [.lit (.bool true)], args := [d1, d2, d3] }
  | _ => none }
def fnExactApartRow : OpenClaim := { program := "ytglbjjpmokhaaaa", sum := "40710e452744f84a1ecc140bf20233249e166fc25fb71a71b8dbd753253b7fab", func := "loop.example/g00678/laws.FnExactApart", spec := "fnExactApart", apart := false }
def FnExactApartSaid : Prop := fnExactApartRow.holds Try.pinned (OpenSpec.ofChange fnExactApartSpec)

/-- ITS FALSE NEIGHBOUR: 'it returns false'. Refute it at one input. -/
def fnExactApartWrong : ChangeSpec := { name := "fnExactApart", fn := fun _ => fun
  | [d1, d2, d3] => { results := [.lit (.bool false)], args := [d1, d2, d3] }
  | _ => none }
def FnExactApartWrongFalsely : Prop := fnExactApartRow.holds Try.pinned (OpenSpec.ofChange fnExactApartWrong)

/-- 'laws.FnExactStampTick': WHATEVER THE INPUT: true; the input reads as it did. -/
def fnExactStampTickSpec : ChangeSpec := { name := "fnExactStampTick", fn := fun _ => fun
  | [d1, d2] => { results := [.lit (.bool true)], args := [d1, d2] }
  | _ => none }
def fnExactStampTickRow : OpenClaim := { program := "ytglbjjpmokhaaaa", sum := "40710e452744f84a1ecc140bf20233249e166fc25fb71a71b8dbd753253b7fab", func := "loop.example/g00678/laws.FnExactStampTick", spec := "fnExactStampTick", apart := false }
def FnExactStampTickSaid : Prop := fnExactStampTickRow.holds Try.pinned (OpenSpec.ofChange fnExactStampTickSpec)

/-- ITS FALSE NEIGHBOUR: 'it returns false'. Refute it at one input. -/
def fnExactStampTickWrong : ChangeSpec := { name := "fnExactStampTick", fn := fun _ => fun
  | [d1, d2] => { results := [.lit (.bool false)], args := [d1, d2] }
  | _ => none }
def FnExactStampTickWrongFalsely : Prop := fnExactStampTickRow.holds Try.pinned (OpenSpec.ofChange fnExactStampTickWrong)

/-- 'laws.FnExactStampHear': WHATEVER THE INPUT: true; the input reads as it did. -/
def fnExactStampHearSpec : ChangeSpec := { name := "fnExactStampHear", fn := fun _ => fun
  | [d1, d2, d3] => { results := [.lit (.bool true)], args := [d1, d2, d3] }
  | _ => none }
def fnExactStampHearRow : OpenClaim := { program := "ytglbjjpmokhaaaa", sum := "40710e452744f84a1ecc140bf20233249e166fc25fb71a71b8dbd753253b7fab", func := "loop.example/g00678/laws.FnExactStampHear", spec := "fnExactStampHear", apart := false }
def FnExactStampHearSaid : Prop := fnExactStampHearRow.holds Try.pinned (OpenSpec.ofChange fnExactStampHearSpec)

/-- ITS FALSE NEIGHBOUR: 'it returns false'. Refute it at one input. -/
def fnExactStampHearWrong : ChangeSpec := { name := "fnExactStampHear", fn := fun _ => fun
  | [d1, d2, d3] => { results := [.lit (.bool false)], args := [d1, d2, d3] }
  | _ => none }
def FnExactStampHearWrongFalsely : Prop := fnExactStampHearRow.holds Try.pinned (OpenSpec.ofChange fnExactStampHearWrong)

/-- 'laws.FnExactMeterSum': WHATEVER THE INPUT: true; the input reads as it did. -/
def fnExactMeterSumSpec : ChangeSpec := { name := "fnExactMeterSum", fn := fun _ => fun
  | [d] => { results := [.lit (.bool true)], args := [d] }
  | _ => none }
def fnExactMeterSumRow : OpenClaim := { program := "ytglbjjpmokhaaaa", sum := "40710e452744f84a1ecc140bf20233249e166fc25fb71a71b8dbd753253b7fab", func := "loop.example/g00678/laws.FnExactMeterSum", spec := "fnExactMeterSum", apart := false }
def FnExactMeterSumSaid : Prop := fnExactMeterSumRow.holds Try.pinned (OpenSpec.ofChange fnExactMeterSumSpec)

/-- ITS FALSE NEIGHBOUR: 'it returns false'. Refute it at one input. -/
def fnExactMeterSumWrong : ChangeSpec := { name := "fnExactMeterSum", fn := fun _ => fun
  | [d] => { results := [.lit (.bool false)], args := [d] }
  | _ => none }
def FnExactMeterSumWrongFalsely : Prop := fnExactMeterSumRow.holds Try.pinned (OpenSpec.ofChange fnExactMeterSumWrong)

/-- 'laws.FnExactQueryBoth': WHATEVER THE INPUT: true; the input reads as it did. -/
def fnExactQueryBothSpec : ChangeSpec := { name := "fnExactQueryBoth", fn := fun _ => fun
  | [d1, d2] => { results := [.lit (.bool true)], args := [d1, d2] }
  | _ => none }
def fnExactQueryBothRow : OpenClaim := { program := "ytglbjjpmokhaaaa", sum := "40710e452744f84a1ecc140bf20233249e166fc25fb71a71b8dbd753253b7fab", func := "loop.example/g00678/laws.FnExactQueryBoth", spec := "fnExactQueryBoth", apart := false }
def FnExactQueryBothSaid : Prop := fnExactQueryBothRow.holds Try.pinned (OpenSpec.ofChange fnExactQueryBothSpec)

/-- ITS FALSE NEIGHBOUR: 'it returns false'. Refute it at one input. -/
def fnExactQueryBothWrong : ChangeSpec := { name := "fnExactQueryBoth", fn := fun _ => fun
  | [d1, d2] => { results := [.lit (.bool false)], args := [d1, d2] }
  | _ => none }
def FnExactQueryBothWrongFalsely : Prop := fnExactQueryBothRow.holds Try.pinned (OpenSpec.ofChange fnExactQueryBothWrong)

/-- 'laws.FnExactTimesRight': WHATEVER THE INPUT: true; the input reads as it did. -/
def fnExactTimesRightSpec : ChangeSpec := { name := "fnExactTimesRight", fn := fun _ => fun
  | [d] => { results := [.lit (.bool true)], args := [d] }
  | _ => none }
def fnExactTimesRightRow : OpenClaim := { program := "ytglbjjpmokhaaaa", sum := "40710e452744f84a1ecc140bf20233249e166fc25fb71a71b8dbd753253b7fab", func := "loop.example/g00678/laws.FnExactTimesRight", spec := "fnExactTimesRight", apart := false }
def FnExactTimesRightSaid : Prop := fnExactTimesRightRow.holds Try.pinned (OpenSpec.ofChange fnExactTimesRightSpec)

/-- ITS FALSE NEIGHBOUR: 'it returns false'. Refute it at one input. -/
def fnExactTimesRightWrong : ChangeSpec := { name := "fnExactTimesRight", fn := fun _ => fun
  | [d] => { results := [.lit (.bool false)], args := [d] }
  | _ => none }
def FnExactTimesRightWrongFalsely : Prop := fnExactTimesRightRow.holds Try.pinned (OpenSpec.ofChange fnExactTimesRightWrong)

/-- 'laws.FnExactWithin': WHATEVER THE INPUT: true; the input reads as it did. -/
def fnExactWithinSpec : ChangeSpec := { name := "fnExactWithin", fn := fun _ => fun
  | [d1, d2] => { results := [.lit (.bool true)], args := [d1, d2] }
  | _ => none }
def fnExactWithinRow : OpenClaim := { program := "ytglbjjpmokhaaaa", sum := "40710e452744f84a1ecc140bf20233249e166fc25fb71a71b8dbd753253b7fab", func := "loop.example/g00678/laws.FnExactWithin", spec := "fnExactWithin", apart := false }
def FnExactWithinSaid : Prop := fnExactWithinRow.holds Try.pinned (OpenSpec.ofChange fnExactWithinSpec)

/-- ITS FALSE NEIGHBOUR: 'it returns false'. Refute it at one input. -/
def fnExactWithinWrong : ChangeSpec := { name := "fnExactWithin", fn := fun _ => fun
  | [d1, d2] => { results := [.lit (.bool false)], args := [d1, d2] }
  | _ => none }
def FnExactWithinWrongFalsely : Prop := fnExactWithinRow.holds Try.pinned (OpenSpec.ofChange fnExactWithinWrong)

/-- 'laws.FnExactWhole': WHATEVER THE INPUT: true; the input reads as it did. -/
def fnExactWholeSpec : ChangeSpec := { name := "fnExactWhole", fn := fun _ => fun
  | [d] => { results := [.lit (.bool true)], args := [d] }
  | _ => none }
def fnExactWholeRow : OpenClaim := { program := "ytglbjjpmokhaaaa", sum := "40710e452744f84a1ecc140bf20233249e166fc25fb71a71b8dbd753253b7fab", func := "loop.example/g00678/laws.FnExactWhole", spec := "fnExactWhole", apart := false }
def FnExactWholeSaid : Prop := fnExactWholeRow.holds Try.pinned (OpenSpec.ofChange fnExactWholeSpec)

/-- ITS FALSE NEIGHBOUR: 'it returns false'. Refute it at one input. -/
def fnExactWholeWrong : ChangeSpec := { name := "fnExactWhole", fn := fun _ => fun
  | [d] => { results := [.lit (.bool false)], args := [d] }
  | _ => none }
def FnExactWholeWrongFalsely : Prop := fnExactWholeRow.holds Try.pinned (OpenSpec.ofChange fnExactWholeWrong)

/- THE SECOND FORM. 'bulk': how many values and letters a reading holds, each counted each time it is reached (what is shared counts as often as it is met; a slice's spare places count too). A statement '..UptoSaid' is the law's where the arguments, and the package variables that the reading takes, are together of bulk at most 1048576: NARROWER than '..Said'. Prove '..Said' where nothing that the law and all that it calls make is longer than what came in: it says more and counts as full. Else prove '..UptoSaid'. A law counts once. -/
mutual
def uptoBulk {H : Type} : DataW H → Nat
  | .lit (.string bytes) => bytes.length + 1
  | .lit _ => 1
  | .nil => 1
  | .ptr d => uptoBulk d + 1
  | .slice elems spare => uptoBulkAll elems + uptoBulkAll spare + 1
  | .agg parts => uptoBulkAll parts + 1
  | .iface _ d => uptoBulk d + 1
  | .map entries => uptoBulkEntries entries + 1
  | .held _ => 1
def uptoBulkAll {H : Type} : List (DataW H) → Nat
  | [] => 0
  | d :: r => uptoBulk d + uptoBulkAll r
def uptoBulkEntries {H : Type} : List (Lit × DataW H) → Nat
  | [] => 0
  | x :: r => uptoBulkEntry x + uptoBulkEntries r
def uptoBulkEntry {H : Type} : Lit × DataW H → Nat
  | (.string bytes, d) => bytes.length + uptoBulk d + 1
  | (_, d) => uptoBulk d + 1
 end
def uptoSmall : (H : Type) → List (DataW H) → Bool := fun _ ds => decide (uptoBulkAll ds ≤ 1048576)
def OpenSpec.upto (s : _root_.Go.ChangeSpec) : _root_.Go.OpenSpec := { _root_.Go.OpenSpec.ofChange s with cond := some uptoSmall }

/-- 'laws.FnExactClockRight', WHERE WHAT IT READS IS OF BULK AT MOST 1048576: true; the input reads as it did. -/
def fnExactClockRightUptoRow : OpenClaim := { program := "ytglbjjpmokhaaaa", sum := "40710e452744f84a1ecc140bf20233249e166fc25fb71a71b8dbd753253b7fab", func := "loop.example/g00678/laws.FnExactClockRight", spec := "fnExactClockRight", apart := false, narrowed := true }
def FnExactClockRightUptoSaid : Prop := fnExactClockRightUptoRow.holds Try.pinned (OpenSpec.upto fnExactClockRightSpec)

/-- 'laws.FnExactQueryRight', WHERE WHAT IT READS IS OF BULK AT MOST 1048576: true; the input reads as it did. -/
def fnExactQueryRightUptoRow : OpenClaim := { program := "ytglbjjpmokhaaaa", sum := "40710e452744f84a1ecc140bf20233249e166fc25fb71a71b8dbd753253b7fab", func := "loop.example/g00678/laws.FnExactQueryRight", spec := "fnExactQueryRight", apart := false, narrowed := true }
def FnExactQueryRightUptoSaid : Prop := fnExactQueryRightUptoRow.holds Try.pinned (OpenSpec.upto fnExactQueryRightSpec)

/-- 'laws.FnExactStampLess', WHERE WHAT IT READS IS OF BULK AT MOST 1048576: true; the input reads as it did. -/
def fnExactStampLessUptoRow : OpenClaim := { program := "ytglbjjpmokhaaaa", sum := "40710e452744f84a1ecc140bf20233249e166fc25fb71a71b8dbd753253b7fab", func := "loop.example/g00678/laws.FnExactStampLess", spec := "fnExactStampLess", apart := false, narrowed := true }
def FnExactStampLessUptoSaid : Prop := fnExactStampLessUptoRow.holds Try.pinned (OpenSpec.upto fnExactStampLessSpec)

/-- 'laws.FnExactLocalOf', WHERE WHAT IT READS IS OF BULK AT MOST 1048576: true; the input reads as it did. -/
def fnExactLocalOfUptoRow : OpenClaim := { program := "ytglbjjpmokhaaaa", sum := "40710e452744f84a1ecc140bf20233249e166fc25fb71a71b8dbd753253b7fab", func := "loop.example/g00678/laws.FnExactLocalOf", spec := "fnExactLocalOf", apart := false, narrowed := true }
def FnExactLocalOfUptoSaid : Prop := fnExactLocalOfUptoRow.holds Try.pinned (OpenSpec.upto fnExactLocalOfSpec)

/-- 'laws.FnExactApart', WHERE WHAT IT READS IS OF BULK AT MOST 1048576: true; the input reads as it did. -/
def fnExactApartUptoRow : OpenClaim := { program := "ytglbjjpmokhaaaa", sum := "40710e452744f84a1ecc140bf20233249e166fc25fb71a71b8dbd753253b7fab", func := "loop.example/g00678/laws.FnExactApart", spec := "fnExactApart", apart := false, narrowed := true }
def FnExactApartUptoSaid : Prop := fnExactApartUptoRow.holds Try.pinned (OpenSpec.upto fnExactApartSpec)

/-- 'laws.FnExactStampTick', WHERE WHAT IT READS IS OF BULK AT MOST 1048576: true; the input reads as it did. -/
def fnExactStampTickUptoRow : OpenClaim := { program := "ytglbjjpmokhaaaa", sum := "40710e452744f84a1ecc140bf20233249e166fc25fb71a71b8dbd753253b7fab", func := "loop.example/g00678/laws.FnExactStampTick", spec := "fnExactStampTick", apart := false, narrowed := true }
def FnExactStampTickUptoSaid : Prop := fnExactStampTickUptoRow.holds Try.pinned (OpenSpec.upto fnExactStampTickSpec)

/-- 'laws.FnExactStampHear', WHERE WHAT IT READS IS OF BULK AT MOST 1048576: true; the input reads as it did. -/
def fnExactStampHearUptoRow : OpenClaim := { program := "ytglbjjpmokhaaaa", sum := "40710e452744f84a1ecc140bf20233249e166fc25fb71a71b8dbd753253b7fab", func := "loop.example/g00678/laws.FnExactStampHear", spec := "fnExactStampHear", apart := false, narrowed := true }
def FnExactStampHearUptoSaid : Prop := fnExactStampHearUptoRow.holds Try.pinned (OpenSpec.upto fnExactStampHearSpec)

/-- 'laws.FnExactMeterSum', WHERE WHAT IT READS IS OF BULK AT MOST 1048576: true; the input reads as it did. -/
def fnExactMeterSumUptoRow : OpenClaim := { program := "ytglbjjpmokhaaaa", sum := "40710e452744f84a1ecc140bf20233249e166fc25fb71a71b8dbd753253b7fab", func := "loop.example/g00678/laws.FnExactMeterSum", spec := "fnExactMeterSum", apart := false, narrowed := true }
def FnExactMeterSumUptoSaid : Prop := fnExactMeterSumUptoRow.holds Try.pinned (OpenSpec.upto fnExactMeterSumSpec)

/-- 'laws.FnExactQueryBoth', WHERE WHAT IT READS IS OF BULK AT MOST 1048576: true; the input reads as it did. -/
def fnExactQueryBothUptoRow : OpenClaim := { program := "ytglbjjpmokhaaaa", sum := "40710e452744f84a1ecc140bf20233249e166fc25fb71a71b8dbd753253b7fab", func := "loop.example/g00678/laws.FnExactQueryBoth", spec := "fnExactQueryBoth", apart := false, narrowed := true }
def FnExactQueryBothUptoSaid : Prop := fnExactQueryBothUptoRow.holds Try.pinned (OpenSpec.upto fnExactQueryBothSpec)

/-- 'laws.FnExactTimesRight', WHERE WHAT IT READS IS OF BULK AT MOST 1048576: true; the input reads as it did. -/
def fnExactTimesRightUptoRow : OpenClaim := { program := "ytglbjjpmokhaaaa", sum := "40710e452744f84a1ecc140bf20233249e166fc25fb71a71b8dbd753253b7fab", func := "loop.example/g00678/laws.FnExactTimesRight", spec := "fnExactTimesRight", apart := false, narrowed := true }
def FnExactTimesRightUptoSaid : Prop := fnExactTimesRightUptoRow.holds Try.pinned (OpenSpec.upto fnExactTimesRightSpec)

/-- 'laws.FnExactWithin', WHERE WHAT IT READS IS OF BULK AT MOST 1048576: true; the input reads as it did. -/
def fnExactWithinUptoRow : OpenClaim := { program := "ytglbjjpmokhaaaa", sum := "40710e452744f84a1ecc140bf20233249e166fc25fb71a71b8dbd753253b7fab", func := "loop.example/g00678/laws.FnExactWithin", spec := "fnExactWithin", apart := false, narrowed := true }
def FnExactWithinUptoSaid : Prop := fnExactWithinUptoRow.holds Try.pinned (OpenSpec.upto fnExactWithinSpec)

/-- 'laws.FnExactWhole', WHERE WHAT IT READS IS OF BULK AT MOST 1048576: true; the input reads as it did. -/
def fnExactWholeUptoRow : OpenClaim := { program := "ytglbjjpmokhaaaa", sum := "40710e452744f84a1ecc140bf20233249e166fc25fb71a71b8dbd753253b7fab", func := "loop.example/g00678/laws.FnExactWhole", spec := "fnExactWhole", apart := false, narrowed := true }
def FnExactWholeUptoSaid : Prop := fnExactWholeUptoRow.holds Try.pinned (OpenSpec.upto fnExactWholeSpec)

end Rows
end Go.Proofs.Ytglbjjpmokhaaaa
