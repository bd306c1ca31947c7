/-
  No cell of these rows narrows 'for every input' (looked for: loops, veiled, ifaces, maps, wideKeys, modest, calm, conditions, laid).
  DERIVED. THE GIVEN ROWS OF THIS SEAT. 12 by the template 'for every input the law returns true; each argument reads behind the call as it read before'; 0 by the template 'total and deterministic' (their statements: YtgcgdjldhjajaaaTotals.lean).
  GIVEN WITH THE SEED: the statements are not yours to turn. If you find one false, say at which input.
  Laid BY PROGRAM, IN A SANDBOX (cutbox-rows.mjs): the forced cells as the released guide's own fill.sh prints them over the translation e629f50e0cf106b6… (all of the seat's roots in one cut). By AI agents, Wed Nov 11 2026. No macro, syntax, notation, axiom, sorry.
-/
import Derived.Test.YtgcgdjldhjajaaaChecked
import GoSem.Claim
import GoSem.ClaimJoined
import GoSem.ClaimMapViews
import Derived.JoinedTies
import Derived.KernelRfl
namespace Go.Proofs.Ytgcgdjldhjajaaa
/- THE CELL 'sum', in the pinned program and in every row, IS THE sha256 OF THE DUMP (.gsa) THAT YtgcgdjldhjajaaaProg.lean LOADS. Nothing in Lean hashes anything: it is a label: what it is worth is what the hold of that sum in a sandbox is worth. -/
noncomputable def Try.pinned : Pinned := { name := "ytgcgdjldhjajaaa", sum := "e629f50e0cf106b6921b248c93ed23fa3caba07133c5c98d2339c3915255d6ed", checked := Try.checked }
namespace Rows
def none {H : Type} : Left H := { results := [], args := [] }

/-- 'laws.FnExactFirstOf': WHATEVER THE INPUT: true; the input reads as it did. -/
def fnExactFirstOfSpec : ChangeSpec := { name := "fnExactFirstOf", fn := fun _ => fun
  | [d1, d2] => { results := [.lit (.bool true)], args := [d1, d2] }
  | _ => none }
def fnExactFirstOfRow : OpenClaim := { program := "ytgcgdjldhjajaaa", sum := "e629f50e0cf106b6921b248c93ed23fa3caba07133c5c98d2339c3915255d6ed", func := "loop.example/g00678/laws.FnExactFirstOf", spec := "fnExactFirstOf", unfollowed := true, recurses := true, apart := false }
def FnExactFirstOfSaid : Prop := fnExactFirstOfRow.holds Try.pinned (OpenSpec.ofChange fnExactFirstOfSpec)

/-- ITS FALSE NEIGHBOUR: 'it returns false'. Refute it at one input. -/
def fnExactFirstOfWrong : ChangeSpec := { name := "fnExactFirstOf", fn := fun _ => fun
  | [d1, d2] => { results := [.lit (.bool false)], args := [d1, d2] }
  | _ => none }
def FnExactFirstOfWrongFalsely : Prop := fnExactFirstOfRow.holds Try.pinned (OpenSpec.ofChange fnExactFirstOfWrong)

/-- 'laws.FnExactDownOf': WHATEVER THE INPUT: true; the input reads as it did. -/
def fnExactDownOfSpec : ChangeSpec := { name := "fnExactDownOf", fn := fun _ => fun
  | [d1, d2] => { results := [.lit (.bool true)], args := [d1, d2] }
  | _ => none }
def fnExactDownOfRow : OpenClaim := { program := "ytgcgdjldhjajaaa", sum := "e629f50e0cf106b6921b248c93ed23fa3caba07133c5c98d2339c3915255d6ed", func := "loop.example/g00678/laws.FnExactDownOf", spec := "fnExactDownOf", unfollowed := true, recurses := true, apart := false }
def FnExactDownOfSaid : Prop := fnExactDownOfRow.holds Try.pinned (OpenSpec.ofChange fnExactDownOfSpec)

/-- ITS FALSE NEIGHBOUR: 'it returns false'. Refute it at one input. -/
def fnExactDownOfWrong : ChangeSpec := { name := "fnExactDownOf", fn := fun _ => fun
  | [d1, d2] => { results := [.lit (.bool false)], args := [d1, d2] }
  | _ => none }
def FnExactDownOfWrongFalsely : Prop := fnExactDownOfRow.holds Try.pinned (OpenSpec.ofChange fnExactDownOfWrong)

/-- 'laws.FnExactMeterOf': WHATEVER THE INPUT: true; the input reads as it did. -/
def fnExactMeterOfSpec : ChangeSpec := { name := "fnExactMeterOf", fn := fun _ => fun
  | [d1, d2] => { results := [.lit (.bool true)], args := [d1, d2] }
  | _ => none }
def fnExactMeterOfRow : OpenClaim := { program := "ytgcgdjldhjajaaa", sum := "e629f50e0cf106b6921b248c93ed23fa3caba07133c5c98d2339c3915255d6ed", func := "loop.example/g00678/laws.FnExactMeterOf", spec := "fnExactMeterOf", unfollowed := true, recurses := true, apart := false }
def FnExactMeterOfSaid : Prop := fnExactMeterOfRow.holds Try.pinned (OpenSpec.ofChange fnExactMeterOfSpec)

/-- ITS FALSE NEIGHBOUR: 'it returns false'. Refute it at one input. -/
def fnExactMeterOfWrong : ChangeSpec := { name := "fnExactMeterOf", fn := fun _ => fun
  | [d1, d2] => { results := [.lit (.bool false)], args := [d1, d2] }
  | _ => none }
def FnExactMeterOfWrongFalsely : Prop := fnExactMeterOfRow.holds Try.pinned (OpenSpec.ofChange fnExactMeterOfWrong)

/-- 'laws.FnExactSelect': WHATEVER THE INPUT: true; the input reads as it did. -/
def fnExactSelectSpec : ChangeSpec := { name := "fnExactSelect", fn := fun _ => fun
  | [d1, d2] => { results := [.lit (.bool true)], args := [d1, d2] }
  | _ => none }
def fnExactSelectRow : OpenClaim := { program := "ytgcgdjldhjajaaa", sum := "e629f50e0cf106b6921b248c93ed23fa3caba07133c5c98d2339c3915255d6ed", func := "loop.example/g00678/laws.FnExactSelect", spec := "fnExactSelect", unfollowed := true, recurses := true, apart := false }
def FnExactSelectSaid : Prop := fnExactSelectRow.holds Try.pinned (OpenSpec.ofChange fnExactSelectSpec)

/-- ITS FALSE NEIGHBOUR: 'it returns false'. Refute it at one input. -/
def fnExactSelectWrong : ChangeSpec := { name := "fnExactSelect", fn := fun _ => fun
  | [d1, d2] => { results := [.lit (.bool false)], args := [d1, d2] }
  | _ => none }
def FnExactSelectWrongFalsely : Prop := fnExactSelectRow.holds Try.pinned (OpenSpec.ofChange fnExactSelectWrong)

/-- 'laws.FnExactCountBy': WHATEVER THE INPUT: true; the input reads as it did. -/
def fnExactCountBySpec : ChangeSpec := { name := "fnExactCountBy", fn := fun _ => fun
  | [d1, d2] => { results := [.lit (.bool true)], args := [d1, d2] }
  | _ => none }
def fnExactCountByRow : OpenClaim := { program := "ytgcgdjldhjajaaa", sum := "e629f50e0cf106b6921b248c93ed23fa3caba07133c5c98d2339c3915255d6ed", func := "loop.example/g00678/laws.FnExactCountBy", spec := "fnExactCountBy", unfollowed := true, recurses := true, apart := false }
def FnExactCountBySaid : Prop := fnExactCountByRow.holds Try.pinned (OpenSpec.ofChange fnExactCountBySpec)

/-- ITS FALSE NEIGHBOUR: 'it returns false'. Refute it at one input. -/
def fnExactCountByWrong : ChangeSpec := { name := "fnExactCountBy", fn := fun _ => fun
  | [d1, d2] => { results := [.lit (.bool false)], args := [d1, d2] }
  | _ => none }
def FnExactCountByWrongFalsely : Prop := fnExactCountByRow.holds Try.pinned (OpenSpec.ofChange fnExactCountByWrong)

/-- 'laws.FnExactParts': WHATEVER THE INPUT: true; the input reads as it did. -/
def fnExactPartsSpec : ChangeSpec := { name := "fnExactParts", fn := fun _ => fun
  | [d1, d2] => { results := [.lit (.bool true)], args := [d1, d2] }
  | _ => none }
def fnExactPartsRow : OpenClaim := { program := "ytgcgdjldhjajaaa", sum := "e629f50e0cf106b6921b248c93ed23fa3caba07133c5c98d2339c3915255d6ed", func := "loop.example/g00678/laws.FnExactParts", spec := "fnExactParts", unfollowed := true, recurses := true, apart := false }
def FnExactPartsSaid : Prop := fnExactPartsRow.holds Try.pinned (OpenSpec.ofChange fnExactPartsSpec)

/-- ITS FALSE NEIGHBOUR: 'it returns false'. Refute it at one input. -/
def fnExactPartsWrong : ChangeSpec := { name := "fnExactParts", fn := fun _ => fun
  | [d1, d2] => { results := [.lit (.bool false)], args := [d1, d2] }
  | _ => none }
def FnExactPartsWrongFalsely : Prop := fnExactPartsRow.holds Try.pinned (OpenSpec.ofChange fnExactPartsWrong)

/-- 'laws.FnExactSourceOf': WHATEVER THE INPUT: true; the input reads as it did. -/
def fnExactSourceOfSpec : ChangeSpec := { name := "fnExactSourceOf", fn := fun _ => fun
  | [d1, d2] => { results := [.lit (.bool true)], args := [d1, d2] }
  | _ => none }
def fnExactSourceOfRow : OpenClaim := { program := "ytgcgdjldhjajaaa", sum := "e629f50e0cf106b6921b248c93ed23fa3caba07133c5c98d2339c3915255d6ed", func := "loop.example/g00678/laws.FnExactSourceOf", spec := "fnExactSourceOf", unfollowed := true, recurses := true, apart := false }
def FnExactSourceOfSaid : Prop := fnExactSourceOfRow.holds Try.pinned (OpenSpec.ofChange fnExactSourceOfSpec)

/-- ITS FALSE NEIGHBOUR: 'it returns false'. Refute it at one input. -/
def fnExactSourceOfWrong : ChangeSpec := { name := "fnExactSourceOf", fn := fun _ => fun
  | [d1, d2] => { results := [.lit (.bool false)], args := [d1, d2] }
  | _ => none }
def FnExactSourceOfWrongFalsely : Prop := fnExactSourceOfRow.holds Try.pinned (OpenSpec.ofChange fnExactSourceOfWrong)

/-- 'laws.FnExactTimesOf': WHATEVER THE INPUT: true; the input reads as it did. -/
def fnExactTimesOfSpec : ChangeSpec := { name := "fnExactTimesOf", fn := fun _ => fun
  | [d] => { results := [.lit (.bool true)], args := [d] }
  | _ => none }
def fnExactTimesOfRow : OpenClaim := { program := "ytgcgdjldhjajaaa", sum := "e629f50e0cf106b6921b248c93ed23fa3caba07133c5c98d2339c3915255d6ed", func := "loop.example/g00678/laws.FnExactTimesOf", spec := "fnExactTimesOf", unfollowed := true, recurses := true, apart := false }
def FnExactTimesOfSaid : Prop := fnExactTimesOfRow.holds Try.pinned (OpenSpec.ofChange fnExactTimesOfSpec)

/-- ITS FALSE NEIGHBOUR: 'it returns false'. Refute it at one input. -/
def fnExactTimesOfWrong : ChangeSpec := { name := "fnExactTimesOf", fn := fun _ => fun
  | [d] => { results := [.lit (.bool false)], args := [d] }
  | _ => none }
def FnExactTimesOfWrongFalsely : Prop := fnExactTimesOfRow.holds Try.pinned (OpenSpec.ofChange fnExactTimesOfWrong)

/-- 'laws.FnExactTraceBack': WHATEVER THE INPUT: true; the input reads as it did. -/
def fnExactTraceBackSpec : ChangeSpec := { name := "fnExactTraceBack", fn := fun _ => fun
  | [d1, d2] => { results := [.lit (.bool true)], args := [d1, d2] }
  | _ => none }
def fnExactTraceBackRow : OpenClaim := { program := "ytgcgdjldhjajaaa", sum := "e629f50e0cf106b6921b248c93ed23fa3caba07133c5c98d2339c3915255d6ed", func := "loop.example/g00678/laws.FnExactTraceBack", spec := "fnExactTraceBack", unfollowed := true, recurses := true, apart := false }
def FnExactTraceBackSaid : Prop := fnExactTraceBackRow.holds Try.pinned (OpenSpec.ofChange fnExactTraceBackSpec)

/-- ITS FALSE NEIGHBOUR: 'it returns false'. Refute it at one input. -/
def fnExactTraceBackWrong : ChangeSpec := { name := "fnExactTraceBack", fn := fun _ => fun
  | [d1, d2] => { results := [.lit (.bool false)], args := [d1, d2] }
  | _ => none }
def FnExactTraceBackWrongFalsely : Prop := fnExactTraceBackRow.holds Try.pinned (OpenSpec.ofChange fnExactTraceBackWrong)

/-- 'laws.FnExactSeenGone': WHATEVER THE INPUT: true; the input reads as it did. -/
def fnExactSeenGoneSpec : ChangeSpec := { name := "fnExactSeenGone", fn := fun _ => fun
  | [d1, d2, d3] => { results := [.lit (.bool true)], args := [d1, d2, d3] }
  | _ => none }
def fnExactSeenGoneRow : OpenClaim := { program := "ytgcgdjldhjajaaa", sum := "e629f50e0cf106b6921b248c93ed23fa3caba07133c5c98d2339c3915255d6ed", func := "loop.example/g00678/laws.FnExactSeenGone", spec := "fnExactSeenGone", inPlace := ["slices.overlaps[int64]"], unfollowed := true, recurses := true, apart := false }
def FnExactSeenGoneSaid : Prop := fnExactSeenGoneRow.holds Try.pinned (OpenSpec.ofChange fnExactSeenGoneSpec)

/-- ITS FALSE NEIGHBOUR: 'it returns false'. Refute it at one input. -/
def fnExactSeenGoneWrong : ChangeSpec := { name := "fnExactSeenGone", fn := fun _ => fun
  | [d1, d2, d3] => { results := [.lit (.bool false)], args := [d1, d2, d3] }
  | _ => none }
def FnExactSeenGoneWrongFalsely : Prop := fnExactSeenGoneRow.holds Try.pinned (OpenSpec.ofChange fnExactSeenGoneWrong)

/-- 'laws.FnExactReached': WHATEVER THE INPUT: true; the input reads as it did. -/
def fnExactReachedSpec : ChangeSpec := { name := "fnExactReached", fn := fun _ => fun
  | [d1, d2] => { results := [.lit (.bool true)], args := [d1, d2] }
  | _ => none }
def fnExactReachedRow : OpenClaim := { program := "ytgcgdjldhjajaaa", sum := "e629f50e0cf106b6921b248c93ed23fa3caba07133c5c98d2339c3915255d6ed", func := "loop.example/g00678/laws.FnExactReached", spec := "fnExactReached", inPlace := ["slices.overlaps[int64]"], unfollowed := true, recurses := true, apart := false }
def FnExactReachedSaid : Prop := fnExactReachedRow.holds Try.pinned (OpenSpec.ofChange fnExactReachedSpec)

/-- ITS FALSE NEIGHBOUR: 'it returns false'. Refute it at one input. -/
def fnExactReachedWrong : ChangeSpec := { name := "fnExactReached", fn := fun _ => fun
  | [d1, d2] => { results := [.lit (.bool false)], args := [d1, d2] }
  | _ => none }
def FnExactReachedWrongFalsely : Prop := fnExactReachedRow.holds Try.pinned (OpenSpec.ofChange fnExactReachedWrong)

/-- 'laws.FnExactMetersOf': WHATEVER THE INPUT: true; the input reads as it did. -/
def fnExactMetersOfSpec : ChangeSpec := { name := "fnExactMetersOf", fn := fun _ => fun
  | [d] => { results := [.lit (.bool true)], args := [d] }
  | _ => none }
def fnExactMetersOfRow : OpenClaim := { program := "ytgcgdjldhjajaaa", sum := "e629f50e0cf106b6921b248c93ed23fa3caba07133c5c98d2339c3915255d6ed", func := "loop.example/g00678/laws.FnExactMetersOf", spec := "fnExactMetersOf", inPlace := ["slices.overlaps[int64]"], unfollowed := true, recurses := true, apart := false }
def FnExactMetersOfSaid : Prop := fnExactMetersOfRow.holds Try.pinned (OpenSpec.ofChange fnExactMetersOfSpec)

/-- ITS FALSE NEIGHBOUR: 'it returns false'. Refute it at one input. -/
def fnExactMetersOfWrong : ChangeSpec := { name := "fnExactMetersOf", fn := fun _ => fun
  | [d] => { results := [.lit (.bool false)], args := [d] }
  | _ => none }
def FnExactMetersOfWrongFalsely : Prop := fnExactMetersOfRow.holds Try.pinned (OpenSpec.ofChange fnExactMetersOfWrong)

/- THE SECOND FORM. 'bulk': how many values and letters a reading holds, each counted each time it is reached (what is shared counts as often as it is met; a slice's spare places count too). A statement '..UptoSaid' is the law's where the arguments, and the package variables that the reading takes, are together of bulk at most 1048576: NARROWER than '..Said'. Prove '..Said' where nothing that the law and all that it calls make is longer than what came in: it says more and counts as full. Else prove '..UptoSaid'. A law counts once. -/
mutual
def uptoBulk {H : Type} : DataW H → Nat
  | .lit (.string bytes) => bytes.length + 1
  | .lit _ => 1
  | .nil => 1
  | .ptr d => uptoBulk d + 1
  | .slice elems spare => uptoBulkAll elems + uptoBulkAll spare + 1
  | .agg parts => uptoBulkAll parts + 1
  | .iface _ d => uptoBulk d + 1
  | .map entries => uptoBulkEntries entries + 1
  | .held _ => 1
def uptoBulkAll {H : Type} : List (DataW H) → Nat
  | [] => 0
  | d :: r => uptoBulk d + uptoBulkAll r
def uptoBulkEntries {H : Type} : List (Lit × DataW H) → Nat
  | [] => 0
  | x :: r => uptoBulkEntry x + uptoBulkEntries r
def uptoBulkEntry {H : Type} : Lit × DataW H → Nat
  | (.string bytes, d) => bytes.length + uptoBulk d + 1
  | (_, d) => uptoBulk d + 1
 end
def uptoSmall : (H : Type) → List (DataW H) → Bool := fun _ ds => decide (uptoBulkAll ds ≤ 1048576)
def OpenSpec.upto (s : _root_.Go.ChangeSpec) : _root_.Go.OpenSpec := { _root_.Go.OpenSpec.ofChange s with cond := some uptoSmall }

/-- 'laws.FnExactFirstOf', WHERE WHAT IT READS IS OF BULK AT MOST 1048576: true; the input reads as it did. -/
def fnExactFirstOfUptoRow : OpenClaim := { program := "ytgcgdjldhjajaaa", sum := "e629f50e0cf106b6921b248c93ed23fa3caba07133c5c98d2339c3915255d6ed", func := "loop.example/g00678/laws.FnExactFirstOf", spec := "fnExactFirstOf", unfollowed := true, recurses := true, apart := false, narrowed := true }
def FnExactFirstOfUptoSaid : Prop := fnExactFirstOfUptoRow.holds Try.pinned (OpenSpec.upto fnExactFirstOfSpec)

/-- 'laws.FnExactDownOf', WHERE WHAT IT READS IS OF BULK AT MOST 1048576: true; the input reads as it did. -/
def fnExactDownOfUptoRow : OpenClaim := { program := "ytgcgdjldhjajaaa", sum := "e629f50e0cf106b6921b248c93ed23fa3caba07133c5c98d2339c3915255d6ed", func := "loop.example/g00678/laws.FnExactDownOf", spec := "fnExactDownOf", unfollowed := true, recurses := true, apart := false, narrowed := true }
def FnExactDownOfUptoSaid : Prop := fnExactDownOfUptoRow.holds Try.pinned (OpenSpec.upto fnExactDownOfSpec)

/-- 'laws.FnExactMeterOf', WHERE WHAT IT READS IS OF BULK AT MOST 1048576: true; the input reads as it did. -/
def fnExactMeterOfUptoRow : OpenClaim := { program := "ytgcgdjldhjajaaa", sum := "e629f50e0cf106b6921b248c93ed23fa3caba07133c5c98d2339c3915255d6ed", func := "loop.example/g00678/laws.FnExactMeterOf", spec := "fnExactMeterOf", unfollowed := true, recurses := true, apart := false, narrowed := true }
def FnExactMeterOfUptoSaid : Prop := fnExactMeterOfUptoRow.holds Try.pinned (OpenSpec.upto fnExactMeterOfSpec)

/-- 'laws.FnExactSelect', WHERE WHAT IT READS IS OF BULK AT MOST 1048576: true; the input reads as it did. -/
def fnExactSelectUptoRow : OpenClaim := { program := "ytgcgdjldhjajaaa", sum := "e629f50e0cf106b6921b248c93ed23fa3caba07133c5c98d2339c3915255d6ed", func := "loop.example/g00678/laws.FnExactSelect", spec := "fnExactSelect", unfollowed := true, recurses := true, apart := false, narrowed := true }
def FnExactSelectUptoSaid : Prop := fnExactSelectUptoRow.holds Try.pinned (OpenSpec.upto fnExactSelectSpec)

/-- 'laws.FnExactCountBy', WHERE WHAT IT READS IS OF BULK AT MOST 1048576: true; the input reads as it did. -/
def fnExactCountByUptoRow : OpenClaim := { program := "ytgcgdjldhjajaaa", sum := "e629f50e0cf106b6921b248c93ed23fa3caba07133c5c98d2339c3915255d6ed", func := "loop.example/g00678/laws.FnExactCountBy", spec := "fnExactCountBy", unfollowed := true, recurses := true, apart := false, narrowed := true }
def FnExactCountByUptoSaid : Prop := fnExactCountByUptoRow.holds Try.pinned (OpenSpec.upto fnExactCountBySpec)

/-- 'laws.FnExactParts', WHERE WHAT IT READS IS OF BULK AT MOST 1048576: true; the input reads as it did. -/
def fnExactPartsUptoRow : OpenClaim := { program := "ytgcgdjldhjajaaa", sum := "e629f50e0cf106b6921b248c93ed23fa3caba07133c5c98d2339c3915255d6ed", func := "loop.example/g00678/laws.FnExactParts", spec := "fnExactParts", unfollowed := true, recurses := true, apart := false, narrowed := true }
def FnExactPartsUptoSaid : Prop := fnExactPartsUptoRow.holds Try.pinned (OpenSpec.upto fnExactPartsSpec)

/-- 'laws.FnExactSourceOf', WHERE WHAT IT READS IS OF BULK AT MOST 1048576: true; the input reads as it did. -/
def fnExactSourceOfUptoRow : OpenClaim := { program := "ytgcgdjldhjajaaa", sum := "e629f50e0cf106b6921b248c93ed23fa3caba07133c5c98d2339c3915255d6ed", func := "loop.example/g00678/laws.FnExactSourceOf", spec := "fnExactSourceOf", unfollowed := true, recurses := true, apart := false, narrowed := true }
def FnExactSourceOfUptoSaid : Prop := fnExactSourceOfUptoRow.holds Try.pinned (OpenSpec.upto fnExactSourceOfSpec)

/-- 'laws.FnExactTimesOf', WHERE WHAT IT READS IS OF BULK AT MOST 1048576: true; the input reads as it did. -/
def fnExactTimesOfUptoRow : OpenClaim := { program := "ytgcgdjldhjajaaa", sum := "e629f50e0cf106b6921b248c93ed23fa3caba07133c5c98d2339c3915255d6ed", func := "loop.example/g00678/laws.FnExactTimesOf", spec := "fnExactTimesOf", unfollowed := true, recurses := true, apart := false, narrowed := true }
def FnExactTimesOfUptoSaid : Prop := fnExactTimesOfUptoRow.holds Try.pinned (OpenSpec.upto fnExactTimesOfSpec)

/-- 'laws.FnExactTraceBack', WHERE WHAT IT READS IS OF BULK AT MOST 1048576: true; the input reads as it did. -/
def fnExactTraceBackUptoRow : OpenClaim := { program := "ytgcgdjldhjajaaa", sum := "e629f50e0cf106b6921b248c93ed23fa3caba07133c5c98d2339c3915255d6ed", func := "loop.example/g00678/laws.FnExactTraceBack", spec := "fnExactTraceBack", unfollowed := true, recurses := true, apart := false, narrowed := true }
def FnExactTraceBackUptoSaid : Prop := fnExactTraceBackUptoRow.holds Try.pinned (OpenSpec.upto fnExactTraceBackSpec)

/-- 'laws.FnExactSeenGone', WHERE WHAT IT READS IS OF BULK AT MOST 1048576: true; the input reads as it did. -/
def fnExactSeenGoneUptoRow : OpenClaim := { program := "ytgcgdjldhjajaaa", sum := "e629f50e0cf106b6921b248c93ed23fa3caba07133c5c98d2339c3915255d6ed", func := "loop.example/g00678/laws.FnExactSeenGone", spec := "fnExactSeenGone", inPlace := ["slices.overlaps[int64]"], unfollowed := true, recurses := true, apart := false, narrowed := true }
def FnExactSeenGoneUptoSaid : Prop := fnExactSeenGoneUptoRow.holds Try.pinned (OpenSpec.upto fnExactSeenGoneSpec)

/-- 'laws.FnExactReached', WHERE WHAT IT READS IS OF BULK AT MOST 1048576: true; the input reads as it did. -/
def fnExactReachedUptoRow : OpenClaim := { program := "ytgcgdjldhjajaaa", sum := "e629f50e0cf106b6921b248c93ed23fa3caba07133c5c98d2339c3915255d6ed", func := "loop.example/g00678/laws.FnExactReached", spec := "fnExactReached", inPlace := ["slices.overlaps[int64]"], unfollowed := true, recurses := true, apart := false, narrowed := true }
def FnExactReachedUptoSaid : Prop := fnExactReachedUptoRow.holds Try.pinned (OpenSpec.upto fnExactReachedSpec)

/-- 'laws.FnExactMetersOf', WHERE WHAT IT READS IS OF BULK AT MOST 1048576: true; the input reads as it did. -/
def fnExactMetersOfUptoRow : OpenClaim := { program := "ytgcgdjldhjajaaa", sum := "e629f50e0cf106b6921b248c93ed23fa3caba07133c5c98d2339c3915255d6ed", func := "loop.example/g00678/laws.FnExactMetersOf", spec := "fnExactMetersOf", inPlace := ["slices.overlaps[int64]"], unfollowed := true, recurses := true, apart := false, narrowed := true }
def FnExactMetersOfUptoSaid : Prop := fnExactMetersOfUptoRow.holds Try.pinned (OpenSpec.upto fnExactMetersOfSpec)

end Rows
end Go.Proofs.Ytgcgdjldhjajaaa
