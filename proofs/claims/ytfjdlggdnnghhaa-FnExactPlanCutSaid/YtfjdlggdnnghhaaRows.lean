/-
  No cell of these rows narrows 'for every input' (looked for: loops, veiled, ifaces, maps, wideKeys, modest, calm, conditions, laid).
  DERIVED. THE GIVEN ROWS OF THIS SEAT. 8 by the template 'for every input the law returns true; each argument reads behind the call as it read before'; 0 by the template 'total and deterministic' (their statements: YtfjdlggdnnghhaaTotals.lean).
  GIVEN WITH THE SEED: the statements are not yours to turn. If you find one false, say at which input.
  Laid BY PROGRAM, IN A SANDBOX (cutbox-rows.mjs): the forced cells as the released guide's own fill.sh prints them over the translation 6c8f30d1cbc9052f… (all of the seat's roots in one cut). By AI agents, Wed Nov 11 2026. No macro, syntax, notation, axiom, sorry.
-/
import Derived.Test.YtfjdlggdnnghhaaChecked
import GoSem.Claim
import GoSem.ClaimJoined
import GoSem.ClaimMapViews
import Derived.JoinedTies
import Derived.KernelRfl
namespace Go.Proofs.Ytfjdlggdnnghhaa
/- THE CELL 'sum', in the pinned program and in every row, IS THE sha256 OF THE DUMP (.gsa) THAT YtfjdlggdnnghhaaProg.lean LOADS. Nothing in Lean hashes anything: it is a label: what it is worth is what the hold of that sum in a sandbox is worth. -/
noncomputable def Try.pinned : Pinned := { name := "ytfjdlggdnnghhaa", sum := "6c8f30d1cbc9052f7eedccffd1f36b0104177e6da62a144f6378470906edec6d", checked := Try.checked }
namespace Rows
def none {H : Type} : Left H := { results := [], args := [] }

/-- 'laws.FnExactTimesJoin': WHATEVER THE INPUT: true; the input reads as it did. -/
def fnExactTimesJoinSpec : ChangeSpec := { name := "fnExactTimesJoin", fn := fun _ => fun
  | [d1, d2] => { results := [.lit (.bool true)], args := [d1, d2] }
  | _ => none }
def fnExactTimesJoinRow : OpenClaim := { program := "ytfjdlggdnnghhaa", sum := "6c8f30d1cbc9052f7eedccffd1f36b0104177e6da62a144f6378470906edec6d", func := "loop.example/g00678/laws.FnExactTimesJoin", spec := "fnExactTimesJoin", apart := false }
def FnExactTimesJoinSaid : Prop := fnExactTimesJoinRow.holds Try.pinned (OpenSpec.ofChange fnExactTimesJoinSpec)

/-- ITS FALSE NEIGHBOUR: 'it returns false'. Refute it at one input. -/
def fnExactTimesJoinWrong : ChangeSpec := { name := "fnExactTimesJoin", fn := fun _ => fun
  | [d1, d2] => { results := [.lit (.bool false)], args := [d1, d2] }
  | _ => none }
def FnExactTimesJoinWrongFalsely : Prop := fnExactTimesJoinRow.holds Try.pinned (OpenSpec.ofChange fnExactTimesJoinWrong)

/-- 'laws.FnExactShortBytes': WHATEVER THE INPUT: true; the input reads as it did. -/
def fnExactShortBytesSpec : ChangeSpec := { name := "fnExactShortBytes", fn := fun _ => fun
  | [d] => { results := [.lit (.bool true)], args := [d] }
  | _ => none }
def fnExactShortBytesRow : OpenClaim := { program := "ytfjdlggdnnghhaa", sum := "6c8f30d1cbc9052f7eedccffd1f36b0104177e6da62a144f6378470906edec6d", func := "loop.example/g00678/laws.FnExactShortBytes", spec := "fnExactShortBytes", unfollowed := true, recurses := true, apart := false }
def FnExactShortBytesSaid : Prop := fnExactShortBytesRow.holds Try.pinned (OpenSpec.ofChange fnExactShortBytesSpec)

/-- ITS FALSE NEIGHBOUR: 'it returns false'. Refute it at one input. -/
def fnExactShortBytesWrong : ChangeSpec := { name := "fnExactShortBytes", fn := fun _ => fun
  | [d] => { results := [.lit (.bool false)], args := [d] }
  | _ => none }
def FnExactShortBytesWrongFalsely : Prop := fnExactShortBytesRow.holds Try.pinned (OpenSpec.ofChange fnExactShortBytesWrong)

/-- 'laws.FnExactCutFits': WHATEVER THE INPUT: true; the input reads as it did. -/
def fnExactCutFitsSpec : ChangeSpec := { name := "fnExactCutFits", fn := fun _ => fun
  | [d1, d2] => { results := [.lit (.bool true)], args := [d1, d2] }
  | _ => none }
def fnExactCutFitsRow : OpenClaim := { program := "ytfjdlggdnnghhaa", sum := "6c8f30d1cbc9052f7eedccffd1f36b0104177e6da62a144f6378470906edec6d", func := "loop.example/g00678/laws.FnExactCutFits", spec := "fnExactCutFits", unfollowed := true, recurses := true, apart := false }
def FnExactCutFitsSaid : Prop := fnExactCutFitsRow.holds Try.pinned (OpenSpec.ofChange fnExactCutFitsSpec)

/-- ITS FALSE NEIGHBOUR: 'it returns false'. Refute it at one input. -/
def fnExactCutFitsWrong : ChangeSpec := { name := "fnExactCutFits", fn := fun _ => fun
  | [d1, d2] => { results := [.lit (.bool false)], args := [d1, d2] }
  | _ => none }
def FnExactCutFitsWrongFalsely : Prop := fnExactCutFitsRow.holds Try.pinned (OpenSpec.ofChange fnExactCutFitsWrong)

/-- 'laws.FnExactPlanCut': WHATEVER THE INPUT: true; the input reads as it did. -/
def fnExactPlanCutSpec : ChangeSpec := { name := "fnExactPlanCut", fn := fun _ => fun
  | [d1, d2] => { results := [.lit (.bool true)], args := [d1, d2] }
  | _ => none }
def fnExactPlanCutRow : OpenClaim := { program := "ytfjdlggdnnghhaa", sum := "6c8f30d1cbc9052f7eedccffd1f36b0104177e6da62a144f6378470906edec6d", func := "loop.example/g00678/laws.FnExactPlanCut", spec := "fnExactPlanCut", apart := false }
def FnExactPlanCutSaid : Prop := fnExactPlanCutRow.holds Try.pinned (OpenSpec.ofChange fnExactPlanCutSpec)

/-- ITS FALSE NEIGHBOUR: 'it returns false'. Refute it at one input. -/
def fnExactPlanCutWrong : ChangeSpec := { name := "fnExactPlanCut", fn := fun _ => fun
  | [d1, d2] => { results := [.lit (.bool false)], args := [d1, d2] }
  | _ => none }
def FnExactPlanCutWrongFalsely : Prop := fnExactPlanCutRow.holds Try.pinned (OpenSpec.ofChange fnExactPlanCutWrong)

/-- 'laws.FnExactStampsOf': WHATEVER THE INPUT: true; the input reads as it did. -/
def fnExactStampsOfSpec : ChangeSpec := { name := "fnExactStampsOf", fn := fun _ => fun
  | [d] => { results := [.lit (.bool true)], args := [d] }
  | _ => none }
def fnExactStampsOfRow : OpenClaim := { program := "ytfjdlggdnnghhaa", sum := "6c8f30d1cbc9052f7eedccffd1f36b0104177e6da62a144f6378470906edec6d", func := "loop.example/g00678/laws.FnExactStampsOf", spec := "fnExactStampsOf", unfollowed := true, recurses := true, apart := false }
def FnExactStampsOfSaid : Prop := fnExactStampsOfRow.holds Try.pinned (OpenSpec.ofChange fnExactStampsOfSpec)

/-- ITS FALSE NEIGHBOUR: 'it returns false'. Refute it at one input. -/
def fnExactStampsOfWrong : ChangeSpec := { name := "fnExactStampsOf", fn := fun _ => fun
  | [d] => { results := [.lit (.bool false)], args := [d] }
  | _ => none }
def FnExactStampsOfWrongFalsely : Prop := fnExactStampsOfRow.holds Try.pinned (OpenSpec.ofChange fnExactStampsOfWrong)

/-- 'laws.FnExactStampsTold': WHATEVER THE INPUT: true; the input reads as it did. -/
def fnExactStampsToldSpec : ChangeSpec := { name := "fnExactStampsTold", fn := fun _ => fun
  | [d1, d2] => { results := [.lit (.bool true)], args := [d1, d2] }
  | _ => none }
def fnExactStampsToldRow : OpenClaim := { program := "ytfjdlggdnnghhaa", sum := "6c8f30d1cbc9052f7eedccffd1f36b0104177e6da62a144f6378470906edec6d", func := "loop.example/g00678/laws.FnExactStampsTold", spec := "fnExactStampsTold", unfollowed := true, recurses := true, apart := false }
def FnExactStampsToldSaid : Prop := fnExactStampsToldRow.holds Try.pinned (OpenSpec.ofChange fnExactStampsToldSpec)

/-- ITS FALSE NEIGHBOUR: 'it returns false'. Refute it at one input. -/
def fnExactStampsToldWrong : ChangeSpec := { name := "fnExactStampsTold", fn := fun _ => fun
  | [d1, d2] => { results := [.lit (.bool false)], args := [d1, d2] }
  | _ => none }
def FnExactStampsToldWrongFalsely : Prop := fnExactStampsToldRow.holds Try.pinned (OpenSpec.ofChange fnExactStampsToldWrong)

/-- 'laws.FnExactRanked': WHATEVER THE INPUT: true; the input reads as it did. -/
def fnExactRankedSpec : ChangeSpec := { name := "fnExactRanked", fn := fun _ => fun
  | [d] => { results := [.lit (.bool true)], args := [d] }
  | _ => none }
def fnExactRankedRow : OpenClaim := { program := "ytfjdlggdnnghhaa", sum := "6c8f30d1cbc9052f7eedccffd1f36b0104177e6da62a144f6378470906edec6d", func := "loop.example/g00678/laws.FnExactRanked", spec := "fnExactRanked", unfollowed := true, recurses := true, apart := false }
def FnExactRankedSaid : Prop := fnExactRankedRow.holds Try.pinned (OpenSpec.ofChange fnExactRankedSpec)

/-- ITS FALSE NEIGHBOUR: 'it returns false'. Refute it at one input. -/
def fnExactRankedWrong : ChangeSpec := { name := "fnExactRanked", fn := fun _ => fun
  | [d] => { results := [.lit (.bool false)], args := [d] }
  | _ => none }
def FnExactRankedWrongFalsely : Prop := fnExactRankedRow.holds Try.pinned (OpenSpec.ofChange fnExactRankedWrong)

/-- 'laws.FnExactShortRead': WHATEVER THE INPUT: true; the input reads as it did. -/
def fnExactShortReadSpec : ChangeSpec := { name := "fnExactShortRead", fn := fun _ => fun
  | [d] => { results := [.lit (.bool true)], args := [d] }
  | _ => none }
def fnExactShortReadRow : OpenClaim := { program := "ytfjdlggdnnghhaa", sum := "6c8f30d1cbc9052f7eedccffd1f36b0104177e6da62a144f6378470906edec6d", func := "loop.example/g00678/laws.FnExactShortRead", spec := "fnExactShortRead", unfollowed := true, recurses := true, apart := false }
def FnExactShortReadSaid : Prop := fnExactShortReadRow.holds Try.pinned (OpenSpec.ofChange fnExactShortReadSpec)

/-- ITS FALSE NEIGHBOUR: 'it returns false'. Refute it at one input. -/
def fnExactShortReadWrong : ChangeSpec := { name := "fnExactShortRead", fn := fun _ => fun
  | [d] => { results := [.lit (.bool false)], args := [d] }
  | _ => none }
def FnExactShortReadWrongFalsely : Prop := fnExactShortReadRow.holds Try.pinned (OpenSpec.ofChange fnExactShortReadWrong)

/- THE SECOND FORM. 'bulk': how many values and letters a reading holds, each counted each time it is reached (what is shared counts as often as it is met; a slice's spare places count too). A statement '..UptoSaid' is the law's where the arguments, and the package variables that the reading takes, are together of bulk at most 1048576: NARROWER than '..Said'. Prove '..Said' where nothing that the law and all that it calls make is longer than what came in: it says more and counts as full. Else prove '..UptoSaid'. A law counts once. -/
mutual
def uptoBulk {H : Type} : DataW H → Nat
  | .lit (.string bytes) => bytes.length + 1
  | .lit _ => 1
  | .nil => 1
  | .ptr d => uptoBulk d + 1
  | .slice elems spare => uptoBulkAll elems + uptoBulkAll spare + 1
  | .agg parts => uptoBulkAll parts + 1
  | .iface _ d => uptoBulk d + 1
  | .map entries => uptoBulkEntries entries + 1
  | .held _ => 1
def uptoBulkAll {H : Type} : List (DataW H) → Nat
  | [] => 0
  | d :: r => uptoBulk d + uptoBulkAll r
def uptoBulkEntries {H : Type} : List (Lit × DataW H) → Nat
  | [] => 0
  | x :: r => uptoBulkEntry x + uptoBulkEntries r
def uptoBulkEntry {H : Type} : Lit × DataW H → Nat
  | (.string bytes, d) => bytes.length + uptoBulk d + 1
  | (_, d) => uptoBulk d + 1
 end
def uptoSmall : (H : Type) → List (DataW H) → Bool := fun _ ds => decide (uptoBulkAll ds ≤ 1048576)
def OpenSpec.upto (s : _root_.Go.ChangeSpec) : _root_.Go.OpenSpec := { _root_.Go.OpenSpec.ofChange s with cond := some uptoSmall }

/-- 'laws.FnExactTimesJoin', WHERE WHAT IT READS IS OF BULK AT MOST 1048576: true; the input reads as it did. -/
def fnExactTimesJoinUptoRow : OpenClaim := { program := "ytfjdlggdnnghhaa", sum := "6c8f30d1cbc9052f7eedccffd1f36b0104177e6da62a144f6378470906edec6d", func := "loop.example/g00678/laws.FnExactTimesJoin", spec := "fnExactTimesJoin", apart := false, narrowed := true }
def FnExactTimesJoinUptoSaid : Prop := fnExactTimesJoinUptoRow.holds Try.pinned (OpenSpec.upto fnExactTimesJoinSpec)

/-- 'laws.FnExactShortBytes', WHERE WHAT IT READS IS OF BULK AT MOST 1048576: true; the input reads as it did. -/
def fnExactShortBytesUptoRow : OpenClaim := { program := "ytfjdlggdnnghhaa", sum := "6c8f30d1cbc9052f7eedccffd1f36b0104177e6da62a144f6378470906edec6d", func := "loop.example/g00678/laws.FnExactShortBytes", spec := "fnExactShortBytes", unfollowed := true, recurses := true, apart := false, narrowed := true }
def FnExactShortBytesUptoSaid : Prop := fnExactShortBytesUptoRow.holds Try.pinned (OpenSpec.upto fnExactShortBytesSpec)

/-- 'laws.FnExactCutFits', WHERE WHAT IT READS IS OF BULK AT MOST 1048576: true; the input reads as it did. -/
def fnExactCutFitsUptoRow : OpenClaim := { program := "ytfjdlggdnnghhaa", sum := "6c8f30d1cbc9052f7eedccffd1f36b0104177e6da62a144f6378470906edec6d", func := "loop.example/g00678/laws.FnExactCutFits", spec := "fnExactCutFits", unfollowed := true, recurses := true, apart := false, narrowed := true }
def FnExactCutFitsUptoSaid : Prop := fnExactCutFitsUptoRow.holds Try.pinned (OpenSpec.upto fnExactCutFitsSpec)

/-- 'laws.FnExactPlanCut', WHERE WHAT IT READS IS OF BULK AT MOST 1048576: true; the input reads as it did. -/
def fnExactPlanCutUptoRow : OpenClaim := { program := "ytfjdlggdnnghhaa", sum := "6c8f30d1cbc9052f7eedccffd1f36b0104177e6da62a144f6378470906edec6d", func := "loop.example/g00678/laws.FnExactPlanCut", spec := "fnExactPlanCut", apart := false, narrowed := true }
def FnExactPlanCutUptoSaid : Prop := fnExactPlanCutUptoRow.holds Try.pinned (OpenSpec.upto fnExactPlanCutSpec)

/-- 'laws.FnExactStampsOf', WHERE WHAT IT READS IS OF BULK AT MOST 1048576: true; the input reads as it did. -/
def fnExactStampsOfUptoRow : OpenClaim := { program := "ytfjdlggdnnghhaa", sum := "6c8f30d1cbc9052f7eedccffd1f36b0104177e6da62a144f6378470906edec6d", func := "loop.example/g00678/laws.FnExactStampsOf", spec := "fnExactStampsOf", unfollowed := true, recurses := true, apart := false, narrowed := true }
def FnExactStampsOfUptoSaid : Prop := fnExactStampsOfUptoRow.holds Try.pinned (OpenSpec.upto fnExactStampsOfSpec)

/-- 'laws.FnExactStampsTold', WHERE WHAT IT READS IS OF BULK AT MOST 1048576: true; the input reads as it did. -/
def fnExactStampsToldUptoRow : OpenClaim := { program := "ytfjdlggdnnghhaa", sum := "6c8f30d1cbc9052f7eedccffd1f36b0104177e6da62a144f6378470906edec6d", func := "loop.example/g00678/laws.FnExactStampsTold", spec := "fnExactStampsTold", unfollowed := true, recurses := true, apart := false, narrowed := true }
def FnExactStampsToldUptoSaid : Prop := fnExactStampsToldUptoRow.holds Try.pinned (OpenSpec.upto fnExactStampsToldSpec)

/-- 'laws.FnExactRanked', WHERE WHAT IT READS IS OF BULK AT MOST 1048576: true; the input reads as it did. -/
def fnExactRankedUptoRow : OpenClaim := { program := "ytfjdlggdnnghhaa", sum := "6c8f30d1cbc9052f7eedccffd1f36b0104177e6da62a144f6378470906edec6d", func := "loop.example/g00678/laws.FnExactRanked", spec := "fnExactRanked", unfollowed := true, recurses := true, apart := false, narrowed := true }
def FnExactRankedUptoSaid : Prop := fnExactRankedUptoRow.holds Try.pinned (OpenSpec.upto fnExactRankedSpec)

/-- 'laws.FnExactShortRead', WHERE WHAT IT READS IS OF BULK AT MOST 1048576: true; the input reads as it did. -/
def fnExactShortReadUptoRow : OpenClaim := { program := "ytfjdlggdnnghhaa", sum := "6c8f30d1cbc9052f7eedccffd1f36b0104177e6da62a144f6378470906edec6d", func := "loop.example/g00678/laws.FnExactShortRead", spec := "fnExactShortRead", unfollowed := true, recurses := true, apart := false, narrowed := true }
def FnExactShortReadUptoSaid : Prop := fnExactShortReadUptoRow.holds Try.pinned (OpenSpec.upto fnExactShortReadSpec)

end Rows
end Go.Proofs.Ytfjdlggdnnghhaa
