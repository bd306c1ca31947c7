/- The plain statement that is left of the law FnExactMeterSum, over numbers and lists. -/
import Derived.Test.YtglbjjpmokhaaaaPFnExactMeterSumx3
namespace Go.Proofs.Ytglbjjpmokhaaaa.PFnExactMeterSum
open Go.RowKit Go.Proofs.YtglbjjpmokhaaaaW.PrintWords Go.Proofs.YtglbjjpmokhaaaaW.PrintLast
def Pure_FnExactMeterSum : Prop := ∀ (l0 : List (S97)), (l0.length ≤ maxLen ∧ ∀ q3 ∈ l0, ((Lit.int .i64 q3.f0).wf = true ∧ ((Lit.int .i64 q3.f1).wf = true ∧ ((Lit.int .i64 q3.f2).wf = true ∧ ((Lit.int .i64 q3.f3).wf = true ∧ ((Lit.int .i64 q3.f4).wf = true ∧ (Lit.int .i64 q3.f5).wf = true)))))) → ∃ k, laws_FnExactMeterSum.f k l0 = some true
end Go.Proofs.Ytglbjjpmokhaaaa.PFnExactMeterSum
