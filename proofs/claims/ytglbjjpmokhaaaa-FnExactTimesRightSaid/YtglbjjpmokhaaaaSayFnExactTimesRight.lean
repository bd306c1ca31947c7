/- The plain statement that is left of the law FnExactTimesRight, over numbers and lists. -/
import Derived.Test.YtglbjjpmokhaaaaPFnExactTimesRightx4
namespace Go.Proofs.Ytglbjjpmokhaaaa.PFnExactTimesRight
open Go.RowKit Go.Proofs.YtglbjjpmokhaaaaW.PrintWords Go.Proofs.YtglbjjpmokhaaaaW.PrintLast
def Pure_FnExactTimesRight : Prop := ∀ (a0_0 : Int) (a0_1 : Int) (a0_2 : Int) (a0_3 : Int) (a0_4 : Int) (l0_5 : List (Int)), ((Lit.int .i64 a0_0).wf = true ∧ ((Lit.int .i64 a0_1).wf = true ∧ ((Lit.int .i64 a0_2).wf = true ∧ ((Lit.int .i64 a0_3).wf = true ∧ ((Lit.int .i64 a0_4).wf = true ∧ (l0_5.length ≤ maxLen ∧ ∀ q1 ∈ l0_5, (Lit.int .i64 q1).wf = true)))))) → ∃ k, laws_FnExactTimesRight.f k a0_0 a0_1 a0_2 a0_3 a0_4 l0_5 = some true
end Go.Proofs.Ytglbjjpmokhaaaa.PFnExactTimesRight
