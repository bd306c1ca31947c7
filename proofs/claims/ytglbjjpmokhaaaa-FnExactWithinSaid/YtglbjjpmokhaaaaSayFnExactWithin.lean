/- The plain statement that is left of the law FnExactWithin, over numbers and lists. -/
import Derived.Test.YtglbjjpmokhaaaaPFnExactWithinx5
namespace Go.Proofs.Ytglbjjpmokhaaaa.PFnExactWithin
open Go.RowKit Go.Proofs.YtglbjjpmokhaaaaW.PrintWords Go.Proofs.YtglbjjpmokhaaaaW.PrintLast
def Pure_FnExactWithin : Prop := ∀ (a0_0 : Int) (a0_1 : Int) (a0_2 : Int) (a0_3 : Int) (a0_4 : Int) (l0_5 : List (Int)) (a1 : Int), ((Lit.int .i64 a0_0).wf = true ∧ ((Lit.int .i64 a0_1).wf = true ∧ ((Lit.int .i64 a0_2).wf = true ∧ ((Lit.int .i64 a0_3).wf = true ∧ ((Lit.int .i64 a0_4).wf = true ∧ (l0_5.length ≤ maxLen ∧ ∀ q5 ∈ l0_5, (Lit.int .i64 q5).wf = true)))))) → (Lit.int .i64 a1).wf = true → ∃ k, laws_FnExactWithin.f k a0_0 a0_1 a0_2 a0_3 a0_4 l0_5 a1 = some true
end Go.Proofs.Ytglbjjpmokhaaaa.PFnExactWithin
