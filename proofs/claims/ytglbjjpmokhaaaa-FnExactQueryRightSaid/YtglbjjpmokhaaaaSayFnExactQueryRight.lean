/- The plain statement that is left of the law FnExactQueryRight, over numbers and lists. -/
import Derived.Test.YtglbjjpmokhaaaaPFnExactQueryRightx1
namespace Go.Proofs.Ytglbjjpmokhaaaa.PFnExactQueryRight
open Go.RowKit Go.Proofs.YtglbjjpmokhaaaaW.PrintWords Go.Proofs.YtglbjjpmokhaaaaW.PrintLast
def Pure_FnExactQueryRight : Prop := ∀ (a0_0 : Int) (a0_1 : Int) (a0_2 : Int) (a0_3 : Int) (a0_4 : Int), ((Lit.int .i64 a0_0).wf = true ∧ ((Lit.int .i64 a0_1).wf = true ∧ ((Lit.int .i64 a0_2).wf = true ∧ ((Lit.int .i64 a0_3).wf = true ∧ (Lit.int .i64 a0_4).wf = true)))) → laws_FnExactQueryRight.f a0_0 a0_1 a0_2 a0_3 a0_4 = some true
end Go.Proofs.Ytglbjjpmokhaaaa.PFnExactQueryRight
