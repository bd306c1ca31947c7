/- The plain statement that is left of the law FnExactClockRight, over numbers and lists. -/
import Derived.Test.YtglbjjpmokhaaaaPFnExactClockRightx1
namespace Go.Proofs.Ytglbjjpmokhaaaa.PFnExactClockRight
open Go.RowKit Go.Proofs.YtglbjjpmokhaaaaW.PrintWords Go.Proofs.YtglbjjpmokhaaaaW.PrintLast
def Pure_FnExactClockRight : Prop := ∀ (a0_0 : Int) (a0_1 : Int), ((Lit.int .i64 a0_0).wf = true ∧ (Lit.int .i64 a0_1).wf = true) → laws_FnExactClockRight.f a0_0 a0_1 = some true
end Go.Proofs.Ytglbjjpmokhaaaa.PFnExactClockRight
