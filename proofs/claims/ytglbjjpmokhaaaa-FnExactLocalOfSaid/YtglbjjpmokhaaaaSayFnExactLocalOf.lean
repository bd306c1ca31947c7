/- The plain statement that is left of the law FnExactLocalOf, over numbers and lists. -/
import Derived.Test.YtglbjjpmokhaaaaPFnExactLocalOfx1
namespace Go.Proofs.Ytglbjjpmokhaaaa.PFnExactLocalOf
open Go.RowKit Go.Proofs.YtglbjjpmokhaaaaW.PrintWords Go.Proofs.YtglbjjpmokhaaaaW.PrintLast
def Pure_FnExactLocalOf : Prop := ∀ (a0_0 : Int) (a0_1 : Int) (a1 : Int), ((Lit.int .i64 a0_0).wf = true ∧ (Lit.int .i64 a0_1).wf = true) → (Lit.int .i64 a1).wf = true → laws_FnExactLocalOf.f a0_0 a0_1 a1 = some true
end Go.Proofs.Ytglbjjpmokhaaaa.PFnExactLocalOf
