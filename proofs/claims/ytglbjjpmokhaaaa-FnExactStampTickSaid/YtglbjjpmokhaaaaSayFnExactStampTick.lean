/- The plain statement that is left of the law FnExactStampTick, over numbers and lists. -/
import Derived.Test.YtglbjjpmokhaaaaPFnExactStampTickx2
namespace Go.Proofs.Ytglbjjpmokhaaaa.PFnExactStampTick
open Go.RowKit Go.Proofs.YtglbjjpmokhaaaaW.PrintWords Go.Proofs.YtglbjjpmokhaaaaW.PrintLast
def Pure_FnExactStampTick : Prop := ∀ (a0_0 : Int) (a0_1 : Int) (a0_2 : Int) (a1 : Int), ((Lit.int .i64 a0_0).wf = true ∧ ((Lit.int .i64 a0_1).wf = true ∧ (Lit.int .i64 a0_2).wf = true)) → (Lit.int .i64 a1).wf = true → ∃ k, laws_FnExactStampTick.f k a0_0 a0_1 a0_2 a1 = some true
end Go.Proofs.Ytglbjjpmokhaaaa.PFnExactStampTick
