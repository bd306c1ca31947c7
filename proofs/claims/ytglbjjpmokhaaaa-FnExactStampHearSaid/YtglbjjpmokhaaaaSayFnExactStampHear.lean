/- The plain statement that is left of the law FnExactStampHear, over numbers and lists. -/
import Derived.Test.YtglbjjpmokhaaaaPFnExactStampHearx3
namespace Go.Proofs.Ytglbjjpmokhaaaa.PFnExactStampHear
open Go.RowKit Go.Proofs.YtglbjjpmokhaaaaW.PrintWords Go.Proofs.YtglbjjpmokhaaaaW.PrintLast
def Pure_FnExactStampHear : Prop := ∀ (a0_0 : Int) (a0_1 : Int) (a0_2 : Int) (a1_0 : Int) (a1_1 : Int) (a1_2 : Int) (a2 : Int), ((Lit.int .i64 a0_0).wf = true ∧ ((Lit.int .i64 a0_1).wf = true ∧ (Lit.int .i64 a0_2).wf = true)) → ((Lit.int .i64 a1_0).wf = true ∧ ((Lit.int .i64 a1_1).wf = true ∧ (Lit.int .i64 a1_2).wf = true)) → (Lit.int .i64 a2).wf = true → ∃ k, laws_FnExactStampHear.f k a0_0 a0_1 a0_2 a1_0 a1_1 a1_2 a2 = some true
end Go.Proofs.Ytglbjjpmokhaaaa.PFnExactStampHear
