/- The plain statement that is left of the law FnExactApart, over numbers and lists. -/
import Derived.Test.YtglbjjpmokhaaaaPFnExactApartx2
namespace Go.Proofs.Ytglbjjpmokhaaaa.PFnExactApart
open Go.RowKit Go.Proofs.YtglbjjpmokhaaaaW.PrintWords Go.Proofs.YtglbjjpmokhaaaaW.PrintLast
def Pure_FnExactApart : Prop := ∀ (a0_0 : Int) (a0_1 : Int) (a1_0 : Int) (a1_1 : Int) (a2 : Int), ((Lit.int .i64 a0_0).wf = true ∧ (Lit.int .i64 a0_1).wf = true) → ((Lit.int .i64 a1_0).wf = true ∧ (Lit.int .i64 a1_1).wf = true) → (Lit.int .i64 a2).wf = true → ∃ k, laws_FnExactApart.f k a0_0 a0_1 a1_0 a1_1 a2 = some true
end Go.Proofs.Ytglbjjpmokhaaaa.PFnExactApart
