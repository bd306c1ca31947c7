/- StampLess of the program and of the reference: three numbers, one behind the other. -/
import Derived.Test.YtglbjjpmokhaaaaSayFnExactStampLess
namespace Go.Proofs.Ytglbjjpmokhaaaa.PFnExactStampLess
open Go.RowKit Go.Proofs.YtglbjjpmokhaaaaW.PrintWords Go.Proofs.YtglbjjpmokhaaaaW.PrintLast Go.Proofs.YtglbjjpmokhaaaaW.PrintMore
set_option linter.unusedVariables false
theorem iw (n lo hi : Int) : impl_within.f n lo hi = some (decide (lo ≤ n ∧ n ≤ hi)) := by
  unfold impl_within.f; by_cases h : lo ≤ n <;> simp [h]
theorem sw (n lo hi : Int) : spec_l02Is.f n lo hi = some (decide (lo ≤ n ∧ n ≤ hi)) := by
  unfold spec_l02Is.f; by_cases h : n ≥ lo
  · rw [if_pos h]; congr 1; simp; omega
  · rw [if_neg h]; congr 1; simp; omega
theorem it (a : Int) : impl_isTime.f a = some (decide (0 ≤ a ∧ a ≤ 1000000)) := by
  unfold impl_isTime.f; simp only [iw, Option.bind_some]
theorem st (a : Int) : spec_l03Time.f a = some (decide (0 ≤ a ∧ a ≤ 1000000)) := by
  unfold spec_l03Time.f; simp only [sw, Option.bind_some]
theorem inn (a : Int) : impl_isNode.f a = some (decide (1 ≤ a ∧ a ≤ 6)) := by
  unfold impl_isNode.f; simp only [iw, Option.bind_some]
theorem sn (a : Int) : spec_l04Node.f a = some (decide (1 ≤ a ∧ a ≤ 6)) := by
  unfold spec_l04Node.f; simp only [sw, Option.bind_some]
def StOk (a b c : Int) : Prop := (0 ≤ a ∧ a ≤ 1000000) ∧ (0 ≤ b ∧ b ≤ 1000000) ∧ 1 ≤ c ∧ c ≤ 6
instance (a b c : Int) : Decidable (StOk a b c) := by unfold StOk; infer_instance
theorem ist (a b c : Int) : impl_isStamp.f a b c = some (decide (StOk a b c)) := by
  unfold impl_isStamp.f StOk; simp only [it, inn, Option.bind_some]
  by_cases h : 0 ≤ a ∧ a ≤ 1000000 <;> by_cases h2 : 0 ≤ b ∧ b ≤ 1000000 <;> simp [h, h2]
theorem sst (a b c : Int) : spec_l19Stamp.f a b c = some (decide (StOk a b c)) := by
  unfold spec_l19Stamp.f StOk; simp only [st, sn, Option.bind_some]
  by_cases h : 0 ≤ a ∧ a ≤ 1000000 <;> by_cases h2 : 0 ≤ b ∧ b ≤ 1000000 <;> simp [h, h2]

theorem both (a b c d e f : Int) : impl_StampLess.f 1 a b c d e f = spec_StampLess.f 1 a b c d e f := by
  unfold spec_StampLess.f impl_StampLess.f
  simp only [ist, sst, Option.bind_some, spec_StampLess.j0, impl_StampLess.j0]
theorem spec_some (a b c d e f : Int) : ∃ r, spec_StampLess.f 1 a b c d e f = some r := by
  unfold spec_StampLess.f
  simp only [sst, Option.bind_some, spec_StampLess.j0]
  repeat' (first | exact ⟨_, rfl⟩ | split)
theorem pure : Pure_FnExactStampLess := by
  intro a b c d e f _ _
  refine ⟨1, ?_⟩
  unfold laws_FnExactStampLess.f laws_toStamp2.f
  simp only [Option.bind_some, both]
  obtain ⟨r, hr⟩ := spec_some a b c d e f
  rw [hr]
  simp

end Go.Proofs.Ytglbjjpmokhaaaa.PFnExactStampLess
namespace Go.Proofs.Ytglbjjpmokhaaaa.Pure
theorem FnExactStampLess : PFnExactStampLess.Pure_FnExactStampLess := PFnExactStampLess.pure
end Go.Proofs.Ytglbjjpmokhaaaa.Pure
