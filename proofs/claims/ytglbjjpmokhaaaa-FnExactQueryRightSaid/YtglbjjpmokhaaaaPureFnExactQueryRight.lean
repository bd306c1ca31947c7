/- QueryRight of the program and of the reference are one test of bounds. -/
import Derived.Test.YtglbjjpmokhaaaaSayFnExactQueryRight
namespace Go.Proofs.Ytglbjjpmokhaaaa.PFnExactQueryRight
open Go.RowKit Go.Proofs.YtglbjjpmokhaaaaW.PrintWords Go.Proofs.YtglbjjpmokhaaaaW.PrintLast Go.Proofs.YtglbjjpmokhaaaaW.PrintMore
set_option linter.unusedVariables false
theorem iw (n lo hi : Int) : impl_within.f n lo hi = some (decide (lo ≤ n ∧ n ≤ hi)) := by
  unfold impl_within.f; by_cases h : lo ≤ n <;> simp [h]
theorem sw (n lo hi : Int) : spec_l02Is.f n lo hi = some (decide (lo ≤ n ∧ n ≤ hi)) := by
  unfold spec_l02Is.f; by_cases h : n ≥ lo
  · rw [if_pos h]; congr 1; simp; omega
  · rw [if_neg h]; congr 1; simp; omega
theorem it (a : Int) : impl_isTime.f a = some (decide (0 ≤ a ∧ a ≤ 1000000)) := by
  unfold impl_isTime.f; simp only [iw, Option.bind_some]
theorem st (a : Int) : spec_l03Time.f a = some (decide (0 ≤ a ∧ a ≤ 1000000)) := by
  unfold spec_l03Time.f; simp only [sw, Option.bind_some]
theorem sn (a : Int) : spec_l04Node.f a = some (decide (1 ≤ a ∧ a ≤ 6)) := by
  unfold spec_l04Node.f; simp only [sw, Option.bind_some]

def QOk (a b c d e : Int) : Prop := (0 ≤ a ∧ a ≤ 6) ∧ (0 ≤ b ∧ b ≤ 6) ∧ (0 ≤ c ∧ c ≤ 6) ∧ (0 ≤ d ∧ d ≤ 1000000) ∧ (0 ≤ e ∧ e ≤ 1000000) ∧ d ≤ e
instance (a b c d e : Int) : Decidable (QOk a b c d e) := by unfold QOk; infer_instance
theorem iq (a b c d e : Int) : impl_QueryRight.f a b c d e = some (decide (QOk a b c d e)) := by
  unfold impl_QueryRight.f QOk; simp only [iw, it, Option.bind_some]
  by_cases h1 : 0 ≤ a ∧ a ≤ 6 <;> by_cases h2 : 0 ≤ b ∧ b ≤ 6 <;> by_cases h3 : 0 ≤ c ∧ c ≤ 6 <;> by_cases h4 : 0 ≤ d ∧ d ≤ 1000000 <;> by_cases h5 : 0 ≤ e ∧ e ≤ 1000000 <;> simp [h1, h2, h3, h4, h5]
theorem node_or (a : Int) (h : ¬ a = 0) : decide (1 ≤ a ∧ a ≤ 6) = decide (0 ≤ a ∧ a ≤ 6) := by congr 1; apply propext; omega
theorem sq (a b c d e : Int) : spec_QueryRight.f a b c d e = some (decide (QOk a b c d e)) := by
  unfold spec_QueryRight.f QOk; simp only [sw, st, sn, Option.bind_some]
  by_cases ha : a = 0 <;> by_cases hc : c = 0
  · subst ha hc
    by_cases h2 : 0 ≤ b ∧ b ≤ 6 <;> by_cases h4 : 0 ≤ d ∧ d ≤ 1000000 <;> by_cases h5 : 0 ≤ e ∧ e ≤ 1000000 <;> simp [h2, h4, h5]
  · subst ha
    rw [node_or c hc]
    by_cases h2 : 0 ≤ b ∧ b ≤ 6 <;> by_cases h3 : 0 ≤ c ∧ c ≤ 6 <;> by_cases h4 : 0 ≤ d ∧ d ≤ 1000000 <;> by_cases h5 : 0 ≤ e ∧ e ≤ 1000000 <;> simp [hc, h2, h3, h4, h5]
  · subst hc
    rw [node_or a ha]
    by_cases h1 : 0 ≤ a ∧ a ≤ 6 <;> by_cases h2 : 0 ≤ b ∧ b ≤ 6 <;> by_cases h4 : 0 ≤ d ∧ d ≤ 1000000 <;> by_cases h5 : 0 ≤ e ∧ e ≤ 1000000 <;> simp [ha, h1, h2, h4, h5]
  · rw [node_or a ha, node_or c hc]
    by_cases h1 : 0 ≤ a ∧ a ≤ 6 <;> by_cases h2 : 0 ≤ b ∧ b ≤ 6 <;> by_cases h3 : 0 ≤ c ∧ c ≤ 6 <;> by_cases h4 : 0 ≤ d ∧ d ≤ 1000000 <;> by_cases h5 : 0 ≤ e ∧ e ≤ 1000000 <;> simp [ha, hc, h1, h2, h3, h4, h5]
theorem pure : Pure_FnExactQueryRight := by
  intro a b c d e h
  unfold laws_FnExactQueryRight.f laws_toQuery.f
  simp only [Option.bind_some, iq, sq]
  simp

end Go.Proofs.Ytglbjjpmokhaaaa.PFnExactQueryRight
namespace Go.Proofs.Ytglbjjpmokhaaaa.Pure
theorem FnExactQueryRight : PFnExactQueryRight.Pure_FnExactQueryRight := PFnExactQueryRight.pure
end Go.Proofs.Ytglbjjpmokhaaaa.Pure
