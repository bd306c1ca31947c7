/- ClockRight of the program and of the reference are one test of two bounds. -/
import Derived.Test.YtglbjjpmokhaaaaSayFnExactClockRight
namespace Go.Proofs.Ytglbjjpmokhaaaa.PFnExactClockRight
open Go.RowKit Go.Proofs.YtglbjjpmokhaaaaW.PrintWords Go.Proofs.YtglbjjpmokhaaaaW.PrintLast Go.Proofs.YtglbjjpmokhaaaaW.PrintMore
set_option linter.unusedVariables false
theorem iw (n lo hi : Int) : impl_within.f n lo hi = some (decide (lo ≤ n ∧ n ≤ hi)) := by
  unfold impl_within.f; by_cases h : lo ≤ n <;> simp [h]
theorem sw (n lo hi : Int) : spec_l02Is.f n lo hi = some (decide (lo ≤ n ∧ n ≤ hi)) := by
  unfold spec_l02Is.f; by_cases h : n ≥ lo
  · rw [if_pos h]; congr 1; simp; omega
  · rw [if_neg h]; congr 1; simp; omega
theorem ic (a b : Int) : impl_ClockRight.f a b = some (decide ((-50 ≤ a ∧ a ≤ 50) ∧ -50 ≤ b ∧ b ≤ 50)) := by
  unfold impl_ClockRight.f; simp only [iw, Option.bind_some]; by_cases h : -50 ≤ a ∧ a ≤ 50 <;> simp [h]
theorem sc (a b : Int) : spec_ClockRight.f a b = some (decide ((-50 ≤ a ∧ a ≤ 50) ∧ -50 ≤ b ∧ b ≤ 50)) := by
  unfold spec_ClockRight.f; simp only [sw, Option.bind_some]; by_cases h : -50 ≤ a ∧ a ≤ 50 <;> simp [h]

theorem pure : Pure_FnExactClockRight := by
  intro a b h
  unfold laws_FnExactClockRight.f laws_toClock.f
  simp only [Option.bind_some, ic, sc]
  simp

end Go.Proofs.Ytglbjjpmokhaaaa.PFnExactClockRight
namespace Go.Proofs.Ytglbjjpmokhaaaa.Pure
theorem FnExactClockRight : PFnExactClockRight.Pure_FnExactClockRight := PFnExactClockRight.pure
end Go.Proofs.Ytglbjjpmokhaaaa.Pure
