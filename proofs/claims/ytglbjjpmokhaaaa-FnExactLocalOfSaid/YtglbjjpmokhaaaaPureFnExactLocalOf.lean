/- LocalOf of the program and of the reference: the quotient rounded down, told in two ways. -/
import Derived.Test.YtglbjjpmokhaaaaSayFnExactLocalOf
namespace Go.Proofs.Ytglbjjpmokhaaaa.PFnExactLocalOf
open Go.RowKit Go.Proofs.YtglbjjpmokhaaaaW.PrintWords Go.Proofs.YtglbjjpmokhaaaaW.PrintLast Go.Proofs.YtglbjjpmokhaaaaW.PrintMore
set_option linter.unusedVariables false
theorem iw (n lo hi : Int) : impl_within.f n lo hi = some (decide (lo ≤ n ∧ n ≤ hi)) := by
  unfold impl_within.f; by_cases h : lo ≤ n <;> simp [h]
theorem sw (n lo hi : Int) : spec_l02Is.f n lo hi = some (decide (lo ≤ n ∧ n ≤ hi)) := by
  unfold spec_l02Is.f; by_cases h : n ≥ lo
  · rw [if_pos h]; congr 1; simp; omega
  · rw [if_neg h]; congr 1; simp; omega
theorem ic (a b : Int) : impl_ClockRight.f a b = some (decide ((-50 ≤ a ∧ a ≤ 50) ∧ -50 ≤ b ∧ b ≤ 50)) := by
  unfold impl_ClockRight.f; simp only [iw, Option.bind_some]; by_cases h : -50 ≤ a ∧ a ≤ 50 <;> simp [h]
theorem sc (a b : Int) : spec_ClockRight.f a b = some (decide ((-50 ≤ a ∧ a ≤ 50) ∧ -50 ≤ b ∧ b ≤ 50)) := by
  unfold spec_ClockRight.f; simp only [sw, Option.bind_some]; by_cases h : -50 ≤ a ∧ a ≤ 50 <;> simp [h]
theorem it (a : Int) : impl_isTime.f a = some (decide (0 ≤ a ∧ a ≤ 1000000)) := by
  unfold impl_isTime.f; simp only [iw, Option.bind_some]
theorem st (a : Int) : spec_l03Time.f a = some (decide (0 ≤ a ∧ a ≤ 1000000)) := by
  unfold spec_l03Time.f; simp only [sw, Option.bind_some]
def loc (o f t : Int) : Int := if 0 < t + o + (t * f) / 100 then t + o + (t * f) / 100 else 0
theorem mul_bd (t f : Int) (h0 : 0 ≤ t) (h1 : t ≤ 1000000) (h2 : -50 ≤ f) (h3 : f ≤ 50) : -50000000 ≤ t * f ∧ t * f ≤ 50000000 := by
  constructor
  · have h := Int.mul_le_mul_of_nonneg_left h2 h0
    have h' : t * -50 ≥ 1000000 * -50 := by omega
    omega
  · have h := Int.mul_le_mul_of_nonneg_left h3 h0
    omega
theorem sl (o f t : Int) (h0 : 0 ≤ t) (h1 : t ≤ 1000000) (h2 : -50 ≤ f) (h3 : f ≤ 50) (h4 : -50 ≤ o) (h5 : o ≤ 50) : spec_l19Local.f o f t = some (loc o f t) := by
  have hb := mul_bd t f h0 h1 h2 h3
  unfold spec_l19Local.f loc
  generalize t * f = m at hb ⊢
  have e1 : wrap64 m = m := by unfold wrap64; omega
  have e2 : wrap64 (m + 100000000) = m + 100000000 := by unfold wrap64; omega
  have e3 : (m + 100000000).tdiv 100 = m / 100 + 1000000 := by rw [Int.tdiv_eq_ediv_of_nonneg (by omega)]; omega
  have e4 : wrap64 (m / 100 + 1000000) = m / 100 + 1000000 := by unfold wrap64; omega
  have e5 : wrap64 (t + o) = t + o := by unfold wrap64; omega
  have e6 : wrap64 (t + o + (m / 100 + 1000000)) = t + o + (m / 100 + 1000000) := by unfold wrap64; omega
  have e7 : wrap64 (t + o + (m / 100 + 1000000) - 1000000) = t + o + m / 100 := by unfold wrap64; omega
  rw [e1, e2, e3, e4, e5, e6, e7]
  unfold spec_l05Max.f
  by_cases h : 0 < t + o + m / 100
  · rw [if_neg (by omega), if_pos h]; rfl
  · by_cases h' : (0 : Int) > t + o + m / 100
    · rw [if_pos h', if_neg h]; rfl
    · rw [if_neg h', if_neg h]
      have : t + o + m / 100 = 0 := by omega
      rw [this]; rfl
theorem idn (m : Int) (h0 : -50000000 ≤ m) (h1 : m ≤ 50000000) : impl_down.f m = some (m / 100) := by
  unfold impl_down.f
  by_cases h : m < 0
  · rw [if_pos h]
    have e1 : wrap64 (99 - m) = 99 - m := by unfold wrap64; omega
    have e2 : (99 - m).tdiv 100 = (99 - m) / 100 := Int.tdiv_eq_ediv_of_nonneg (by omega)
    have e3 : wrap64 ((99 - m) / 100) = (99 - m) / 100 := by unfold wrap64; omega
    have e4 : wrap64 (-((99 - m) / 100)) = -((99 - m) / 100) := by unfold wrap64; omega
    rw [e1, e2, e3, e4]; congr 1; omega
  · rw [if_neg h]
    have e2 : m.tdiv 100 = m / 100 := Int.tdiv_eq_ediv_of_nonneg (by omega)
    have e3 : wrap64 (m / 100) = m / 100 := by unfold wrap64; omega
    rw [e2, e3]
def Right (a b : Int) : Prop := (-50 ≤ a ∧ a ≤ 50) ∧ -50 ≤ b ∧ b ≤ 50
theorem il (o f t : Int) (h : Right o f) (h0 : 0 ≤ t) (h1 : t ≤ 1000000) : impl_LocalOf.f o f t = some (loc o f t) := by
  obtain ⟨⟨h4, h5⟩, h2, h3⟩ := h
  have hb := mul_bd t f h0 h1 h2 h3
  unfold impl_LocalOf.f loc
  simp only [ic, it, Option.bind_some]
  rw [if_pos (by simp; omega), if_pos (by simp; omega)]
  generalize t * f = m at hb ⊢
  have e1 : wrap64 m = m := by unfold wrap64; omega
  rw [e1, idn m hb.1 hb.2]
  simp only [Option.bind_some]
  have e5 : wrap64 (t + o) = t + o := by unfold wrap64; omega
  have e6 : wrap64 (t + o + m / 100) = t + o + m / 100 := by unfold wrap64; omega
  rw [e5, e6]; rfl
theorem loc_bd (o f t : Int) (h : Right o f) (h0 : 0 ≤ t) (h1 : t ≤ 1000000) : 0 ≤ loc o f t ∧ loc o f t ≤ 2000000 := by
  obtain ⟨⟨h4, h5⟩, h2, h3⟩ := h
  have hb := mul_bd t f h0 h1 h2 h3
  unfold loc
  generalize t * f = m at hb ⊢
  split <;> omega

theorem pure : Pure_FnExactLocalOf := by
  intro a b t _ _
  unfold laws_FnExactLocalOf.f laws_toClock.f
  simp only [Option.bind_some]
  by_cases h : Right a b
  · by_cases h0 : 0 ≤ t ∧ t ≤ 1000000
    · rw [il a b t h h0.1 h0.2]
      unfold spec_LocalOf.f
      simp only [sc, st, Option.bind_some]
      have h' : (-50 ≤ a ∧ a ≤ 50) ∧ -50 ≤ b ∧ b ≤ 50 := h
      rw [if_pos (by simp; omega), if_pos (by simp; omega), sl a b t h0.1 h0.2 h.2.1 h.2.2 h.1.1 h.1.2]
      simp
    · unfold spec_LocalOf.f impl_LocalOf.f
      simp only [sc, ic, st, it, Option.bind_some, h0, decide_false, Bool.false_eq_true, if_false]
      split <;> simp
  · unfold spec_LocalOf.f impl_LocalOf.f
    have h' : ¬ ((-50 ≤ a ∧ a ≤ 50) ∧ -50 ≤ b ∧ b ≤ 50) := h
    simp only [sc, ic, Option.bind_some, h', decide_false, Bool.false_eq_true, if_false]
    simp

end Go.Proofs.Ytglbjjpmokhaaaa.PFnExactLocalOf
namespace Go.Proofs.Ytglbjjpmokhaaaa.Pure
theorem FnExactLocalOf : PFnExactLocalOf.Pure_FnExactLocalOf := PFnExactLocalOf.pure
end Go.Proofs.Ytglbjjpmokhaaaa.Pure
