/- StampTick of the program and of the reference. -/
import Derived.Test.YtglbjjpmokhaaaaSayFnExactStampTick
namespace Go.Proofs.Ytglbjjpmokhaaaa.PFnExactStampTick
open Go.RowKit Go.Proofs.YtglbjjpmokhaaaaW.PrintWords Go.Proofs.YtglbjjpmokhaaaaW.PrintLast Go.Proofs.YtglbjjpmokhaaaaW.PrintMore
set_option linter.unusedVariables false
theorem iw (n lo hi : Int) : impl_within.f n lo hi = some (decide (lo ≤ n ∧ n ≤ hi)) := by
  unfold impl_within.f; by_cases h : lo ≤ n <;> simp [h]
theorem sw (n lo hi : Int) : spec_l02Is.f n lo hi = some (decide (lo ≤ n ∧ n ≤ hi)) := by
  unfold spec_l02Is.f; by_cases h : n ≥ lo
  · rw [if_pos h]; congr 1; simp; omega
  · rw [if_neg h]; congr 1; simp; omega
theorem it (a : Int) : impl_isTime.f a = some (decide (0 ≤ a ∧ a ≤ 1000000)) := by
  unfold impl_isTime.f; simp only [iw, Option.bind_some]
theorem st (a : Int) : spec_l03Time.f a = some (decide (0 ≤ a ∧ a ≤ 1000000)) := by
  unfold spec_l03Time.f; simp only [sw, Option.bind_some]
theorem inn (a : Int) : impl_isNode.f a = some (decide (1 ≤ a ∧ a ≤ 6)) := by
  unfold impl_isNode.f; simp only [iw, Option.bind_some]
theorem sn (a : Int) : spec_l04Node.f a = some (decide (1 ≤ a ∧ a ≤ 6)) := by
  unfold spec_l04Node.f; simp only [sw, Option.bind_some]
def StOk (a b c : Int) : Prop := (0 ≤ a ∧ a ≤ 1000000) ∧ (0 ≤ b ∧ b ≤ 1000000) ∧ 1 ≤ c ∧ c ≤ 6
instance (a b c : Int) : Decidable (StOk a b c) := by unfold StOk; infer_instance
theorem ist (a b c : Int) : impl_isStamp.f a b c = some (decide (StOk a b c)) := by
  unfold impl_isStamp.f StOk; simp only [it, inn, Option.bind_some]
  by_cases h : 0 ≤ a ∧ a ≤ 1000000 <;> by_cases h2 : 0 ≤ b ∧ b ≤ 1000000 <;> simp [h, h2]
theorem sst (a b c : Int) : spec_l19Stamp.f a b c = some (decide (StOk a b c)) := by
  unfold spec_l19Stamp.f StOk; simp only [st, sn, Option.bind_some]
  by_cases h : 0 ≤ a ∧ a ≤ 1000000 <;> by_cases h2 : 0 ≤ b ∧ b ≤ 1000000 <;> simp [h, h2]

theorem next_eq (a b c at_ n : Int) (h : n ≤ 1000000) : spec_l19Next.f a b c at_ n = impl_stampAt.f c at_ n := by
  unfold spec_l19Next.f impl_stampAt.f
  by_cases h' : n = 1000000
  · rw [if_pos (by omega), if_pos h']
  · rw [if_neg (by omega), if_neg h']
theorem eq_self (o : Int × Int × Int × Int) : laws_eqStampOut.f o.1 o.2.1 o.2.2.1 o.2.2.2 o.1 o.2.1 o.2.2.1 o.2.2.2 = some true := by
  unfold laws_eqStampOut.f laws_eqStamp2.f; simp
theorem both (a b c t : Int) : impl_StampTick.f 1 a b c t = spec_StampTick.f 1 a b c t := by
  unfold spec_StampTick.f impl_StampTick.f
  simp only [ist, sst, it, st, Option.bind_some, spec_StampTick.j0, impl_StampTick.j0]
  by_cases h : StOk a b c
  · have hb := h.2.1
    rw [next_eq a b c t (-1) (by omega), next_eq a b c a b (by omega)]
  · simp only [h, decide_false, Bool.false_eq_true, if_false, if_true]
theorem spec_some (a b c t : Int) : ∃ r, spec_StampTick.f 1 a b c t = some r := by
  unfold spec_StampTick.f
  simp only [sst, st, Option.bind_some, spec_StampTick.j0, spec_l19Next.f]
  repeat' (first | exact ⟨_, rfl⟩ | split)
theorem pure : Pure_FnExactStampTick := by
  intro a b c t _ _
  refine ⟨1, ?_⟩
  unfold laws_FnExactStampTick.f laws_toStamp2.f
  simp only [Option.bind_some, both]
  obtain ⟨r, hr⟩ := spec_some a b c t
  rw [hr]
  simp only [Option.bind_some]
  rw [eq_self]
  rfl

end Go.Proofs.Ytglbjjpmokhaaaa.PFnExactStampTick
namespace Go.Proofs.Ytglbjjpmokhaaaa.Pure
theorem FnExactStampTick : PFnExactStampTick.Pure_FnExactStampTick := PFnExactStampTick.pure
end Go.Proofs.Ytglbjjpmokhaaaa.Pure
