/- StampHear of the program and of the reference: the greatest time, and the greatest count of those that have it. -/
import Derived.Test.YtglbjjpmokhaaaaSayFnExactStampHear
namespace Go.Proofs.Ytglbjjpmokhaaaa.PFnExactStampHear
open Go.RowKit Go.Proofs.YtglbjjpmokhaaaaW.PrintWords Go.Proofs.YtglbjjpmokhaaaaW.PrintLast Go.Proofs.YtglbjjpmokhaaaaW.PrintMore
set_option linter.unusedVariables false
theorem iw (n lo hi : Int) : impl_within.f n lo hi = some (decide (lo ≤ n ∧ n ≤ hi)) := by
  unfold impl_within.f; by_cases h : lo ≤ n <;> simp [h]
theorem sw (n lo hi : Int) : spec_l02Is.f n lo hi = some (decide (lo ≤ n ∧ n ≤ hi)) := by
  unfold spec_l02Is.f; by_cases h : n ≥ lo
  · rw [if_pos h]; congr 1; simp; omega
  · rw [if_neg h]; congr 1; simp; omega
theorem it (a : Int) : impl_isTime.f a = some (decide (0 ≤ a ∧ a ≤ 1000000)) := by
  unfold impl_isTime.f; simp only [iw, Option.bind_some]
theorem st (a : Int) : spec_l03Time.f a = some (decide (0 ≤ a ∧ a ≤ 1000000)) := by
  unfold spec_l03Time.f; simp only [sw, Option.bind_some]
theorem inn (a : Int) : impl_isNode.f a = some (decide (1 ≤ a ∧ a ≤ 6)) := by
  unfold impl_isNode.f; simp only [iw, Option.bind_some]
theorem sn (a : Int) : spec_l04Node.f a = some (decide (1 ≤ a ∧ a ≤ 6)) := by
  unfold spec_l04Node.f; simp only [sw, Option.bind_some]
def StOk (a b c : Int) : Prop := (0 ≤ a ∧ a ≤ 1000000) ∧ (0 ≤ b ∧ b ≤ 1000000) ∧ 1 ≤ c ∧ c ≤ 6
instance (a b c : Int) : Decidable (StOk a b c) := by unfold StOk; infer_instance
theorem ist (a b c : Int) : impl_isStamp.f a b c = some (decide (StOk a b c)) := by
  unfold impl_isStamp.f StOk; simp only [it, inn, Option.bind_some]
  by_cases h : 0 ≤ a ∧ a ≤ 1000000 <;> by_cases h2 : 0 ≤ b ∧ b ≤ 1000000 <;> simp [h, h2]
theorem sst (a b c : Int) : spec_l19Stamp.f a b c = some (decide (StOk a b c)) := by
  unfold spec_l19Stamp.f StOk; simp only [st, sn, Option.bind_some]
  by_cases h : 0 ≤ a ∧ a ≤ 1000000 <;> by_cases h2 : 0 ≤ b ∧ b ≤ 1000000 <;> simp [h, h2]

theorem smx (a b : Int) : spec_l05Max.f a b = some (mx a b) := by
  unfold spec_l05Max.f mx
  by_cases h : a > b
  · rw [if_pos h, if_neg (by omega)]
  · by_cases h' : a < b
    · rw [if_neg h, if_pos h']
    · rw [if_neg h, if_neg h']; congr 1; omega
theorem ilp (k : Nat) (x7 x8 a b c d e f x y z : Int) : impl_StampHear.l0 (k + 3) x7 x8 [⟨a, b, c⟩, ⟨d, e, f⟩] 2 0 x y z = impl_stampAt.f z x7 (if d = x7 then mx (if a = x7 then mx x8 b else x8) e else (if a = x7 then mx x8 b else x8)) := by
  have w1 : wrap64 (0 + 1) = 1 := by unfold wrap64; omega
  have w2 : wrap64 (1 + 1) = 2 := by unfold wrap64; omega
  have s0 : ∀ (k : Nat) (n : Int), impl_StampHear.l0 (k + 1) x7 n [⟨a, b, c⟩, ⟨d, e, f⟩] 2 0 x y z = impl_StampHear.l0 k x7 (if a = x7 then mx n b else n) [⟨a, b, c⟩, ⟨d, e, f⟩] 2 1 x y z := fun k n => by
    show (if (0 : Int) < 2 then (if (0 : Int) ≤ 0 then (if (0 : Int) < 2 then (if a = x7 then (impl_StampHear.l0 k x7 (mx n b) _ 2 (wrap64 (0 + 1)) x y z) else (impl_StampHear.l0 k x7 n _ 2 (wrap64 (0 + 1)) x y z)) else none) else none) else _) = _
    rw [if_pos (by omega), if_pos (by omega), if_pos (by omega), w1]
    split <;> rfl
  have s1 : ∀ (k : Nat) (n : Int), impl_StampHear.l0 (k + 1) x7 n [⟨a, b, c⟩, ⟨d, e, f⟩] 2 1 x y z = impl_StampHear.l0 k x7 (if d = x7 then mx n e else n) [⟨a, b, c⟩, ⟨d, e, f⟩] 2 2 x y z := fun k n => by
    show (if (1 : Int) < 2 then (if (0 : Int) ≤ 1 then (if (1 : Int) < 2 then (if d = x7 then (impl_StampHear.l0 k x7 (mx n e) _ 2 (wrap64 (1 + 1)) x y z) else (impl_StampHear.l0 k x7 n _ 2 (wrap64 (1 + 1)) x y z)) else none) else none) else _) = _
    rw [if_pos (by omega), if_pos (by omega), if_pos (by omega), w2]
    split <;> rfl
  have s2 : ∀ (k : Nat) (n : Int), impl_StampHear.l0 (k + 1) x7 n [⟨a, b, c⟩, ⟨d, e, f⟩] 2 2 x y z = impl_stampAt.f z x7 n := fun k n => by
    show (if (2 : Int) < 2 then _ else ((impl_stampAt.f z x7 n).bind fun bt => (some (bt.1, bt.2.1, bt.2.2.1, bt.2.2.2)))) = _
    rw [if_neg (by omega)]
    cases impl_stampAt.f z x7 n <;> rfl
  rw [show k + 3 = k + 2 + 1 from rfl, s0, show k + 2 = k + 1 + 1 from rfl, s1, s2]
theorem next_eq (a b c at_ n : Int) (h : n ≤ 1000000) : spec_l19Next.f a b c at_ n = impl_stampAt.f c at_ n := by
  unfold spec_l19Next.f impl_stampAt.f
  by_cases h' : n = 1000000
  · rw [if_pos (by omega), if_pos h']
  · rw [if_neg (by omega), if_neg h']
theorem eq_self (o : Int × Int × Int × Int) : laws_eqStampOut.f o.1 o.2.1 o.2.2.1 o.2.2.2 o.1 o.2.1 o.2.2.1 o.2.2.2 = some true := by
  unfold laws_eqStampOut.f laws_eqStamp2.f; simp
theorem both (a b c d e f t : Int) : impl_StampHear.f 4 a b c d e f t = spec_StampHear.f 4 a b c d e f t := by
  unfold impl_StampHear.f spec_StampHear.f
  simp only [ist, sst, it, st, Option.bind_some, spec_StampHear.j0, impl_StampHear.j0]
  by_cases h : StOk a b c
  · by_cases h2 : StOk d e f
    · by_cases h3 : 0 ≤ t ∧ t ≤ 1000000
      · simp only [h, h2, h3, and_self, decide_true, if_true, Bool.not_true, Bool.false_eq_true, if_false, Option.bind_some, smx]
        have e0 : mx t (mx a d) = mx (mx a d) t := by unfold mx; split <;> split <;> omega
        rw [e0]
        generalize mx (mx a d) t = m
        have hl : (([(⟨a, b, c⟩ : S37), ⟨d, e, f⟩] : List S37).length : Int) = 2 := rfl
        rw [hl, ilp 0]
        have hb := h.2.1
        have he := h2.2.1
        have fin : ∀ n : Int, n ≤ 1000000 → ((spec_l19Next.f a b c m n).bind fun bt => (some (bt.1, bt.2.1, bt.2.2.1, bt.2.2.2))) = impl_stampAt.f c m n := fun n hn => by
          rw [next_eq a b c m n hn]; cases impl_stampAt.f c m n <;> rfl
        have m1 : mx (-1) b = b := by unfold mx; split <;> omega
        have m2 : mx b e ≤ 1000000 := by unfold mx; split <;> omega
        have m3 : mx (-1) e ≤ 1000000 := by unfold mx; split <;> omega
        by_cases g1 : a = m <;> by_cases g2 : d = m
        · simp only [g1, g2, if_true, spec_StampHear.j1, smx, Option.bind_some, m1]
          exact (fin _ m2).symm
        · simp only [g1, g2, if_true, if_false, spec_StampHear.j1, m1]
          exact (fin _ (by omega)).symm
        · simp only [g1, g2, if_true, if_false, spec_StampHear.j1, smx, Option.bind_some]
          exact (fin _ m3).symm
        · simp only [g1, g2, if_false, spec_StampHear.j1]
          exact (fin _ (by omega)).symm
      · simp [h, h2, h3]
    · by_cases h3 : 0 ≤ t ∧ t ≤ 1000000
      · simp [h, h2, h3]
      · simp [h, h2, h3]
  · simp [h]
theorem pure : Pure_FnExactStampHear := by
  intro a b c d e f t _ _ _
  refine ⟨4, ?_⟩
  unfold laws_FnExactStampHear.f laws_toStamp2.f
  simp only [Option.bind_some, both]
  have hs : ∃ r, spec_StampHear.f 4 a b c d e f t = some r := by
    unfold spec_StampHear.f
    simp only [sst, st, Option.bind_some, spec_StampHear.j0, smx, spec_StampHear.j1, spec_l19Next.f]
    repeat' (first | exact ⟨_, rfl⟩ | split)
  obtain ⟨r, hr⟩ := hs
  rw [hr]
  simp only [Option.bind_some]
  rw [eq_self]
  rfl

end Go.Proofs.Ytglbjjpmokhaaaa.PFnExactStampHear
namespace Go.Proofs.Ytglbjjpmokhaaaa.Pure
theorem FnExactStampHear : PFnExactStampHear.Pure_FnExactStampHear := PFnExactStampHear.pure
end Go.Proofs.Ytglbjjpmokhaaaa.Pure
