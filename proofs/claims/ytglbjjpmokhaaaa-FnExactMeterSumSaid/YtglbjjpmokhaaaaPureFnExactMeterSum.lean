/- MeterSum of the program and of the reference: the same sums, element by element. -/
import Derived.Test.YtglbjjpmokhaaaaSayFnExactMeterSum
import Derived.Test.YtglbjjpmokhaaaaLst
namespace Go.Proofs.Ytglbjjpmokhaaaa.PFnExactMeterSum
open Go.RowKit Go.Proofs.YtglbjjpmokhaaaaW.PrintWords Go.Proofs.YtglbjjpmokhaaaaW.PrintLast Go.Proofs.YtglbjjpmokhaaaaW.PrintMore
set_option linter.unusedVariables false
set_option linter.unusedSimpArgs false

def cv (x : S97) : S54 := ⟨x.f0, x.f1, x.f2, x.f3, x.f4, x.f5⟩
theorem toS (l : List S97) (hl : l.length ≤ 1048576) (k : Nat) (hk : l.length < k) : laws_toMeterS.f k l = some (l.map cv) := by
  unfold laws_toMeterS.f
  rw [if_pos (by omega), if_pos (by omega)]
  refine Lst.copy_all laws_toMeterS.l0 z97 z54 cv l (by omega) ?_ ?_ k hk
  · intro k x i h1 h2
    simp only [laws_toMeterS.l0]
    rw [if_pos (by omega), if_pos (by omega)]
    simp only [laws_toMeter.f, Option.bind_some]
    rw [if_pos (by omega)]
    rfl
  · intro k x
    simp only [laws_toMeterS.l0]
    rw [if_neg (by omega)]
theorem eqS (l : List S54) (hl : l.length ≤ 1048576) (k : Nat) (hk : l.length < k) : laws_eqMeterS.f k l l = some true := by
  unfold laws_eqMeterS.f
  rw [if_pos rfl]
  refine Lst.along_all (fun k i => laws_eqMeterS.l0 k l l i) l.length (by omega) true ?_ ?_ k hk
  · intro k i h1
    simp only [laws_eqMeterS.l0]
    rw [if_pos (by omega), if_pos (by omega), if_pos (by omega)]
    simp [laws_eqMeter.f]
  · intro k
    simp only [laws_eqMeterS.l0]
    rw [if_neg (by omega)]
theorem loops (l : List S54) (hl : l.length ≤ 400) : ∀ (k : Nat) (i a b c d e f : Int), 0 ≤ i → spec_MeterSum.l0 k l i a b c d e f = impl_MeterSum.l0 k l (l.length : Int) i a b c d e f := by
  intro k
  induction k with
  | zero => intro i a b c d e f _; rfl
  | succ k ih =>
    intro i a b c d e f h0
    simp only [spec_MeterSum.l0, impl_MeterSum.l0]
    by_cases h : i < (l.length : Int)
    · rw [if_pos h, if_pos (by omega), if_pos h0, if_pos h, if_pos h0, if_pos h]
      exact ih _ _ _ _ _ _ _ (by unfold wrap64; omega)
    · rw [if_neg h, if_neg h]
theorem ends (l : List S54) (hl : l.length ≤ 400) : ∀ (d k : Nat) (i a b c d' e f : Int), 0 ≤ i → i ≤ (l.length : Int) → (l.length : Int) - i = d → d < k → ∃ r, spec_MeterSum.l0 k l i a b c d' e f = some r := by
  intro d
  induction d with
  | zero =>
    intro k i a b c d' e f h0 h1 h2 hk
    obtain ⟨k, rfl⟩ : ∃ m, k = m + 1 := ⟨k - 1, by omega⟩
    simp only [spec_MeterSum.l0]
    rw [if_neg (by omega)]
    exact ⟨_, rfl⟩
  | succ d ih =>
    intro k i a b c d' e f h0 h1 h2 hk
    obtain ⟨k, rfl⟩ : ∃ m, k = m + 1 := ⟨k - 1, by omega⟩
    simp only [spec_MeterSum.l0]
    rw [if_pos (by omega), if_pos (by omega), if_pos h0, Lst.w1 i h0 (by omega)]
    exact ih k _ _ _ _ _ _ _ (by omega) (by omega) (by omega) (by omega)
theorem eq_self (o : Int × Int × Int × Int × Int × Int) : laws_eqMeter.f o.1 o.2.1 o.2.2.1 o.2.2.2.1 o.2.2.2.2.1 o.2.2.2.2.2 o.1 o.2.1 o.2.2.1 o.2.2.2.1 o.2.2.2.2.1 o.2.2.2.2.2 = some true := by
  simp [laws_eqMeter.f]
theorem pure : Pure_FnExactMeterSum := by
  intro l h
  by_cases hb : l.length ≤ 1048576
  · have hs : laws_szMeterS.f l 1048576 = some (1048576 - (l.length : Int)) := by
      unfold laws_szMeterS.f
      have e : wrap64 (1048576 - (l.length : Int)) = 1048576 - (l.length : Int) := by unfold wrap64; omega
      rw [e, if_neg (by omega)]
    refine ⟨l.length + 1000, ?_⟩
    unfold laws_FnExactMeterSum.f
    rw [hs]
    simp only [Option.bind_some]
    rw [if_neg (by omega)]
    rw [toS l hb _ (by omega)]
    have hm : (l.map cv).length = l.length := by simp
    generalize l.map cv = m at hm
    simp only [Option.bind_some]
    have hr : ∃ r, spec_MeterSum.f (l.length + 1000) m = some r ∧ impl_MeterSum.f (l.length + 1000) m = some r := by
      unfold spec_MeterSum.f impl_MeterSum.f impl_Meter.f
      simp only [Option.bind_some]
      by_cases hq : m.length ≤ 400
      · rw [if_neg (by simp; omega), ← loops m hq _ 0 0 0 0 0 0 0 (by omega)]
        obtain ⟨r, hr⟩ := ends m hq m.length (l.length + 1000) 0 0 0 0 0 0 0 (by omega) (by omega) (by omega) (by omega)
        exact ⟨r, hr, hr⟩
      · rw [if_pos (by simp; omega)]
        refine ⟨_, ?_, rfl⟩
        obtain ⟨m', hm'⟩ : ∃ m', l.length + 1000 = m' + 1 := ⟨l.length + 999, by omega⟩
        rw [hm']
        simp only [spec_MeterSum.l0]
        rw [if_pos (by omega), if_neg (by omega)]
    obtain ⟨r, h1, h2⟩ := hr
    rw [h1, h2]
    simp only [Option.bind_some]
    rw [eq_self]
    simp only [Option.bind_some, if_true]
    rw [eqS m (by omega) _ (by omega)]
    rfl
  · refine ⟨1, ?_⟩
    have hs : laws_szMeterS.f l 1048576 = some (-1) := by
      unfold laws_szMeterS.f
      have hx := h.1
      unfold maxLen at hx
      have e : wrap64 (1048576 - (l.length : Int)) = 1048576 - (l.length : Int) := by unfold wrap64; omega
      rw [e, if_pos (by omega)]
    unfold laws_FnExactMeterSum.f
    rw [hs]
    rfl

end Go.Proofs.Ytglbjjpmokhaaaa.PFnExactMeterSum
namespace Go.Proofs.Ytglbjjpmokhaaaa.Pure
theorem FnExactMeterSum : PFnExactMeterSum.Pure_FnExactMeterSum := PFnExactMeterSum.pure
end Go.Proofs.Ytglbjjpmokhaaaa.Pure
