-- Merged by bundle.py out of 2 printed and hand-written texts of this claim.
import Derived.Test.YtgcgdjldhjajaaaZFnExactTraceBacka
import Derived.Test.YtgcgdjldhjajaaaZFnExactTraceBackb
import Derived.Test.YtgcgdjldhjajaaaZFnExactTraceBackc
import Derived.Test.YtgcgdjldhjajaaaZFnExactTraceBackd
import Derived.Test.YtgcgdjldhjajaaaZFnExactTraceBacke
/- What a place of a view is told to come of, by the program and by the reference. -/
namespace Go.Proofs.Ytgcgdjldhjajaaa.A
open Go.RowKit Go.Proofs.Ytgcgdjldhjajaaa Go.Proofs.YtgcgdjldhjajaaaW.PrintWords Go.Proofs.YtgcgdjldhjajaaaW.PrintLast Go.Proofs.YtgcgdjldhjajaaaW.PrintMore
set_option linter.unusedVariables false
set_option linter.unusedSimpArgs false
theorem why_same (l : List S78) (i : Int) : ∀ (k : Nat) (j : Int), spec_l18Why.l0 k l i j = impl_cause.l0 k l i j := by
  intro k
  induction k with
  | zero => intro j; rfl
  | succ k ih => intro j; simp only [spec_l18Why.l0, impl_cause.l0, ih]
theorem cause_loop (l : List S78) (i : Nat) (hi : i < l.length) (hl : l.length ≤ 400) : ∀ (j k : Nat), j ≤ i → j < k → ∃ t : Int, impl_cause.l0 k l (i : Int) ((j : Int) - 1) = some t ∧ (t = -1 ∨ (0 ≤ t ∧ t < (l.length : Int) ∧ t < (i : Int) ∧ ((rd_T78 l t).f2 = 4 ∨ (rd_T78 l t).f2 = 6))) := by
  intro j
  induction j with
  | zero =>
    intro k hj hk
    obtain ⟨k, rfl⟩ : ∃ m, k = m + 1 := ⟨k - 1, by omega⟩
    simp only [impl_cause.l0]
    rw [if_neg (by omega)]
    exact ⟨-1, rfl, .inl rfl⟩
  | succ j ih =>
    intro k hj hk
    obtain ⟨k, rfl⟩ : ∃ m, k = m + 1 := ⟨k - 1, by omega⟩
    have e : ((j + 1 : Nat) : Int) - 1 = (j : Int) := by omega
    have ew : wrap64 ((j : Int) - 1) = (j : Int) - 1 := by unfold wrap64; omega
    rw [e]
    simp only [impl_cause.l0]
    rw [ew, if_pos (show (j : Int) ≥ 0 by omega), if_pos (show (0 : Int) ≤ (j : Int) by omega), if_pos (show (j : Int) < (l.length : Int) by omega), if_pos (show (0 : Int) ≤ (i : Int) by omega), if_pos (show (i : Int) < (l.length : Int) by omega)]
    by_cases h1 : (rd_T78 l (j : Int)).f1 = (rd_T78 l (i : Int)).f1
    · rw [if_pos h1]
      by_cases h2 : (rd_T78 l (j : Int)).f0 = (rd_T78 l (i : Int)).f0
      · rw [if_pos h2]
        by_cases h4 : (rd_T78 l (j : Int)).f2 = 4
        · rw [if_pos h4]
          exact ⟨_, rfl, .inr ⟨by omega, by omega, by omega, .inl h4⟩⟩
        · rw [if_neg h4]
          by_cases h6 : (rd_T78 l (j : Int)).f2 = 6
          · rw [if_pos h6]
            exact ⟨_, rfl, .inr ⟨by omega, by omega, by omega, .inr h6⟩⟩
          · rw [if_neg h6]
            exact ih k (by omega) (by omega)
      · rw [if_neg h2]
        exact ⟨-1, rfl, .inl rfl⟩
    · rw [if_neg h1]
      exact ih k (by omega) (by omega)
theorem sent_loop (l : List S78) (a : Int) (hl : l.length ≤ 400) : ∀ (j k : Nat), j ≤ l.length → j < k → spec_l18Sent.l0 k l a ((j : Int) - 1) = some (lastP (fun r => decide (r.f2 = 3 ∧ r.f3 = a)) l j) := by
  intro j
  induction j with
  | zero =>
    intro k hj hk
    obtain ⟨k, rfl⟩ : ∃ m, k = m + 1 := ⟨k - 1, by omega⟩
    simp only [spec_l18Sent.l0]
    rw [if_neg (by omega)]
    rfl
  | succ j ih =>
    intro k hj hk
    obtain ⟨k, rfl⟩ : ∃ m, k = m + 1 := ⟨k - 1, by omega⟩
    have e : ((j + 1 : Nat) : Int) - 1 = (j : Int) := by omega
    have ew : wrap64 ((j : Int) - 1) = (j : Int) - 1 := by unfold wrap64; omega
    rw [e]
    simp only [spec_l18Sent.l0]
    rw [ew, if_pos (show (j : Int) ≥ 0 by omega), if_pos (show (0 : Int) ≤ (j : Int) by omega), if_pos (show (j : Int) < (l.length : Int) by omega), ih k (by omega) (by omega)]
    show _ = some (if decide ((rd_T78 l (j : Int)).f2 = 3 ∧ (rd_T78 l (j : Int)).f3 = a) = true then (j : Int) else _)
    by_cases h1 : (rd_T78 l (j : Int)).f2 = 3
    · by_cases h2 : (rd_T78 l (j : Int)).f3 = a
      · rw [if_pos h1, if_pos h2, if_pos (by simp [h1, h2])]
      · rw [if_pos h1, if_neg h2, if_neg (by simp [h2])]
    · rw [if_neg h1, if_neg (by simp [h1])]
theorem doubt_loop (l : List S78) (i : Nat) (hi : i < l.length) (hl : l.length ≤ 400) : ∀ (j k : Nat), j ≤ i → j < k → spec_l18Doubted.l0 k l (i : Int) ((j : Int) - 1) = some (lastP (waitB (rd_T78 l (i : Int))) l j) := by
  intro j
  induction j with
  | zero =>
    intro k hj hk
    obtain ⟨k, rfl⟩ : ∃ m, k = m + 1 := ⟨k - 1, by omega⟩
    simp only [spec_l18Doubted.l0]
    rw [if_neg (by omega)]
    rfl
  | succ j ih =>
    intro k hj hk
    obtain ⟨k, rfl⟩ : ∃ m, k = m + 1 := ⟨k - 1, by omega⟩
    have e : ((j + 1 : Nat) : Int) - 1 = (j : Int) := by omega
    have ew : wrap64 ((j : Int) - 1) = (j : Int) - 1 := by unfold wrap64; omega
    rw [e]
    simp only [spec_l18Doubted.l0]
    rw [ew, if_pos (show (j : Int) ≥ 0 by omega), if_pos (show (0 : Int) ≤ (j : Int) by omega), if_pos (show (j : Int) < (l.length : Int) by omega), if_pos (show (0 : Int) ≤ (i : Int) by omega), if_pos (show (i : Int) < (l.length : Int) by omega), ih k (by omega) (by omega)]
    show _ = some (if waitB (rd_T78 l (i : Int)) (rd_T78 l (j : Int)) = true then (j : Int) else _)
    generalize rd_T78 l (j : Int) = x
    generalize rd_T78 l (i : Int) = y
    by_cases h1 : x.f1 = y.f1
    · by_cases h2 : x.f2 = 5
      · by_cases h3 : x.f3 = y.f3
        · by_cases h4 : x.f4 = y.f4
          · by_cases h5 : x.f5 = 2
            · rw [if_pos h1, if_pos h2, if_pos h3, if_pos h4, if_pos h5, if_pos (by simp [waitB, h1, h2, h3, h4, h5])]
            · rw [if_pos h1, if_pos h2, if_pos h3, if_pos h4, if_neg h5, if_neg (by simp [waitB, h5])]
          · rw [if_pos h1, if_pos h2, if_pos h3, if_neg h4, if_neg (by simp [waitB, h4])]
        · rw [if_pos h1, if_pos h2, if_neg h3, if_neg (by simp [waitB, h3])]
      · rw [if_pos h1, if_neg h2, if_neg (by simp [waitB, h2])]
    · rw [if_neg h1, if_neg (by simp [waitB, h1])]
theorem step_is (L w : Int) : impl_stepTo.f L w = some (if 0 ≤ L then (L, w) else (0, 0)) := by
  unfold impl_stepTo.f
  by_cases h : 0 ≤ L
  · rw [if_neg (by omega), if_pos h]
  · rw [if_pos (by omega), if_neg h]
theorem lastP_lt (p : S78 → Bool) (l : List S78) : ∀ j : Nat, lastP p l j < (j : Int) := by
  intro j
  induction j with
  | zero => show (-1 : Int) < ((0 : Nat) : Int); omega
  | succ j ih =>
    show (if p (rd_T78 l (j : Int)) = true then (j : Int) else lastP p l j) < _
    split <;> omega
theorem lastP_ge (p : S78 → Bool) (l : List S78) : ∀ j : Nat, -1 ≤ lastP p l j := by
  intro j
  induction j with
  | zero => show (-1 : Int) ≤ -1; omega
  | succ j ih =>
    show -1 ≤ (if p (rd_T78 l (j : Int)) = true then (j : Int) else lastP p l j)
    split <;> omega
theorem source_same (l : List S78) (i : Nat) (hi : i < l.length) (hl : l.length ≤ 400) : ∃ r : Int × Int, spec_l18Source.f l (i : Int) = some r ∧ impl_sourceOf.f l (i : Int) = some r ∧ (r.2 = 0 ∨ r.2 = 1 ∨ r.2 = 3 ∨ ((r.2 = 2 ∨ r.2 = 4) ∧ 0 ≤ r.1 ∧ r.1 < (i : Int))) := by
  unfold spec_l18Source.f impl_sourceOf.f
  have hin : 0 ≤ (i : Int) ∧ (i : Int) < (l.length : Int) := ⟨by omega, by omega⟩
  rw [if_pos hin, if_pos hin]
  by_cases h1 : (rd_T78 l (i : Int)).f3 = (rd_T78 l (i : Int)).f1
  · rw [if_pos h1, if_pos h1, step_is, if_pos (by omega)]
    exact ⟨_, rfl, rfl, .inr (.inl rfl)⟩
  rw [if_neg h1, if_neg h1]
  have ew : wrap64 ((i : Int) - 1) = (i : Int) - 1 := by unfold wrap64; omega
  obtain ⟨t, ht, hc⟩ := cause_loop l i hi hl i (l.length + 5) (Nat.le_refl _) (by omega)
  have e1 : impl_cause.f (l.length + 5) l (i : Int) = some t := by unfold impl_cause.f; rw [ew]; exact ht
  have e2 : spec_l18Why.f (l.length + 5) l (i : Int) = some t := by unfold spec_l18Why.f; rw [ew, why_same]; exact ht
  rw [e1, e2, Option.bind_some, Option.bind_some]
  rcases hc with rfl | ⟨h0, hn, hti, hk⟩
  · have hm1 : ¬ (0 : Int) ≤ -1 := by omega
    rw [if_neg hm1, if_neg hm1]
    by_cases h3 : (rd_T78 l (i : Int)).f5 = 3
    · have e3 : spec_l18Doubted.f (l.length + 5) l (i : Int) = some (lastP (waitB (rd_T78 l (i : Int))) l i) := by unfold spec_l18Doubted.f; rw [ew]; exact doubt_loop l i hi hl i _ (Nat.le_refl _) (by omega)
      rw [if_pos h3, if_pos h3, e3, Option.bind_some, step_is, Int.toNat_natCast]
      by_cases hL : 0 ≤ lastP (waitB (rd_T78 l (i : Int))) l i
      · rw [if_pos hL, if_pos hL]
        exact ⟨_, rfl, rfl, .inr (.inr (.inr ⟨by simp, hL, by first | exact lastP_lt _ l i | exact Int.lt_trans (lastP_lt _ l q) hti⟩))⟩
      · rw [if_neg hL, if_neg hL]
        exact ⟨_, rfl, rfl, .inl rfl⟩
    · rw [if_neg h3, if_neg h3]
      exact ⟨_, rfl, rfl, .inl rfl⟩
  · rw [if_pos h0, if_pos h0, if_pos hn, if_pos hn]
    obtain ⟨q, rfl⟩ := Int.eq_ofNat_of_zero_le h0
    rw [Int.toNat_natCast]
    rcases hk with h4 | h6
    · have e3 : spec_l18Sent.f (l.length + 5) l (q : Int) (rd_T78 l (q : Int)).f3 = some (lastP (fun r => decide (r.f2 = 3 ∧ r.f3 = (rd_T78 l (q : Int)).f3)) l q) := by
        unfold spec_l18Sent.f
        rw [show wrap64 ((q : Int) - 1) = (q : Int) - 1 by unfold wrap64; omega]
        exact sent_loop l _ hl q _ (by omega) (by omega)
      rw [if_neg (show ¬ (rd_T78 l (q : Int)).f2 = 6 by omega), if_pos h4, e3, Option.bind_some, step_is]
      by_cases hL : 0 ≤ lastP (fun r => decide (r.f2 = 3 ∧ r.f3 = (rd_T78 l (q : Int)).f3)) l q
      · rw [if_pos hL, if_pos hL]
        exact ⟨_, rfl, rfl, .inr (.inr (.inr ⟨by simp, hL, by first | exact lastP_lt _ l i | exact Int.lt_trans (lastP_lt _ l q) hti⟩))⟩
      · rw [if_neg hL, if_neg hL]
        exact ⟨_, rfl, rfl, .inl rfl⟩
    · rw [if_pos h6, if_neg (show ¬ (rd_T78 l (q : Int)).f2 = 4 by omega)]
      by_cases hh : (rd_T78 l (q : Int)).f3 = (rd_T78 l (i : Int)).f3 ∧ (rd_T78 l (i : Int)).f5 = 2
      · rw [if_pos hh, if_pos hh, step_is, if_pos h0]
        exact ⟨_, rfl, rfl, .inr (.inr (.inl rfl))⟩
      · rw [if_neg hh, if_neg hh]
        exact ⟨_, rfl, rfl, .inl rfl⟩
def viewB (l : List S78) (a : Int) : Bool := okRecs l && (decide (0 ≤ a ∧ a ≤ (l.length : Int) - 1) && ((rd_T78 l a).f2 == 5))
theorem s_view (l : List S78) (a : Int) (hl : l.length ≤ 1048576) (k : Nat) (hk : l.length < k) : spec_l18View.f k l a = some (viewB l a) := by
  unfold spec_l18View.f viewB
  rw [s_recs l k hk, Option.bind_some]
  have ew : wrap64 ((l.length : Int) - 1) = (l.length : Int) - 1 := by unfold wrap64; omega
  have ep : spec_l15Place.f l a = some (decide (0 ≤ a ∧ a ≤ (l.length : Int) - 1)) := by
    simp only [spec_l15Place.f, s_is, ew]
    rfl
  rw [ep]
  cases okRecs l
  · rfl
  · rw [if_pos rfl, Option.bind_some, Bool.true_and]
    by_cases h : 0 ≤ a ∧ a ≤ (l.length : Int) - 1
    · rw [decide_eq_true h, if_pos rfl, if_pos h.1, if_pos (by omega), Bool.true_and]
    · rw [decide_eq_false h]
      rfl
theorem i_view (l : List S78) (a : Int) (hl : l.length ≤ 1048576) : impl_isView.f l a = some (viewB l a) := by
  unfold impl_isView.f viewB
  have ep : impl_arePlaces.f l [a] = some (okRecs l && decide (0 ≤ a ∧ a ≤ (l.length : Int) - 1)) := by
    unfold impl_arePlaces.f okRecs
    simp only [List.any_cons, List.any_nil, Bool.or_false, Bool.not_not]
  rw [ep, Option.bind_some]
  cases okRecs l
  · rfl
  · by_cases h : 0 ≤ a ∧ a ≤ (l.length : Int) - 1
    · rw [decide_eq_true h]
      simp only [Bool.and_true, Bool.true_and, if_true]
      rw [if_pos h.1, if_pos (by omega)]
    · rw [decide_eq_false h]
      rfl
end Go.Proofs.Ytgcgdjldhjajaaa.A
/- TraceBack of the program and of the reference tell the same steps. -/
namespace Go.Proofs.Ytgcgdjldhjajaaa.A
open Go.RowKit Go.Proofs.Ytgcgdjldhjajaaa Go.Proofs.YtgcgdjldhjajaaaW.PrintWords Go.Proofs.YtgcgdjldhjajaaaW.PrintLast Go.Proofs.YtgcgdjldhjajaaaW.PrintMore
set_option linter.unusedVariables false
set_option linter.unusedSimpArgs false
theorem trace_same (l : List S78) (hl : l.length ≤ 400) : ∀ (n k q : Nat) (at_ : Int) (out : List S54), at_ < (n : Int) → -1 ≤ at_ → at_ < (l.length : Int) → n + 2 ≤ k → n + 2 ≤ q → out.length + n ≤ 1000 →
    ∃ r : List S54, r.length ≤ out.length + n ∧ spec_TraceBack.l0 k l out at_ = some r ∧ traceP q l out at_ = some r := by
  intro n
  induction n with
  | zero =>
    intro k q at_ out h1 h2 h3 hk hq ho
    obtain ⟨k, rfl⟩ : ∃ m, k = m + 1 := ⟨k - 1, by omega⟩
    obtain ⟨q, rfl⟩ : ∃ m, q = m + 1 := ⟨q - 1, by omega⟩
    simp only [spec_TraceBack.l0, traceP]
    rw [if_neg (by omega), if_neg (by omega)]
    exact ⟨out, by omega, rfl, rfl⟩
  | succ n ih =>
    intro k q at_ out h1 h2 h3 hk hq ho
    obtain ⟨k, rfl⟩ : ∃ m, k = m + 1 := ⟨k - 1, by omega⟩
    obtain ⟨q, rfl⟩ : ∃ m, q = m + 1 := ⟨q - 1, by omega⟩
    simp only [spec_TraceBack.l0, traceP]
    by_cases h0 : at_ ≥ 0
    rotate_left
    · rw [if_neg h0, if_neg h0]
      exact ⟨out, by omega, rfl, rfl⟩
    rw [if_pos h0, if_pos h0]
    obtain ⟨i, rfl⟩ := Int.eq_ofNat_of_zero_le h0
    obtain ⟨⟨ln, wy⟩, e1, e2, hc⟩ := source_same l i (by omega) hl
    rw [e1, e2, Option.bind_some, Option.bind_some]
    simp only [Option.bind_some] at hc ⊢
    have hlen : ∀ s : S54, (out ++ [s]).length = out.length + 1 := fun s => by simp
    by_cases w0 : wy = 0
    · rw [if_pos w0, if_pos w0]
      exact ⟨out, by omega, rfl, rfl⟩
    rw [if_neg w0, if_neg w0, if_pos (show out.length < 8796093022208 by omega)]
    by_cases w4 : wy = 4
    · rw [if_pos w4, if_neg (show ¬ wy = 2 by omega), if_pos w4]
      obtain ⟨r, r1, r2, r3⟩ := ih k q ln (out ++ [⟨ln, wy⟩]) (by omega) (by omega) (by omega) (by omega) (by omega) (by rw [hlen]; omega)
      exact ⟨r, by rw [hlen] at r1; omega, r2, r3⟩
    · rw [if_neg w4]
      by_cases w2 : wy = 2
      · have hb : 0 ≤ ln ∧ ln < (l.length : Int) ∧ 0 ≤ (i : Int) ∧ (i : Int) < (l.length : Int) := by omega
        rw [if_pos w2, if_pos w2, if_pos (show 0 ≤ ln ∧ ln < (l.length : Int) from ⟨hb.1, hb.2.1⟩)]
        unfold spec_l18Held.f
        rw [if_pos hb, Option.bind_some]
        try rw [if_neg w4]
        have g1 := lastP_lt (heldB (rd_T78 l ln) (rd_T78 l (i : Int))) l ln.toNat
        have g2 := lastP_ge (heldB (rd_T78 l ln) (rd_T78 l (i : Int))) l ln.toNat
        obtain ⟨r, r1, r2, r3⟩ := ih k q (lastP (heldB (rd_T78 l ln) (rd_T78 l (i : Int))) l ln.toNat) (out ++ [⟨ln, wy⟩]) (by omega) g2 (by omega) (by omega) (by omega) (by rw [hlen]; omega)
        exact ⟨r, by rw [hlen] at r1; omega, r2, r3⟩
      · rw [if_neg w2, if_neg w2, if_neg w4]
        obtain ⟨q, rfl⟩ : ∃ m, q = m + 1 := ⟨q - 1, by omega⟩
        simp only [traceP]
        rw [if_neg (by omega)]
        exact ⟨_, by rw [hlen]; omega, rfl, rfl⟩
theorem same_trace (l : List S78) (hl : l.length ≤ 1048576) (a : Int) (k : Nat) (hk : l.length + 500 < k) : ∃ P : List S54, P.length ≤ 400 ∧ spec_TraceBack.f k l a = some P ∧ impl_TraceBack.f l a = some P := by
  unfold spec_TraceBack.f impl_TraceBack.f
  rw [Option.bind_some, s_view l a hl k (by omega), i_view l a hl, Option.bind_some, Option.bind_some]
  cases hv : viewB l a
  · rw [if_neg (by decide), if_neg (by decide)]
    exact ⟨[], by simp, rfl, rfl⟩
  · have h1 : okRecs l = true ∧ (0 ≤ a ∧ a ≤ (l.length : Int) - 1) := by
      unfold viewB at hv
      rw [Bool.and_eq_true, Bool.and_eq_true] at hv
      exact ⟨hv.1, of_decide_eq_true hv.2.1⟩
    have h4 : l.length ≤ 400 := by
      have := h1.1
      unfold okRecs at this
      rw [Bool.and_eq_true] at this
      exact of_decide_eq_true this.1
    rw [if_pos rfl, if_pos rfl, if_pos h4]
    obtain ⟨r, r1, r2, r3⟩ := trace_same l h4 l.length k (l.length + 2) a [] (by omega) (by omega) (by omega) (by omega) (by omega) (by simp; omega)
    exact ⟨r, by simp only [List.length_nil] at r1; omega, r2, r3⟩
theorem rd_nat_St (l : List S54) (i : Nat) (hi : i < l.length) : rd_T54 l (i : Int) = l[i] := by
  show l.getD i _ = _
  rw [List.getD_eq_getElem?_getD, List.getElem?_eq_getElem hi]
  rfl
theorem eqSt (l : List S54) (hl : l.length ≤ 1048576) (k : Nat) (hk : l.length < k) : laws_eqStepS.f k l l = some true := by
  unfold laws_eqStepS.f
  rw [if_pos rfl]
  refine Lst.along_all (fun k i => laws_eqStepS.l0 k l l i) l.length (by omega) true ?_ ?_ k hk
  · intro k i h1
    simp only [laws_eqStepS.l0]
    rw [if_pos (by omega), if_pos (by omega), if_pos (by omega)]
    simp [laws_eqStep.f]
  · intro k
    simp only [laws_eqStepS.l0]
    rw [if_neg (by omega)]
theorem markSt (l : List S54) (hl : l.length ≤ 1048576) (m0 : Int) (hm0 : 0 ≤ m0) (hm1 : m0 ≤ 100000000) (k : Nat) (hk : l.length < k) :
    ∃ y : List S54, laws_markStepS.f k l m0 = some (m0 + 2 * (l.length : Int), y) ∧ ∀ k, l.length < k → laws_heldStepS.f k y m0 = some (m0 + 2 * (l.length : Int)) := by
  have wj : ∀ (m : Int), 0 ≤ m → m ≤ 1000000000000 → wrap64 (m + 1) = m + 1 ∧ wrap64 (m + 1 + 1) = m + 2 := fun m h0 h1 => by
    unfold wrap64; omega
  obtain ⟨y, h1, hy, _, h4⟩ := Lst.setting laws_markStepS.l0 z54 (fun m _ => ⟨m, m + 1⟩) 2 l.length (by omega) (by
      intro k x m i hx hi h0 h1
      obtain ⟨w1, w2⟩ := wj m h0 h1
      have g : ∀ (x : List S54) (v : S54), i < x.length → rd_T54 (x.set i v) (i : Int) = v := fun x v hx => by
        rw [rd_nat_St _ i (by simpa using hx)]
        simp
      simp only [laws_markStepS.l0]
      rw [if_pos (by omega), if_pos (by omega)]
      simp only [Option.bind_some, Int.toNat_natCast, w1, w2]
      rw [g x _ (by omega)]
      try simp only [List.set_set]) (by
      intro k x m hx
      simp only [laws_markStepS.l0]
      rw [if_neg (by omega)]) (by omega) l.length k 0 l m0 (by omega) rfl hk (by omega) (by omega)
  refine ⟨y, by unfold laws_markStepS.f; rw [show (0 : Int) = ((0 : Nat) : Int) from rfl, h1], fun k hk => ?_⟩
  unfold laws_heldStepS.f
  have := Lst.holding (fun k m i => laws_heldStepS.l0 k y m i) l.length (by omega) m0 2 (m0 + 2 * (l.length : Int)) (by
    intro k i hi
    obtain ⟨w1, w2⟩ := wj (m0 + 2 * (i : Int)) (by omega) (by omega)
    have e : rd_T54 y (i : Int) = ⟨m0 + 2 * (i : Int), m0 + 2 * (i : Int) + 1⟩ := by
      show y.getD i z54 = _
      rw [h4 i (by omega) hi]
      simp only [Nat.sub_zero]
    simp only [laws_heldStepS.l0]
    rw [if_pos (by omega), if_pos (by omega), e]
    simp only [w1, w2, if_true]
    rw [show m0 + 2 * (i : Int) + 2 = m0 + 2 * ((i + 1 : Nat) : Int) by omega]) (by
    intro k
    simp only [laws_heldStepS.l0]
    rw [if_neg (by omega)]) l.length k 0 (by omega) hk
  simpa using this
theorem pure_TraceBack : Pure_FnExactTraceBack := by
  intro l a h _
  by_cases hb : l.length ≤ 1048576
  · obtain ⟨K, hK⟩ : ∃ K : Nat, 3 * l.length + 2000 ≤ K := ⟨_, Nat.le_refl _⟩
    refine ⟨K + 1, ?_⟩
    unfold laws_FnExactTraceBack.f
    rw [szR l h.1]
    simp only [Option.bind_some, hb, if_true]
    rw [if_neg (by omega), toR l hb _ (by omega)]
    have hm : (l.map cvR).length = l.length := by simp
    have ht : ∀ k, l.length < k → laws_toRecS.f k l = some (l.map cvR) := fun k hk => toR l hb k hk
    generalize l.map cvR = m at hm ht
    obtain ⟨P, hP, e1, e2⟩ := same_trace m (by omega) a (K + 1) (by omega)
    obtain ⟨y, hy⟩ := markR m (by omega) (K + 1) (by omega)
    obtain ⟨z, hz, hz2⟩ := markSt P (by omega) 1 (by omega) (by omega) K (by omega)
    simp only [Option.bind_some]
    rw [e1]
    simp only [Option.bind_some]
    rw [e2]
    simp only [Option.bind_some]
    rw [eqSt P (by omega) _ (by omega)]
    simp only [Option.bind_some, if_true]
    rw [eqR m (by omega) _ (by omega)]
    simp only [Option.bind_some, if_true]
    rw [hy]
    simp only [Option.bind_some]
    rw [if_neg (by omega)]
    simp only [laws_FnExactTraceBack.j0]
    rw [hz]
    simp only [Option.bind_some, Bool.not_true, if_false, Bool.false_eq_true]
    rw [hz2 _ (by omega)]
    simp only [Option.bind_some, if_true]
    rw [if_neg (by omega), ht _ (by omega)]
    simp only [Option.bind_some]
    rw [e2]
    simp only [Option.bind_some]
    rw [eqSt P (by omega) _ (by omega)]
    simp only [Option.bind_some, if_true]
    rw [if_neg (by omega)]
  · refine ⟨1, ?_⟩
    unfold laws_FnExactTraceBack.f
    rw [szR l h.1]
    simp [hb]
end Go.Proofs.Ytgcgdjldhjajaaa.A
namespace Go.Proofs.Ytgcgdjldhjajaaa.Pure
theorem FnExactTraceBack : A.Pure_FnExactTraceBack := A.pure_TraceBack
end Go.Proofs.Ytgcgdjldhjajaaa.Pure
