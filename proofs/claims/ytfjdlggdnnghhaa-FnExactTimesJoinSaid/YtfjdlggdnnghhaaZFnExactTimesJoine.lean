-- Merged by bundle.py out of 4 printed and hand-written texts of this claim.
import Derived.RowKit
import Derived.Test.YtfjdlggdnnghhaaZFnExactTimesJoind
import Derived.Test.YtfjdlggdnnghhaaZFnExactTimesJoina
import Derived.Test.YtfjdlggdnnghhaaZFnExactTimesJoinb
import Derived.Test.YtfjdlggdnnghhaaZFnExactTimesJoinc
/- Loops over lists, in plain Lean: a copy into a new row, a comparison of a row with itself. Conditions: the rows are no longer than a number of the machine can tell. -/
namespace Go.Proofs.Ytfjdlggdnnghhaa.Lst
open Go.RowKit
set_option linter.unusedVariables false
set_option linter.unusedSimpArgs false

theorem w1 (i : Int) (h0 : 0 ≤ i) (h : i < 4611686018427387904) : wrap64 (i + 1) = i + 1 := by unfold wrap64; omega
theorem w1n (i n : Nat) (hi : i < n) (hn : n ≤ 4611686018427387904) : wrap64 ((i : Int) + 1) = ((i + 1 : Nat) : Int) := by unfold wrap64; omega
theorem wr (i : Int) (h0 : -9223372036854775808 ≤ i) (h : i < 9223372036854775808) : wrap64 i = i := by unfold wrap64; omega
theorem toNat_ofNat (i : Nat) : ((i : Int)).toNat = i := rfl

theorem set_take {β : Type} (l : List β) (i : Nat) (b : β) (h : i < l.length) : (l.set i b).take (i + 1) = l.take i ++ [b] := by
  apply List.ext_getElem?
  intro j
  simp only [List.getElem?_take, List.getElem?_append, List.getElem?_set, List.length_take]
  by_cases h1 : j < i
  · rw [if_pos (by omega), if_neg (by omega), if_pos (by omega), if_pos h1]
  · by_cases h2 : j = i
    · subst h2
      rw [if_pos (by omega), if_pos rfl, if_pos h, if_neg (by omega)]
      simp [Nat.min_eq_left (Nat.le_of_lt h)]
    · rw [if_neg (by omega), if_neg (by omega)]
      rw [List.getElem?_eq_none]
      simp; omega

/-- A copy, element by element, into a row that is there. -/
theorem copy_from {α β : Type} (g : Nat → List α → List β → Int → Option (List β)) (z : α) (h : α → β) (l : List α) (hl : l.length ≤ 4611686018427387904)
    (hstep : ∀ (k : Nat) (x : List β) (i : Nat), i < l.length → i < x.length → g (k + 1) l x (i : Int) = g k l (x.set i (h (l.getD i z))) (wrap64 ((i : Int) + 1)))
    (hend : ∀ (k : Nat) (x : List β), g (k + 1) l x (l.length : Int) = some x) :
    ∀ (d k i : Nat) (x : List β), d + i = l.length → x.length = l.length → x.take i = (l.take i).map h → d < k → g k l x (i : Int) = some (l.map h) := by
  intro d
  induction d with
  | zero =>
    intro k i x hd hx ht hk
    obtain ⟨k, rfl⟩ : ∃ m, k = m + 1 := ⟨k - 1, by omega⟩
    obtain rfl : i = l.length := by omega
    rw [hend]
    rw [List.take_of_length_le (by omega), List.take_of_length_le (Nat.le_refl _)] at ht
    rw [ht]
  | succ d ih =>
    intro k i x hd hx ht hk
    obtain ⟨k, rfl⟩ : ∃ m, k = m + 1 := ⟨k - 1, by omega⟩
    rw [hstep k x i (by omega) (by omega), w1n i l.length (by omega) hl]
    refine ih k (i + 1) _ (by omega) (by simpa using hx) ?_ (by omega)
    rw [set_take x i _ (by omega), ht, List.take_succ_eq_append_getElem (by omega), List.map_append, List.getD_eq_getElem?_getD, List.getElem?_eq_getElem (by omega)]
    simp

theorem copy_all {α β : Type} (g : Nat → List α → List β → Int → Option (List β)) (z : α) (zb : β) (h : α → β) (l : List α) (hl : l.length ≤ 4611686018427387904)
    (hstep : ∀ (k : Nat) (x : List β) (i : Nat), i < l.length → i < x.length → g (k + 1) l x (i : Int) = g k l (x.set i (h (l.getD i z))) (wrap64 ((i : Int) + 1)))
    (hend : ∀ (k : Nat) (x : List β), g (k + 1) l x (l.length : Int) = some x) (k : Nat) (hk : l.length < k) : g k l (List.replicate l.length zb) 0 = some (l.map h) :=
  copy_from g z h l hl hstep hend l.length k 0 _ rfl (by simp) (by simp) hk

/-- A walk along a row that never leaves before the end. -/
theorem along {ρ : Type} (g : Nat → Int → Option ρ) (n : Nat) (hn : n ≤ 4611686018427387904) (r : ρ)
    (hstep : ∀ (k i : Nat), i < n → g (k + 1) (i : Int) = g k (wrap64 ((i : Int) + 1))) (hend : ∀ k : Nat, g (k + 1) (n : Int) = some r) :
    ∀ (d k i : Nat), d + i = n → d < k → g k (i : Int) = some r := by
  intro d
  induction d with
  | zero =>
    intro k i hd hk
    obtain ⟨k, rfl⟩ : ∃ m, k = m + 1 := ⟨k - 1, by omega⟩
    obtain rfl : i = n := by omega
    exact hend k
  | succ d ih =>
    intro k i hd hk
    obtain ⟨k, rfl⟩ : ∃ m, k = m + 1 := ⟨k - 1, by omega⟩
    rw [hstep k i (by omega), w1n i n (by omega) hn]
    exact ih k (i + 1) (by omega) (by omega)

theorem along_all {ρ : Type} (g : Nat → Int → Option ρ) (n : Nat) (hn : n ≤ 4611686018427387904) (r : ρ)
    (hstep : ∀ (k i : Nat), i < n → g (k + 1) (i : Int) = g k (wrap64 ((i : Int) + 1))) (hend : ∀ k : Nat, g (k + 1) (n : Int) = some r) (k : Nat) (hk : n < k) : g k 0 = some r :=
  along g n hn r hstep hend n k 0 (by omega) hk

/-- Element by element, each set to something of its number and of what it was. -/
theorem setting {β : Type} (g : Nat → List β → Int → Int → Option (Int × List β)) (z : β) (F : Int → β → β) (c : Int) (n : Nat) (hn : n ≤ 4611686018427387904)
    (hstep : ∀ (k : Nat) (x : List β) (m : Int) (i : Nat), x.length = n → i < n → 0 ≤ m → m ≤ 1000000000000 → g (k + 1) x m (i : Int) = g k (x.set i (F m (x.getD i z))) (m + c) (wrap64 ((i : Int) + 1)))
    (hend : ∀ (k : Nat) (x : List β) (m : Int), x.length = n → g (k + 1) x m (n : Int) = some (m, x)) (hc : 0 ≤ c) :
    ∀ (d k i : Nat) (x : List β) (m : Int), d + i = n → x.length = n → d < k → 0 ≤ m → m + c * d ≤ 1000000000000 →
      ∃ y, g k x m (i : Int) = some (m + c * d, y) ∧ y.length = n ∧ (∀ j, j < i → y.getD j z = x.getD j z) ∧ ∀ j, i ≤ j → j < n → y.getD j z = F (m + c * (j - i : Nat)) (x.getD j z) := by
  intro d
  induction d with
  | zero =>
    intro k i x m hd hx hk h0 h1
    obtain ⟨k, rfl⟩ : ∃ q, k = q + 1 := ⟨k - 1, by omega⟩
    obtain rfl : i = n := by omega
    exact ⟨x, by rw [hend k x m hx]; simp, hx, fun j _ => rfl, fun j h2 h3 => by omega⟩
  | succ d ih =>
    intro k i x m hd hx hk h0 h1
    obtain ⟨k, rfl⟩ : ∃ q, k = q + 1 := ⟨k - 1, by omega⟩
    have hcd : 0 ≤ c * (d : Int) := Int.mul_nonneg hc (by omega)
    have e1 : c * ((d + 1 : Nat) : Int) = c * (d : Int) + c := by rw [show ((d + 1 : Nat) : Int) = (d : Int) + 1 from rfl, Int.mul_add, Int.mul_one]
    rw [e1] at h1
    rw [hstep k x m i hx (by omega) h0 (by omega), w1n i n (by omega) hn]
    obtain ⟨y, h2, h3, h4, h5⟩ := ih k (i + 1) (x.set i (F m (x.getD i z))) (m + c) (by omega) (by simpa using hx) (by omega) (by omega) (by omega)
    refine ⟨y, by rw [h2, e1]; congr 2; omega, h3, fun j hj => ?_, fun j hj hjn => ?_⟩
    · rw [h4 j (by omega)]
      simp only [List.getD_eq_getElem?_getD, List.getElem?_set]
      rw [if_neg (by omega)]
    · by_cases e : j = i
      · subst e
        rw [h4 j (by omega)]
        simp only [List.getD_eq_getElem?_getD, List.getElem?_set]
        rw [if_pos trivial, if_pos (by omega)]
        simp
      · rw [h5 j (by omega) hjn]
        have e2 : m + c + c * ((j - (i + 1) : Nat) : Int) = m + c * ((j - i : Nat) : Int) := by
          have : ((j - i : Nat) : Int) = ((j - (i + 1) : Nat) : Int) + 1 := by omega
          rw [this, Int.mul_add, Int.mul_one]
          omega
        rw [e2]
        congr 1
        simp only [List.getD_eq_getElem?_getD, List.getElem?_set]
        rw [if_neg (by omega)]
/-- A walk that counts up as it goes. -/
theorem holding {ρ : Type} (g : Nat → Int → Int → Option ρ) (n : Nat) (hn : n ≤ 4611686018427387904) (m c : Int) (r : ρ)
    (hstep : ∀ (k i : Nat), i < n → g (k + 1) (m + c * i) (i : Int) = g k (m + c * ((i + 1 : Nat) : Int)) (wrap64 ((i : Int) + 1))) (hend : ∀ k : Nat, g (k + 1) (m + c * n) (n : Int) = some r) :
    ∀ (d k i : Nat), d + i = n → d < k → g k (m + c * i) (i : Int) = some r := by
  intro d
  induction d with
  | zero =>
    intro k i hd hk
    obtain ⟨k, rfl⟩ : ∃ q, k = q + 1 := ⟨k - 1, by omega⟩
    obtain rfl : i = n := by omega
    exact hend k
  | succ d ih =>
    intro k i hd hk
    obtain ⟨k, rfl⟩ : ∃ q, k = q + 1 := ⟨k - 1, by omega⟩
    rw [hstep k i (by omega), w1n i n (by omega) hn]
    exact ih k (i + 1) (by omega) (by omega)

theorem map_id_of {α : Type} (l : List α) (f : α → α) (h : ∀ x, f x = x) : l.map f = l := by
  induction l with
  | nil => rfl
  | cons a l ih => rw [List.map_cons, h, ih]
end Go.Proofs.Ytfjdlggdnnghhaa.Lst
/- The plain statement that is left of the law FnExactTimesJoin, over numbers and lists. -/
namespace Go.Proofs.Ytfjdlggdnnghhaa.D1
open Go.RowKit Go.Proofs.YtfjdlggdnnghhaaW.PrintWords Go.Proofs.YtfjdlggdnnghhaaW.PrintLast
def Pure_FnExactTimesJoin : Prop := ∀ (a0_0 : Int) (a0_1 : Int) (a0_2 : Int) (a0_3 : Int) (a0_4 : Int) (l0_5 : List (Int)) (a1_0 : Int) (a1_1 : Int) (a1_2 : Int) (a1_3 : Int) (a1_4 : Int) (l1_5 : List (Int)), ((Lit.int .i64 a0_0).wf = true ∧ ((Lit.int .i64 a0_1).wf = true ∧ ((Lit.int .i64 a0_2).wf = true ∧ ((Lit.int .i64 a0_3).wf = true ∧ ((Lit.int .i64 a0_4).wf = true ∧ (l0_5.length ≤ maxLen ∧ ∀ q1 ∈ l0_5, (Lit.int .i64 q1).wf = true)))))) → ((Lit.int .i64 a1_0).wf = true ∧ ((Lit.int .i64 a1_1).wf = true ∧ ((Lit.int .i64 a1_2).wf = true ∧ ((Lit.int .i64 a1_3).wf = true ∧ ((Lit.int .i64 a1_4).wf = true ∧ (l1_5.length ≤ maxLen ∧ ∀ q2 ∈ l1_5, (Lit.int .i64 q2).wf = true)))))) → ∃ k, laws_FnExactTimesJoin.f k a0_0 a0_1 a0_2 a0_3 a0_4 l0_5 a1_0 a1_1 a1_2 a1_3 a1_4 l1_5 = some true
end Go.Proofs.Ytfjdlggdnnghhaa.D1
/- What is right of times, as the reference tells it and as the program does; copies, comparison and size of times. -/
namespace Go.Proofs.Ytfjdlggdnnghhaa.D1
open Go.RowKit Go.Proofs.Ytfjdlggdnnghhaa Go.Proofs.YtfjdlggdnnghhaaW.PrintWords Go.Proofs.YtfjdlggdnnghhaaW.PrintLast Go.Proofs.YtfjdlggdnnghhaaW.PrintMore
set_option linter.unusedVariables false
set_option linter.unusedSimpArgs false
theorem iw (n lo hi : Int) : impl_within.f n lo hi = some (decide (lo ≤ n ∧ n ≤ hi)) := by
  unfold impl_within.f; by_cases h : lo ≤ n <;> simp [h]
theorem sw (n lo hi : Int) : spec_l02Is.f n lo hi = some (decide (lo ≤ n ∧ n ≤ hi)) := by
  unfold spec_l02Is.f; by_cases h : n ≥ lo
  · rw [if_pos h]; congr 1; simp; omega
  · rw [if_neg h]; congr 1; simp; omega
theorem it (a : Int) : impl_isTime.f a = some (decide (0 ≤ a ∧ a ≤ 1000000)) := by
  unfold impl_isTime.f; simp only [iw, Option.bind_some]
theorem st (a : Int) : spec_l03Time.f a = some (decide (0 ≤ a ∧ a ≤ 1000000)) := by
  unfold spec_l03Time.f; simp only [sw, Option.bind_some]

theorem toI (l : List Int) (hl : l.length ≤ 1048576) (k : Nat) (hk : l.length < k) : laws_toInt64S.f k l = some l := by
  unfold laws_toInt64S.f
  rw [if_pos (by omega), if_pos (by omega)]
  have h := Lst.copy_all laws_toInt64S.l0 0 0 (fun x => x) l (by omega) ?_ ?_ k hk
  · rw [List.map_id'] at h
    exact h
  · intro k x i h1 h2
    simp only [laws_toInt64S.l0]
    rw [if_pos (by omega), if_pos (by omega), if_pos (by omega)]
    rfl
  · intro k x
    simp only [laws_toInt64S.l0]
    rw [if_neg (by omega)]
theorem eqI (l : List Int) (hl : l.length ≤ 1048576) (k : Nat) (hk : l.length < k) : laws_eqInt64S.f k l l = some true := by
  unfold laws_eqInt64S.f
  rw [if_pos rfl]
  refine Lst.along_all (fun k i => laws_eqInt64S.l0 k l l i) l.length (by omega) true ?_ ?_ k hk
  · intro k i h1
    simp only [laws_eqInt64S.l0]
    rw [if_pos (by omega), if_pos (by omega), if_pos (by omega), if_true]
  · intro k
    simp only [laws_eqInt64S.l0]
    rw [if_neg (by omega)]
theorem toT (a b c d e : Int) (l : List Int) (hl : l.length ≤ 1048576) (k : Nat) (hk : l.length < k) : laws_toTimes.f k a b c d e l = some (a, b, c, d, e, l) := by
  unfold laws_toTimes.f
  rw [toI l hl k hk]
  rfl
theorem eqT (a b c d e : Int) (l : List Int) (hl : l.length ≤ 1048576) (k : Nat) (hk : l.length < k) : laws_eqTimes.f k a b c d e l a b c d e l = some true := by
  unfold laws_eqTimes.f
  simp [eqI l hl k hk]
theorem szT (a b c d e : Int) (l : List Int) (hl : l.length ≤ maxLen) : laws_szTimes.f a b c d e l 1048576 = some (if l.length ≤ 1048576 then 1048576 - (l.length : Int) else -1) := by
  unfold laws_szTimes.f laws_szInt64S.f
  unfold maxLen at hl
  have e' : wrap64 (1048576 - (l.length : Int)) = 1048576 - (l.length : Int) := by unfold wrap64; omega
  rw [e']
  by_cases h : l.length ≤ 1048576
  · rw [if_neg (by omega)]
    simp only [Option.bind_some]
    rw [if_neg (by omega), if_pos h]
  · rw [if_pos (by omega)]
    simp only [Option.bind_some]
    rw [if_pos (by omega), if_neg h]
def T (x : Int) : Prop := 0 ≤ x ∧ x ≤ 1000000
instance (x : Int) : Decidable (T x) := by unfold T; infer_instance
/-- What is asked of times. -/
def tail (a b c d e : Int) : Bool := if b = 0 then decide (c = 0 ∧ d = 0 ∧ e = 0) else decide (b * c ≤ e ∧ e ≤ b * d)
def Ok (a b c d e : Int) (l : List Int) : Bool := decide (T a ∧ T b ∧ T c ∧ T d ∧ (0 ≤ e ∧ e ≤ 1000000000) ∧ b ≤ a ∧ l.length = 8 ∧ c ≤ d ∧ (∀ x ∈ l, T x) ∧ l.sum = b) && tail a b c d e
theorem mul_T (b c : Int) (hb : T b) (hc : T c) : wrap64 (b * c) = b * c := by
  have h0 : 0 ≤ b * c := Int.mul_nonneg hb.1 hc.1
  have h1 : b * c ≤ b * 1000000 := Int.mul_le_mul_of_nonneg_left hc.2 hb.1
  have h2 := hb.2
  unfold wrap64
  omega
theorem rd_nat (l : List Int) (i : Nat) (hi : i < l.length) : rd l (i : Int) = l[i] := by
  show l.getD i 0 = _
  rw [List.getD_eq_getElem?_getD, List.getElem?_eq_getElem hi]
  rfl
theorem bd_sum (l : List Int) (h : ∀ x ∈ l, T x) : 0 ≤ l.sum ∧ l.sum ≤ 1000000 * l.length := by
  induction l with
  | nil => simp
  | cons a l ih =>
    have h1 := ih (fun x hx => h x (List.mem_cons_of_mem _ hx))
    have h2 := h a List.mem_cons_self
    unfold T at h2
    rw [List.sum_cons, List.length_cons]
    omega
theorem all_drop (l : List Int) (i : Nat) (hi : i < l.length) : (∀ x ∈ l.drop i, T x) ↔ (T l[i] ∧ ∀ x ∈ l.drop (i + 1), T x) := by
  rw [List.drop_eq_getElem_cons hi]
  exact List.forall_mem_cons
theorem sum_drop (l : List Int) (i : Nat) (hi : i < l.length) : (l.drop i).sum = l[i] + (l.drop (i + 1)).sum := by
  rw [List.drop_eq_getElem_cons hi, List.sum_cons]
/-- The reference's loop over the counts. -/
theorem s_loop (a b c d e : Int) (l : List Int) (hb : T b) (hc : T c) (hd : T d) (hl : l.length = 8) : ∀ (n k i : Nat) (s : Int), n + i = 8 → n < k → 0 ≤ s → s ≤ 1000000 * i →
    spec_TimesRight.l0 k s (i : Int) a b c d e l = some (decide ((∀ x ∈ l.drop i, T x) ∧ s + (l.drop i).sum = b) && (if b = 0 then decide (d = 0 ∧ e = 0) else decide (b * c ≤ e ∧ e ≤ b * d))) := by
  intro n
  induction n with
  | zero =>
    intro k i s hn hk h0 h1
    obtain ⟨k, rfl⟩ : ∃ m, k = m + 1 := ⟨k - 1, by omega⟩
    obtain rfl : i = 8 := by omega
    have hz : l.drop 8 = [] := List.drop_of_length_le (by omega)
    rw [hz]
    simp only [spec_TimesRight.l0]
    rw [if_neg (by omega), mul_T b c hb hc, mul_T b d hb hd]
    by_cases q1 : s = b
    · rw [if_pos q1]
      by_cases q2 : b = 0
      · rw [if_pos q2]
        by_cases q3 : d = 0
        · simp [q1, q2, q3]
          rfl
        · simp [q1, q2, q3]
      · rw [if_neg q2]
        by_cases q3 : e ≥ b * c
        · simp [q1, q2, q3]
        · have q3' : ¬ b * c ≤ e := by omega
          simp [q1, q2, q3']
    · rw [if_neg q1]
      simp [q1]
  | succ n ih =>
    intro k i s hn hk h0 h1
    obtain ⟨k, rfl⟩ : ∃ m, k = m + 1 := ⟨k - 1, by omega⟩
    simp only [spec_TimesRight.l0]
    rw [if_pos (by omega), if_pos (by omega), if_pos (by omega), st, rd_nat l i (by omega)]
    simp only [Option.bind_some]
    by_cases hT : T l[i]
    · have hT' : 0 ≤ l[i] ∧ l[i] ≤ 1000000 := hT
      rw [if_pos (by simp [hT']), Lst.w1n i 8 (by omega) (by omega), Lst.wr (s + l[i]) (by omega) (by omega), ih k (i + 1) _ (by omega) (by omega) (by omega) (by omega)]
      have e1 : (∀ x ∈ l.drop i, T x) ↔ (∀ x ∈ l.drop (i + 1), T x) := by rw [all_drop l i (by omega)]; simp [hT]
      simp only [e1, sum_drop l i (by omega), Int.add_assoc]
    · have hT' : ¬ (0 ≤ l[i] ∧ l[i] ≤ 1000000) := hT
      rw [if_neg (by simpa using hT')]
      have e1 : ¬ (∀ x ∈ l.drop i, T x) := fun h => hT ((all_drop l i (by omega)).1 h).1
      simp [e1]
theorem s_right (a b c d e : Int) (l : List Int) (k : Nat) (hk : 20 < k) : spec_TimesRight.f k a b c d e l = some (Ok a b c d e l) := by
  obtain ⟨k, rfl⟩ : ∃ m, k = m + 1 := ⟨k - 1, by omega⟩
  have no : spec_TimesRight.j0 (k + 1) true a b c d e l = some false := by simp [spec_TimesRight.j0]
  unfold spec_TimesRight.f Ok
  simp only [st, sw, Option.bind_some, no]
  by_cases h1 : T a
  · by_cases h2 : T b
    · by_cases h3 : T c
      · by_cases h4 : T d
        · by_cases h5 : 0 ≤ e ∧ e ≤ 1000000000
          · by_cases h6 : b ≤ a
            · by_cases h7 : l.length = 8
              · by_cases h8 : c ≤ d
                · have g1 : 0 ≤ a ∧ a ≤ 1000000 := h1
                  have g2 : 0 ≤ b ∧ b ≤ 1000000 := h2
                  have g3 : 0 ≤ c ∧ c ≤ 1000000 := h3
                  have g4 : 0 ≤ d ∧ d ≤ 1000000 := h4
                  rw [if_pos (by simpa using g1), if_pos (by simpa using g2), if_pos (by simpa using g3), if_pos (by simpa using g4), if_pos (by simpa using h5), if_neg (by omega), if_pos (by omega)]
                  have hj : spec_TimesRight.j0 (k + 1) (decide (c > d)) a b c d e l = spec_TimesRight.l0 k 0 0 a b c d e l := by
                    have : decide (c > d) = false := by simp; omega
                    rw [this]
                    simp [spec_TimesRight.j0]
                  rw [hj, show (0 : Int) = ((0 : Nat) : Int) from rfl, s_loop a b c d e l h2 h3 h4 h7 8 k 0 _ (by omega) (by omega) (by omega) (by omega)]
                  have z : ((0 : Nat) : Int) + l.sum = l.sum := by omega
                  rw [List.drop_zero, z]
                  congr 1
                  unfold tail
                  by_cases q : b = 0
                  · rw [if_pos q, if_pos q, Bool.eq_iff_iff, Bool.and_eq_true, Bool.and_eq_true, decide_eq_true_eq, decide_eq_true_eq, decide_eq_true_eq, decide_eq_true_eq]
                    constructor
                    · rintro ⟨⟨x1, x2⟩, x3, x4⟩
                      exact ⟨⟨h1, h2, h3, h4, h5, h6, h7, h8, x1, x2⟩, by omega, x3, x4⟩
                    · rintro ⟨⟨_, _, _, _, _, _, _, _, x1, x2⟩, _, x3, x4⟩
                      exact ⟨⟨x1, x2⟩, x3, x4⟩
                  · rw [if_neg q, if_neg q, Bool.eq_iff_iff, Bool.and_eq_true, Bool.and_eq_true, decide_eq_true_eq, decide_eq_true_eq, decide_eq_true_eq]
                    constructor
                    · rintro ⟨⟨x1, x2⟩, x3⟩
                      exact ⟨⟨h1, h2, h3, h4, h5, h6, h7, h8, x1, x2⟩, x3⟩
                    · rintro ⟨⟨_, _, _, _, _, _, _, _, x1, x2⟩, x3⟩
                      exact ⟨⟨x1, x2⟩, x3⟩
                · have g1 : 0 ≤ a ∧ a ≤ 1000000 := h1
                  have g2 : 0 ≤ b ∧ b ≤ 1000000 := h2
                  have g3 : 0 ≤ c ∧ c ≤ 1000000 := h3
                  have g4 : 0 ≤ d ∧ d ≤ 1000000 := h4
                  rw [if_pos (by simpa using g1), if_pos (by simpa using g2), if_pos (by simpa using g3), if_pos (by simpa using g4), if_pos (by simpa using h5), if_neg (by omega), if_pos (by omega)]
                  have : decide (c > d) = true := by simp; omega
                  rw [this, no]
                  simp [h8]
              · simp only [h7]
                have h7' : ¬ (l.length : Int) = 8 := by omega
                simp [h7']
            · have h6' : b > a := by omega
              simp [h6, h6']
          · simp [h5]
        · have g4 : ¬ (0 ≤ d ∧ d ≤ 1000000) := h4
          simp [g4, h4]
      · have g4 : ¬ (0 ≤ c ∧ c ≤ 1000000) := h3
        simp [g4, h3]
    · have g4 : ¬ (0 ≤ b ∧ b ≤ 1000000) := h2
      simp [g4, h2]
  · have g4 : ¬ (0 ≤ a ∧ a ≤ 1000000) := h1
    simp [g4, h1]
/-- The program's end, behind its loops. -/
theorem i_end (a b c d e : Int) (l : List Int) (hb : T b) (hc : T c) (hd : T d) (k : Nat) : impl_TimesRight.j2 (k + 1) false a b c d e l = some (tail a b c d e) := by
  simp only [impl_TimesRight.j2, Bool.false_eq_true, if_false, iw, Option.bind_some, mul_T b c hb hc, mul_T b d hb hd, tail]
  by_cases q : b = 0
  · by_cases q2 : c = 0
    · by_cases q3 : d = 0
      · simp [q, q2, q3]
        rfl
      · simp [q, q2, q3]
    · simp [q, q2]
  · simp [q]
theorem i_loop1 (a b c d e : Int) (l : List Int) (ha : T a) (hb : T b) (hc : T c) (hd : T d) (hl : l.length ≤ 1048576) : ∀ (n k i : Nat) (s : Int), n + i = l.length → n + 2 < k → 0 ≤ s → s ≤ 1000000 * i →
    impl_TimesRight.l1 k s l (l.length : Int) (i : Int) a b c d e l = some (decide ((∀ x ∈ l.drop i, T x) ∧ s + (l.drop i).sum = b ∧ l.length = 8 ∧ b ≤ a ∧ c ≤ d ∧ 0 ≤ e ∧ e ≤ 1000000000) && tail a b c d e) := by
  intro n
  induction n with
  | zero =>
    intro k i s hn hk h0 h1
    obtain ⟨k, rfl⟩ : ∃ m, k = m + 2 := ⟨k - 2, by omega⟩
    obtain rfl : i = l.length := by omega
    have no : impl_TimesRight.j2 (k + 1) true a b c d e l = some false := by simp [impl_TimesRight.j2]
    have yes := i_end a b c d e l hb hc hd k
    have hz : l.drop l.length = [] := List.drop_of_length_le (by omega)
    rw [hz]
    simp only [impl_TimesRight.l1]
    rw [if_neg (by omega)]
    simp only [no, iw, Option.bind_some]
    by_cases q1 : l.length = 8
    · rw [if_pos (by omega)]
      by_cases q2 : s = b
      · rw [if_pos q2]
        by_cases q3 : b > a
        · rw [if_pos q3]
          have : ¬ b ≤ a := by omega
          simp [this]
        · rw [if_neg q3]
          by_cases q4 : c > d
          · rw [if_pos q4]
            have : ¬ c ≤ d := by omega
            simp [this]
          · rw [if_neg q4]
            by_cases q5 : 0 ≤ e ∧ e ≤ 1000000000
            · have q5' : decide (0 ≤ e ∧ e ≤ 1000000000) = true := decide_eq_true q5
              rw [q5', Bool.not_true, yes]
              have z1 : b ≤ a := by omega
              have z2 : c ≤ d := by omega
              simp [q1, q2, z1, z2, q5]
            · have q5' : decide (0 ≤ e ∧ e ≤ 1000000000) = false := decide_eq_false q5
              rw [q5', Bool.not_false, no]
              simp [q5]
      · rw [if_neg q2]
        simp [q2]
    · rw [if_neg (by omega)]
      simp [q1]
  | succ n ih =>
    intro k i s hn hk h0 h1
    obtain ⟨k, rfl⟩ : ∃ m, k = m + 1 := ⟨k - 1, by omega⟩
    simp only [impl_TimesRight.l1]
    rw [if_pos (by omega), if_pos (by omega), if_pos (by omega), it, rd_nat l i (by omega)]
    simp only [Option.bind_some]
    by_cases hT : T l[i]
    · have hT' : 0 ≤ l[i] ∧ l[i] ≤ 1000000 := hT
      rw [if_pos (by simp [hT']), Lst.w1n i l.length (by omega) (by omega), Lst.wr (s + l[i]) (by omega) (by omega), ih k (i + 1) _ (by omega) (by omega) (by omega) (by omega)]
      have e1 : (∀ x ∈ l.drop i, T x) ↔ (∀ x ∈ l.drop (i + 1), T x) := by rw [all_drop l i (by omega)]; simp [hT]
      simp only [e1, sum_drop l i (by omega), Int.add_assoc]
    · have hT' : ¬ (0 ≤ l[i] ∧ l[i] ≤ 1000000) := hT
      rw [if_neg (by simpa using hT')]
      have e1 : ¬ (∀ x ∈ l.drop i, T x) := fun h => hT ((all_drop l i (by omega)).1 h).1
      simp [e1]
theorem i_step (a b c d e : Int) (l : List Int) (k i : Nat) (hi : i < 4) (x : Int) (hx : rd [a, b, c, d] (i : Int) = x) : impl_TimesRight.l0 (k + 1) [a, b, c, d] 4 (i : Int) a b c d e l = if T x then impl_TimesRight.l0 k [a, b, c, d] 4 ((i + 1 : Nat) : Int) a b c d e l else some false := by
  have hl : (([a, b, c, d] : List Int).length : Int) = 4 := rfl
  simp only [impl_TimesRight.l0]
  rw [if_pos (by omega), if_pos (by omega), if_pos (by rw [hl]; omega), hx, it, Lst.w1n i 4 (by omega) (by omega)]
  simp only [Option.bind_some]
  by_cases h : T x
  · have h' : 0 ≤ x ∧ x ≤ 1000000 := h
    rw [if_pos (by simpa using h'), if_pos h]
  · have h' : ¬ (0 ≤ x ∧ x ≤ 1000000) := h
    rw [if_neg (by simpa using h'), if_neg h]
theorem i_right (a b c d e : Int) (l : List Int) (hl : l.length ≤ 1048576) (k : Nat) (hk : l.length + 20 < k) : impl_TimesRight.f k a b c d e l = some (Ok a b c d e l) := by
  obtain ⟨k, rfl⟩ : ∃ m, k = m + 5 := ⟨k - 5, by omega⟩
  unfold impl_TimesRight.f Ok
  simp only [Option.bind_some]
  rw [show (([a, b, c, d] : List Int).length : Int) = 4 from rfl, show (0 : Int) = ((0 : Nat) : Int) from rfl]
  rw [i_step a b c d e l (k + 4) 0 (by omega) a rfl]
  by_cases h1 : T a
  · rw [if_pos h1, i_step a b c d e l (k + 3) 1 (by omega) b rfl]
    by_cases h2 : T b
    · rw [if_pos h2, i_step a b c d e l (k + 2) 2 (by omega) c rfl]
      by_cases h3 : T c
      · rw [if_pos h3, i_step a b c d e l (k + 1) 3 (by omega) d rfl]
        by_cases h4 : T d
        · rw [if_pos h4]
          simp only [impl_TimesRight.l0]
          rw [if_neg (by omega), show (0 : Int) = ((0 : Nat) : Int) from rfl, i_loop1 a b c d e l h1 h2 h3 h4 hl l.length k 0 _ (by omega) (by omega) (by omega) (by omega)]
          simp only [List.drop_zero, h1, h2, h3, h4, true_and]
          congr 2
          congr 1
          apply propext
          have z : ((0 : Nat) : Int) + l.sum = l.sum := by omega
          rw [z]
          constructor
          · rintro ⟨y1, y2, y3, y4, y5, y6, y7⟩
            exact ⟨⟨y6, y7⟩, y4, y3, y5, y1, y2⟩
          · rintro ⟨⟨y6, y7⟩, y4, y3, y5, y1, y2⟩
            exact ⟨y1, y2, y3, y4, y5, y6, y7⟩
        · rw [if_neg h4]
          simp [h4]
      · rw [if_neg h3]
        simp [h3]
    · rw [if_neg h2]
      simp [h2]
  · rw [if_neg h1]
    simp [h1]
end Go.Proofs.Ytfjdlggdnnghhaa.D1
/- TimesJoin of the program and of the reference come to the same times. -/
namespace Go.Proofs.Ytfjdlggdnnghhaa.D1
open Go.RowKit Go.Proofs.Ytfjdlggdnnghhaa Go.Proofs.YtfjdlggdnnghhaaW.PrintWords Go.Proofs.YtfjdlggdnnghhaaW.PrintLast Go.Proofs.YtfjdlggdnnghhaaW.PrintMore
set_option linter.unusedVariables false
set_option linter.unusedSimpArgs false
theorem rd_nat' (l : List Int) (i : Nat) : rd l (i : Int) = l.getD i 0 := rfl
/-- The counts of both, place by place. -/
def addL (x y : List Int) : Nat → Nat → List Int
  | 0, _ => []
  | d + 1, i => wrap64 (rd x (i : Int) + rd y (i : Int)) :: addL x y d (i + 1)
theorem addL_len (x y : List Int) : ∀ d i, (addL x y d i).length = d := by
  intro d
  induction d with
  | zero => intro i; rfl
  | succ d ih => intro i; simp [addL, ih]
theorem s_add (x y : List Int) (hx : x.length = 8) (hy : y.length = 8) (a b c d e a' b' c' d' e' p q r s t : Int) : ∀ (n k i : Nat) (o : List Int), i + n = 8 → n < k → o.length ≤ i → spec_TimesJoin.l0 k (i : Int) a b c d e x a' b' c' d' e' y p q r s t o = some (p, q, r, s, t, o ++ addL x y n i) := by
  intro n
  induction n with
  | zero =>
    intro k i o hi hk ho
    obtain ⟨k, rfl⟩ : ∃ m, k = m + 1 := ⟨k - 1, by omega⟩
    simp only [spec_TimesJoin.l0]
    rw [if_neg (by omega)]
    simp [addL]
  | succ n ih =>
    intro k i o hi hk ho
    obtain ⟨k, rfl⟩ : ∃ m, k = m + 1 := ⟨k - 1, by omega⟩
    simp only [spec_TimesJoin.l0]
    rw [if_pos (by omega), if_pos (by omega), if_pos (by omega), if_pos (by omega), if_pos (by omega), Lst.w1n i 8 (by omega) (by omega), ih k (i + 1) _ (by omega) (by omega) (by simp; omega)]
    simp [addL]
theorem i_add (x y : List Int) (hx : x.length = 8) (hy : y.length = 8) (a' b' c' d' e' p q r s t : Int) : ∀ (n k i : Nat) (o : List Int), i + n = 8 → n < k → o.length ≤ i → impl_TimesJoin.l0 k x (x.length : Int) (i : Int) a' b' c' d' e' y p q r s t o = some (p, q, r, s, t, o ++ addL x y n i) := by
  intro n
  induction n with
  | zero =>
    intro k i o hi hk ho
    obtain ⟨k, rfl⟩ : ∃ m, k = m + 1 := ⟨k - 1, by omega⟩
    simp only [impl_TimesJoin.l0]
    rw [if_neg (by omega)]
    simp [addL]
  | succ n ih =>
    intro k i o hi hk ho
    obtain ⟨k, rfl⟩ : ∃ m, k = m + 1 := ⟨k - 1, by omega⟩
    simp only [impl_TimesJoin.l0]
    rw [if_pos (by omega), if_pos (by omega), if_pos (by omega), if_pos (by omega), if_pos (by omega), Lst.w1n i 8 (by omega) (by omega), ih k (i + 1) _ (by omega) (by omega) (by simp; omega)]
    simp [addL]
/-- Which least of two is taken. -/
def least (b c b' c' : Int) : Int := if b = 0 ∨ b' > 0 ∧ c' < c then c' else c
def joinR (a b c d e : Int) (x : List Int) (a' b' c' d' e' : Int) (y : List Int) : Int × Int × Int × Int × Int × List Int := if Ok a b c d e x = true ∧ Ok a' b' c' d' e' y = true then (wrap64 (a + a'), wrap64 (b + b'), least b c b' c', mx d d', wrap64 (e + e'), addL x y 8 0) else (0, 0, 0, 0, 0, [])
theorem max_is (a b : Int) : spec_l05Max.f a b = some (mx a b) := by
  unfold spec_l05Max.f mx
  by_cases h : a > b
  · rw [if_pos h, if_neg (by omega)]
  · rw [if_neg h]
    by_cases h2 : a < b
    · rw [if_pos h2]
    · rw [if_neg h2]; congr 1; omega
theorem ok_facts (a b c d e : Int) (x : List Int) (h : Ok a b c d e x = true) : x.length = 8 ∧ 0 ≤ b ∧ 0 ≤ c ∧ (b = 0 → c = 0) := by
  unfold Ok tail at h
  rw [Bool.and_eq_true, decide_eq_true_eq] at h
  obtain ⟨⟨_, h2, h3, _, _, _, h7, _⟩, ht⟩ := h
  have g2 : 0 ≤ b ∧ b ≤ 1000000 := h2
  have g3 : 0 ≤ c ∧ c ≤ 1000000 := h3
  refine ⟨h7, g2.1, g3.1, fun hb => ?_⟩
  rw [if_pos hb, decide_eq_true_eq] at ht
  exact ht.1
theorem join_spec (a b c d e : Int) (x : List Int) (a' b' c' d' e' : Int) (y : List Int) (k : Nat) (hk : 40 < k) : spec_TimesJoin.f k a b c d e x a' b' c' d' e' y = some (joinR a b c d e x a' b' c' d' e' y) := by
  obtain ⟨k, rfl⟩ : ∃ m, k = m + 1 + 1 + 1 := ⟨k - 3, by omega⟩
  unfold spec_TimesJoin.f joinR
  rw [s_right a b c d e x _ (by omega), s_right a' b' c' d' e' y _ (by omega)]
  simp only [Option.bind_some]
  by_cases h1 : Ok a b c d e x = true
  · rw [if_pos h1]
    by_cases h2 : Ok a' b' c' d' e' y = true
    · obtain ⟨x1, x2, x3, x4⟩ := ok_facts _ _ _ _ _ _ h1
      obtain ⟨y1, y2, y3, y4⟩ := ok_facts _ _ _ _ _ _ h2
      rw [if_pos ⟨h1, h2⟩, h2]
      simp only [spec_TimesJoin.j0, Bool.not_true, Bool.false_eq_true, if_false, max_is, Option.bind_some]
      have key : ∀ r, spec_TimesJoin.j2 (k + 1) a b c d e x a' b' c' d' e' y (wrap64 (a + a')) (wrap64 (b + b')) r (mx d d') (wrap64 (e + e')) = some (wrap64 (a + a'), wrap64 (b + b'), r, mx d d', wrap64 (e + e'), addL x y 8 0) := by
        intro r
        simp only [spec_TimesJoin.j2]
        rw [show (0 : Int) = ((0 : Nat) : Int) from rfl, s_add x y x1 y1 a b c d e a' b' c' d' e' _ _ _ _ _ 8 k 0 [] (by omega) (by omega) (by simp)]
        rfl
      simp only [spec_TimesJoin.j1, key]
      unfold least
      by_cases c1 : b = 0
      · rw [if_pos c1, if_pos True.intro, if_pos (Or.inl c1)]
      · rw [if_neg c1]
        by_cases c2 : b' > 0
        · rw [if_pos c2]
          by_cases c3 : c' < c
          · rw [if_pos (by simpa using c3), if_pos (Or.inr ⟨c2, c3⟩)]
          · rw [if_neg (by simpa using c3), if_neg (by rintro (h | h); exact c1 h; exact c3 h.2)]
        · rw [if_neg c2, if_neg (by simp), if_neg (by rintro (h | h); exact c1 h; exact c2 h.1)]
    · have h2' : Ok a' b' c' d' e' y = false := by simpa using h2
      rw [if_neg (fun h => h2 h.2), h2']
      simp only [spec_TimesJoin.j0]
      rfl
  · rw [if_neg h1, if_neg (fun h => h1 h.1)]
    simp only [spec_TimesJoin.j0]
    rfl
theorem join_impl (a b c d e : Int) (x : List Int) (a' b' c' d' e' : Int) (y : List Int) (hx : x.length ≤ 1048576) (hy : y.length ≤ 1048576) (k : Nat) (hk : x.length + y.length + 40 < k) : impl_TimesJoin.f k a b c d e x a' b' c' d' e' y = some (joinR a b c d e x a' b' c' d' e' y) := by
  obtain ⟨k, rfl⟩ : ∃ m, k = m + 1 + 1 + 1 := ⟨k - 3, by omega⟩
  unfold impl_TimesJoin.f joinR
  rw [i_right a b c d e x hx _ (by omega), i_right a' b' c' d' e' y hy _ (by omega)]
  simp only [Option.bind_some]
  by_cases h1 : Ok a b c d e x = true
  · rw [if_pos h1]
    by_cases h2 : Ok a' b' c' d' e' y = true
    · obtain ⟨x1, x2, x3, x4⟩ := ok_facts _ _ _ _ _ _ h1
      obtain ⟨y1, y2, y3, y4⟩ := ok_facts _ _ _ _ _ _ h2
      rw [if_pos ⟨h1, h2⟩, h2]
      simp only [impl_TimesJoin.j0, Bool.not_true, Bool.false_eq_true, if_false]
      have key : ∀ r, impl_TimesJoin.j2 (k + 1) a b c d e x a' b' c' d' e' y (wrap64 (a + a')) (wrap64 (b + b')) r (mx d d') (wrap64 (e + e')) = some (wrap64 (a + a'), wrap64 (b + b'), r, mx d d', wrap64 (e + e'), addL x y 8 0) := by
        intro r
        simp only [impl_TimesJoin.j2]
        rw [show (0 : Int) = ((0 : Nat) : Int) from rfl, i_add x y x1 y1 a' b' c' d' e' _ _ _ _ _ 8 k 0 [] (by omega) (by omega) (by simp)]
        rfl
      simp only [impl_TimesJoin.j1, key]
      have el : (if b = 0 then mx c c' else if b' = 0 then mx c c' else mn c c') = least b c b' c' := by
        unfold least mx mn
        by_cases c1 : b = 0
        · have := x4 c1
          rw [if_pos c1, if_pos (Or.inl c1)]
          split <;> omega
        · rw [if_neg c1]
          by_cases c2 : b' = 0
          · have := y4 c2
            rw [if_pos c2, if_neg (by omega)]
            split <;> omega
          · rw [if_neg c2]
            by_cases c3 : c' < c
            · rw [if_pos c3, if_pos (by omega)]
            · rw [if_neg c3, if_neg (by omega)]
      rw [← el]
      by_cases c1 : b = 0
      · rw [if_pos c1, if_pos True.intro, if_pos c1]
      · rw [if_neg c1, if_neg c1]
        by_cases c2 : b' = 0
        · rw [if_pos (by simpa using c2), if_pos c2]
        · rw [if_neg (by simpa using c2), if_neg c2]
    · have h2' : Ok a' b' c' d' e' y = false := by simpa using h2
      rw [if_neg (fun h => h2 h.2), h2']
      simp only [impl_TimesJoin.j0]
      rfl
  · rw [if_neg h1, if_neg (fun h => h1 h.1)]
    simp only [impl_TimesJoin.j0]
    rfl
theorem joinR_len (a b c d e : Int) (x : List Int) (a' b' c' d' e' : Int) (y : List Int) : (joinR a b c d e x a' b' c' d' e' y).2.2.2.2.2.length ≤ 8 := by
  unfold joinR
  split
  · show (addL x y 8 0).length ≤ 8
    rw [addL_len]
    exact Nat.le_refl _
  · simp
/-- What is marked is held. -/
theorem markI (l : List Int) (hl : l.length ≤ 1048576) (m : Int) (m0 : 0 ≤ m) (m1 : m ≤ 4194304) (k : Nat) (hk : l.length < k) : ∃ y : List Int, laws_markInt64S.f k l m = some (m + (l.length : Int), y) ∧ ∀ k, l.length < k → laws_heldInt64S.f k y m = some (m + (l.length : Int)) := by
  obtain ⟨y, h1, h2, _, h4⟩ := Lst.setting laws_markInt64S.l0 0 (fun m _ => m) 1 l.length (by omega) (by
      intro k x m i hx hi h0 h1
      simp only [laws_markInt64S.l0]
      rw [if_pos (by omega), if_pos (by omega), Lst.wr (m + 1) (by omega) (by omega)]
      rfl) (by
      intro k x m hx
      simp only [laws_markInt64S.l0]
      rw [if_neg (by omega)]) (by omega) l.length k 0 l m (by omega) rfl hk (by omega) (by omega)
  refine ⟨y, ?_, fun k hk => ?_⟩
  · unfold laws_markInt64S.f
    rw [show (0 : Int) = ((0 : Nat) : Int) from rfl, h1, Int.one_mul]
  · unfold laws_heldInt64S.f
    have := Lst.holding (fun k m i => laws_heldInt64S.l0 k y m i) l.length (by omega) m 1 (m + (l.length : Int)) (by
      intro k i hi
      simp only [laws_heldInt64S.l0]
      rw [if_pos (by omega), if_pos (by omega), rd_nat', h4 i (by omega) hi]
      simp only [Nat.sub_zero, if_true]
      rw [Lst.wr _ (by omega) (by omega)]
      congr 1
      omega) (by
      intro k
      simp only [laws_heldInt64S.l0]
      rw [if_neg (by omega), Int.one_mul]) l.length k 0 (by omega) hk
    simpa using this
theorem markT (a b c d e : Int) (l : List Int) (hl : l.length ≤ 1048576) (m : Int) (m0 : 0 ≤ m) (m1 : m ≤ 4194304) (k : Nat) (hk : l.length < k) : ∃ y : List Int, laws_markTimes.f k a b c d e l m = some (m + (l.length : Int), y) ∧ ∀ k a b c d e, l.length < k → laws_heldTimes.f k a b c d e y m = some (m + (l.length : Int)) := by
  obtain ⟨y, h1, h2⟩ := markI l hl m m0 m1 k hk
  refine ⟨y, ?_, fun k a b c d e hk => ?_⟩
  · unfold laws_markTimes.f
    rw [h1]
    rfl
  · unfold laws_heldTimes.f
    rw [h2 k hk]
    simp only [Option.bind_some]
    rw [if_neg (by omega)]
theorem szT2 (a b c d e : Int) (l : List Int) (hl : l.length ≤ maxLen) (n : Int) (n0 : 0 ≤ n) (n1 : n ≤ 1048576) : laws_szTimes.f a b c d e l n = some (if (l.length : Int) ≤ n then n - (l.length : Int) else -1) := by
  unfold laws_szTimes.f laws_szInt64S.f
  unfold maxLen at hl
  have e' : wrap64 (n - (l.length : Int)) = n - (l.length : Int) := by unfold wrap64; omega
  rw [e']
  by_cases h : (l.length : Int) ≤ n
  · rw [if_neg (by omega)]
    simp only [Option.bind_some]
    rw [if_neg (by omega), if_pos h]
  · rw [if_pos (by omega)]
    simp only [Option.bind_some]
    rw [if_pos (by omega), if_neg h]
theorem pure_TimesJoin : Pure_FnExactTimesJoin := by
  intro a b c d e x a' b' c' d' e' y h h'
  have hx := h.2.2.2.2.2.1
  have hy := h'.2.2.2.2.2.1
  by_cases hb : x.length ≤ 1048576
  · by_cases hb' : (y.length : Int) ≤ 1048576 - (x.length : Int)
    · have hyb : y.length ≤ 1048576 := by omega
      refine ⟨x.length + y.length + 1000 + 1, ?_⟩
      unfold laws_FnExactTimesJoin.f
      rw [szT a b c d e x hx]
      simp only [Option.bind_some, hb, if_true]
      rw [if_neg (by omega), szT2 a' b' c' d' e' y hy _ (by omega) (by omega)]
      simp only [Option.bind_some, hb', if_true]
      rw [if_neg (by omega), toT a b c d e x hb _ (by omega)]
      simp only [Option.bind_some]
      rw [toT a' b' c' d' e' y hyb _ (by omega)]
      simp only [Option.bind_some]
      rw [join_spec a b c d e x a' b' c' d' e' y _ (by omega)]
      simp only [Option.bind_some]
      rw [join_impl a b c d e x a' b' c' d' e' y hb hyb _ (by omega)]
      simp only [Option.bind_some]
      have hr := joinR_len a b c d e x a' b' c' d' e' y
      have hi : ∀ k, x.length + y.length + 40 < k → impl_TimesJoin.f k a b c d e x a' b' c' d' e' y = some (joinR a b c d e x a' b' c' d' e' y) := fun k hk => join_impl a b c d e x a' b' c' d' e' y hb hyb k hk
      generalize joinR a b c d e x a' b' c' d' e' y = r at hr hi
      have eqr : ∀ k, 8 < k → laws_eqTimes.f k r.1 r.2.1 r.2.2.1 r.2.2.2.1 r.2.2.2.2.1 r.2.2.2.2.2 r.1 r.2.1 r.2.2.1 r.2.2.2.1 r.2.2.2.2.1 r.2.2.2.2.2 = some true := fun k hk => eqT _ _ _ _ _ _ (by omega) k (by omega)
      rw [eqr _ (by omega)]
      simp only [Option.bind_some, if_true]
      rw [eqT a b c d e x hb _ (by omega)]
      simp only [Option.bind_some, if_true]
      rw [eqT a' b' c' d' e' y hyb _ (by omega)]
      simp only [Option.bind_some, if_true]
      obtain ⟨z1, hz1, _⟩ := markT a b c d e x hb 1 (by omega) (by omega) (x.length + y.length + 1000 + 1) (by omega)
      obtain ⟨z2, hz2, _⟩ := markT a' b' c' d' e' y hyb (1 + (x.length : Int)) (by omega) (by omega) (x.length + y.length + 1000 + 1) (by omega)
      rw [hz1]
      simp only [Option.bind_some]
      rw [hz2]
      simp only [Option.bind_some]
      rw [if_neg (by omega)]
      obtain ⟨z3, hz3, hz4⟩ := markT r.1 r.2.1 r.2.2.1 r.2.2.2.1 r.2.2.2.2.1 r.2.2.2.2.2 (by omega) 1 (by omega) (by omega) (x.length + y.length + 1000) (by omega)
      simp only [laws_FnExactTimesJoin.j0, Bool.not_true, Bool.false_eq_true, if_false]
      rw [hz3]
      simp only [Option.bind_some]
      rw [hz4 _ _ _ _ _ _ (by omega)]
      simp only [Option.bind_some, if_true]
      rw [if_neg (by omega), toT a b c d e x hb _ (by omega)]
      simp only [Option.bind_some]
      rw [toT a' b' c' d' e' y hyb _ (by omega)]
      simp only [Option.bind_some]
      rw [hi _ (by omega)]
      simp only [Option.bind_some]
      rw [eqr _ (by omega)]
      simp only [Option.bind_some, if_true]
      first
        | rw [if_neg (by omega)]
        | (rw [hz4 _ _ _ _ _ _ (by omega)]; simp only [Option.bind_some, if_true]; rw [if_neg (by omega)])
    · refine ⟨1, ?_⟩
      unfold laws_FnExactTimesJoin.f
      rw [szT a b c d e x hx]
      simp only [Option.bind_some, hb, if_true]
      rw [if_neg (by omega), szT2 a' b' c' d' e' y hy _ (by omega) (by omega)]
      simp [hb']
  · refine ⟨1, ?_⟩
    unfold laws_FnExactTimesJoin.f
    rw [szT a b c d e x hx]
    simp [hb]
end Go.Proofs.Ytfjdlggdnnghhaa.D1
namespace Go.Proofs.Ytfjdlggdnnghhaa.Pure
theorem FnExactTimesJoin : D1.Pure_FnExactTimesJoin := D1.pure_TimesJoin
end Go.Proofs.Ytfjdlggdnnghhaa.Pure
