/- Within of the program and of the reference: the least bound below which so many came. -/
import Derived.Test.YtglbjjpmokhaaaaSayFnExactWithin
import Derived.Test.YtglbjjpmokhaaaaLst
namespace Go.Proofs.Ytglbjjpmokhaaaa.PFnExactWithin
open Go.RowKit Go.Proofs.YtglbjjpmokhaaaaW.PrintWords Go.Proofs.YtglbjjpmokhaaaaW.PrintLast Go.Proofs.YtglbjjpmokhaaaaW.PrintMore
set_option linter.unusedVariables false
set_option linter.unusedSimpArgs false
theorem iw (n lo hi : Int) : impl_within.f n lo hi = some (decide (lo ≤ n ∧ n ≤ hi)) := by
  unfold impl_within.f; by_cases h : lo ≤ n <;> simp [h]
theorem sw (n lo hi : Int) : spec_l02Is.f n lo hi = some (decide (lo ≤ n ∧ n ≤ hi)) := by
  unfold spec_l02Is.f; by_cases h : n ≥ lo
  · rw [if_pos h]; congr 1; simp; omega
  · rw [if_neg h]; congr 1; simp; omega
theorem it (a : Int) : impl_isTime.f a = some (decide (0 ≤ a ∧ a ≤ 1000000)) := by
  unfold impl_isTime.f; simp only [iw, Option.bind_some]
theorem st (a : Int) : spec_l03Time.f a = some (decide (0 ≤ a ∧ a ≤ 1000000)) := by
  unfold spec_l03Time.f; simp only [sw, Option.bind_some]

theorem toI (l : List Int) (hl : l.length ≤ 1048576) (k : Nat) (hk : l.length < k) : laws_toInt64S.f k l = some l := by
  unfold laws_toInt64S.f
  rw [if_pos (by omega), if_pos (by omega)]
  have h := Lst.copy_all laws_toInt64S.l0 0 0 (fun x => x) l (by omega) ?_ ?_ k hk
  · rw [List.map_id'] at h
    exact h
  · intro k x i h1 h2
    simp only [laws_toInt64S.l0]
    rw [if_pos (by omega), if_pos (by omega), if_pos (by omega)]
    rfl
  · intro k x
    simp only [laws_toInt64S.l0]
    rw [if_neg (by omega)]
theorem eqI (l : List Int) (hl : l.length ≤ 1048576) (k : Nat) (hk : l.length < k) : laws_eqInt64S.f k l l = some true := by
  unfold laws_eqInt64S.f
  rw [if_pos rfl]
  refine Lst.along_all (fun k i => laws_eqInt64S.l0 k l l i) l.length (by omega) true ?_ ?_ k hk
  · intro k i h1
    simp only [laws_eqInt64S.l0]
    rw [if_pos (by omega), if_pos (by omega), if_pos (by omega), if_true]
  · intro k
    simp only [laws_eqInt64S.l0]
    rw [if_neg (by omega)]
theorem toT (a b c d e : Int) (l : List Int) (hl : l.length ≤ 1048576) (k : Nat) (hk : l.length < k) : laws_toTimes.f k a b c d e l = some (a, b, c, d, e, l) := by
  unfold laws_toTimes.f
  rw [toI l hl k hk]
  rfl
theorem eqT (a b c d e : Int) (l : List Int) (hl : l.length ≤ 1048576) (k : Nat) (hk : l.length < k) : laws_eqTimes.f k a b c d e l a b c d e l = some true := by
  unfold laws_eqTimes.f
  simp [eqI l hl k hk]
theorem szT (a b c d e : Int) (l : List Int) (hl : l.length ≤ maxLen) : laws_szTimes.f a b c d e l 1048576 = some (if l.length ≤ 1048576 then 1048576 - (l.length : Int) else -1) := by
  unfold laws_szTimes.f laws_szInt64S.f
  unfold maxLen at hl
  have e' : wrap64 (1048576 - (l.length : Int)) = 1048576 - (l.length : Int) := by unfold wrap64; omega
  rw [e']
  by_cases h : l.length ≤ 1048576
  · rw [if_neg (by omega)]
    simp only [Option.bind_some]
    rw [if_neg (by omega), if_pos h]
  · rw [if_pos (by omega)]
    simp only [Option.bind_some]
    rw [if_pos (by omega), if_neg h]
def T (x : Int) : Prop := 0 ≤ x ∧ x ≤ 1000000
instance (x : Int) : Decidable (T x) := by unfold T; infer_instance
/-- What is asked of times. -/
def tail (a b c d e : Int) : Bool := if b = 0 then decide (c = 0 ∧ d = 0 ∧ e = 0) else decide (b * c ≤ e ∧ e ≤ b * d)
def Ok (a b c d e : Int) (l : List Int) : Bool := decide (T a ∧ T b ∧ T c ∧ T d ∧ (0 ≤ e ∧ e ≤ 1000000000) ∧ b ≤ a ∧ l.length = 8 ∧ c ≤ d ∧ (∀ x ∈ l, T x) ∧ l.sum = b) && tail a b c d e
theorem mul_T (b c : Int) (hb : T b) (hc : T c) : wrap64 (b * c) = b * c := by
  have h0 : 0 ≤ b * c := Int.mul_nonneg hb.1 hc.1
  have h1 : b * c ≤ b * 1000000 := Int.mul_le_mul_of_nonneg_left hc.2 hb.1
  have h2 := hb.2
  unfold wrap64
  omega
theorem rd_nat (l : List Int) (i : Nat) (hi : i < l.length) : rd l (i : Int) = l[i] := by
  show l.getD i 0 = _
  rw [List.getD_eq_getElem?_getD, List.getElem?_eq_getElem hi]
  rfl
theorem bd_sum (l : List Int) (h : ∀ x ∈ l, T x) : 0 ≤ l.sum ∧ l.sum ≤ 1000000 * l.length := by
  induction l with
  | nil => simp
  | cons a l ih =>
    have h1 := ih (fun x hx => h x (List.mem_cons_of_mem _ hx))
    have h2 := h a List.mem_cons_self
    unfold T at h2
    rw [List.sum_cons, List.length_cons]
    omega
theorem all_drop (l : List Int) (i : Nat) (hi : i < l.length) : (∀ x ∈ l.drop i, T x) ↔ (T l[i] ∧ ∀ x ∈ l.drop (i + 1), T x) := by
  rw [List.drop_eq_getElem_cons hi]
  exact List.forall_mem_cons
theorem sum_drop (l : List Int) (i : Nat) (hi : i < l.length) : (l.drop i).sum = l[i] + (l.drop (i + 1)).sum := by
  rw [List.drop_eq_getElem_cons hi, List.sum_cons]
/-- The reference's loop over the counts. -/
theorem s_loop (a b c d e : Int) (l : List Int) (hb : T b) (hc : T c) (hd : T d) (hl : l.length = 8) : ∀ (n k i : Nat) (s : Int), n + i = 8 → n < k → 0 ≤ s → s ≤ 1000000 * i →
    spec_TimesRight.l0 k s (i : Int) a b c d e l = some (decide ((∀ x ∈ l.drop i, T x) ∧ s + (l.drop i).sum = b) && (if b = 0 then decide (d = 0 ∧ e = 0) else decide (b * c ≤ e ∧ e ≤ b * d))) := by
  intro n
  induction n with
  | zero =>
    intro k i s hn hk h0 h1
    obtain ⟨k, rfl⟩ : ∃ m, k = m + 1 := ⟨k - 1, by omega⟩
    obtain rfl : i = 8 := by omega
    have hz : l.drop 8 = [] := List.drop_of_length_le (by omega)
    rw [hz]
    simp only [spec_TimesRight.l0]
    rw [if_neg (by omega), mul_T b c hb hc, mul_T b d hb hd]
    by_cases q1 : s = b
    · rw [if_pos q1]
      by_cases q2 : b = 0
      · rw [if_pos q2]
        by_cases q3 : d = 0
        · simp [q1, q2, q3]
          rfl
        · simp [q1, q2, q3]
      · rw [if_neg q2]
        by_cases q3 : e ≥ b * c
        · simp [q1, q2, q3]
        · have q3' : ¬ b * c ≤ e := by omega
          simp [q1, q2, q3']
    · rw [if_neg q1]
      simp [q1]
  | succ n ih =>
    intro k i s hn hk h0 h1
    obtain ⟨k, rfl⟩ : ∃ m, k = m + 1 := ⟨k - 1, by omega⟩
    simp only [spec_TimesRight.l0]
    rw [if_pos (by omega), if_pos (by omega), if_pos (by omega), st, rd_nat l i (by omega)]
    simp only [Option.bind_some]
    by_cases hT : T l[i]
    · have hT' : 0 ≤ l[i] ∧ l[i] ≤ 1000000 := hT
      rw [if_pos (by simp [hT']), Lst.w1n i 8 (by omega) (by omega), Lst.wr (s + l[i]) (by omega) (by omega), ih k (i + 1) _ (by omega) (by omega) (by omega) (by omega)]
      have e1 : (∀ x ∈ l.drop i, T x) ↔ (∀ x ∈ l.drop (i + 1), T x) := by rw [all_drop l i (by omega)]; simp [hT]
      simp only [e1, sum_drop l i (by omega), Int.add_assoc]
    · have hT' : ¬ (0 ≤ l[i] ∧ l[i] ≤ 1000000) := hT
      rw [if_neg (by simpa using hT')]
      have e1 : ¬ (∀ x ∈ l.drop i, T x) := fun h => hT ((all_drop l i (by omega)).1 h).1
      simp [e1]
theorem s_right (a b c d e : Int) (l : List Int) (k : Nat) (hk : 20 < k) : spec_TimesRight.f k a b c d e l = some (Ok a b c d e l) := by
  obtain ⟨k, rfl⟩ : ∃ m, k = m + 1 := ⟨k - 1, by omega⟩
  have no : spec_TimesRight.j0 (k + 1) true a b c d e l = some false := by simp [spec_TimesRight.j0]
  unfold spec_TimesRight.f Ok
  simp only [st, sw, Option.bind_some, no]
  by_cases h1 : T a
  · by_cases h2 : T b
    · by_cases h3 : T c
      · by_cases h4 : T d
        · by_cases h5 : 0 ≤ e ∧ e ≤ 1000000000
          · by_cases h6 : b ≤ a
            · by_cases h7 : l.length = 8
              · by_cases h8 : c ≤ d
                · have g1 : 0 ≤ a ∧ a ≤ 1000000 := h1
                  have g2 : 0 ≤ b ∧ b ≤ 1000000 := h2
                  have g3 : 0 ≤ c ∧ c ≤ 1000000 := h3
                  have g4 : 0 ≤ d ∧ d ≤ 1000000 := h4
                  rw [if_pos (by simpa using g1), if_pos (by simpa using g2), if_pos (by simpa using g3), if_pos (by simpa using g4), if_pos (by simpa using h5), if_neg (by omega), if_pos (by omega)]
                  have hj : spec_TimesRight.j0 (k + 1) (decide (c > d)) a b c d e l = spec_TimesRight.l0 k 0 0 a b c d e l := by
                    have : decide (c > d) = false := by simp; omega
                    rw [this]
                    simp [spec_TimesRight.j0]
                  rw [hj, show (0 : Int) = ((0 : Nat) : Int) from rfl, s_loop a b c d e l h2 h3 h4 h7 8 k 0 _ (by omega) (by omega) (by omega) (by omega)]
                  have z : ((0 : Nat) : Int) + l.sum = l.sum := by omega
                  rw [List.drop_zero, z]
                  congr 1
                  unfold tail
                  by_cases q : b = 0
                  · rw [if_pos q, if_pos q, Bool.eq_iff_iff, Bool.and_eq_true, Bool.and_eq_true, decide_eq_true_eq, decide_eq_true_eq, decide_eq_true_eq, decide_eq_true_eq]
                    constructor
                    · rintro ⟨⟨x1, x2⟩, x3, x4⟩
                      exact ⟨⟨h1, h2, h3, h4, h5, h6, h7, h8, x1, x2⟩, by omega, x3, x4⟩
                    · rintro ⟨⟨_, _, _, _, _, _, _, _, x1, x2⟩, _, x3, x4⟩
                      exact ⟨⟨x1, x2⟩, x3, x4⟩
                  · rw [if_neg q, if_neg q, Bool.eq_iff_iff, Bool.and_eq_true, Bool.and_eq_true, decide_eq_true_eq, decide_eq_true_eq, decide_eq_true_eq]
                    constructor
                    · rintro ⟨⟨x1, x2⟩, x3⟩
                      exact ⟨⟨h1, h2, h3, h4, h5, h6, h7, h8, x1, x2⟩, x3⟩
                    · rintro ⟨⟨_, _, _, _, _, _, _, _, x1, x2⟩, x3⟩
                      exact ⟨⟨x1, x2⟩, x3⟩
                · have g1 : 0 ≤ a ∧ a ≤ 1000000 := h1
                  have g2 : 0 ≤ b ∧ b ≤ 1000000 := h2
                  have g3 : 0 ≤ c ∧ c ≤ 1000000 := h3
                  have g4 : 0 ≤ d ∧ d ≤ 1000000 := h4
                  rw [if_pos (by simpa using g1), if_pos (by simpa using g2), if_pos (by simpa using g3), if_pos (by simpa using g4), if_pos (by simpa using h5), if_neg (by omega), if_pos (by omega)]
                  have : decide (c > d) = true := by simp; omega
                  rw [this, no]
                  simp [h8]
              · simp only [h7]
                have h7' : ¬ (l.length : Int) = 8 := by omega
                simp [h7']
            · have h6' : b > a := by omega
              simp [h6, h6']
          · simp [h5]
        · have g4 : ¬ (0 ≤ d ∧ d ≤ 1000000) := h4
          simp [g4, h4]
      · have g4 : ¬ (0 ≤ c ∧ c ≤ 1000000) := h3
        simp [g4, h3]
    · have g4 : ¬ (0 ≤ b ∧ b ≤ 1000000) := h2
      simp [g4, h2]
  · have g4 : ¬ (0 ≤ a ∧ a ≤ 1000000) := h1
    simp [g4, h1]
/-- The program's end, behind its loops. -/
theorem i_end (a b c d e : Int) (l : List Int) (hb : T b) (hc : T c) (hd : T d) (k : Nat) : impl_TimesRight.j2 (k + 1) false a b c d e l = some (tail a b c d e) := by
  simp only [impl_TimesRight.j2, Bool.false_eq_true, if_false, iw, Option.bind_some, mul_T b c hb hc, mul_T b d hb hd, tail]
  by_cases q : b = 0
  · by_cases q2 : c = 0
    · by_cases q3 : d = 0
      · simp [q, q2, q3]
        rfl
      · simp [q, q2, q3]
    · simp [q, q2]
  · simp [q]
theorem i_loop1 (a b c d e : Int) (l : List Int) (ha : T a) (hb : T b) (hc : T c) (hd : T d) (hl : l.length ≤ 1048576) : ∀ (n k i : Nat) (s : Int), n + i = l.length → n + 2 < k → 0 ≤ s → s ≤ 1000000 * i →
    impl_TimesRight.l1 k s l (l.length : Int) (i : Int) a b c d e l = some (decide ((∀ x ∈ l.drop i, T x) ∧ s + (l.drop i).sum = b ∧ l.length = 8 ∧ b ≤ a ∧ c ≤ d ∧ 0 ≤ e ∧ e ≤ 1000000000) && tail a b c d e) := by
  intro n
  induction n with
  | zero =>
    intro k i s hn hk h0 h1
    obtain ⟨k, rfl⟩ : ∃ m, k = m + 2 := ⟨k - 2, by omega⟩
    obtain rfl : i = l.length := by omega
    have no : impl_TimesRight.j2 (k + 1) true a b c d e l = some false := by simp [impl_TimesRight.j2]
    have yes := i_end a b c d e l hb hc hd k
    have hz : l.drop l.length = [] := List.drop_of_length_le (by omega)
    rw [hz]
    simp only [impl_TimesRight.l1]
    rw [if_neg (by omega)]
    simp only [no, iw, Option.bind_some]
    by_cases q1 : l.length = 8
    · rw [if_pos (by omega)]
      by_cases q2 : s = b
      · rw [if_pos q2]
        by_cases q3 : b > a
        · rw [if_pos q3]
          have : ¬ b ≤ a := by omega
          simp [this]
        · rw [if_neg q3]
          by_cases q4 : c > d
          · rw [if_pos q4]
            have : ¬ c ≤ d := by omega
            simp [this]
          · rw [if_neg q4]
            by_cases q5 : 0 ≤ e ∧ e ≤ 1000000000
            · have q5' : decide (0 ≤ e ∧ e ≤ 1000000000) = true := decide_eq_true q5
              rw [q5', Bool.not_true, yes]
              have z1 : b ≤ a := by omega
              have z2 : c ≤ d := by omega
              simp [q1, q2, z1, z2, q5]
            · have q5' : decide (0 ≤ e ∧ e ≤ 1000000000) = false := decide_eq_false q5
              rw [q5', Bool.not_false, no]
              simp [q5]
      · rw [if_neg q2]
        simp [q2]
    · rw [if_neg (by omega)]
      simp [q1]
  | succ n ih =>
    intro k i s hn hk h0 h1
    obtain ⟨k, rfl⟩ : ∃ m, k = m + 1 := ⟨k - 1, by omega⟩
    simp only [impl_TimesRight.l1]
    rw [if_pos (by omega), if_pos (by omega), if_pos (by omega), it, rd_nat l i (by omega)]
    simp only [Option.bind_some]
    by_cases hT : T l[i]
    · have hT' : 0 ≤ l[i] ∧ l[i] ≤ 1000000 := hT
      rw [if_pos (by simp [hT']), Lst.w1n i l.length (by omega) (by omega), Lst.wr (s + l[i]) (by omega) (by omega), ih k (i + 1) _ (by omega) (by omega) (by omega) (by omega)]
      have e1 : (∀ x ∈ l.drop i, T x) ↔ (∀ x ∈ l.drop (i + 1), T x) := by rw [all_drop l i (by omega)]; simp [hT]
      simp only [e1, sum_drop l i (by omega), Int.add_assoc]
    · have hT' : ¬ (0 ≤ l[i] ∧ l[i] ≤ 1000000) := hT
      rw [if_neg (by simpa using hT')]
      have e1 : ¬ (∀ x ∈ l.drop i, T x) := fun h => hT ((all_drop l i (by omega)).1 h).1
      simp [e1]
theorem i_step (a b c d e : Int) (l : List Int) (k i : Nat) (hi : i < 4) (x : Int) (hx : rd [a, b, c, d] (i : Int) = x) : impl_TimesRight.l0 (k + 1) [a, b, c, d] 4 (i : Int) a b c d e l = if T x then impl_TimesRight.l0 k [a, b, c, d] 4 ((i + 1 : Nat) : Int) a b c d e l else some false := by
  have hl : (([a, b, c, d] : List Int).length : Int) = 4 := rfl
  simp only [impl_TimesRight.l0]
  rw [if_pos (by omega), if_pos (by omega), if_pos (by rw [hl]; omega), hx, it, Lst.w1n i 4 (by omega) (by omega)]
  simp only [Option.bind_some]
  by_cases h : T x
  · have h' : 0 ≤ x ∧ x ≤ 1000000 := h
    rw [if_pos (by simpa using h'), if_pos h]
  · have h' : ¬ (0 ≤ x ∧ x ≤ 1000000) := h
    rw [if_neg (by simpa using h'), if_neg h]
theorem i_right (a b c d e : Int) (l : List Int) (hl : l.length ≤ 1048576) (k : Nat) (hk : l.length + 20 < k) : impl_TimesRight.f k a b c d e l = some (Ok a b c d e l) := by
  obtain ⟨k, rfl⟩ : ∃ m, k = m + 5 := ⟨k - 5, by omega⟩
  unfold impl_TimesRight.f Ok
  simp only [Option.bind_some]
  rw [show (([a, b, c, d] : List Int).length : Int) = 4 from rfl, show (0 : Int) = ((0 : Nat) : Int) from rfl]
  rw [i_step a b c d e l (k + 4) 0 (by omega) a rfl]
  by_cases h1 : T a
  · rw [if_pos h1, i_step a b c d e l (k + 3) 1 (by omega) b rfl]
    by_cases h2 : T b
    · rw [if_pos h2, i_step a b c d e l (k + 2) 2 (by omega) c rfl]
      by_cases h3 : T c
      · rw [if_pos h3, i_step a b c d e l (k + 1) 3 (by omega) d rfl]
        by_cases h4 : T d
        · rw [if_pos h4]
          simp only [impl_TimesRight.l0]
          rw [if_neg (by omega), show (0 : Int) = ((0 : Nat) : Int) from rfl, i_loop1 a b c d e l h1 h2 h3 h4 hl l.length k 0 _ (by omega) (by omega) (by omega) (by omega)]
          simp only [List.drop_zero, h1, h2, h3, h4, true_and]
          congr 2
          congr 1
          apply propext
          have z : ((0 : Nat) : Int) + l.sum = l.sum := by omega
          rw [z]
          constructor
          · rintro ⟨y1, y2, y3, y4, y5, y6, y7⟩
            exact ⟨⟨y6, y7⟩, y4, y3, y5, y1, y2⟩
          · rintro ⟨⟨y6, y7⟩, y4, y3, y5, y1, y2⟩
            exact ⟨y1, y2, y3, y4, y5, y6, y7⟩
        · rw [if_neg h4]
          simp [h4]
      · rw [if_neg h3]
        simp [h3]
    · rw [if_neg h2]
      simp [h2]
  · rw [if_neg h1]
    simp [h1]

theorem both (p a b c d e : Int) (l : List Int) (hl : l.length = 8) (hsum : l.sum = b) (hall : ∀ x ∈ l, T x) (hb : T b) (hp : 1 ≤ p ∧ p ≤ 100) (hp' : p ≤ 100) : ∀ (n k i : Nat) (s : Int), n + i = 8 → n + 2 < k → 0 ≤ s → s + (l.drop i).sum = b → i ≤ 7 →
    ∃ r, spec_Within.l0 k p s (i : Int) a b c d e l = some r ∧ impl_Within.l0 k p s l (l.length : Int) (i : Int) a b c d e l = some r := by
  have hb1 := hb.1
  have hb2 := hb.2
  have pb : 0 ≤ p * b := Int.mul_nonneg (by omega) hb1
  have pb2 : p * b ≤ 100 * b := Int.mul_le_mul_of_nonneg_right hp.2 hb1
  have ew : wrap64 (p * b) = p * b := Lst.wr _ (by omega) (by omega)
  intro n
  induction n with
  | zero => intro k i s hn; omega
  | succ n ih =>
    intro k i s hn hk h0 h1 h7
    obtain ⟨k, rfl⟩ : ∃ m, k = m + 1 := ⟨k - 1, by omega⟩
    have hT : T l[i] := hall _ (List.getElem_mem _)
    have hT' : 0 ≤ l[i] ∧ l[i] ≤ 1000000 := hT
    have hd := sum_drop l i (by omega)
    have hr := bd_sum (l.drop (i + 1)) (fun x hx => hall x (List.mem_of_mem_drop hx))
    have es : wrap64 (s + l[i]) = s + l[i] := Lst.wr _ (by omega) (by omega)
    have e1 : wrap64 ((s + l[i]) * 100) = 100 * (s + l[i]) := by rw [Lst.wr _ (by omega) (by omega)]; omega
    have e2 : wrap64 (100 * (s + l[i])) = 100 * (s + l[i]) := Lst.wr _ (by omega) (by omega)
    by_cases h6 : i = 7
    · subst h6
      have hz : l.drop 8 = [] := List.drop_of_length_le (by omega)
      rw [hz] at hd
      have hq : s + l[7] = b := by simp at hd; omega
      refine ⟨128, ?_, ?_⟩
      · simp only [spec_Within.l0]
        rw [if_neg (by omega)]
      · simp only [impl_Within.l0]
        rw [if_pos (by omega), if_pos (by omega), if_pos (by omega), rd_nat l 7 (by omega), es, e2, ew, hq, if_pos (by omega)]
        congr 1
    · by_cases hc : 100 * (s + l[i]) ≥ p * b
      · refine ⟨shl .i64 1 (i : Int), ?_, ?_⟩
        · simp only [spec_Within.l0]
          rw [if_pos (by omega), if_pos (by omega), if_pos (by omega), rd_nat l i (by omega), es, e1, ew, if_pos hc]
        · simp only [impl_Within.l0]
          rw [if_pos (by omega), if_pos (by omega), if_pos (by omega), rd_nat l i (by omega), es, e2, ew, if_pos hc]
      · obtain ⟨r, g1, g2⟩ := ih k (i + 1) (s + l[i]) (by omega) (by omega) (by omega) (by omega) (by omega)
        refine ⟨r, ?_, ?_⟩
        · simp only [spec_Within.l0]
          rw [if_pos (by omega), if_pos (by omega), if_pos (by omega), rd_nat l i (by omega), es, e1, ew, if_neg hc, Lst.w1n i 8 (by omega) (by omega)]
          exact g1
        · simp only [impl_Within.l0]
          rw [if_pos (by omega), if_pos (by omega), if_pos (by omega), rd_nat l i (by omega), es, e2, ew, if_neg hc, Lst.w1n i 8 (by omega) (by omega)]
          exact g2
theorem within_eq (a b c d e : Int) (l : List Int) (p : Int) (hl : l.length ≤ 1048576) (k : Nat) (hk : l.length + 100 < k) : ∃ r, spec_Within.f k a b c d e l p = some r ∧ impl_Within.f k a b c d e l p = some r := by
  obtain ⟨k, rfl⟩ : ∃ m, k = m + 1 := ⟨k - 1, by omega⟩
  have n1 : spec_Within.j0 (k + 1) p true a b c d e l = some (-1) := by simp [spec_Within.j0]
  have n2 : impl_Within.j0 (k + 1) p true a b c d e l = some (-1) := by simp [impl_Within.j0]
  unfold spec_Within.f impl_Within.f
  rw [s_right a b c d e l _ (by omega), i_right a b c d e l hl _ (by omega)]
  simp only [Option.bind_some, sw, iw, n1, n2]
  by_cases h : Ok a b c d e l = true
  · rw [if_pos h, if_pos h]
    by_cases hp : 1 ≤ p ∧ p ≤ 100
    · have hp' : (!decide (1 ≤ p ∧ p ≤ 100)) = false := by simp [hp]
      rw [hp']
      simp only [spec_Within.j0, impl_Within.j0, Bool.false_eq_true, if_false]
      by_cases q : b = 0
      · rw [if_pos q, if_pos q]
        exact ⟨_, rfl, rfl⟩
      · rw [if_neg q, if_neg q]
        unfold Ok at h
        rw [Bool.and_eq_true] at h
        obtain ⟨_, g2, _, _, _, _, g7, _, g9, g10⟩ := of_decide_eq_true h.1
        exact both p a b c d e l g7 g10 g9 g2 hp hp.2 8 k 0 0 (by omega) (by omega) (by omega) (by simpa using g10) (by omega)
    · have hp' : (!decide (1 ≤ p ∧ p ≤ 100)) = true := by simp only [hp, decide_false, Bool.not_false]
      rw [hp', n1, n2]
      exact ⟨_, rfl, rfl⟩
  · rw [if_neg h, if_neg h]
    exact ⟨_, rfl, rfl⟩
theorem pure : Pure_FnExactWithin := by
  intro a b c d e l p h _
  have hm := h.2.2.2.2.2.1
  by_cases hb : l.length ≤ 1048576
  · refine ⟨l.length + 1000, ?_⟩
    unfold laws_FnExactWithin.f
    rw [szT a b c d e l hm]
    simp only [Option.bind_some, hb, if_true]
    rw [if_neg (by omega), toT a b c d e l hb _ (by omega)]
    simp only [Option.bind_some]
    obtain ⟨r, g1, g2⟩ := within_eq a b c d e l p hb (l.length + 1000) (by omega)
    rw [g1, g2]
    simp only [Option.bind_some, if_true]
    rw [eqT a b c d e l hb _ (by omega)]
    rfl
  · refine ⟨1, ?_⟩
    unfold laws_FnExactWithin.f
    rw [szT a b c d e l hm]
    simp [hb]

end Go.Proofs.Ytglbjjpmokhaaaa.PFnExactWithin
namespace Go.Proofs.Ytglbjjpmokhaaaa.Pure
theorem FnExactWithin : PFnExactWithin.Pure_FnExactWithin := PFnExactWithin.pure
end Go.Proofs.Ytglbjjpmokhaaaa.Pure
