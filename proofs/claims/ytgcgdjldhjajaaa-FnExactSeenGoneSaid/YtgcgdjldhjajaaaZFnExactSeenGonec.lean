-- Merged by bundle.py out of 20 printed and hand-written texts of this claim.
import Derived.Test.YtgcgdjldhjajaaaZFnExactSeenGonea
import Derived.Test.YtgcgdjldhjajaaaZFnExactSeenGoneb
import Derived.RowKit
namespace Go.Proofs.Ytgcgdjldhjajaaa.A
open Go.RowKit Go.Proofs.YtgcgdjldhjajaaaW.PrintWords Go.Proofs.YtgcgdjldhjajaaaW.PrintLast Go.Proofs.YtgcgdjldhjajaaaW.PrintMore
attribute [local go_sem] max2_int min2_int max_two min_two max_three min_three max_four min_four   -- for this text's walks alone
set_option linter.unusedVariables false
set_option linter.unusedSimpArgs false

/-! ### impl_SetPut: function 124, by hand -/
/-- A row of numbers that rise. -/
def Rising (l : List Int) : Prop := l.Pairwise (· < ·)
/-- How many are less. -/
def lowOf (l : List Int) (n : Int) : Nat := (l.filter fun x => decide (x < n)).length
/-- A rising row with a number. -/
def setIns (l : List Int) (n : Int) : List Int := if l.contains n = true then l else putAt l (lowOf l n) n
theorem rd_nat (l : List Int) (i : Nat) (h : i < l.length) : rd l (i : Int) = l[i] := by
  show l.getD i 0 = _
  rw [List.getD_eq_getElem?_getD, List.getElem?_eq_getElem h]; rfl
theorem lowOf_eq (l : List Int) (n : Int) (i : Nat) (hi : i ≤ l.length) (h1 : ∀ t (h : t < l.length), t < i → l[t] < n) (h2 : ∀ t (h : t < l.length), i ≤ t → n ≤ l[t]) : lowOf l n = i := by
  unfold lowOf
  rw [← List.take_append_drop i l, List.filter_append]
  have e1 : (l.take i).filter (fun x => decide (x < n)) = l.take i := by
    rw [List.filter_eq_self]
    intro x hx
    obtain ⟨t, ht, rfl⟩ := List.getElem_of_mem hx
    simp only [List.length_take] at ht
    rw [List.getElem_take]
    simpa using h1 t (by omega) (by omega)
  have e2 : (l.drop i).filter (fun x => decide (x < n)) = [] := by
    rw [List.filter_eq_nil_iff]
    intro x hx
    obtain ⟨t, ht, rfl⟩ := List.getElem_of_mem hx
    simp only [List.length_drop] at ht
    rw [List.getElem_drop]
    have := h2 (i + t) (by omega) (by omega)
    simp; omega
  rw [e1, e2, List.append_nil, List.length_take]
  omega
theorem isNaN_some (x : Int) : slices_isNaN_int64.f x = some false := by unfold slices_isNaN_int64.f; simp
theorem cNaN_some (x : Int) : cmp_isNaN_int64.f x = some false := by unfold cmp_isNaN_int64.f; simp
theorem less_some (x y : Int) : cmp_Less_int64.f x y = some (decide (x < y)) := by unfold cmp_Less_int64.f; rw [cNaN_some]; rfl
theorem succ_is (m : Nat) (h : m < 1000000) : wrap64 ((m : Int) + 1) = ((m + 1 : Nat) : Int) := by unfold wrap64; omega
theorem pred_is (m : Nat) (h0 : 1 ≤ m) (h : m < 1000000) : wrap64 ((m : Int) - 1) = ((m - 1 : Nat) : Int) := by unfold wrap64; omega
theorem mid_is (i j : Nat) (h : i + j < 2000000) : wrap64 ((IntKind.u64.wrap (wrap64 ((i : Int) + (j : Int)))) / 2) = (((i + j) / 2 : Nat) : Int) := by
  have e1 : wrap64 ((i : Int) + (j : Int)) = (i : Int) + (j : Int) := by unfold wrap64; omega
  have e2 : IntKind.u64.wrap ((i : Int) + (j : Int)) = (i : Int) + (j : Int) := by
    show ((i : Int) + (j : Int)) % 18446744073709551616 = _
    omega
  rw [e1, e2]
  unfold wrap64
  omega
theorem search_loop (l : List Int) (n : Int) (hL : l.length < 1000000) (hr : Rising l) (d : Nat) : ∀ (k i j : Nat), j - i ≤ d → d < k → i ≤ j → j ≤ l.length →
    (∀ t (h : t < l.length), t < i → l[t] < n) → (∀ t (h : t < l.length), j ≤ t → n ≤ l[t]) →
    slices_BinarySearch_int64_int64.l0 k l n (l.length : Int) (i : Int) (j : Int) = some ((lowOf l n : Int), l.contains n) := by
  induction d with
  | zero =>
    intro k i j hd hk hij hj h1 h2
    obtain ⟨k, rfl⟩ : ∃ m, k = m + 1 := ⟨k - 1, by omega⟩
    obtain rfl : i = j := by omega
    have hlow := lowOf_eq l n i hj h1 h2
    simp only [slices_BinarySearch_int64_int64.l0]
    rw [if_neg (by omega), hlow]
    by_cases hlt : i < l.length
    · rw [if_pos (by omega), if_pos (by omega), if_pos (by omega), rd_nat l i hlt]
      by_cases he : l[i] = n
      · rw [if_pos he]
        have : l.contains n = true := by rw [List.contains_iff_mem, ← he]; exact List.getElem_mem hlt
        rw [this]
      · rw [if_neg he, isNaN_some]
        simp only [Option.bind_some, Bool.false_eq_true, if_false]
        have : l.contains n = false := by
          rw [Bool.eq_false_iff]
          intro hc
          rw [List.contains_iff_mem] at hc
          obtain ⟨t, ht, e⟩ := List.getElem_of_mem hc
          rcases Nat.lt_trichotomy t i with h | h | h
          · have := h1 t ht h; omega
          · subst h; exact he e
          · have h3 := h2 i hlt (Nat.le_refl _)
            have h4 := List.pairwise_iff_getElem.1 hr i t hlt ht h
            omega
        rw [this]
    · rw [if_neg (by omega)]
      have : l.contains n = false := by
        rw [Bool.eq_false_iff]
        intro hc
        rw [List.contains_iff_mem] at hc
        obtain ⟨t, ht, e⟩ := List.getElem_of_mem hc
        have := h1 t ht (by omega); omega
      rw [this]
  | succ d ih =>
    intro k i j hd hk hij hj h1 h2
    by_cases he : i = j
    · exact ih k i j (by omega) (by omega) hij hj h1 h2
    obtain ⟨k, rfl⟩ : ∃ m, k = m + 1 := ⟨k - 1, by omega⟩
    have hm := mid_is i j (by omega)
    obtain ⟨m, hmd⟩ : ∃ m, m = (i + j) / 2 := ⟨_, rfl⟩
    rw [← hmd] at hm
    have hm1 : i ≤ m := by omega
    have hm2 : m < j := by omega
    have hmlt : m < l.length := by omega
    clear hmd
    simp only [slices_BinarySearch_int64_int64.l0]
    rw [if_pos (by omega), hm, if_pos (by omega), if_pos (by omega), rd_nat l _ hmlt, less_some]
    simp only [Option.bind_some]
    have e3 := succ_is m (by omega)
    by_cases hc : l[m] < n
    · rw [if_pos (by simpa using hc), e3]
      clear e3 hm
      refine ih k _ j (by omega) (by omega) (by omega) hj (fun t ht hlt => ?_) h2
      by_cases h : t = m
      · subst h; exact hc
      · have := List.pairwise_iff_getElem.1 hr t m ht hmlt (by omega)
        omega
    · rw [if_neg (by simpa using hc)]
      clear e3 hm
      refine ih k i _ (by omega) (by omega) (by omega) (by omega) h1 (fun t ht hle => ?_)
      by_cases h : t = m
      · subst h; omega
      · have := List.pairwise_iff_getElem.1 hr m t hmlt ht (by omega)
        omega
theorem search_is (l : List Int) (n : Int) (hL : l.length < 1000000) (hr : Rising l) : slices_BinarySearch_int64_int64.f (l.length + 1) l n = some ((lowOf l n : Int), l.contains n) :=
  search_loop l n hL hr l.length (l.length + 1) 0 l.length (by omega) (by omega) (by omega) (by omega) (fun t _ h => absurd h (Nat.not_lt_zero _)) (fun t h h2 => by omega)
theorem right_loop (l : List Int) (hL : l.length ≤ 400) (hr : Rising l) (d : Nat) : ∀ (k i : Nat), l.length - i ≤ d → d < k → 1 ≤ i → impl_SetRight.l0 k l (i : Int) = some true := by
  induction d with
  | zero =>
    intro k i hd hk h1
    obtain ⟨k, rfl⟩ : ∃ m, k = m + 1 := ⟨k - 1, by omega⟩
    simp only [impl_SetRight.l0]
    rw [if_neg (by omega)]
    unfold impl_longList_int64.f
    simp
    omega
  | succ d ih =>
    intro k i hd hk h1
    by_cases hlt : i < l.length
    · obtain ⟨k, rfl⟩ : ∃ m, k = m + 1 := ⟨k - 1, by omega⟩
      have e1 := pred_is i h1 (by omega)
      have e2 := succ_is i (by omega)
      simp only [impl_SetRight.l0]
      rw [if_pos (by omega), if_pos (by omega), e1, if_pos (by omega), if_pos (by omega), rd_nat l i hlt, rd_nat l (i - 1) (by omega), if_neg, e2]
      · exact ih k (i + 1) (by omega) (by omega) (by omega)
      · have := List.pairwise_iff_getElem.1 hr (i - 1) i (by omega) hlt (by omega)
        omega
    · exact ih k i (by omega) (by omega) h1
theorem right_is (l : List Int) (hL : l.length ≤ 400) (hr : Rising l) : impl_SetRight.f (l.length + 1) l = some true :=
  right_loop l hL hr l.length (l.length + 1) 1 (by omega) (by omega) (by omega)
theorem lowOf_le (l : List Int) (n : Int) : lowOf l n ≤ l.length := List.length_filter_le _ _
/-- The way to append what a walk has left behind it to what is below. -/
theorem below_grown_from {w W W' : World} {v : Value} (h : Below w.heap.size w W) (hg : W.grownBy W' v.ownBlock) (hv : ∀ k, v.ownBlock = some k → w.heap.size ≤ k) : Below w.heap.size w W' := h.grown hg h.size hv
set_option maxHeartbeats 4000000 in
set_option maxRecDepth 100000 in
theorem setPut (A0 : Option Addr) (c0 : Nat) (l0 : List Int) (n : Int) (w : World) (hr0 : Kd.C (Kd.int .i64) w A0 l0.length l0) (hc0 : l0.length ≤ c0) (hr : Rising l0) (hL : l0.length < 400) :
    Calls Try.prog 124 #[.slice A0 l0.length c0, .int .i64 n] w fun e w' => ∃ v : Value, e = .returned v ∧ Kd.R (Kd.int .i64) 2 w' w.heap.size (fun _ => True) v (setIns l0 n) ∧ Below w.heap.size w w' := by
  have HLL : ∀ W, Below w.heap.size w W → Aside0 (Calls Try.prog 127 #[.slice A0 l0.length c0] W fun e w' => e = .returned (.bool false) ∧ Drawn0 W w') := fun W hb => ⟨impl_longList_int64.calls A0 c0 l0 false W (Kd.C_below hr0 hb) hc0 (by unfold impl_longList_int64.f; simp; omega)⟩
  have HBS : ∀ W, Below w.heap.size w W → Aside0 (Calls Try.prog 128 #[.slice A0 l0.length c0, .int .i64 n] W fun e w' => e = .returned (.tuple #[.int .i64 (lowOf l0 n : Int), .bool (l0.contains n)]) ∧ Drawn0 W w') := fun W hb => ⟨slices_BinarySearch_int64_int64.calls (l0.length + 1) A0 c0 l0 n _ _ W (Kd.C_below hr0 hb) hc0 (search_is l0 n (by omega) hr)⟩
  have HSR : ∀ W, Below w.heap.size w W → Aside0 (Calls Try.prog 129 #[.slice A0 l0.length c0] W fun e w' => e = .returned (.bool true) ∧ Drawn0 W w') := fun W hb => ⟨impl_SetRight.calls (l0.length + 1) A0 c0 l0 true W (Kd.C_below hr0 hb) hc0 (right_is l0 (by omega) hr)⟩
  have HCL : ∀ W, Below w.heap.size w W → Aside0 (Calls Try.prog 130 #[.slice A0 l0.length c0] W fun e w' => ∃ v0_ : Value, e = .returned (v0_) ∧ Kd.R (Kd.int .i64) 2 w' W.heap.size (fun _ => True) v0_ l0 ∧ Below W.heap.size W w') := fun W hb => ⟨slices_Clone_int64_int64.calls A0 c0 l0 l0 W (Kd.C_below hr0 hb) hc0 (by unfold slices_Clone_int64_int64.f; rw [if_pos (by omega)])⟩
  have HLO := Aside0.mk (lowOf_le l0 n)
  obtain ⟨lo, hlo⟩ : ∃ lo, lo = lowOf l0 n := ⟨_, rfl⟩
  have hset : setIns l0 n = if l0.contains n = true then l0 else putAt l0 lo n := by unfold setIns; rw [hlo]
  rw [← hlo] at HBS HLO
  rw [hset]
  clear hset hlo hr0 hr
  have HL := Aside0.mk hL
  have hne : ¬ ((l0.length : Int) = 400) := by omega
  have hnb : decide ((l0.length : Int) = 400) = false := by simpa using hne
  generalize l0.contains n = b at HBS ⊢
  cases b
  case true =>
    rw [if_pos rfl]
    go_enter Try.func124, Try.ntmps124
    go_wp2_with (first
      | (go_at_call 127; refine (HLL _ (Below.refl _ _)).out.mono ?_; rintro e w' ⟨rfl, hb'⟩; have B1 := Aside0.mk hb'.below; clear hb')
      | (go_at_call 128; refine (HBS _ (by repeat (first | exact B1.out | apply pw_below_drewN | apply below_drew1))).out.mono ?_; rintro e w' ⟨rfl, hb'⟩; have B2 := Aside0.mk (below_step (by repeat (first | exact B1.out | apply pw_below_drewN | apply below_drew1)) hb'.below); clear hb')
      | (go_at_call 129; refine (HSR _ (by repeat (first | exact B2.out | apply pw_below_drewN | apply below_drew1))).out.mono ?_; rintro e w' ⟨rfl, hb'⟩; have B3 := Aside0.mk (below_step (by repeat (first | exact B2.out | apply pw_below_drewN | apply below_drew1)) hb'.below); clear hb')
      | (go_at_call 130; refine (HCL _ (by repeat (first | exact B3.out | apply pw_below_drewN | apply below_drew1))).out.mono ?_; rintro e w' ⟨v1, rfl, ho, hb'⟩; have O4 := Aside0.mk (Kd.R_lower ho (below_size (by repeat (first | exact B3.out | apply pw_below_drewN | apply below_drew1)))); have B4 := Aside0.mk (below_step (by repeat (first | exact B3.out | apply pw_below_drewN | apply below_drew1)) hb'); clear hb' ho))
    go_ret
    exact ⟨_, rfl, (by (with_reducible repeat (first | apply Kd.R_drewN | apply Kd.R_drew)); exact O4.out), (by repeat (first | exact B4.out | apply pw_below_drewN | apply below_drew1))⟩
  case false =>
    rw [if_neg (by simp)]
    go_enter Try.func124, Try.ntmps124
    go_wp2_with (first
      | (go_at_call 127; refine (HLL _ (Below.refl _ _)).out.mono ?_; rintro e w' ⟨rfl, hb'⟩; have B1 := Aside0.mk hb'.below; clear hb')
      | (go_at_call 128; refine (HBS _ (by repeat (first | exact B1.out | apply pw_below_drewN | apply below_drew1))).out.mono ?_; rintro e w' ⟨rfl, hb'⟩; have B2 := Aside0.mk (below_step (by repeat (first | exact B1.out | apply pw_below_drewN | apply below_drew1)) hb'.below); clear hb')
      | (go_at_call 129; refine (HSR _ (by repeat (first | exact B2.out | apply pw_below_drewN | apply below_drew1))).out.mono ?_; rintro e w' ⟨rfl, hb'⟩; have B3 := Aside0.mk (below_step (by repeat (first | exact B2.out | apply pw_below_drewN | apply below_drew1)) hb'.below); clear hb')
      | (go_at_call 130; refine (HCL _ (by repeat (first | exact B3.out | apply pw_below_drewN | apply below_drew1))).out.mono ?_; rintro e w' ⟨v1, rfl, ho, hb'⟩; have O4 := Aside0.mk (Kd.R_lower ho (below_size (by repeat (first | exact B3.out | apply pw_below_drewN | apply below_drew1)))); have B4 := Aside0.mk (below_step (by repeat (first | exact B3.out | apply pw_below_drewN | apply below_drew1)) hb'); clear hb' ho)
      | (go_at_call 131; (with_reducible refine (insInt v1 l0 lo n _ w.heap.size _ ?oR HLO.out (by have := HL.out; omega) ?bX ?nX ?sX).mono ?_); (case bX => exact heap_alloc_new _ _); (case oR => (with_reducible repeat (first | apply Kd.R_alloc | apply Kd.R_drewN | apply Kd.R_drew)); exact O4.out); (case nX => intro e; exact absurd (Kd.R_lt O4.out _ e.symm) (by simp)); (case sX => exact below_size (by repeat (first | exact B4.out | apply below_alloc | apply pw_below_drewN | apply below_drew1))); rintro e w' ⟨v2, rfl, ho, hg⟩; have O5 := Aside0.mk ho; have B5 := Aside0.mk (below_grown_from (by repeat (first | exact B4.out | apply below_alloc | apply pw_below_drewN | apply below_drew1)) hg (Kd.R_base O4.out)); clear hg ho))
    go_ret
    exact ⟨_, rfl, (by (with_reducible repeat (first | apply Kd.R_drewN | apply Kd.R_drew)); exact O5.out), (by repeat (first | exact B5.out | apply pw_below_drewN | apply below_drew1))⟩

end Go.Proofs.Ytgcgdjldhjajaaa.A
namespace Go.Proofs.Ytgcgdjldhjajaaa.A
open Go.RowKit Go.Proofs.YtgcgdjldhjajaaaW.PrintWords Go.Proofs.YtgcgdjldhjajaaaW.PrintLast Go.Proofs.YtgcgdjldhjajaaaW.PrintMore
attribute [local go_sem] max2_int min2_int max_two min_two max_three min_three max_four min_four   -- for this text's walks alone
set_option linter.unusedVariables false
set_option linter.unusedSimpArgs false

/-! ### impl_Rec_68: function 68, by hand -/
/-- The first place at which p holds, or -1. -/
def idxOf {α : Type} (p : α → Bool) (l : List α) : Int := match l.findIdx? p with | some i => (i : Int) | none => -1
theorem idxOf_hit {α : Type} (p : α → Bool) (l : List α) (k : Nat) (hk : k < l.length) (h : p l[k] = true) (hn : ∀ j (hj : j < l.length), j < k → p l[j] = false) : idxOf p l = (k : Int) := by
  unfold idxOf
  have : l.findIdx? p = some k := by
    rw [List.findIdx?_eq_some_iff_getElem]
    exact ⟨hk, h, fun j hj => by rw [hn j (by omega) hj]; simp⟩
  rw [this]
theorem idxOf_miss {α : Type} (p : α → Bool) (l : List α) (hn : ∀ j (hj : j < l.length), p l[j] = false) : idxOf p l = -1 := by
  unfold idxOf
  have : l.findIdx? p = none := by
    rw [List.findIdx?_eq_none_iff]
    intro x hx
    obtain ⟨j, hj, rfl⟩ := List.getElem_of_mem hx
    exact hn j hj
  rw [this]
theorem idxOf_any {α : Type} (p : α → Bool) (l : List α) : decide (0 ≤ idxOf p l) = l.any p := by
  unfold idxOf
  cases h : l.findIdx? p with
  | none =>
    rw [List.findIdx?_eq_none_iff] at h
    have : l.any p = false := by rw [List.any_eq_false]; intro x hx; rw [h x hx]; simp
    rw [this]; rfl
  | some i =>
    rw [List.findIdx?_eq_some_iff_getElem] at h
    obtain ⟨hi, hp, _⟩ := h
    have : l.any p = true := by rw [List.any_eq_true]; exact ⟨_, List.getElem_mem hi, hp⟩
    rw [this]
    simp
/-- The cells of a record. -/
def recCells (x : S78) : List Value := [.int .i64 x.f0, .int .i64 x.f1, .int .i64 x.f2, .int .i64 x.f3, .int .i64 x.f4, .int .i64 x.f5]
/-- A test of a record: what is asked of a function value that makes boxes of its own. -/
def RecPred (g : Nat) (lb : Array Value) (p : S78 → Bool) (ok : S78 → Prop) (w : World) : Prop :=
  ∀ (W : World) (x : S78), ok x → Below w.heap.size w W → Calls Try.prog g (#[.agg #[.int .i64 x.f0, .int .i64 x.f1, .int .i64 x.f2, .int .i64 x.f3, .int .i64 x.f4, .int .i64 x.f5]] ++ lb) W fun e w' => e = .returned (.bool (p x)) ∧ Below w.heap.size w w'
theorem rd_nat_Rec (l : List S78) (i : Nat) (hi : i < l.length) : rd_T78 l (i : Int) = l[i] := by
  show l.getD i _ = _
  rw [List.getD_eq_getElem?_getD, List.getElem?_eq_getElem hi]
  rfl
set_option maxHeartbeats 4000000 in
set_option maxRecDepth 100000 in
theorem idxRec (p : S78 → Bool) (g : Nat) (lb : Array Value) (A0 : Option Addr) (c0 : Nat) (l0 : List S78) (w : World) (hr0 : Kd.C k78 w A0 l0.length l0)
    (hp : RecPred g lb p (fun x => x ∈ l0) w) (eg : ∀ args w, (callFunc g args).run Try.prog w = .ok (.enter g args) w) :
    Calls Try.prog 68 #[.slice A0 l0.length c0, .func (.func g) #[] lb] w fun e w' => e = .returned (.int .i64 (idxOf p l0)) ∧ Below w.heap.size w w' := by
  have hlen : l0.length ≤ 9223372036854775807 := hr0.2.1
  have HR := Aside0.mk hr0
  have HP := Aside0.mk hp
  clear hr0 hp
  obtain ⟨n, hn⟩ : ∃ n : Nat, n = l0.length := ⟨_, rfl⟩
  have HN := Aside0.mk hn
  rw [← hn] at hlen ⊢
  clear hn
  have hu := Try.underlying78
  go_enter Try.func68, Try.ntmps68
  go_wp2
  go_loopg [5, 8] n (fun gg _ s8 wr => ∃ kk : Nat, kk ≤ n ∧ n - kk ≤ gg ∧ s8 = .int .i64 kk ∧ Aside0 (Below w.heap.size w wr) ∧ Aside0 (∀ j (hj : j < l0.length), j < kk → p l0[j] = false))
  case atStart => exact ⟨0, Nat.zero_le _, by omega, rfl, ⟨Below.refl _ w⟩, ⟨fun j hj h => absurd h (Nat.not_lt_zero _)⟩⟩
  case round =>
    obtain ⟨kk, hkk, hg, rfl, BW, AW⟩ := hrel
    by_cases hlt : kk < n
    · have hltz : (kk : Int) < (n : Int) := by omega
      have hin : kk < l0.length := by have := HN.out; omega
      obtain ⟨ad, e1, x0, x1, x2, x3, x4, x5⟩ := at_T78 HR.out (kk : Int) (by omega) (by omega)
      cases e1
      rw [rd_nat_Rec l0 kk hin, Int.toNat_natCast] at x0 x1 x2 x3 x4 x5
      have y0 := (BW.out.cell (World.block_lt_of_cell? w _ x0)).trans x0
      have y1 := (BW.out.cell (World.block_lt_of_cell? w _ x1)).trans x1
      have y2 := (BW.out.cell (World.block_lt_of_cell? w _ x2)).trans x2
      have y3 := (BW.out.cell (World.block_lt_of_cell? w _ x3)).trans x3
      have y4 := (BW.out.cell (World.block_lt_of_cell? w _ x4)).trans x4
      have y5 := (BW.out.cell (World.block_lt_of_cell? w _ x5)).trans x5
      clear x0 x1 x2 x3 x4 x5
      have HC := Aside0.mk (HP.out wr l0[kk] (List.getElem_mem hin) BW.out)
      generalize hq : p l0[kk] = q at HC
      have HQ := Aside0.mk hq
      clear hq
      generalize hy : l0[kk] = y at y0 y1 y2 y3 y4 y5 HC
      clear hy
      cases q with
      | true =>
        go_wp2_with (go_at_fn g; refine HC.out.mono ?_; rintro e w' ⟨rfl, hb'⟩)
        go_ret
        exact ⟨by rw [idxOf_hit p l0 kk hin HQ.out AW.out]; rfl, hb'⟩
      | false =>
        go_wp2_with (go_at_fn g; refine HC.out.mono ?_; rintro e w' ⟨rfl, hb'⟩)
        go_roundg (n - (kk + 1))
        case measure => omega
        case rel =>
          refine ⟨kk + 1, by omega, by omega, by go_num, ⟨hb'⟩, ⟨fun j hj h => ?_⟩⟩
          by_cases e : j = kk
          · subst e
            exact HQ.out
          · exact AW.out j hj (by omega)
    · have hltz : ¬ (kk : Int) < (n : Int) := by omega
      have : kk = n := by omega
      subst this
      go_wp2
      go_ret
      exact ⟨by rw [idxOf_miss p l0 (fun j hj => AW.out j hj (by have := HN.out; omega))]; rfl, BW.out⟩

end Go.Proofs.Ytgcgdjldhjajaaa.A
namespace Go.Proofs.Ytgcgdjldhjajaaa.A
open Go.RowKit Go.Proofs.YtgcgdjldhjajaaaW.PrintWords Go.Proofs.YtgcgdjldhjajaaaW.PrintLast Go.Proofs.YtgcgdjldhjajaaaW.PrintMore
attribute [local go_sem] max2_int min2_int max_two min_two max_three min_three max_four min_four   -- for this text's walks alone
set_option linter.unusedVariables false
set_option linter.unusedSimpArgs false

/-! ### impl_nodesOf: function 100, by hand -/
/-- A test of a record by a function value that leaves all that is there as it is. -/
def RecPred2 (g : Nat) (lb : Array Value) (p : S78 → Bool) (ok : S78 → Prop) (w : World) : Prop :=
  ∀ (W : World) (x : S78), ok x → Below w.heap.size w W → Calls Try.prog g (#[.agg #[.int .i64 x.f0, .int .i64 x.f1, .int .i64 x.f2, .int .i64 x.f3, .int .i64 x.f4, .int .i64 x.f5]] ++ lb) W fun e w' => e = .returned (.bool (p x)) ∧ Below W.heap.size W w'
/-- The nodes of the first records that are so, rising. -/
def nodesP (p : S78 → Bool) (l : List S78) : List Int := l.foldl (fun out r => if p r = true then setIns out r.f1 else out) []
theorem setIns_length (l : List Int) (n : Int) : (setIns l n).length ≤ l.length + 1 := by
  unfold setIns
  split
  · omega
  · rw [putAt_length l _ n (lowOf_le l n)]
    exact Nat.le_refl _
theorem low_split (l : List Int) (n : Int) (hr : Rising l) : (∀ t (h : t < l.length), t < lowOf l n → l[t] < n) ∧ (∀ t (h : t < l.length), lowOf l n ≤ t → n ≤ l[t]) := by
  have key : ∃ i, i ≤ l.length ∧ (∀ t (h : t < l.length), t < i → l[t] < n) ∧ (∀ t (h : t < l.length), i ≤ t → n ≤ l[t]) := by
    induction l with
    | nil => exact ⟨0, Nat.le_refl _, fun t h => absurd h (by simp), fun t h => absurd h (by simp)⟩
    | cons a l ih =>
      have hp := List.pairwise_cons.1 hr
      obtain ⟨i, h0, h1, h2⟩ := ih hp.2
      by_cases ha : a < n
      · refine ⟨i + 1, by simp; omega, fun t h hlt => ?_, fun t h hle => ?_⟩
        · cases t with
          | zero => exact ha
          | succ t => exact h1 t (by simpa using h) (by omega)
        · cases t with
          | zero => omega
          | succ t => exact h2 t (by simpa using h) (by omega)
      · refine ⟨0, Nat.zero_le _, fun t h hlt => absurd hlt (by omega), fun t h hle => ?_⟩
        cases t with
        | zero => show n ≤ a; omega
        | succ t =>
          have := hp.1 (l[t]'(by simpa using h)) (List.getElem_mem _)
          show n ≤ l[t]'(by simpa using h)
          omega
  obtain ⟨i, h0, h1, h2⟩ := key
  rw [lowOf_eq l n i h0 h1 h2]
  exact ⟨h1, h2⟩
theorem setIns_rising (l : List Int) (n : Int) (hr : Rising l) : Rising (setIns l n) := by
  unfold setIns
  split
  · exact hr
  · rename_i hc
    obtain ⟨h1, h2⟩ := low_split l n hr
    have hle := lowOf_le l n
    unfold putAt Rising
    rw [List.pairwise_append]
    refine ⟨hr.sublist (List.take_sublist _ _), ?_, ?_⟩
    · rw [List.pairwise_cons]
      refine ⟨fun x hx => ?_, hr.sublist (List.drop_sublist _ _)⟩
      obtain ⟨t, ht, rfl⟩ := List.getElem_of_mem hx
      rw [List.getElem_drop]
      simp only [List.length_drop] at ht
      have h3 := h2 (lowOf l n + t) (by omega) (by omega)
      have h4 : l[lowOf l n + t]'(by omega) ≠ n := fun e => hc (by rw [List.contains_iff_mem, ← e]; exact List.getElem_mem _)
      omega
    · intro a ha b hb
      obtain ⟨t, ht, rfl⟩ := List.getElem_of_mem ha
      rw [List.getElem_take]
      simp only [List.length_take] at ht
      have h3 := h1 t (by omega) (by omega)
      rcases List.mem_cons.1 hb with rfl | hb
      · exact h3
      · obtain ⟨s, hs, rfl⟩ := List.getElem_of_mem hb
        rw [List.getElem_drop]
        simp only [List.length_drop] at hs
        have h4 := h2 (lowOf l n + s) (by omega) (by omega)
        omega
theorem nodesP_good (p : S78 → Bool) (l : List S78) : Rising (nodesP p l) ∧ (nodesP p l).length ≤ l.length := by
  unfold nodesP
  have gen : ∀ (l : List S78) (out : List Int), Rising out → Rising (l.foldl (fun out r => if p r = true then setIns out r.f1 else out) out) ∧ (l.foldl (fun out r => if p r = true then setIns out r.f1 else out) out).length ≤ out.length + l.length := by
    intro l
    induction l with
    | nil => intro out h; exact ⟨h, by simp⟩
    | cons a l ih =>
      intro out h
      simp only [List.foldl_cons, List.length_cons]
      by_cases hp : p a = true
      · rw [if_pos hp]
        have h3 := ih _ (setIns_rising out a.f1 h)
        have h4 := setIns_length out a.f1
        exact ⟨h3.1, by omega⟩
      · rw [if_neg hp]
        have h3 := ih _ h
        exact ⟨h3.1, by omega⟩
  have := gen l [] List.Pairwise.nil
  exact ⟨this.1, by simpa using this.2⟩
theorem nodesP_snoc (p : S78 → Bool) (l : List S78) (k : Nat) (h : k < l.length) : nodesP p (l.take (k + 1)) = if p l[k] = true then setIns (nodesP p (l.take k)) l[k].f1 else nodesP p (l.take k) := by
  unfold nodesP
  rw [List.take_succ_eq_append_getElem h, List.foldl_append]
  rfl
set_option maxHeartbeats 8000000 in
set_option maxRecDepth 100000 in
theorem nodesRec (p : S78 → Bool) (g : Nat) (lb : Array Value) (A0 : Option Addr) (c0 : Nat) (l0 : List S78) (w : World) (hr0 : Kd.C k78 w A0 l0.length l0) (h400 : l0.length ≤ 400)
    (hp : RecPred2 g lb p (fun x => x ∈ l0) w) (eg : ∀ args w, (callFunc g args).run Try.prog w = .ok (.enter g args) w) :
    Calls Try.prog 100 #[.slice A0 l0.length c0, .func (.func g) #[] lb] w fun e w' => ∃ v : Value, e = .returned v ∧ Kd.R (Kd.int .i64) 2 w' w.heap.size (fun _ => True) v (nodesP p l0) ∧ Below w.heap.size w w' := by
  have HR := Aside0.mk hr0
  have HP := Aside0.mk hp
  clear hr0 hp
  obtain ⟨n, hn⟩ : ∃ n : Nat, n = l0.length := ⟨_, rfl⟩
  have HN := Aside0.mk hn
  rw [← hn] at h400 ⊢
  clear hn
  have hu := Try.underlying78
  have hB := Aside0.mk (Below.refl w.heap.size w)
  obtain ⟨y0, hy0⟩ : ∃ y_ : List Int, y_ = nodesP p (l0.take 0) := ⟨_, rfl⟩
  have NY := Aside0.mk hy0
  clear hy0
  go_enter Try.func100, Try.ntmps100
  go_wp2_with ((with_reducible refine gate_dst (N := 8) rfl ?_); refine Kd.R_lit (Kd.int .i64) _ 2 ?hg (N := 8) ?hd (xs := ([] : List Int)) (inner := []) (ok := fun _ => True) (okp := fun _ => True) ?hr ?hp (fun _ hk => hk) trivial (Below.refl _ _) (Nat.le_refl _) (by simp) ?_; (case hd => rfl); (case hg => rfl); (case hr => first | (go_simp; done) | (go_simp; rfl)); (case hp => exact (Reps.none _ _)); intro v8 w6 ho7 hb hg_ hnew_; clear hg_ hnew_; have HO0 := Aside0.mk (Kd.R_lower ho7 (Nat.le_refl _)); have HB0 := Aside0.mk hb; clear hb ho7)
  go_loopg [5, 11] n (fun gg s5 s11 wr => ∃ kk : Nat, kk ≤ n ∧ n - kk ≤ gg ∧ s11 = .int .i64 kk ∧ Aside0 (Kd.R (Kd.int .i64) 2 wr w.heap.size (fun _ => True) s5 (nodesP p (l0.take kk))) ∧ Aside0 (Below w.heap.size w wr))
  case atStart => exact ⟨0, Nat.zero_le _, by omega, rfl, ⟨HO0.out⟩, ⟨HB0.out⟩⟩
  case round =>
    clear HO0 HB0
    rename_i s5 _ _
    obtain ⟨kk, hkk, hg, rfl, RO, BW⟩ := hrel
    have hgood := nodesP_good p (l0.take kk)
    have hsn' := fun h => nodesP_snoc p l0 kk h
    obtain ⟨out, hout⟩ : ∃ out, out = nodesP p (l0.take kk) := ⟨_, rfl⟩
    have HOUT := Aside0.mk hout
    rw [← hout] at RO hgood hsn'
    clear hout
    have hsn' := Aside0.mk hsn'
    obtain ⟨A1, c1, rfl⟩ := own_slice (Kd.own_of_R RO.out)
    obtain ⟨-, hc1, HC1⟩ := Kd.R_reads' RO.out
    have HC1 := Aside0.mk HC1
    have hlo : out.length < 400 ∨ ¬ kk < n := by
      have h1 := hgood.2
      rw [List.length_take] at h1
      omega
    have HRI := Aside0.mk hgood.1
    clear hgood
    by_cases hlt : kk < n
    · have hltz : (kk : Int) < (n : Int) := by omega
      have hin : kk < l0.length := by have := HN.out; omega
      have hl4 : out.length < 400 := by omega
      clear hlo
      obtain ⟨ad, e1, x0, x1, x2, x3, x4, x5⟩ := at_T78 HR.out (kk : Int) (by omega) (by omega)
      cases e1
      rw [rd_nat_Rec l0 kk hin, Int.toNat_natCast] at x0 x1 x2 x3 x4 x5
      have y0 := (BW.out.cell (World.block_lt_of_cell? w _ x0)).trans x0
      have y1 := (BW.out.cell (World.block_lt_of_cell? w _ x1)).trans x1
      have y2 := (BW.out.cell (World.block_lt_of_cell? w _ x2)).trans x2
      have y3 := (BW.out.cell (World.block_lt_of_cell? w _ x3)).trans x3
      have y4 := (BW.out.cell (World.block_lt_of_cell? w _ x4)).trans x4
      have y5 := (BW.out.cell (World.block_lt_of_cell? w _ x5)).trans x5
      clear x0 x1 x2 x3 x4 x5
      have HC := Aside0.mk (fun W hb => HP.out W l0[kk] (List.getElem_mem hin) hb)
      have hsn := hsn'.out hin
      clear hsn'
      generalize hq : p l0[kk] = q at HC hsn
      clear hq
      generalize hy : l0[kk] = y at y0 y1 y2 y3 y4 y5 HC hsn
      clear hy
      cases q with
      | false =>
        rw [if_neg (by simp)] at hsn
        have HS := Aside0.mk hsn
        clear hsn
        go_wp2_with (first
          | ((with_reducible refine gate_dst (N := 7) rfl ?_); refine box_event ?hg (N := 7) ?hd (cs := #[.int .i64 0, .int .i64 0, .int .i64 0, .int .i64 0, .int .i64 0, .int .i64 0]) (t := 78) ?hr ?_; (case hd => rfl); (case hg => rfl); (case hr => first | (go_simp; done) | (go_simp; rfl)); intro gb hgb w3 hbox hb; have HX := Aside0.mk hbox; have HB := Aside0.mk hb; have HG := Aside0.mk hgb; have hz0 := (blk_cell hbox 0).trans rfl; have hz1 := (blk_cell hbox 1).trans rfl; have hz2 := (blk_cell hbox 2).trans rfl; have hz3 := (blk_cell hbox 3).trans rfl; have hz4 := (blk_cell hbox 4).trans rfl; have hz5 := (blk_cell hbox 5).trans rfl; simp only [List.getElem?_toArray, List.getElem?_cons_zero, List.getElem?_cons_succ] at hz0 hz1 hz2 hz3 hz4 hz5; have hf0 := blk_frozen hbox 0; have hf1 := blk_frozen hbox 1; have hf2 := blk_frozen hbox 2; have hf3 := blk_frozen hbox 3; have hf4 := blk_frozen hbox 4; have hf5 := blk_frozen hbox 5; clear hb hbox hgb)
          | ((with_reducible refine gate_store (t := 78) (p := 7) rfl ?_); refine store_event (t := 78) (p := 7) (v := ?vo) (w1 := ((((((w3.setCell ⟨gb, 0, none⟩ (.int .i64 y.f0)).setCell ⟨gb, 1, none⟩ (.int .i64 y.f1)).setCell ⟨gb, 2, none⟩ (.int .i64 y.f2)).setCell ⟨gb, 3, none⟩ (.int .i64 y.f3)).setCell ⟨gb, 4, none⟩ (.int .i64 y.f4)).setCell ⟨gb, 5, none⟩ (.int .i64 y.f5))) ?hg ?ho ?hn ?hr ?_; (case ho => rfl); (case hg => rfl); (case hn => rfl); (case hr => first | (go_simp; done) | (go_simp; rfl)); intro w4 hw4; have n0_ : Aside0 (w4.heap[gb]? = some (.cells #[.int .i64 y.f0, .int .i64 y.f1, .int .i64 y.f2, .int .i64 y.f3, .int .i64 y.f4, .int .i64 y.f5] 78 (0, 0))) := ⟨by rw [hw4]; exact (blk_set (blk_set (blk_set (blk_set (blk_set (blk_set HX.out 0 _) 1 _) 2 _) 3 _) 4 _) 5 _)⟩; have n1_ : Aside0 (Below wr.heap.size wr w4) := ⟨by rw [hw4]; repeat (first | exact HB.out | refine below_set ?_ (Nat.le_of_eq HG.out.symm))⟩; clear hw4 HX HB; clear hz0 hf0 hz1 hf1 hz2 hf2 hz3 hf3 hz4 hf4 hz5 hf5; have HX := n0_; have HB := n1_; clear n0_ n1_; have z0 := blk_cell HX.out 0; have z1 := blk_cell HX.out 1; have z2 := blk_cell HX.out 2; have z3 := blk_cell HX.out 3; have z4 := blk_cell HX.out 4; have z5 := blk_cell HX.out 5; simp only [List.getElem?_toArray, List.getElem?_cons_zero, List.getElem?_cons_succ] at z0 z1 z2 z3 z4 z5)
          | (go_at_fn g; refine (HC.out _ (by repeat (first | exact (below_step BW.out HB.out) | apply pw_below_drewN | apply below_drew1))).mono ?_; rintro e w5 ⟨rfl, hb'⟩; have HX5 := Aside0.mk (blk_below (by (with_reducible repeat (first | refine blk_drewN ?_ _ | refine blk_drew ?_)); exact HX.out) hb'); have HB5 := Aside0.mk (below_step (by repeat (first | exact HB.out | apply pw_below_drewN | apply below_drew1)) hb'); clear hb' z0 z1 z2 z3 z4 z5; have z1 := blk_cell HX5.out 1; simp only [List.getElem?_toArray, List.getElem?_cons_zero, List.getElem?_cons_succ] at z1))
        go_roundg (n - (kk + 1))
        case measure => omega
        case rel => exact ⟨kk + 1, by omega, by omega, by go_num, ⟨by rw [HS.out]; (with_reducible repeat (first | apply Kd.R_drewN | apply Kd.R_drew)); exact Kd.R_below RO.out HB5.out⟩, ⟨by repeat (first | exact below_step BW.out HB5.out | apply pw_below_drewN | apply below_drew1)⟩⟩
      | true =>
        rw [if_pos rfl] at hsn
        have HS := Aside0.mk hsn
        clear hsn
        go_wp2_with (first
          | ((with_reducible refine gate_dst (N := 7) rfl ?_); refine box_event ?hg (N := 7) ?hd (cs := #[.int .i64 0, .int .i64 0, .int .i64 0, .int .i64 0, .int .i64 0, .int .i64 0]) (t := 78) ?hr ?_; (case hd => rfl); (case hg => rfl); (case hr => first | (go_simp; done) | (go_simp; rfl)); intro gb hgb w3 hbox hb; have HX := Aside0.mk hbox; have HB := Aside0.mk hb; have HG := Aside0.mk hgb; have hz0 := (blk_cell hbox 0).trans rfl; have hz1 := (blk_cell hbox 1).trans rfl; have hz2 := (blk_cell hbox 2).trans rfl; have hz3 := (blk_cell hbox 3).trans rfl; have hz4 := (blk_cell hbox 4).trans rfl; have hz5 := (blk_cell hbox 5).trans rfl; simp only [List.getElem?_toArray, List.getElem?_cons_zero, List.getElem?_cons_succ] at hz0 hz1 hz2 hz3 hz4 hz5; have hf0 := blk_frozen hbox 0; have hf1 := blk_frozen hbox 1; have hf2 := blk_frozen hbox 2; have hf3 := blk_frozen hbox 3; have hf4 := blk_frozen hbox 4; have hf5 := blk_frozen hbox 5; clear hb hbox hgb)
          | ((with_reducible refine gate_store (t := 78) (p := 7) rfl ?_); refine store_event (t := 78) (p := 7) (v := ?vo) (w1 := ((((((w3.setCell ⟨gb, 0, none⟩ (.int .i64 y.f0)).setCell ⟨gb, 1, none⟩ (.int .i64 y.f1)).setCell ⟨gb, 2, none⟩ (.int .i64 y.f2)).setCell ⟨gb, 3, none⟩ (.int .i64 y.f3)).setCell ⟨gb, 4, none⟩ (.int .i64 y.f4)).setCell ⟨gb, 5, none⟩ (.int .i64 y.f5))) ?hg ?ho ?hn ?hr ?_; (case ho => rfl); (case hg => rfl); (case hn => rfl); (case hr => first | (go_simp; done) | (go_simp; rfl)); intro w4 hw4; have n0_ : Aside0 (w4.heap[gb]? = some (.cells #[.int .i64 y.f0, .int .i64 y.f1, .int .i64 y.f2, .int .i64 y.f3, .int .i64 y.f4, .int .i64 y.f5] 78 (0, 0))) := ⟨by rw [hw4]; exact (blk_set (blk_set (blk_set (blk_set (blk_set (blk_set HX.out 0 _) 1 _) 2 _) 3 _) 4 _) 5 _)⟩; have n1_ : Aside0 (Below wr.heap.size wr w4) := ⟨by rw [hw4]; repeat (first | exact HB.out | refine below_set ?_ (Nat.le_of_eq HG.out.symm))⟩; clear hw4 HX HB; clear hz0 hf0 hz1 hf1 hz2 hf2 hz3 hf3 hz4 hf4 hz5 hf5; have HX := n0_; have HB := n1_; clear n0_ n1_; have z0 := blk_cell HX.out 0; have z1 := blk_cell HX.out 1; have z2 := blk_cell HX.out 2; have z3 := blk_cell HX.out 3; have z4 := blk_cell HX.out 4; have z5 := blk_cell HX.out 5; simp only [List.getElem?_toArray, List.getElem?_cons_zero, List.getElem?_cons_succ] at z0 z1 z2 z3 z4 z5)
          | (go_at_fn g; refine (HC.out _ (by repeat (first | exact (below_step BW.out HB.out) | apply pw_below_drewN | apply below_drew1))).mono ?_; rintro e w5 ⟨rfl, hb'⟩; have HX5 := Aside0.mk (blk_below (by (with_reducible repeat (first | refine blk_drewN ?_ _ | refine blk_drew ?_)); exact HX.out) hb'); have HB5 := Aside0.mk (below_step (by repeat (first | exact HB.out | apply pw_below_drewN | apply below_drew1)) hb'); clear hb' z0 z1 z2 z3 z4 z5; have z1 := blk_cell HX5.out 1; simp only [List.getElem?_toArray, List.getElem?_cons_zero, List.getElem?_cons_succ] at z1)
          | (go_at_call 124; (with_reducible refine (setPut A1 c1 out y.f1 _ ?cR ?cC HRI.out ?cL).mono ?_); (case cR => (with_reducible repeat (first | refine Kd.C_drewN ?_ _ | refine Kd.C_drew ?_)); exact Kd.C_below HC1.out HB5.out); (case cC => exact hc1); (case cL => exact hl4); rintro e w6 ⟨v6, rfl, ho, hb'⟩; have B6 := Aside0.mk (below_step (below_step BW.out (by repeat (first | exact HB5.out | apply pw_below_drewN | apply below_drew1))) hb'); have O6 := Aside0.mk (Kd.R_lower ho (below_size (below_step BW.out (by repeat (first | exact HB5.out | apply pw_below_drewN | apply below_drew1))))); clear hb' ho))
        go_roundg (n - (kk + 1))
        case measure => omega
        case rel => exact ⟨kk + 1, by omega, by omega, by go_num, ⟨by rw [HS.out]; (with_reducible repeat (first | apply Kd.R_drewN | apply Kd.R_drew)); exact O6.out⟩, ⟨by repeat (first | exact B6.out | apply pw_below_drewN | apply below_drew1)⟩⟩
    · have hltz : ¬ (kk : Int) < (n : Int) := by omega
      have : kk = n := by omega
      subst this
      go_wp2
      go_ret
      have e : out = nodesP p l0 := by rw [HOUT.out, List.take_of_length_le (by have := HN.out; omega)]
      exact ⟨_, rfl, by rw [← e]; exact RO.out, BW.out⟩

end Go.Proofs.Ytgcgdjldhjajaaa.A
namespace Go.Proofs.Ytgcgdjldhjajaaa.A
open Go.RowKit Go.Proofs.YtgcgdjldhjajaaaW.PrintWords Go.Proofs.YtgcgdjldhjajaaaW.PrintLast Go.Proofs.YtgcgdjldhjajaaaW.PrintMore
attribute [local go_sem] max2_int min2_int max_two min_two max_three min_three max_four min_four   -- for this text's walks alone
set_option linter.unusedVariables false
set_option linter.unusedSimpArgs false

/-! ### impl_Rec_104: function 104, by hand -/
set_option maxHeartbeats 4000000 in
set_option maxRecDepth 100000 in
theorem anyRec (p : S78 → Bool) (g : Nat) (lb : Array Value) (A0 : Option Addr) (c0 : Nat) (l0 : List S78) (w : World) (hr0 : Kd.C k78 w A0 l0.length l0)
    (hp : RecPred g lb p (fun x => x ∈ l0) w) (eg : ∀ args w, (callFunc g args).run Try.prog w = .ok (.enter g args) w) :
    Calls Try.prog 104 #[.slice A0 l0.length c0, .func (.func g) #[] lb] w fun e w' => e = .returned (.bool (l0.any p)) ∧ Below w.heap.size w w' := by
  rw [← idxOf_any]
  have HC := Aside0.mk (idxRec p g lb A0 c0 l0 w hr0 hp eg)
  clear hr0 hp eg
  go_enter Try.func104, Try.ntmps104
  go_wp2_with (go_at_call 68; refine HC.out.mono ?_; rintro e w' ⟨rfl, hb'⟩)
  go_ret
  exact ⟨rfl, hb'⟩

end Go.Proofs.Ytgcgdjldhjajaaa.A
namespace Go.Proofs.Ytgcgdjldhjajaaa.A
open Go.RowKit Go.Proofs.YtgcgdjldhjajaaaW.PrintWords Go.Proofs.YtgcgdjldhjajaaaW.PrintLast Go.Proofs.YtgcgdjldhjajaaaW.PrintMore
attribute [local go_sem] max2_int min2_int max_two min_two max_three min_three max_four min_four   -- for this text's walks alone
set_option linter.unusedVariables false
set_option linter.unusedSimpArgs false

/-! ### impl_within: function 82 -/
def impl_within.f (a0 : Int) (a1 : Int) (a2 : Int) : Option (Bool) := if a1 ≤ a0 then (some (decide (a0 ≤ a2))) else (some false)
set_option maxHeartbeats 8000000 in
set_option maxRecDepth 100000 in
theorem impl_within.calls (a0 : Int) (a1 : Int) (a2 : Int) (r : Bool) (w : World) (h : impl_within.f a0 a1 a2 = some r) :
    Calls Try.prog 82 #[.int .i64 a0, .int .i64 a1, .int .i64 a2] w fun e w' => e = .returned (.bool r) ∧ Drawn0 w w' := by
  have H : (if a1 ≤ a0 then (some (decide (a0 ≤ a2))) else (some false)) = some r := h
  clear h
  by_cases c4 : a1 ≤ a0
  · rw [if_pos c4] at H
    have c4b0 : decide (a1 ≤ a0) = true := decide_eq_true c4
    clear c4
    obtain rfl := Option.some.inj H
    go_enter Try.func82, Try.ntmps82
    go_wp2
    go_ret
    exact ⟨by first | rfl | (simp; done) | (simp [*]; done), by repeat (first | exact Drawn0.refl _ | apply Drawn0.step)⟩
  · rw [if_neg c4] at H
    have c4b0 : decide (a1 ≤ a0) = false := decide_eq_false c4
    clear c4
    obtain rfl := Option.some.inj H
    go_enter Try.func82, Try.ntmps82
    go_wp2
    go_ret
    exact ⟨by first | rfl | (simp; done) | (simp [*]; done), by repeat (first | exact Drawn0.refl _ | apply Drawn0.step)⟩

end Go.Proofs.Ytgcgdjldhjajaaa.A
namespace Go.Proofs.Ytgcgdjldhjajaaa.A
open Go.RowKit Go.Proofs.YtgcgdjldhjajaaaW.PrintWords Go.Proofs.YtgcgdjldhjajaaaW.PrintLast Go.Proofs.YtgcgdjldhjajaaaW.PrintMore
attribute [local go_sem] max2_int min2_int max_two min_two max_three min_three max_four min_four   -- for this text's walks alone
set_option linter.unusedVariables false
set_option linter.unusedSimpArgs false

/-! ### impl_isTime: function 107 -/
def impl_isTime.f (a0 : Int) : Option (Bool) := (impl_within.f a0 0 1000000).bind fun t101 => (some t101)
set_option maxHeartbeats 8000000 in
set_option maxRecDepth 100000 in
theorem impl_isTime.calls (a0 : Int) (r : Bool) (w : World) (h : impl_isTime.f a0 = some r) :
    Calls Try.prog 107 #[.int .i64 a0] w fun e w' => e = .returned (.bool r) ∧ Drawn0 w w' := by
  have H : ((impl_within.f a0 0 1000000).bind fun t101 => (some t101)) = some r := h
  clear h
  replace H := Option.bind_eq_some_iff.mp H
  obtain ⟨t101, A20, H⟩ := H
  replace H : (some t101) = some r := H
  have A2 := Aside0.mk A20
  clear A20
  obtain rfl := Option.some.inj H
  go_enter Try.func107, Try.ntmps107
  go_wp2_with (first | ((with_reducible refine gate_callee (f := 82) rfl ?_); refine goesL_ (some 4) rfl rfl Try.func82 (by kernel_rfl) rfl #[.int .i64 a0, .int .i64 0, .int .i64 1000000] rfl (by (try simp only [List.map_toArray, List.map_cons, List.map_nil]); first | done | rfl | (simp only [List.length_drop, List.length_take]; rfl)) ?_; (with_reducible refine (impl_within.calls a0 0 1000000 t101 _ A2.out).mono ?_); rintro e w' ⟨rfl, ⟨nd, rfl⟩⟩; refine ⟨_, rfl, ?_⟩))
  go_ret
  exact ⟨by first | rfl | (simp; done) | (simp [*]; done), by repeat (first | exact Drawn0.refl _ | apply Drawn0.step)⟩

end Go.Proofs.Ytgcgdjldhjajaaa.A
namespace Go.Proofs.Ytgcgdjldhjajaaa.A
open Go.RowKit Go.Proofs.YtgcgdjldhjajaaaW.PrintWords Go.Proofs.YtgcgdjldhjajaaaW.PrintLast Go.Proofs.YtgcgdjldhjajaaaW.PrintMore
attribute [local go_sem] max2_int min2_int max_two min_two max_three min_three max_four min_four   -- for this text's walks alone
set_option linter.unusedVariables false
set_option linter.unusedSimpArgs false

/-! ### impl_isNode: function 73 -/
def impl_isNode.f (a0 : Int) : Option (Bool) := (impl_within.f a0 1 6).bind fun t101 => (some t101)
set_option maxHeartbeats 8000000 in
set_option maxRecDepth 100000 in
theorem impl_isNode.calls (a0 : Int) (r : Bool) (w : World) (h : impl_isNode.f a0 = some r) :
    Calls Try.prog 73 #[.int .i64 a0] w fun e w' => e = .returned (.bool r) ∧ Drawn0 w w' := by
  have H : ((impl_within.f a0 1 6).bind fun t101 => (some t101)) = some r := h
  clear h
  replace H := Option.bind_eq_some_iff.mp H
  obtain ⟨t101, A20, H⟩ := H
  replace H : (some t101) = some r := H
  have A2 := Aside0.mk A20
  clear A20
  obtain rfl := Option.some.inj H
  go_enter Try.func73, Try.ntmps73
  go_wp2_with (first | ((with_reducible refine gate_callee (f := 82) rfl ?_); refine goesL_ (some 4) rfl rfl Try.func82 (by kernel_rfl) rfl #[.int .i64 a0, .int .i64 1, .int .i64 6] rfl (by (try simp only [List.map_toArray, List.map_cons, List.map_nil]); first | done | rfl | (simp only [List.length_drop, List.length_take]; rfl)) ?_; (with_reducible refine (impl_within.calls a0 1 6 t101 _ A2.out).mono ?_); rintro e w' ⟨rfl, ⟨nd, rfl⟩⟩; refine ⟨_, rfl, ?_⟩))
  go_ret
  exact ⟨by first | rfl | (simp; done) | (simp [*]; done), by repeat (first | exact Drawn0.refl _ | apply Drawn0.step)⟩

end Go.Proofs.Ytgcgdjldhjajaaa.A
namespace Go.Proofs.Ytgcgdjldhjajaaa.A
open Go.RowKit Go.Proofs.YtgcgdjldhjajaaaW.PrintWords Go.Proofs.YtgcgdjldhjajaaaW.PrintLast Go.Proofs.YtgcgdjldhjajaaaW.PrintMore
attribute [local go_sem] max2_int min2_int max_two min_two max_three min_three max_four min_four   -- for this text's walks alone
set_option linter.unusedVariables false
set_option linter.unusedSimpArgs false

/-! ### impl_FactRight: function 67 -/
def impl_FactRight.f (a0_0 : Int) (a0_1 : Int) (a0_2 : Int) : Option (Bool) := (impl_isNode.f a0_0).bind fun t102 => (if t102 = true then ((impl_isTime.f a0_1).bind fun t103 => (if t103 = true then ((impl_within.f a0_2 1 3).bind fun t104 => (some t104)) else (some false))) else (some false))
set_option maxHeartbeats 8000000 in
set_option maxRecDepth 100000 in
theorem impl_FactRight.calls (a0_0 : Int) (a0_1 : Int) (a0_2 : Int) (r : Bool) (w : World) (h : impl_FactRight.f a0_0 a0_1 a0_2 = some r) :
    Calls Try.prog 67 #[.agg #[.int .i64 a0_0, .int .i64 a0_1, .int .i64 a0_2]] w fun e w' => e = .returned (.bool r) ∧ Below w.heap.size w w' := by
  have hu29 := Try.underlying29
  have HB := Aside0.mk (Below.refl w.heap.size w)
  have H : ((impl_isNode.f a0_0).bind fun t102 => (if t102 = true then ((impl_isTime.f a0_1).bind fun t103 => (if t103 = true then ((impl_within.f a0_2 1 3).bind fun t104 => (some t104)) else (some false))) else (some false))) = some r := h
  clear h
  replace H := Option.bind_eq_some_iff.mp H
  obtain ⟨t102, A20, H⟩ := H
  replace H : (if t102 = true then ((impl_isTime.f a0_1).bind fun t103 => (if t103 = true then ((impl_within.f a0_2 1 3).bind fun t104 => (some t104)) else (some false))) else (some false)) = some r := H
  have A2 := Aside0.mk A20
  clear A20
  by_cases c3 : t102 = true
  · subst c3
    have H1 : ((impl_isTime.f a0_1).bind fun t103 => (if t103 = true then ((impl_within.f a0_2 1 3).bind fun t104 => (some t104)) else (some false))) = some r := by rw [if_pos rfl] at H; exact H
    clear H
    have H := H1
    clear H1
    replace H := Option.bind_eq_some_iff.mp H
    obtain ⟨t103, A40, H⟩ := H
    replace H : (if t103 = true then ((impl_within.f a0_2 1 3).bind fun t104 => (some t104)) else (some false)) = some r := H
    have A4 := Aside0.mk A40
    clear A40
    by_cases c5 : t103 = true
    · subst c5
      have H1 : ((impl_within.f a0_2 1 3).bind fun t104 => (some t104)) = some r := by rw [if_pos rfl] at H; exact H
      clear H
      have H := H1
      clear H1
      replace H := Option.bind_eq_some_iff.mp H
      obtain ⟨t104, A60, H⟩ := H
      replace H : (some t104) = some r := H
      have A6 := Aside0.mk A60
      clear A60
      obtain rfl := Option.some.inj H
      go_enter Try.func67, Try.ntmps67
      go_wp2_with (first | ((with_reducible refine gate_dst (N := 1) rfl ?_); refine box_event ?hg (N := 1) ?hd (cs := #[.int .i64 a0_0, .int .i64 a0_1, .int .i64 a0_2]) (t := 29) ?hr ?_; (case hd => rfl); (case hg => rfl); (case hr => first | (go_simp; done) | (go_simp; rfl)); intro gb101 hg w7 hbox hb; have n0_ := Aside0.mk (below_step (by repeat (first | (with_reducible first | exact HB.out | apply below_alloc | apply pw_below_drewN | apply below_drew1) | exact HB.out)) hb); have n1_ := Aside0.mk (hbox); have n2_ := Aside0.mk ((by rw [hg]; exact (below_size (by repeat (first | (with_reducible first | exact HB.out | apply below_alloc | apply pw_below_drewN | apply below_drew1) | exact HB.out))) : w.heap.size ≤ gb101)); have n3_ := Aside0.mk ((by rw [hg]; exact (below_size (by repeat (first | (with_reducible first | exact HB.out | apply below_alloc | apply pw_below_drewN | apply below_drew1) | exact HB.out))) : w.heap.size ≤ gb101)); clear HB; have HB := n0_; have BK101 := n1_; have GW101 := n2_; have GE101 := n3_; clear n0_ n1_ n2_ n3_; clear hb hbox hg; have hcz8_0 : w7.cell? ⟨gb101, 0, none⟩ = some (.int .i64 a0_0) := (blk_cell BK101.out 0).trans rfl; have hcz8_1 : w7.cell? ⟨gb101, 1, none⟩ = some (.int .i64 a0_1) := (blk_cell BK101.out 1).trans rfl; have hcz8_2 : w7.cell? ⟨gb101, 2, none⟩ = some (.int .i64 a0_2) := (blk_cell BK101.out 2).trans rfl; have hfz8_0 := blk_frozen BK101.out 0; have hfz8_1 := blk_frozen BK101.out 1; have hfz8_2 := blk_frozen BK101.out 2) | ((with_reducible refine gate_callee (f := 73) rfl ?_); refine goesL_ (some 5) rfl rfl Try.func73 (by kernel_rfl) rfl #[.int .i64 a0_0] rfl (by (try simp only [List.map_toArray, List.map_cons, List.map_nil]); first | done | rfl | (simp only [List.length_drop, List.length_take]; rfl)) ?_; (with_reducible refine (impl_isNode.calls a0_0 true _ A2.out).mono ?_); rintro e w' ⟨rfl, ⟨nd, rfl⟩⟩; refine ⟨_, rfl, ?_⟩) | (go_at_call 107; (with_reducible refine (impl_isTime.calls a0_1 true _ A4.out).mono ?_); rintro e w' ⟨rfl, ⟨nd, rfl⟩⟩) | (go_at_call 82; (with_reducible refine (impl_within.calls a0_2 1 3 t104 _ A6.out).mono ?_); rintro e w' ⟨rfl, ⟨nd, rfl⟩⟩))
      go_ret
      exact ⟨by first | rfl | (simp [errW_none, errW_some] <;> rfl) | (simp [*, errW_none, errW_some] <;> rfl), by repeat (first | (with_reducible first | exact HB.out | apply below_alloc | apply pw_below_drewN | apply below_drew1 | refine below_set ?_ GE101.out) | exact HB.out)⟩
    · replace c5 := Bool.eq_false_iff.mpr c5
      subst c5
      have H1 : (some false) = some r := by rw [if_neg (show ¬ (false = true) by decide)] at H; exact H
      clear H
      have H := H1
      clear H1
      obtain rfl := Option.some.inj H
      go_enter Try.func67, Try.ntmps67
      go_wp2_with (first | ((with_reducible refine gate_dst (N := 1) rfl ?_); refine box_event ?hg (N := 1) ?hd (cs := #[.int .i64 a0_0, .int .i64 a0_1, .int .i64 a0_2]) (t := 29) ?hr ?_; (case hd => rfl); (case hg => rfl); (case hr => first | (go_simp; done) | (go_simp; rfl)); intro gb101 hg w9 hbox hb; have n0_ := Aside0.mk (below_step (by repeat (first | (with_reducible first | exact HB.out | apply below_alloc | apply pw_below_drewN | apply below_drew1) | exact HB.out)) hb); have n1_ := Aside0.mk (hbox); have n2_ := Aside0.mk ((by rw [hg]; exact (below_size (by repeat (first | (with_reducible first | exact HB.out | apply below_alloc | apply pw_below_drewN | apply below_drew1) | exact HB.out))) : w.heap.size ≤ gb101)); have n3_ := Aside0.mk ((by rw [hg]; exact (below_size (by repeat (first | (with_reducible first | exact HB.out | apply below_alloc | apply pw_below_drewN | apply below_drew1) | exact HB.out))) : w.heap.size ≤ gb101)); clear HB; have HB := n0_; have BK101 := n1_; have GW101 := n2_; have GE101 := n3_; clear n0_ n1_ n2_ n3_; clear hb hbox hg; have hcz10_0 : w9.cell? ⟨gb101, 0, none⟩ = some (.int .i64 a0_0) := (blk_cell BK101.out 0).trans rfl; have hcz10_1 : w9.cell? ⟨gb101, 1, none⟩ = some (.int .i64 a0_1) := (blk_cell BK101.out 1).trans rfl; have hcz10_2 : w9.cell? ⟨gb101, 2, none⟩ = some (.int .i64 a0_2) := (blk_cell BK101.out 2).trans rfl; have hfz10_0 := blk_frozen BK101.out 0; have hfz10_1 := blk_frozen BK101.out 1; have hfz10_2 := blk_frozen BK101.out 2) | ((with_reducible refine gate_callee (f := 73) rfl ?_); refine goesL_ (some 5) rfl rfl Try.func73 (by kernel_rfl) rfl #[.int .i64 a0_0] rfl (by (try simp only [List.map_toArray, List.map_cons, List.map_nil]); first | done | rfl | (simp only [List.length_drop, List.length_take]; rfl)) ?_; (with_reducible refine (impl_isNode.calls a0_0 true _ A2.out).mono ?_); rintro e w' ⟨rfl, ⟨nd, rfl⟩⟩; refine ⟨_, rfl, ?_⟩) | (go_at_call 107; (with_reducible refine (impl_isTime.calls a0_1 false _ A4.out).mono ?_); rintro e w' ⟨rfl, ⟨nd, rfl⟩⟩))
      go_ret
      exact ⟨by first | rfl | (simp [errW_none, errW_some] <;> rfl) | (simp [*, errW_none, errW_some] <;> rfl), by repeat (first | (with_reducible first | exact HB.out | apply below_alloc | apply pw_below_drewN | apply below_drew1 | refine below_set ?_ GE101.out) | exact HB.out)⟩
  · replace c3 := Bool.eq_false_iff.mpr c3
    subst c3
    have H1 : (some false) = some r := by rw [if_neg (show ¬ (false = true) by decide)] at H; exact H
    clear H
    have H := H1
    clear H1
    obtain rfl := Option.some.inj H
    go_enter Try.func67, Try.ntmps67
    go_wp2_with (first | ((with_reducible refine gate_dst (N := 1) rfl ?_); refine box_event ?hg (N := 1) ?hd (cs := #[.int .i64 a0_0, .int .i64 a0_1, .int .i64 a0_2]) (t := 29) ?hr ?_; (case hd => rfl); (case hg => rfl); (case hr => first | (go_simp; done) | (go_simp; rfl)); intro gb101 hg w11 hbox hb; have n0_ := Aside0.mk (below_step (by repeat (first | (with_reducible first | exact HB.out | apply below_alloc | apply pw_below_drewN | apply below_drew1) | exact HB.out)) hb); have n1_ := Aside0.mk (hbox); have n2_ := Aside0.mk ((by rw [hg]; exact (below_size (by repeat (first | (with_reducible first | exact HB.out | apply below_alloc | apply pw_below_drewN | apply below_drew1) | exact HB.out))) : w.heap.size ≤ gb101)); have n3_ := Aside0.mk ((by rw [hg]; exact (below_size (by repeat (first | (with_reducible first | exact HB.out | apply below_alloc | apply pw_below_drewN | apply below_drew1) | exact HB.out))) : w.heap.size ≤ gb101)); clear HB; have HB := n0_; have BK101 := n1_; have GW101 := n2_; have GE101 := n3_; clear n0_ n1_ n2_ n3_; clear hb hbox hg; have hcz12_0 : w11.cell? ⟨gb101, 0, none⟩ = some (.int .i64 a0_0) := (blk_cell BK101.out 0).trans rfl; have hcz12_1 : w11.cell? ⟨gb101, 1, none⟩ = some (.int .i64 a0_1) := (blk_cell BK101.out 1).trans rfl; have hcz12_2 : w11.cell? ⟨gb101, 2, none⟩ = some (.int .i64 a0_2) := (blk_cell BK101.out 2).trans rfl; have hfz12_0 := blk_frozen BK101.out 0; have hfz12_1 := blk_frozen BK101.out 1; have hfz12_2 := blk_frozen BK101.out 2) | ((with_reducible refine gate_callee (f := 73) rfl ?_); refine goesL_ (some 5) rfl rfl Try.func73 (by kernel_rfl) rfl #[.int .i64 a0_0] rfl (by (try simp only [List.map_toArray, List.map_cons, List.map_nil]); first | done | rfl | (simp only [List.length_drop, List.length_take]; rfl)) ?_; (with_reducible refine (impl_isNode.calls a0_0 false _ A2.out).mono ?_); rintro e w' ⟨rfl, ⟨nd, rfl⟩⟩; refine ⟨_, rfl, ?_⟩))
    go_ret
    exact ⟨by first | rfl | (simp [errW_none, errW_some] <;> rfl) | (simp [*, errW_none, errW_some] <;> rfl), by repeat (first | (with_reducible first | exact HB.out | apply below_alloc | apply pw_below_drewN | apply below_drew1 | refine below_set ?_ GE101.out) | exact HB.out)⟩

end Go.Proofs.Ytgcgdjldhjajaaa.A
namespace Go.Proofs.Ytgcgdjldhjajaaa.A
open Go.RowKit Go.Proofs.YtgcgdjldhjajaaaW.PrintWords Go.Proofs.YtgcgdjldhjajaaaW.PrintLast Go.Proofs.YtgcgdjldhjajaaaW.PrintMore
attribute [local go_sem] max2_int min2_int max_two min_two max_three min_three max_four min_four   -- for this text's walks alone
set_option linter.unusedVariables false
set_option linter.unusedSimpArgs false

/-! ### impl_RecRight: function 106 -/
def impl_RecRight.f (a0_0 : Int) (a0_1 : Int) (a0_2 : Int) (a0_3 : Int) (a0_4 : Int) (a0_5 : Int) : Option (Bool) := (impl_isTime.f a0_0).bind fun t102 => (if t102 = true then ((impl_isNode.f a0_1).bind fun t103 => (if t103 = true then (if a0_2 = 1 then ((impl_isTime.f a0_3).bind fun t104 => (if t104 = true then (if a0_4 = 0 then (some (a0_5 == 0)) else (some false)) else (some false))) else (if a0_2 = 2 then (if a0_3 = 0 then (if a0_4 = 0 then (some (a0_5 == 0)) else (some false)) else (some false)) else (if a0_2 = 3 then ((impl_isTime.f a0_3).bind fun t105 => (if t105 = true then ((impl_isNode.f a0_4).bind fun t106 => (if t106 = true then (some (a0_5 == 0)) else (some false))) else (some false))) else (if a0_2 = 4 then ((impl_isTime.f a0_3).bind fun t107 => (if t107 = true then ((impl_isNode.f a0_4).bind fun t108 => (if t108 = true then (some (a0_5 == 0)) else (some false))) else (some false))) else (if a0_2 = 5 then ((impl_FactRight.f a0_3 a0_4 a0_5).bind fun t109 => (some t109)) else (if a0_2 = 6 then ((impl_isNode.f a0_3).bind fun t110 => (if t110 = true then (if a0_4 = 0 then (some (a0_5 == 0)) else (some false)) else (some false))) else (some false))))))) else (some false))) else (some false))
set_option maxHeartbeats 8000000 in
set_option maxRecDepth 100000 in
theorem impl_RecRight.calls (a0_0 : Int) (a0_1 : Int) (a0_2 : Int) (a0_3 : Int) (a0_4 : Int) (a0_5 : Int) (r : Bool) (w : World) (h : impl_RecRight.f a0_0 a0_1 a0_2 a0_3 a0_4 a0_5 = some r) :
    Calls Try.prog 106 #[.agg #[.int .i64 a0_0, .int .i64 a0_1, .int .i64 a0_2, .int .i64 a0_3, .int .i64 a0_4, .int .i64 a0_5]] w fun e w' => e = .returned (.bool r) ∧ Below w.heap.size w w' := by
  have hu78 := Try.underlying78
  have hu29 := Try.underlying29
  have HB := Aside0.mk (Below.refl w.heap.size w)
  have H : ((impl_isTime.f a0_0).bind fun t102 => (if t102 = true then ((impl_isNode.f a0_1).bind fun t103 => (if t103 = true then (if a0_2 = 1 then ((impl_isTime.f a0_3).bind fun t104 => (if t104 = true then (if a0_4 = 0 then (some (a0_5 == 0)) else (some false)) else (some false))) else (if a0_2 = 2 then (if a0_3 = 0 then (if a0_4 = 0 then (some (a0_5 == 0)) else (some false)) else (some false)) else (if a0_2 = 3 then ((impl_isTime.f a0_3).bind fun t105 => (if t105 = true then ((impl_isNode.f a0_4).bind fun t106 => (if t106 = true then (some (a0_5 == 0)) else (some false))) else (some false))) else (if a0_2 = 4 then ((impl_isTime.f a0_3).bind fun t107 => (if t107 = true then ((impl_isNode.f a0_4).bind fun t108 => (if t108 = true then (some (a0_5 == 0)) else (some false))) else (some false))) else (if a0_2 = 5 then ((impl_FactRight.f a0_3 a0_4 a0_5).bind fun t109 => (some t109)) else (if a0_2 = 6 then ((impl_isNode.f a0_3).bind fun t110 => (if t110 = true then (if a0_4 = 0 then (some (a0_5 == 0)) else (some false)) else (some false))) else (some false))))))) else (some false))) else (some false))) = some r := h
  clear h
  replace H := Option.bind_eq_some_iff.mp H
  obtain ⟨t102, A20, H⟩ := H
  replace H : (if t102 = true then ((impl_isNode.f a0_1).bind fun t103 => (if t103 = true then (if a0_2 = 1 then ((impl_isTime.f a0_3).bind fun t104 => (if t104 = true then (if a0_4 = 0 then (some (a0_5 == 0)) else (some false)) else (some false))) else (if a0_2 = 2 then (if a0_3 = 0 then (if a0_4 = 0 then (some (a0_5 == 0)) else (some false)) else (some false)) else (if a0_2 = 3 then ((impl_isTime.f a0_3).bind fun t105 => (if t105 = true then ((impl_isNode.f a0_4).bind fun t106 => (if t106 = true then (some (a0_5 == 0)) else (some false))) else (some false))) else (if a0_2 = 4 then ((impl_isTime.f a0_3).bind fun t107 => (if t107 = true then ((impl_isNode.f a0_4).bind fun t108 => (if t108 = true then (some (a0_5 == 0)) else (some false))) else (some false))) else (if a0_2 = 5 then ((impl_FactRight.f a0_3 a0_4 a0_5).bind fun t109 => (some t109)) else (if a0_2 = 6 then ((impl_isNode.f a0_3).bind fun t110 => (if t110 = true then (if a0_4 = 0 then (some (a0_5 == 0)) else (some false)) else (some false))) else (some false))))))) else (some false))) else (some false)) = some r := H
  have A2 := Aside0.mk A20
  clear A20
  by_cases c3 : t102 = true
  · subst c3
    have H1 : ((impl_isNode.f a0_1).bind fun t103 => (if t103 = true then (if a0_2 = 1 then ((impl_isTime.f a0_3).bind fun t104 => (if t104 = true then (if a0_4 = 0 then (some (a0_5 == 0)) else (some false)) else (some false))) else (if a0_2 = 2 then (if a0_3 = 0 then (if a0_4 = 0 then (some (a0_5 == 0)) else (some false)) else (some false)) else (if a0_2 = 3 then ((impl_isTime.f a0_3).bind fun t105 => (if t105 = true then ((impl_isNode.f a0_4).bind fun t106 => (if t106 = true then (some (a0_5 == 0)) else (some false))) else (some false))) else (if a0_2 = 4 then ((impl_isTime.f a0_3).bind fun t107 => (if t107 = true then ((impl_isNode.f a0_4).bind fun t108 => (if t108 = true then (some (a0_5 == 0)) else (some false))) else (some false))) else (if a0_2 = 5 then ((impl_FactRight.f a0_3 a0_4 a0_5).bind fun t109 => (some t109)) else (if a0_2 = 6 then ((impl_isNode.f a0_3).bind fun t110 => (if t110 = true then (if a0_4 = 0 then (some (a0_5 == 0)) else (some false)) else (some false))) else (some false))))))) else (some false))) = some r := by rw [if_pos rfl] at H; exact H
    clear H
    have H := H1
    clear H1
    replace H := Option.bind_eq_some_iff.mp H
    obtain ⟨t103, A40, H⟩ := H
    replace H : (if t103 = true then (if a0_2 = 1 then ((impl_isTime.f a0_3).bind fun t104 => (if t104 = true then (if a0_4 = 0 then (some (a0_5 == 0)) else (some false)) else (some false))) else (if a0_2 = 2 then (if a0_3 = 0 then (if a0_4 = 0 then (some (a0_5 == 0)) else (some false)) else (some false)) else (if a0_2 = 3 then ((impl_isTime.f a0_3).bind fun t105 => (if t105 = true then ((impl_isNode.f a0_4).bind fun t106 => (if t106 = true then (some (a0_5 == 0)) else (some false))) else (some false))) else (if a0_2 = 4 then ((impl_isTime.f a0_3).bind fun t107 => (if t107 = true then ((impl_isNode.f a0_4).bind fun t108 => (if t108 = true then (some (a0_5 == 0)) else (some false))) else (some false))) else (if a0_2 = 5 then ((impl_FactRight.f a0_3 a0_4 a0_5).bind fun t109 => (some t109)) else (if a0_2 = 6 then ((impl_isNode.f a0_3).bind fun t110 => (if t110 = true then (if a0_4 = 0 then (some (a0_5 == 0)) else (some false)) else (some false))) else (some false))))))) else (some false)) = some r := H
    have A4 := Aside0.mk A40
    clear A40
    by_cases c5 : t103 = true
    · subst c5
      have H1 : (if a0_2 = 1 then ((impl_isTime.f a0_3).bind fun t104 => (if t104 = true then (if a0_4 = 0 then (some (a0_5 == 0)) else (some false)) else (some false))) else (if a0_2 = 2 then (if a0_3 = 0 then (if a0_4 = 0 then (some (a0_5 == 0)) else (some false)) else (some false)) else (if a0_2 = 3 then ((impl_isTime.f a0_3).bind fun t105 => (if t105 = true then ((impl_isNode.f a0_4).bind fun t106 => (if t106 = true then (some (a0_5 == 0)) else (some false))) else (some false))) else (if a0_2 = 4 then ((impl_isTime.f a0_3).bind fun t107 => (if t107 = true then ((impl_isNode.f a0_4).bind fun t108 => (if t108 = true then (some (a0_5 == 0)) else (some false))) else (some false))) else (if a0_2 = 5 then ((impl_FactRight.f a0_3 a0_4 a0_5).bind fun t109 => (some t109)) else (if a0_2 = 6 then ((impl_isNode.f a0_3).bind fun t110 => (if t110 = true then (if a0_4 = 0 then (some (a0_5 == 0)) else (some false)) else (some false))) else (some false))))))) = some r := by rw [if_pos rfl] at H; exact H
      clear H
      have H := H1
      clear H1
      by_cases c6 : a0_2 = 1
      · rw [if_pos c6] at H
        have c6b0 : (a0_2 == 1) = true := beq_iff_eq.mpr c6
        have c6b1 : (a0_2 != 1) = false := bne_eq_false_iff_eq.mpr c6
        clear c6
        replace H := Option.bind_eq_some_iff.mp H
        obtain ⟨t104, A70, H⟩ := H
        replace H : (if t104 = true then (if a0_4 = 0 then (some (a0_5 == 0)) else (some false)) else (some false)) = some r := H
        have A7 := Aside0.mk A70
        clear A70
        by_cases c8 : t104 = true
        · subst c8
          have H1 : (if a0_4 = 0 then (some (a0_5 == 0)) else (some false)) = some r := by rw [if_pos rfl] at H; exact H
          clear H
          have H := H1
          clear H1
          by_cases c9 : a0_4 = 0
          · rw [if_pos c9] at H
            have c9b0 : (a0_4 == 0) = true := beq_iff_eq.mpr c9
            have c9b1 : (a0_4 != 0) = false := bne_eq_false_iff_eq.mpr c9
            clear c9
            obtain rfl := Option.some.inj H
            go_enter Try.func106, Try.ntmps106
            go_wp2_with (first | ((with_reducible refine gate_dst (N := 1) rfl ?_); refine box_event ?hg (N := 1) ?hd (cs := #[.int .i64 a0_0, .int .i64 a0_1, .int .i64 a0_2, .int .i64 a0_3, .int .i64 a0_4, .int .i64 a0_5]) (t := 78) ?hr ?_; (case hd => rfl); (case hg => rfl); (case hr => first | (go_simp; done) | (go_simp; rfl)); intro gb101 hg w10 hbox hb; have n0_ := Aside0.mk (below_step (by repeat (first | (with_reducible first | exact HB.out | apply below_alloc | apply pw_below_drewN | apply below_drew1) | exact HB.out)) hb); have n1_ := Aside0.mk (hbox); have n2_ := Aside0.mk ((by rw [hg]; exact (below_size (by repeat (first | (with_reducible first | exact HB.out | apply below_alloc | apply pw_below_drewN | apply below_drew1) | exact HB.out))) : w.heap.size ≤ gb101)); have n3_ := Aside0.mk ((by rw [hg]; exact (below_size (by repeat (first | (with_reducible first | exact HB.out | apply below_alloc | apply pw_below_drewN | apply below_drew1) | exact HB.out))) : w.heap.size ≤ gb101)); clear HB; have HB := n0_; have BK101 := n1_; have GW101 := n2_; have GE101 := n3_; clear n0_ n1_ n2_ n3_; clear hb hbox hg; have hcz11_0 : w10.cell? ⟨gb101, 0, none⟩ = some (.int .i64 a0_0) := (blk_cell BK101.out 0).trans rfl; have hcz11_1 : w10.cell? ⟨gb101, 1, none⟩ = some (.int .i64 a0_1) := (blk_cell BK101.out 1).trans rfl; have hcz11_2 : w10.cell? ⟨gb101, 2, none⟩ = some (.int .i64 a0_2) := (blk_cell BK101.out 2).trans rfl; have hcz11_3 : w10.cell? ⟨gb101, 3, none⟩ = some (.int .i64 a0_3) := (blk_cell BK101.out 3).trans rfl; have hcz11_4 : w10.cell? ⟨gb101, 4, none⟩ = some (.int .i64 a0_4) := (blk_cell BK101.out 4).trans rfl; have hcz11_5 : w10.cell? ⟨gb101, 5, none⟩ = some (.int .i64 a0_5) := (blk_cell BK101.out 5).trans rfl; have hfz11_0 := blk_frozen BK101.out 0; have hfz11_1 := blk_frozen BK101.out 1; have hfz11_2 := blk_frozen BK101.out 2; have hfz11_3 := blk_frozen BK101.out 3; have hfz11_4 := blk_frozen BK101.out 4; have hfz11_5 := blk_frozen BK101.out 5) | ((with_reducible refine gate_callee (f := 107) rfl ?_); refine goesL_ (some 5) rfl rfl Try.func107 (by kernel_rfl) rfl #[.int .i64 a0_0] rfl (by (try simp only [List.map_toArray, List.map_cons, List.map_nil]); first | done | rfl | (simp only [List.length_drop, List.length_take]; rfl)) ?_; (with_reducible refine (impl_isTime.calls a0_0 true _ A2.out).mono ?_); rintro e w' ⟨rfl, ⟨nd, rfl⟩⟩; refine ⟨_, rfl, ?_⟩) | (go_at_call 73; (with_reducible refine (impl_isNode.calls a0_1 true _ A4.out).mono ?_); rintro e w' ⟨rfl, ⟨nd, rfl⟩⟩) | ((with_reducible refine gate_callee (f := 107) rfl ?_); refine goesL_ (some 19) rfl rfl Try.func107 (by kernel_rfl) rfl #[.int .i64 a0_3] rfl (by (try simp only [List.map_toArray, List.map_cons, List.map_nil]); first | done | rfl | (simp only [List.length_drop, List.length_take]; rfl)) ?_; (with_reducible refine (impl_isTime.calls a0_3 true _ A7.out).mono ?_); rintro e w' ⟨rfl, ⟨nd, rfl⟩⟩; refine ⟨_, rfl, ?_⟩))
            go_ret
            exact ⟨by first | rfl | (simp [errW_none, errW_some] <;> rfl) | (simp [*, errW_none, errW_some] <;> rfl), by repeat (first | (with_reducible first | exact HB.out | apply below_alloc | apply pw_below_drewN | apply below_drew1 | refine below_set ?_ GE101.out) | exact HB.out)⟩
          · rw [if_neg c9] at H
            have c9b0 : (a0_4 == 0) = false := beq_eq_false_iff_ne.mpr c9
            have c9b1 : (a0_4 != 0) = true := bne_iff_ne.mpr c9
            obtain rfl := Option.some.inj H
            go_enter Try.func106, Try.ntmps106
            go_wp2_with (first | ((with_reducible refine gate_dst (N := 1) rfl ?_); refine box_event ?hg (N := 1) ?hd (cs := #[.int .i64 a0_0, .int .i64 a0_1, .int .i64 a0_2, .int .i64 a0_3, .int .i64 a0_4, .int .i64 a0_5]) (t := 78) ?hr ?_; (case hd => rfl); (case hg => rfl); (case hr => first | (go_simp; done) | (go_simp; rfl)); intro gb101 hg w12 hbox hb; have n0_ := Aside0.mk (below_step (by repeat (first | (with_reducible first | exact HB.out | apply below_alloc | apply pw_below_drewN | apply below_drew1) | exact HB.out)) hb); have n1_ := Aside0.mk (hbox); have n2_ := Aside0.mk ((by rw [hg]; exact (below_size (by repeat (first | (with_reducible first | exact HB.out | apply below_alloc | apply pw_below_drewN | apply below_drew1) | exact HB.out))) : w.heap.size ≤ gb101)); have n3_ := Aside0.mk ((by rw [hg]; exact (below_size (by repeat (first | (with_reducible first | exact HB.out | apply below_alloc | apply pw_below_drewN | apply below_drew1) | exact HB.out))) : w.heap.size ≤ gb101)); clear HB; have HB := n0_; have BK101 := n1_; have GW101 := n2_; have GE101 := n3_; clear n0_ n1_ n2_ n3_; clear hb hbox hg; have hcz13_0 : w12.cell? ⟨gb101, 0, none⟩ = some (.int .i64 a0_0) := (blk_cell BK101.out 0).trans rfl; have hcz13_1 : w12.cell? ⟨gb101, 1, none⟩ = some (.int .i64 a0_1) := (blk_cell BK101.out 1).trans rfl; have hcz13_2 : w12.cell? ⟨gb101, 2, none⟩ = some (.int .i64 a0_2) := (blk_cell BK101.out 2).trans rfl; have hcz13_3 : w12.cell? ⟨gb101, 3, none⟩ = some (.int .i64 a0_3) := (blk_cell BK101.out 3).trans rfl; have hcz13_4 : w12.cell? ⟨gb101, 4, none⟩ = some (.int .i64 a0_4) := (blk_cell BK101.out 4).trans rfl; have hcz13_5 : w12.cell? ⟨gb101, 5, none⟩ = some (.int .i64 a0_5) := (blk_cell BK101.out 5).trans rfl; have hfz13_0 := blk_frozen BK101.out 0; have hfz13_1 := blk_frozen BK101.out 1; have hfz13_2 := blk_frozen BK101.out 2; have hfz13_3 := blk_frozen BK101.out 3; have hfz13_4 := blk_frozen BK101.out 4; have hfz13_5 := blk_frozen BK101.out 5) | ((with_reducible refine gate_callee (f := 107) rfl ?_); refine goesL_ (some 5) rfl rfl Try.func107 (by kernel_rfl) rfl #[.int .i64 a0_0] rfl (by (try simp only [List.map_toArray, List.map_cons, List.map_nil]); first | done | rfl | (simp only [List.length_drop, List.length_take]; rfl)) ?_; (with_reducible refine (impl_isTime.calls a0_0 true _ A2.out).mono ?_); rintro e w' ⟨rfl, ⟨nd, rfl⟩⟩; refine ⟨_, rfl, ?_⟩) | (go_at_call 73; (with_reducible refine (impl_isNode.calls a0_1 true _ A4.out).mono ?_); rintro e w' ⟨rfl, ⟨nd, rfl⟩⟩) | ((with_reducible refine gate_callee (f := 107) rfl ?_); refine goesL_ (some 19) rfl rfl Try.func107 (by kernel_rfl) rfl #[.int .i64 a0_3] rfl (by (try simp only [List.map_toArray, List.map_cons, List.map_nil]); first | done | rfl | (simp only [List.length_drop, List.length_take]; rfl)) ?_; (with_reducible refine (impl_isTime.calls a0_3 true _ A7.out).mono ?_); rintro e w' ⟨rfl, ⟨nd, rfl⟩⟩; refine ⟨_, rfl, ?_⟩))
            go_ret
            exact ⟨by first | rfl | (simp [errW_none, errW_some] <;> rfl) | (simp [*, errW_none, errW_some] <;> rfl), by repeat (first | (with_reducible first | exact HB.out | apply below_alloc | apply pw_below_drewN | apply below_drew1 | refine below_set ?_ GE101.out) | exact HB.out)⟩
        · replace c8 := Bool.eq_false_iff.mpr c8
          subst c8
          have H1 : (some false) = some r := by rw [if_neg (show ¬ (false = true) by decide)] at H; exact H
          clear H
          have H := H1
          clear H1
          obtain rfl := Option.some.inj H
          go_enter Try.func106, Try.ntmps106
          go_wp2_with (first | ((with_reducible refine gate_dst (N := 1) rfl ?_); refine box_event ?hg (N := 1) ?hd (cs := #[.int .i64 a0_0, .int .i64 a0_1, .int .i64 a0_2, .int .i64 a0_3, .int .i64 a0_4, .int .i64 a0_5]) (t := 78) ?hr ?_; (case hd => rfl); (case hg => rfl); (case hr => first | (go_simp; done) | (go_simp; rfl)); intro gb101 hg w14 hbox hb; have n0_ := Aside0.mk (below_step (by repeat (first | (with_reducible first | exact HB.out | apply below_alloc | apply pw_below_drewN | apply below_drew1) | exact HB.out)) hb); have n1_ := Aside0.mk (hbox); have n2_ := Aside0.mk ((by rw [hg]; exact (below_size (by repeat (first | (with_reducible first | exact HB.out | apply below_alloc | apply pw_below_drewN | apply below_drew1) | exact HB.out))) : w.heap.size ≤ gb101)); have n3_ := Aside0.mk ((by rw [hg]; exact (below_size (by repeat (first | (with_reducible first | exact HB.out | apply below_alloc | apply pw_below_drewN | apply below_drew1) | exact HB.out))) : w.heap.size ≤ gb101)); clear HB; have HB := n0_; have BK101 := n1_; have GW101 := n2_; have GE101 := n3_; clear n0_ n1_ n2_ n3_; clear hb hbox hg; have hcz15_0 : w14.cell? ⟨gb101, 0, none⟩ = some (.int .i64 a0_0) := (blk_cell BK101.out 0).trans rfl; have hcz15_1 : w14.cell? ⟨gb101, 1, none⟩ = some (.int .i64 a0_1) := (blk_cell BK101.out 1).trans rfl; have hcz15_2 : w14.cell? ⟨gb101, 2, none⟩ = some (.int .i64 a0_2) := (blk_cell BK101.out 2).trans rfl; have hcz15_3 : w14.cell? ⟨gb101, 3, none⟩ = some (.int .i64 a0_3) := (blk_cell BK101.out 3).trans rfl; have hcz15_4 : w14.cell? ⟨gb101, 4, none⟩ = some (.int .i64 a0_4) := (blk_cell BK101.out 4).trans rfl; have hcz15_5 : w14.cell? ⟨gb101, 5, none⟩ = some (.int .i64 a0_5) := (blk_cell BK101.out 5).trans rfl; have hfz15_0 := blk_frozen BK101.out 0; have hfz15_1 := blk_frozen BK101.out 1; have hfz15_2 := blk_frozen BK101.out 2; have hfz15_3 := blk_frozen BK101.out 3; have hfz15_4 := blk_frozen BK101.out 4; have hfz15_5 := blk_frozen BK101.out 5) | ((with_reducible refine gate_callee (f := 107) rfl ?_); refine goesL_ (some 5) rfl rfl Try.func107 (by kernel_rfl) rfl #[.int .i64 a0_0] rfl (by (try simp only [List.map_toArray, List.map_cons, List.map_nil]); first | done | rfl | (simp only [List.length_drop, List.length_take]; rfl)) ?_; (with_reducible refine (impl_isTime.calls a0_0 true _ A2.out).mono ?_); rintro e w' ⟨rfl, ⟨nd, rfl⟩⟩; refine ⟨_, rfl, ?_⟩) | (go_at_call 73; (with_reducible refine (impl_isNode.calls a0_1 true _ A4.out).mono ?_); rintro e w' ⟨rfl, ⟨nd, rfl⟩⟩) | ((with_reducible refine gate_callee (f := 107) rfl ?_); refine goesL_ (some 19) rfl rfl Try.func107 (by kernel_rfl) rfl #[.int .i64 a0_3] rfl (by (try simp only [List.map_toArray, List.map_cons, List.map_nil]); first | done | rfl | (simp only [List.length_drop, List.length_take]; rfl)) ?_; (with_reducible refine (impl_isTime.calls a0_3 false _ A7.out).mono ?_); rintro e w' ⟨rfl, ⟨nd, rfl⟩⟩; refine ⟨_, rfl, ?_⟩))
          go_ret
          exact ⟨by first | rfl | (simp [errW_none, errW_some] <;> rfl) | (simp [*, errW_none, errW_some] <;> rfl), by repeat (first | (with_reducible first | exact HB.out | apply below_alloc | apply pw_below_drewN | apply below_drew1 | refine below_set ?_ GE101.out) | exact HB.out)⟩
      · rw [if_neg c6] at H
        have c6b0 : (a0_2 == 1) = false := beq_eq_false_iff_ne.mpr c6
        have c6b1 : (a0_2 != 1) = true := bne_iff_ne.mpr c6
        by_cases c16 : a0_2 = 2
        · rw [if_pos c16] at H
          have c16b0 : (a0_2 == 2) = true := beq_iff_eq.mpr c16
          have c16b1 : (a0_2 != 2) = false := bne_eq_false_iff_eq.mpr c16
          clear c16
          by_cases c17 : a0_3 = 0
          · rw [if_pos c17] at H
            have c17b0 : (a0_3 == 0) = true := beq_iff_eq.mpr c17
            have c17b1 : (a0_3 != 0) = false := bne_eq_false_iff_eq.mpr c17
            clear c17
            by_cases c18 : a0_4 = 0
            · rw [if_pos c18] at H
              have c18b0 : (a0_4 == 0) = true := beq_iff_eq.mpr c18
              have c18b1 : (a0_4 != 0) = false := bne_eq_false_iff_eq.mpr c18
              clear c18
              obtain rfl := Option.some.inj H
              go_enter Try.func106, Try.ntmps106
              go_wp2_with (first | ((with_reducible refine gate_dst (N := 1) rfl ?_); refine box_event ?hg (N := 1) ?hd (cs := #[.int .i64 a0_0, .int .i64 a0_1, .int .i64 a0_2, .int .i64 a0_3, .int .i64 a0_4, .int .i64 a0_5]) (t := 78) ?hr ?_; (case hd => rfl); (case hg => rfl); (case hr => first | (go_simp; done) | (go_simp; rfl)); intro gb101 hg w19 hbox hb; have n0_ := Aside0.mk (below_step (by repeat (first | (with_reducible first | exact HB.out | apply below_alloc | apply pw_below_drewN | apply below_drew1) | exact HB.out)) hb); have n1_ := Aside0.mk (hbox); have n2_ := Aside0.mk ((by rw [hg]; exact (below_size (by repeat (first | (with_reducible first | exact HB.out | apply below_alloc | apply pw_below_drewN | apply below_drew1) | exact HB.out))) : w.heap.size ≤ gb101)); have n3_ := Aside0.mk ((by rw [hg]; exact (below_size (by repeat (first | (with_reducible first | exact HB.out | apply below_alloc | apply pw_below_drewN | apply below_drew1) | exact HB.out))) : w.heap.size ≤ gb101)); clear HB; have HB := n0_; have BK101 := n1_; have GW101 := n2_; have GE101 := n3_; clear n0_ n1_ n2_ n3_; clear hb hbox hg; have hcz20_0 : w19.cell? ⟨gb101, 0, none⟩ = some (.int .i64 a0_0) := (blk_cell BK101.out 0).trans rfl; have hcz20_1 : w19.cell? ⟨gb101, 1, none⟩ = some (.int .i64 a0_1) := (blk_cell BK101.out 1).trans rfl; have hcz20_2 : w19.cell? ⟨gb101, 2, none⟩ = some (.int .i64 a0_2) := (blk_cell BK101.out 2).trans rfl; have hcz20_3 : w19.cell? ⟨gb101, 3, none⟩ = some (.int .i64 a0_3) := (blk_cell BK101.out 3).trans rfl; have hcz20_4 : w19.cell? ⟨gb101, 4, none⟩ = some (.int .i64 a0_4) := (blk_cell BK101.out 4).trans rfl; have hcz20_5 : w19.cell? ⟨gb101, 5, none⟩ = some (.int .i64 a0_5) := (blk_cell BK101.out 5).trans rfl; have hfz20_0 := blk_frozen BK101.out 0; have hfz20_1 := blk_frozen BK101.out 1; have hfz20_2 := blk_frozen BK101.out 2; have hfz20_3 := blk_frozen BK101.out 3; have hfz20_4 := blk_frozen BK101.out 4; have hfz20_5 := blk_frozen BK101.out 5) | ((with_reducible refine gate_callee (f := 107) rfl ?_); refine goesL_ (some 5) rfl rfl Try.func107 (by kernel_rfl) rfl #[.int .i64 a0_0] rfl (by (try simp only [List.map_toArray, List.map_cons, List.map_nil]); first | done | rfl | (simp only [List.length_drop, List.length_take]; rfl)) ?_; (with_reducible refine (impl_isTime.calls a0_0 true _ A2.out).mono ?_); rintro e w' ⟨rfl, ⟨nd, rfl⟩⟩; refine ⟨_, rfl, ?_⟩) | (go_at_call 73; (with_reducible refine (impl_isNode.calls a0_1 true _ A4.out).mono ?_); rintro e w' ⟨rfl, ⟨nd, rfl⟩⟩))
              go_ret
              exact ⟨by first | rfl | (simp [errW_none, errW_some] <;> rfl) | (simp [*, errW_none, errW_some] <;> rfl), by repeat (first | (with_reducible first | exact HB.out | apply below_alloc | apply pw_below_drewN | apply below_drew1 | refine below_set ?_ GE101.out) | exact HB.out)⟩
            · rw [if_neg c18] at H
              have c18b0 : (a0_4 == 0) = false := beq_eq_false_iff_ne.mpr c18
              have c18b1 : (a0_4 != 0) = true := bne_iff_ne.mpr c18
              obtain rfl := Option.some.inj H
              go_enter Try.func106, Try.ntmps106
              go_wp2_with (first | ((with_reducible refine gate_dst (N := 1) rfl ?_); refine box_event ?hg (N := 1) ?hd (cs := #[.int .i64 a0_0, .int .i64 a0_1, .int .i64 a0_2, .int .i64 a0_3, .int .i64 a0_4, .int .i64 a0_5]) (t := 78) ?hr ?_; (case hd => rfl); (case hg => rfl); (case hr => first | (go_simp; done) | (go_simp; rfl)); intro gb101 hg w21 hbox hb; have n0_ := Aside0.mk (below_step (by repeat (first | (with_reducible first | exact HB.out | apply below_alloc | apply pw_below_drewN | apply below_drew1) | exact HB.out)) hb); have n1_ := Aside0.mk (hbox); have n2_ := Aside0.mk ((by rw [hg]; exact (below_size (by repeat (first | (with_reducible first | exact HB.out | apply below_alloc | apply pw_below_drewN | apply below_drew1) | exact HB.out))) : w.heap.size ≤ gb101)); have n3_ := Aside0.mk ((by rw [hg]; exact (below_size (by repeat (first | (with_reducible first | exact HB.out | apply below_alloc | apply pw_below_drewN | apply below_drew1) | exact HB.out))) : w.heap.size ≤ gb101)); clear HB; have HB := n0_; have BK101 := n1_; have GW101 := n2_; have GE101 := n3_; clear n0_ n1_ n2_ n3_; clear hb hbox hg; have hcz22_0 : w21.cell? ⟨gb101, 0, none⟩ = some (.int .i64 a0_0) := (blk_cell BK101.out 0).trans rfl; have hcz22_1 : w21.cell? ⟨gb101, 1, none⟩ = some (.int .i64 a0_1) := (blk_cell BK101.out 1).trans rfl; have hcz22_2 : w21.cell? ⟨gb101, 2, none⟩ = some (.int .i64 a0_2) := (blk_cell BK101.out 2).trans rfl; have hcz22_3 : w21.cell? ⟨gb101, 3, none⟩ = some (.int .i64 a0_3) := (blk_cell BK101.out 3).trans rfl; have hcz22_4 : w21.cell? ⟨gb101, 4, none⟩ = some (.int .i64 a0_4) := (blk_cell BK101.out 4).trans rfl; have hcz22_5 : w21.cell? ⟨gb101, 5, none⟩ = some (.int .i64 a0_5) := (blk_cell BK101.out 5).trans rfl; have hfz22_0 := blk_frozen BK101.out 0; have hfz22_1 := blk_frozen BK101.out 1; have hfz22_2 := blk_frozen BK101.out 2; have hfz22_3 := blk_frozen BK101.out 3; have hfz22_4 := blk_frozen BK101.out 4; have hfz22_5 := blk_frozen BK101.out 5) | ((with_reducible refine gate_callee (f := 107) rfl ?_); refine goesL_ (some 5) rfl rfl Try.func107 (by kernel_rfl) rfl #[.int .i64 a0_0] rfl (by (try simp only [List.map_toArray, List.map_cons, List.map_nil]); first | done | rfl | (simp only [List.length_drop, List.length_take]; rfl)) ?_; (with_reducible refine (impl_isTime.calls a0_0 true _ A2.out).mono ?_); rintro e w' ⟨rfl, ⟨nd, rfl⟩⟩; refine ⟨_, rfl, ?_⟩) | (go_at_call 73; (with_reducible refine (impl_isNode.calls a0_1 true _ A4.out).mono ?_); rintro e w' ⟨rfl, ⟨nd, rfl⟩⟩))
              go_ret
              exact ⟨by first | rfl | (simp [errW_none, errW_some] <;> rfl) | (simp [*, errW_none, errW_some] <;> rfl), by repeat (first | (with_reducible first | exact HB.out | apply below_alloc | apply pw_below_drewN | apply below_drew1 | refine below_set ?_ GE101.out) | exact HB.out)⟩
          · rw [if_neg c17] at H
            have c17b0 : (a0_3 == 0) = false := beq_eq_false_iff_ne.mpr c17
            have c17b1 : (a0_3 != 0) = true := bne_iff_ne.mpr c17
            obtain rfl := Option.some.inj H
            go_enter Try.func106, Try.ntmps106
            go_wp2_with (first | ((with_reducible refine gate_dst (N := 1) rfl ?_); refine box_event ?hg (N := 1) ?hd (cs := #[.int .i64 a0_0, .int .i64 a0_1, .int .i64 a0_2, .int .i64 a0_3, .int .i64 a0_4, .int .i64 a0_5]) (t := 78) ?hr ?_; (case hd => rfl); (case hg => rfl); (case hr => first | (go_simp; done) | (go_simp; rfl)); intro gb101 hg w23 hbox hb; have n0_ := Aside0.mk (below_step (by repeat (first | (with_reducible first | exact HB.out | apply below_alloc | apply pw_below_drewN | apply below_drew1) | exact HB.out)) hb); have n1_ := Aside0.mk (hbox); have n2_ := Aside0.mk ((by rw [hg]; exact (below_size (by repeat (first | (with_reducible first | exact HB.out | apply below_alloc | apply pw_below_drewN | apply below_drew1) | exact HB.out))) : w.heap.size ≤ gb101)); have n3_ := Aside0.mk ((by rw [hg]; exact (below_size (by repeat (first | (with_reducible first | exact HB.out | apply below_alloc | apply pw_below_drewN | apply below_drew1) | exact HB.out))) : w.heap.size ≤ gb101)); clear HB; have HB := n0_; have BK101 := n1_; have GW101 := n2_; have GE101 := n3_; clear n0_ n1_ n2_ n3_; clear hb hbox hg; have hcz24_0 : w23.cell? ⟨gb101, 0, none⟩ = some (.int .i64 a0_0) := (blk_cell BK101.out 0).trans rfl; have hcz24_1 : w23.cell? ⟨gb101, 1, none⟩ = some (.int .i64 a0_1) := (blk_cell BK101.out 1).trans rfl; have hcz24_2 : w23.cell? ⟨gb101, 2, none⟩ = some (.int .i64 a0_2) := (blk_cell BK101.out 2).trans rfl; have hcz24_3 : w23.cell? ⟨gb101, 3, none⟩ = some (.int .i64 a0_3) := (blk_cell BK101.out 3).trans rfl; have hcz24_4 : w23.cell? ⟨gb101, 4, none⟩ = some (.int .i64 a0_4) := (blk_cell BK101.out 4).trans rfl; have hcz24_5 : w23.cell? ⟨gb101, 5, none⟩ = some (.int .i64 a0_5) := (blk_cell BK101.out 5).trans rfl; have hfz24_0 := blk_frozen BK101.out 0; have hfz24_1 := blk_frozen BK101.out 1; have hfz24_2 := blk_frozen BK101.out 2; have hfz24_3 := blk_frozen BK101.out 3; have hfz24_4 := blk_frozen BK101.out 4; have hfz24_5 := blk_frozen BK101.out 5) | ((with_reducible refine gate_callee (f := 107) rfl ?_); refine goesL_ (some 5) rfl rfl Try.func107 (by kernel_rfl) rfl #[.int .i64 a0_0] rfl (by (try simp only [List.map_toArray, List.map_cons, List.map_nil]); first | done | rfl | (simp only [List.length_drop, List.length_take]; rfl)) ?_; (with_reducible refine (impl_isTime.calls a0_0 true _ A2.out).mono ?_); rintro e w' ⟨rfl, ⟨nd, rfl⟩⟩; refine ⟨_, rfl, ?_⟩) | (go_at_call 73; (with_reducible refine (impl_isNode.calls a0_1 true _ A4.out).mono ?_); rintro e w' ⟨rfl, ⟨nd, rfl⟩⟩))
            go_ret
            exact ⟨by first | rfl | (simp [errW_none, errW_some] <;> rfl) | (simp [*, errW_none, errW_some] <;> rfl), by repeat (first | (with_reducible first | exact HB.out | apply below_alloc | apply pw_below_drewN | apply below_drew1 | refine below_set ?_ GE101.out) | exact HB.out)⟩
        · rw [if_neg c16] at H
          have c16b0 : (a0_2 == 2) = false := beq_eq_false_iff_ne.mpr c16
          have c16b1 : (a0_2 != 2) = true := bne_iff_ne.mpr c16
          by_cases c25 : a0_2 = 3
          · rw [if_pos c25] at H
            have c25b0 : (a0_2 == 3) = true := beq_iff_eq.mpr c25
            have c25b1 : (a0_2 != 3) = false := bne_eq_false_iff_eq.mpr c25
            clear c25
            replace H := Option.bind_eq_some_iff.mp H
            obtain ⟨t105, A260, H⟩ := H
            replace H : (if t105 = true then ((impl_isNode.f a0_4).bind fun t106 => (if t106 = true then (some (a0_5 == 0)) else (some false))) else (some false)) = some r := H
            have A26 := Aside0.mk A260
            clear A260
            by_cases c27 : t105 = true
            · subst c27
              have H1 : ((impl_isNode.f a0_4).bind fun t106 => (if t106 = true then (some (a0_5 == 0)) else (some false))) = some r := by rw [if_pos rfl] at H; exact H
              clear H
              have H := H1
              clear H1
              replace H := Option.bind_eq_some_iff.mp H
              obtain ⟨t106, A280, H⟩ := H
              replace H : (if t106 = true then (some (a0_5 == 0)) else (some false)) = some r := H
              have A28 := Aside0.mk A280
              clear A280
              by_cases c29 : t106 = true
              · subst c29
                have H1 : (some (a0_5 == 0)) = some r := by rw [if_pos rfl] at H; exact H
                clear H
                have H := H1
                clear H1
                obtain rfl := Option.some.inj H
                go_enter Try.func106, Try.ntmps106
                go_wp2_with (first | ((with_reducible refine gate_dst (N := 1) rfl ?_); refine box_event ?hg (N := 1) ?hd (cs := #[.int .i64 a0_0, .int .i64 a0_1, .int .i64 a0_2, .int .i64 a0_3, .int .i64 a0_4, .int .i64 a0_5]) (t := 78) ?hr ?_; (case hd => rfl); (case hg => rfl); (case hr => first | (go_simp; done) | (go_simp; rfl)); intro gb101 hg w30 hbox hb; have n0_ := Aside0.mk (below_step (by repeat (first | (with_reducible first | exact HB.out | apply below_alloc | apply pw_below_drewN | apply below_drew1) | exact HB.out)) hb); have n1_ := Aside0.mk (hbox); have n2_ := Aside0.mk ((by rw [hg]; exact (below_size (by repeat (first | (with_reducible first | exact HB.out | apply below_alloc | apply pw_below_drewN | apply below_drew1) | exact HB.out))) : w.heap.size ≤ gb101)); have n3_ := Aside0.mk ((by rw [hg]; exact (below_size (by repeat (first | (with_reducible first | exact HB.out | apply below_alloc | apply pw_below_drewN | apply below_drew1) | exact HB.out))) : w.heap.size ≤ gb101)); clear HB; have HB := n0_; have BK101 := n1_; have GW101 := n2_; have GE101 := n3_; clear n0_ n1_ n2_ n3_; clear hb hbox hg; have hcz31_0 : w30.cell? ⟨gb101, 0, none⟩ = some (.int .i64 a0_0) := (blk_cell BK101.out 0).trans rfl; have hcz31_1 : w30.cell? ⟨gb101, 1, none⟩ = some (.int .i64 a0_1) := (blk_cell BK101.out 1).trans rfl; have hcz31_2 : w30.cell? ⟨gb101, 2, none⟩ = some (.int .i64 a0_2) := (blk_cell BK101.out 2).trans rfl; have hcz31_3 : w30.cell? ⟨gb101, 3, none⟩ = some (.int .i64 a0_3) := (blk_cell BK101.out 3).trans rfl; have hcz31_4 : w30.cell? ⟨gb101, 4, none⟩ = some (.int .i64 a0_4) := (blk_cell BK101.out 4).trans rfl; have hcz31_5 : w30.cell? ⟨gb101, 5, none⟩ = some (.int .i64 a0_5) := (blk_cell BK101.out 5).trans rfl; have hfz31_0 := blk_frozen BK101.out 0; have hfz31_1 := blk_frozen BK101.out 1; have hfz31_2 := blk_frozen BK101.out 2; have hfz31_3 := blk_frozen BK101.out 3; have hfz31_4 := blk_frozen BK101.out 4; have hfz31_5 := blk_frozen BK101.out 5) | ((with_reducible refine gate_callee (f := 107) rfl ?_); refine goesL_ (some 5) rfl rfl Try.func107 (by kernel_rfl) rfl #[.int .i64 a0_0] rfl (by (try simp only [List.map_toArray, List.map_cons, List.map_nil]); first | done | rfl | (simp only [List.length_drop, List.length_take]; rfl)) ?_; (with_reducible refine (impl_isTime.calls a0_0 true _ A2.out).mono ?_); rintro e w' ⟨rfl, ⟨nd, rfl⟩⟩; refine ⟨_, rfl, ?_⟩) | (go_at_call 73; (with_reducible refine (impl_isNode.calls a0_1 true _ A4.out).mono ?_); rintro e w' ⟨rfl, ⟨nd, rfl⟩⟩) | ((with_reducible refine gate_callee (f := 107) rfl ?_); refine goesL_ (some 50) rfl rfl Try.func107 (by kernel_rfl) rfl #[.int .i64 a0_3] rfl (by (try simp only [List.map_toArray, List.map_cons, List.map_nil]); first | done | rfl | (simp only [List.length_drop, List.length_take]; rfl)) ?_; (with_reducible refine (impl_isTime.calls a0_3 true _ A26.out).mono ?_); rintro e w' ⟨rfl, ⟨nd, rfl⟩⟩; refine ⟨_, rfl, ?_⟩) | (go_at_call 73; (with_reducible refine (impl_isNode.calls a0_4 true _ A28.out).mono ?_); rintro e w' ⟨rfl, ⟨nd, rfl⟩⟩))
                go_ret
                exact ⟨by first | rfl | (simp [errW_none, errW_some] <;> rfl) | (simp [*, errW_none, errW_some] <;> rfl), by repeat (first | (with_reducible first | exact HB.out | apply below_alloc | apply pw_below_drewN | apply below_drew1 | refine below_set ?_ GE101.out) | exact HB.out)⟩
              · replace c29 := Bool.eq_false_iff.mpr c29
                subst c29
                have H1 : (some false) = some r := by rw [if_neg (show ¬ (false = true) by decide)] at H; exact H
                clear H
                have H := H1
                clear H1
                obtain rfl := Option.some.inj H
                go_enter Try.func106, Try.ntmps106
                go_wp2_with (first | ((with_reducible refine gate_dst (N := 1) rfl ?_); refine box_event ?hg (N := 1) ?hd (cs := #[.int .i64 a0_0, .int .i64 a0_1, .int .i64 a0_2, .int .i64 a0_3, .int .i64 a0_4, .int .i64 a0_5]) (t := 78) ?hr ?_; (case hd => rfl); (case hg => rfl); (case hr => first | (go_simp; done) | (go_simp; rfl)); intro gb101 hg w32 hbox hb; have n0_ := Aside0.mk (below_step (by repeat (first | (with_reducible first | exact HB.out | apply below_alloc | apply pw_below_drewN | apply below_drew1) | exact HB.out)) hb); have n1_ := Aside0.mk (hbox); have n2_ := Aside0.mk ((by rw [hg]; exact (below_size (by repeat (first | (with_reducible first | exact HB.out | apply below_alloc | apply pw_below_drewN | apply below_drew1) | exact HB.out))) : w.heap.size ≤ gb101)); have n3_ := Aside0.mk ((by rw [hg]; exact (below_size (by repeat (first | (with_reducible first | exact HB.out | apply below_alloc | apply pw_below_drewN | apply below_drew1) | exact HB.out))) : w.heap.size ≤ gb101)); clear HB; have HB := n0_; have BK101 := n1_; have GW101 := n2_; have GE101 := n3_; clear n0_ n1_ n2_ n3_; clear hb hbox hg; have hcz33_0 : w32.cell? ⟨gb101, 0, none⟩ = some (.int .i64 a0_0) := (blk_cell BK101.out 0).trans rfl; have hcz33_1 : w32.cell? ⟨gb101, 1, none⟩ = some (.int .i64 a0_1) := (blk_cell BK101.out 1).trans rfl; have hcz33_2 : w32.cell? ⟨gb101, 2, none⟩ = some (.int .i64 a0_2) := (blk_cell BK101.out 2).trans rfl; have hcz33_3 : w32.cell? ⟨gb101, 3, none⟩ = some (.int .i64 a0_3) := (blk_cell BK101.out 3).trans rfl; have hcz33_4 : w32.cell? ⟨gb101, 4, none⟩ = some (.int .i64 a0_4) := (blk_cell BK101.out 4).trans rfl; have hcz33_5 : w32.cell? ⟨gb101, 5, none⟩ = some (.int .i64 a0_5) := (blk_cell BK101.out 5).trans rfl; have hfz33_0 := blk_frozen BK101.out 0; have hfz33_1 := blk_frozen BK101.out 1; have hfz33_2 := blk_frozen BK101.out 2; have hfz33_3 := blk_frozen BK101.out 3; have hfz33_4 := blk_frozen BK101.out 4; have hfz33_5 := blk_frozen BK101.out 5) | ((with_reducible refine gate_callee (f := 107) rfl ?_); refine goesL_ (some 5) rfl rfl Try.func107 (by kernel_rfl) rfl #[.int .i64 a0_0] rfl (by (try simp only [List.map_toArray, List.map_cons, List.map_nil]); first | done | rfl | (simp only [List.length_drop, List.length_take]; rfl)) ?_; (with_reducible refine (impl_isTime.calls a0_0 true _ A2.out).mono ?_); rintro e w' ⟨rfl, ⟨nd, rfl⟩⟩; refine ⟨_, rfl, ?_⟩) | (go_at_call 73; (with_reducible refine (impl_isNode.calls a0_1 true _ A4.out).mono ?_); rintro e w' ⟨rfl, ⟨nd, rfl⟩⟩) | ((with_reducible refine gate_callee (f := 107) rfl ?_); refine goesL_ (some 50) rfl rfl Try.func107 (by kernel_rfl) rfl #[.int .i64 a0_3] rfl (by (try simp only [List.map_toArray, List.map_cons, List.map_nil]); first | done | rfl | (simp only [List.length_drop, List.length_take]; rfl)) ?_; (with_reducible refine (impl_isTime.calls a0_3 true _ A26.out).mono ?_); rintro e w' ⟨rfl, ⟨nd, rfl⟩⟩; refine ⟨_, rfl, ?_⟩) | (go_at_call 73; (with_reducible refine (impl_isNode.calls a0_4 false _ A28.out).mono ?_); rintro e w' ⟨rfl, ⟨nd, rfl⟩⟩))
                go_ret
                exact ⟨by first | rfl | (simp [errW_none, errW_some] <;> rfl) | (simp [*, errW_none, errW_some] <;> rfl), by repeat (first | (with_reducible first | exact HB.out | apply below_alloc | apply pw_below_drewN | apply below_drew1 | refine below_set ?_ GE101.out) | exact HB.out)⟩
            · replace c27 := Bool.eq_false_iff.mpr c27
              subst c27
              have H1 : (some false) = some r := by rw [if_neg (show ¬ (false = true) by decide)] at H; exact H
              clear H
              have H := H1
              clear H1
              obtain rfl := Option.some.inj H
              go_enter Try.func106, Try.ntmps106
              go_wp2_with (first | ((with_reducible refine gate_dst (N := 1) rfl ?_); refine box_event ?hg (N := 1) ?hd (cs := #[.int .i64 a0_0, .int .i64 a0_1, .int .i64 a0_2, .int .i64 a0_3, .int .i64 a0_4, .int .i64 a0_5]) (t := 78) ?hr ?_; (case hd => rfl); (case hg => rfl); (case hr => first | (go_simp; done) | (go_simp; rfl)); intro gb101 hg w34 hbox hb; have n0_ := Aside0.mk (below_step (by repeat (first | (with_reducible first | exact HB.out | apply below_alloc | apply pw_below_drewN | apply below_drew1) | exact HB.out)) hb); have n1_ := Aside0.mk (hbox); have n2_ := Aside0.mk ((by rw [hg]; exact (below_size (by repeat (first | (with_reducible first | exact HB.out | apply below_alloc | apply pw_below_drewN | apply below_drew1) | exact HB.out))) : w.heap.size ≤ gb101)); have n3_ := Aside0.mk ((by rw [hg]; exact (below_size (by repeat (first | (with_reducible first | exact HB.out | apply below_alloc | apply pw_below_drewN | apply below_drew1) | exact HB.out))) : w.heap.size ≤ gb101)); clear HB; have HB := n0_; have BK101 := n1_; have GW101 := n2_; have GE101 := n3_; clear n0_ n1_ n2_ n3_; clear hb hbox hg; have hcz35_0 : w34.cell? ⟨gb101, 0, none⟩ = some (.int .i64 a0_0) := (blk_cell BK101.out 0).trans rfl; have hcz35_1 : w34.cell? ⟨gb101, 1, none⟩ = some (.int .i64 a0_1) := (blk_cell BK101.out 1).trans rfl; have hcz35_2 : w34.cell? ⟨gb101, 2, none⟩ = some (.int .i64 a0_2) := (blk_cell BK101.out 2).trans rfl; have hcz35_3 : w34.cell? ⟨gb101, 3, none⟩ = some (.int .i64 a0_3) := (blk_cell BK101.out 3).trans rfl; have hcz35_4 : w34.cell? ⟨gb101, 4, none⟩ = some (.int .i64 a0_4) := (blk_cell BK101.out 4).trans rfl; have hcz35_5 : w34.cell? ⟨gb101, 5, none⟩ = some (.int .i64 a0_5) := (blk_cell BK101.out 5).trans rfl; have hfz35_0 := blk_frozen BK101.out 0; have hfz35_1 := blk_frozen BK101.out 1; have hfz35_2 := blk_frozen BK101.out 2; have hfz35_3 := blk_frozen BK101.out 3; have hfz35_4 := blk_frozen BK101.out 4; have hfz35_5 := blk_frozen BK101.out 5) | ((with_reducible refine gate_callee (f := 107) rfl ?_); refine goesL_ (some 5) rfl rfl Try.func107 (by kernel_rfl) rfl #[.int .i64 a0_0] rfl (by (try simp only [List.map_toArray, List.map_cons, List.map_nil]); first | done | rfl | (simp only [List.length_drop, List.length_take]; rfl)) ?_; (with_reducible refine (impl_isTime.calls a0_0 true _ A2.out).mono ?_); rintro e w' ⟨rfl, ⟨nd, rfl⟩⟩; refine ⟨_, rfl, ?_⟩) | (go_at_call 73; (with_reducible refine (impl_isNode.calls a0_1 true _ A4.out).mono ?_); rintro e w' ⟨rfl, ⟨nd, rfl⟩⟩) | ((with_reducible refine gate_callee (f := 107) rfl ?_); refine goesL_ (some 50) rfl rfl Try.func107 (by kernel_rfl) rfl #[.int .i64 a0_3] rfl (by (try simp only [List.map_toArray, List.map_cons, List.map_nil]); first | done | rfl | (simp only [List.length_drop, List.length_take]; rfl)) ?_; (with_reducible refine (impl_isTime.calls a0_3 false _ A26.out).mono ?_); rintro e w' ⟨rfl, ⟨nd, rfl⟩⟩; refine ⟨_, rfl, ?_⟩))
              go_ret
              exact ⟨by first | rfl | (simp [errW_none, errW_some] <;> rfl) | (simp [*, errW_none, errW_some] <;> rfl), by repeat (first | (with_reducible first | exact HB.out | apply below_alloc | apply pw_below_drewN | apply below_drew1 | refine below_set ?_ GE101.out) | exact HB.out)⟩
          · rw [if_neg c25] at H
            have c25b0 : (a0_2 == 3) = false := beq_eq_false_iff_ne.mpr c25
            have c25b1 : (a0_2 != 3) = true := bne_iff_ne.mpr c25
            by_cases c36 : a0_2 = 4
            · rw [if_pos c36] at H
              have c36b0 : (a0_2 == 4) = true := beq_iff_eq.mpr c36
              have c36b1 : (a0_2 != 4) = false := bne_eq_false_iff_eq.mpr c36
              clear c36
              replace H := Option.bind_eq_some_iff.mp H
              obtain ⟨t107, A370, H⟩ := H
              replace H : (if t107 = true then ((impl_isNode.f a0_4).bind fun t108 => (if t108 = true then (some (a0_5 == 0)) else (some false))) else (some false)) = some r := H
              have A37 := Aside0.mk A370
              clear A370
              by_cases c38 : t107 = true
              · subst c38
                have H1 : ((impl_isNode.f a0_4).bind fun t108 => (if t108 = true then (some (a0_5 == 0)) else (some false))) = some r := by rw [if_pos rfl] at H; exact H
                clear H
                have H := H1
                clear H1
                replace H := Option.bind_eq_some_iff.mp H
                obtain ⟨t108, A390, H⟩ := H
                replace H : (if t108 = true then (some (a0_5 == 0)) else (some false)) = some r := H
                have A39 := Aside0.mk A390
                clear A390
                by_cases c40 : t108 = true
                · subst c40
                  have H1 : (some (a0_5 == 0)) = some r := by rw [if_pos rfl] at H; exact H
                  clear H
                  have H := H1
                  clear H1
                  obtain rfl := Option.some.inj H
                  go_enter Try.func106, Try.ntmps106
                  go_wp2_with (first | ((with_reducible refine gate_dst (N := 1) rfl ?_); refine box_event ?hg (N := 1) ?hd (cs := #[.int .i64 a0_0, .int .i64 a0_1, .int .i64 a0_2, .int .i64 a0_3, .int .i64 a0_4, .int .i64 a0_5]) (t := 78) ?hr ?_; (case hd => rfl); (case hg => rfl); (case hr => first | (go_simp; done) | (go_simp; rfl)); intro gb101 hg w41 hbox hb; have n0_ := Aside0.mk (below_step (by repeat (first | (with_reducible first | exact HB.out | apply below_alloc | apply pw_below_drewN | apply below_drew1) | exact HB.out)) hb); have n1_ := Aside0.mk (hbox); have n2_ := Aside0.mk ((by rw [hg]; exact (below_size (by repeat (first | (with_reducible first | exact HB.out | apply below_alloc | apply pw_below_drewN | apply below_drew1) | exact HB.out))) : w.heap.size ≤ gb101)); have n3_ := Aside0.mk ((by rw [hg]; exact (below_size (by repeat (first | (with_reducible first | exact HB.out | apply below_alloc | apply pw_below_drewN | apply below_drew1) | exact HB.out))) : w.heap.size ≤ gb101)); clear HB; have HB := n0_; have BK101 := n1_; have GW101 := n2_; have GE101 := n3_; clear n0_ n1_ n2_ n3_; clear hb hbox hg; have hcz42_0 : w41.cell? ⟨gb101, 0, none⟩ = some (.int .i64 a0_0) := (blk_cell BK101.out 0).trans rfl; have hcz42_1 : w41.cell? ⟨gb101, 1, none⟩ = some (.int .i64 a0_1) := (blk_cell BK101.out 1).trans rfl; have hcz42_2 : w41.cell? ⟨gb101, 2, none⟩ = some (.int .i64 a0_2) := (blk_cell BK101.out 2).trans rfl; have hcz42_3 : w41.cell? ⟨gb101, 3, none⟩ = some (.int .i64 a0_3) := (blk_cell BK101.out 3).trans rfl; have hcz42_4 : w41.cell? ⟨gb101, 4, none⟩ = some (.int .i64 a0_4) := (blk_cell BK101.out 4).trans rfl; have hcz42_5 : w41.cell? ⟨gb101, 5, none⟩ = some (.int .i64 a0_5) := (blk_cell BK101.out 5).trans rfl; have hfz42_0 := blk_frozen BK101.out 0; have hfz42_1 := blk_frozen BK101.out 1; have hfz42_2 := blk_frozen BK101.out 2; have hfz42_3 := blk_frozen BK101.out 3; have hfz42_4 := blk_frozen BK101.out 4; have hfz42_5 := blk_frozen BK101.out 5) | ((with_reducible refine gate_callee (f := 107) rfl ?_); refine goesL_ (some 5) rfl rfl Try.func107 (by kernel_rfl) rfl #[.int .i64 a0_0] rfl (by (try simp only [List.map_toArray, List.map_cons, List.map_nil]); first | done | rfl | (simp only [List.length_drop, List.length_take]; rfl)) ?_; (with_reducible refine (impl_isTime.calls a0_0 true _ A2.out).mono ?_); rintro e w' ⟨rfl, ⟨nd, rfl⟩⟩; refine ⟨_, rfl, ?_⟩) | (go_at_call 73; (with_reducible refine (impl_isNode.calls a0_1 true _ A4.out).mono ?_); rintro e w' ⟨rfl, ⟨nd, rfl⟩⟩) | ((with_reducible refine gate_callee (f := 107) rfl ?_); refine goesL_ (some 50) rfl rfl Try.func107 (by kernel_rfl) rfl #[.int .i64 a0_3] rfl (by (try simp only [List.map_toArray, List.map_cons, List.map_nil]); first | done | rfl | (simp only [List.length_drop, List.length_take]; rfl)) ?_; (with_reducible refine (impl_isTime.calls a0_3 true _ A37.out).mono ?_); rintro e w' ⟨rfl, ⟨nd, rfl⟩⟩; refine ⟨_, rfl, ?_⟩) | (go_at_call 73; (with_reducible refine (impl_isNode.calls a0_4 true _ A39.out).mono ?_); rintro e w' ⟨rfl, ⟨nd, rfl⟩⟩))
                  go_ret
                  exact ⟨by first | rfl | (simp [errW_none, errW_some] <;> rfl) | (simp [*, errW_none, errW_some] <;> rfl), by repeat (first | (with_reducible first | exact HB.out | apply below_alloc | apply pw_below_drewN | apply below_drew1 | refine below_set ?_ GE101.out) | exact HB.out)⟩
                · replace c40 := Bool.eq_false_iff.mpr c40
                  subst c40
                  have H1 : (some false) = some r := by rw [if_neg (show ¬ (false = true) by decide)] at H; exact H
                  clear H
                  have H := H1
                  clear H1
                  obtain rfl := Option.some.inj H
                  go_enter Try.func106, Try.ntmps106
                  go_wp2_with (first | ((with_reducible refine gate_dst (N := 1) rfl ?_); refine box_event ?hg (N := 1) ?hd (cs := #[.int .i64 a0_0, .int .i64 a0_1, .int .i64 a0_2, .int .i64 a0_3, .int .i64 a0_4, .int .i64 a0_5]) (t := 78) ?hr ?_; (case hd => rfl); (case hg => rfl); (case hr => first | (go_simp; done) | (go_simp; rfl)); intro gb101 hg w43 hbox hb; have n0_ := Aside0.mk (below_step (by repeat (first | (with_reducible first | exact HB.out | apply below_alloc | apply pw_below_drewN | apply below_drew1) | exact HB.out)) hb); have n1_ := Aside0.mk (hbox); have n2_ := Aside0.mk ((by rw [hg]; exact (below_size (by repeat (first | (with_reducible first | exact HB.out | apply below_alloc | apply pw_below_drewN | apply below_drew1) | exact HB.out))) : w.heap.size ≤ gb101)); have n3_ := Aside0.mk ((by rw [hg]; exact (below_size (by repeat (first | (with_reducible first | exact HB.out | apply below_alloc | apply pw_below_drewN | apply below_drew1) | exact HB.out))) : w.heap.size ≤ gb101)); clear HB; have HB := n0_; have BK101 := n1_; have GW101 := n2_; have GE101 := n3_; clear n0_ n1_ n2_ n3_; clear hb hbox hg; have hcz44_0 : w43.cell? ⟨gb101, 0, none⟩ = some (.int .i64 a0_0) := (blk_cell BK101.out 0).trans rfl; have hcz44_1 : w43.cell? ⟨gb101, 1, none⟩ = some (.int .i64 a0_1) := (blk_cell BK101.out 1).trans rfl; have hcz44_2 : w43.cell? ⟨gb101, 2, none⟩ = some (.int .i64 a0_2) := (blk_cell BK101.out 2).trans rfl; have hcz44_3 : w43.cell? ⟨gb101, 3, none⟩ = some (.int .i64 a0_3) := (blk_cell BK101.out 3).trans rfl; have hcz44_4 : w43.cell? ⟨gb101, 4, none⟩ = some (.int .i64 a0_4) := (blk_cell BK101.out 4).trans rfl; have hcz44_5 : w43.cell? ⟨gb101, 5, none⟩ = some (.int .i64 a0_5) := (blk_cell BK101.out 5).trans rfl; have hfz44_0 := blk_frozen BK101.out 0; have hfz44_1 := blk_frozen BK101.out 1; have hfz44_2 := blk_frozen BK101.out 2; have hfz44_3 := blk_frozen BK101.out 3; have hfz44_4 := blk_frozen BK101.out 4; have hfz44_5 := blk_frozen BK101.out 5) | ((with_reducible refine gate_callee (f := 107) rfl ?_); refine goesL_ (some 5) rfl rfl Try.func107 (by kernel_rfl) rfl #[.int .i64 a0_0] rfl (by (try simp only [List.map_toArray, List.map_cons, List.map_nil]); first | done | rfl | (simp only [List.length_drop, List.length_take]; rfl)) ?_; (with_reducible refine (impl_isTime.calls a0_0 true _ A2.out).mono ?_); rintro e w' ⟨rfl, ⟨nd, rfl⟩⟩; refine ⟨_, rfl, ?_⟩) | (go_at_call 73; (with_reducible refine (impl_isNode.calls a0_1 true _ A4.out).mono ?_); rintro e w' ⟨rfl, ⟨nd, rfl⟩⟩) | ((with_reducible refine gate_callee (f := 107) rfl ?_); refine goesL_ (some 50) rfl rfl Try.func107 (by kernel_rfl) rfl #[.int .i64 a0_3] rfl (by (try simp only [List.map_toArray, List.map_cons, List.map_nil]); first | done | rfl | (simp only [List.length_drop, List.length_take]; rfl)) ?_; (with_reducible refine (impl_isTime.calls a0_3 true _ A37.out).mono ?_); rintro e w' ⟨rfl, ⟨nd, rfl⟩⟩; refine ⟨_, rfl, ?_⟩) | (go_at_call 73; (with_reducible refine (impl_isNode.calls a0_4 false _ A39.out).mono ?_); rintro e w' ⟨rfl, ⟨nd, rfl⟩⟩))
                  go_ret
                  exact ⟨by first | rfl | (simp [errW_none, errW_some] <;> rfl) | (simp [*, errW_none, errW_some] <;> rfl), by repeat (first | (with_reducible first | exact HB.out | apply below_alloc | apply pw_below_drewN | apply below_drew1 | refine below_set ?_ GE101.out) | exact HB.out)⟩
              · replace c38 := Bool.eq_false_iff.mpr c38
                subst c38
                have H1 : (some false) = some r := by rw [if_neg (show ¬ (false = true) by decide)] at H; exact H
                clear H
                have H := H1
                clear H1
                obtain rfl := Option.some.inj H
                go_enter Try.func106, Try.ntmps106
                go_wp2_with (first | ((with_reducible refine gate_dst (N := 1) rfl ?_); refine box_event ?hg (N := 1) ?hd (cs := #[.int .i64 a0_0, .int .i64 a0_1, .int .i64 a0_2, .int .i64 a0_3, .int .i64 a0_4, .int .i64 a0_5]) (t := 78) ?hr ?_; (case hd => rfl); (case hg => rfl); (case hr => first | (go_simp; done) | (go_simp; rfl)); intro gb101 hg w45 hbox hb; have n0_ := Aside0.mk (below_step (by repeat (first | (with_reducible first | exact HB.out | apply below_alloc | apply pw_below_drewN | apply below_drew1) | exact HB.out)) hb); have n1_ := Aside0.mk (hbox); have n2_ := Aside0.mk ((by rw [hg]; exact (below_size (by repeat (first | (with_reducible first | exact HB.out | apply below_alloc | apply pw_below_drewN | apply below_drew1) | exact HB.out))) : w.heap.size ≤ gb101)); have n3_ := Aside0.mk ((by rw [hg]; exact (below_size (by repeat (first | (with_reducible first | exact HB.out | apply below_alloc | apply pw_below_drewN | apply below_drew1) | exact HB.out))) : w.heap.size ≤ gb101)); clear HB; have HB := n0_; have BK101 := n1_; have GW101 := n2_; have GE101 := n3_; clear n0_ n1_ n2_ n3_; clear hb hbox hg; have hcz46_0 : w45.cell? ⟨gb101, 0, none⟩ = some (.int .i64 a0_0) := (blk_cell BK101.out 0).trans rfl; have hcz46_1 : w45.cell? ⟨gb101, 1, none⟩ = some (.int .i64 a0_1) := (blk_cell BK101.out 1).trans rfl; have hcz46_2 : w45.cell? ⟨gb101, 2, none⟩ = some (.int .i64 a0_2) := (blk_cell BK101.out 2).trans rfl; have hcz46_3 : w45.cell? ⟨gb101, 3, none⟩ = some (.int .i64 a0_3) := (blk_cell BK101.out 3).trans rfl; have hcz46_4 : w45.cell? ⟨gb101, 4, none⟩ = some (.int .i64 a0_4) := (blk_cell BK101.out 4).trans rfl; have hcz46_5 : w45.cell? ⟨gb101, 5, none⟩ = some (.int .i64 a0_5) := (blk_cell BK101.out 5).trans rfl; have hfz46_0 := blk_frozen BK101.out 0; have hfz46_1 := blk_frozen BK101.out 1; have hfz46_2 := blk_frozen BK101.out 2; have hfz46_3 := blk_frozen BK101.out 3; have hfz46_4 := blk_frozen BK101.out 4; have hfz46_5 := blk_frozen BK101.out 5) | ((with_reducible refine gate_callee (f := 107) rfl ?_); refine goesL_ (some 5) rfl rfl Try.func107 (by kernel_rfl) rfl #[.int .i64 a0_0] rfl (by (try simp only [List.map_toArray, List.map_cons, List.map_nil]); first | done | rfl | (simp only [List.length_drop, List.length_take]; rfl)) ?_; (with_reducible refine (impl_isTime.calls a0_0 true _ A2.out).mono ?_); rintro e w' ⟨rfl, ⟨nd, rfl⟩⟩; refine ⟨_, rfl, ?_⟩) | (go_at_call 73; (with_reducible refine (impl_isNode.calls a0_1 true _ A4.out).mono ?_); rintro e w' ⟨rfl, ⟨nd, rfl⟩⟩) | ((with_reducible refine gate_callee (f := 107) rfl ?_); refine goesL_ (some 50) rfl rfl Try.func107 (by kernel_rfl) rfl #[.int .i64 a0_3] rfl (by (try simp only [List.map_toArray, List.map_cons, List.map_nil]); first | done | rfl | (simp only [List.length_drop, List.length_take]; rfl)) ?_; (with_reducible refine (impl_isTime.calls a0_3 false _ A37.out).mono ?_); rintro e w' ⟨rfl, ⟨nd, rfl⟩⟩; refine ⟨_, rfl, ?_⟩))
                go_ret
                exact ⟨by first | rfl | (simp [errW_none, errW_some] <;> rfl) | (simp [*, errW_none, errW_some] <;> rfl), by repeat (first | (with_reducible first | exact HB.out | apply below_alloc | apply pw_below_drewN | apply below_drew1 | refine below_set ?_ GE101.out) | exact HB.out)⟩
            · rw [if_neg c36] at H
              have c36b0 : (a0_2 == 4) = false := beq_eq_false_iff_ne.mpr c36
              have c36b1 : (a0_2 != 4) = true := bne_iff_ne.mpr c36
              by_cases c47 : a0_2 = 5
              · rw [if_pos c47] at H
                have c47b0 : (a0_2 == 5) = true := beq_iff_eq.mpr c47
                have c47b1 : (a0_2 != 5) = false := bne_eq_false_iff_eq.mpr c47
                clear c47
                replace H := Option.bind_eq_some_iff.mp H
                obtain ⟨t109, A480, H⟩ := H
                replace H : (some t109) = some r := H
                have A48 := Aside0.mk A480
                clear A480
                obtain rfl := Option.some.inj H
                go_enter Try.func106, Try.ntmps106
                go_wp2_with (first | ((with_reducible refine gate_dst (N := 1) rfl ?_); refine box_event ?hg (N := 1) ?hd (cs := #[.int .i64 a0_0, .int .i64 a0_1, .int .i64 a0_2, .int .i64 a0_3, .int .i64 a0_4, .int .i64 a0_5]) (t := 78) ?hr ?_; (case hd => rfl); (case hg => rfl); (case hr => first | (go_simp; done) | (go_simp; rfl)); intro gb101 hg w49 hbox hb; have n0_ := Aside0.mk (below_step (by repeat (first | (with_reducible first | exact HB.out | apply below_alloc | apply pw_below_drewN | apply below_drew1) | exact HB.out)) hb); have n1_ := Aside0.mk (hbox); have n2_ := Aside0.mk ((by rw [hg]; exact (below_size (by repeat (first | (with_reducible first | exact HB.out | apply below_alloc | apply pw_below_drewN | apply below_drew1) | exact HB.out))) : w.heap.size ≤ gb101)); have n3_ := Aside0.mk ((by rw [hg]; exact (below_size (by repeat (first | (with_reducible first | exact HB.out | apply below_alloc | apply pw_below_drewN | apply below_drew1) | exact HB.out))) : w.heap.size ≤ gb101)); clear HB; have HB := n0_; have BK101 := n1_; have GW101 := n2_; have GE101 := n3_; clear n0_ n1_ n2_ n3_; clear hb hbox hg; have hcz50_0 : w49.cell? ⟨gb101, 0, none⟩ = some (.int .i64 a0_0) := (blk_cell BK101.out 0).trans rfl; have hcz50_1 : w49.cell? ⟨gb101, 1, none⟩ = some (.int .i64 a0_1) := (blk_cell BK101.out 1).trans rfl; have hcz50_2 : w49.cell? ⟨gb101, 2, none⟩ = some (.int .i64 a0_2) := (blk_cell BK101.out 2).trans rfl; have hcz50_3 : w49.cell? ⟨gb101, 3, none⟩ = some (.int .i64 a0_3) := (blk_cell BK101.out 3).trans rfl; have hcz50_4 : w49.cell? ⟨gb101, 4, none⟩ = some (.int .i64 a0_4) := (blk_cell BK101.out 4).trans rfl; have hcz50_5 : w49.cell? ⟨gb101, 5, none⟩ = some (.int .i64 a0_5) := (blk_cell BK101.out 5).trans rfl; have hfz50_0 := blk_frozen BK101.out 0; have hfz50_1 := blk_frozen BK101.out 1; have hfz50_2 := blk_frozen BK101.out 2; have hfz50_3 := blk_frozen BK101.out 3; have hfz50_4 := blk_frozen BK101.out 4; have hfz50_5 := blk_frozen BK101.out 5) | ((with_reducible refine gate_callee (f := 107) rfl ?_); refine goesL_ (some 5) rfl rfl Try.func107 (by kernel_rfl) rfl #[.int .i64 a0_0] rfl (by (try simp only [List.map_toArray, List.map_cons, List.map_nil]); first | done | rfl | (simp only [List.length_drop, List.length_take]; rfl)) ?_; (with_reducible refine (impl_isTime.calls a0_0 true _ A2.out).mono ?_); rintro e w' ⟨rfl, ⟨nd, rfl⟩⟩; refine ⟨_, rfl, ?_⟩) | (go_at_call 73; (with_reducible refine (impl_isNode.calls a0_1 true _ A4.out).mono ?_); rintro e w' ⟨rfl, ⟨nd, rfl⟩⟩) | ((with_reducible refine gate_callee (f := 67) rfl ?_); refine goesL_ (some 70) rfl rfl Try.func67 (by kernel_rfl) rfl #[.agg #[.int .i64 a0_3, .int .i64 a0_4, .int .i64 a0_5]] rfl (by (try simp only [List.map_toArray, List.map_cons, List.map_nil]); first | done | rfl | (simp only [List.length_drop, List.length_take]; rfl)) ?_; (with_reducible refine (impl_FactRight.calls a0_3 a0_4 a0_5 t109 _ A48.out).mono ?_); rintro e w51 ⟨rfl, hb⟩; refine ⟨_, rfl, ?_⟩; have n0_ := Aside0.mk (blk_below (g := gb101) (o := .cells #[.int .i64 a0_0, .int .i64 a0_1, .int .i64 a0_2, .int .i64 a0_3, .int .i64 a0_4, .int .i64 a0_5] 78 (0, 0)) (by (with_reducible repeat (first | refine blk_drewN ?_ _ | refine blk_drew ?_ | refine blk_alloc ?_ _)); exact BK101.out) hb); have n1_ := Aside0.mk (below_step (by repeat (first | (with_reducible first | exact HB.out | apply below_alloc | apply pw_below_drewN | apply below_drew1 | refine below_set ?_ GE101.out) | exact HB.out)) hb); clear BK101; clear HB; have BK101 := n0_; have HB := n1_; clear n0_ n1_; (try clear hb); (try clear hb2); (try clear hk); (try clear hi)))
                go_ret
                exact ⟨by first | rfl | (simp [errW_none, errW_some] <;> rfl) | (simp [*, errW_none, errW_some] <;> rfl), by repeat (first | (with_reducible first | exact HB.out | apply below_alloc | apply pw_below_drewN | apply below_drew1 | refine below_set ?_ GE101.out) | exact HB.out)⟩
              · rw [if_neg c47] at H
                have c47b0 : (a0_2 == 5) = false := beq_eq_false_iff_ne.mpr c47
                have c47b1 : (a0_2 != 5) = true := bne_iff_ne.mpr c47
                by_cases c52 : a0_2 = 6
                · rw [if_pos c52] at H
                  have c52b0 : (a0_2 == 6) = true := beq_iff_eq.mpr c52
                  have c52b1 : (a0_2 != 6) = false := bne_eq_false_iff_eq.mpr c52
                  clear c52
                  replace H := Option.bind_eq_some_iff.mp H
                  obtain ⟨t110, A530, H⟩ := H
                  replace H : (if t110 = true then (if a0_4 = 0 then (some (a0_5 == 0)) else (some false)) else (some false)) = some r := H
                  have A53 := Aside0.mk A530
                  clear A530
                  by_cases c54 : t110 = true
                  · subst c54
                    have H1 : (if a0_4 = 0 then (some (a0_5 == 0)) else (some false)) = some r := by rw [if_pos rfl] at H; exact H
                    clear H
                    have H := H1
                    clear H1
                    by_cases c55 : a0_4 = 0
                    · rw [if_pos c55] at H
                      have c55b0 : (a0_4 == 0) = true := beq_iff_eq.mpr c55
                      have c55b1 : (a0_4 != 0) = false := bne_eq_false_iff_eq.mpr c55
                      clear c55
                      obtain rfl := Option.some.inj H
                      go_enter Try.func106, Try.ntmps106
                      go_wp2_with (first | ((with_reducible refine gate_dst (N := 1) rfl ?_); refine box_event ?hg (N := 1) ?hd (cs := #[.int .i64 a0_0, .int .i64 a0_1, .int .i64 a0_2, .int .i64 a0_3, .int .i64 a0_4, .int .i64 a0_5]) (t := 78) ?hr ?_; (case hd => rfl); (case hg => rfl); (case hr => first | (go_simp; done) | (go_simp; rfl)); intro gb101 hg w56 hbox hb; have n0_ := Aside0.mk (below_step (by repeat (first | (with_reducible first | exact HB.out | apply below_alloc | apply pw_below_drewN | apply below_drew1) | exact HB.out)) hb); have n1_ := Aside0.mk (hbox); have n2_ := Aside0.mk ((by rw [hg]; exact (below_size (by repeat (first | (with_reducible first | exact HB.out | apply below_alloc | apply pw_below_drewN | apply below_drew1) | exact HB.out))) : w.heap.size ≤ gb101)); have n3_ := Aside0.mk ((by rw [hg]; exact (below_size (by repeat (first | (with_reducible first | exact HB.out | apply below_alloc | apply pw_below_drewN | apply below_drew1) | exact HB.out))) : w.heap.size ≤ gb101)); clear HB; have HB := n0_; have BK101 := n1_; have GW101 := n2_; have GE101 := n3_; clear n0_ n1_ n2_ n3_; clear hb hbox hg; have hcz57_0 : w56.cell? ⟨gb101, 0, none⟩ = some (.int .i64 a0_0) := (blk_cell BK101.out 0).trans rfl; have hcz57_1 : w56.cell? ⟨gb101, 1, none⟩ = some (.int .i64 a0_1) := (blk_cell BK101.out 1).trans rfl; have hcz57_2 : w56.cell? ⟨gb101, 2, none⟩ = some (.int .i64 a0_2) := (blk_cell BK101.out 2).trans rfl; have hcz57_3 : w56.cell? ⟨gb101, 3, none⟩ = some (.int .i64 a0_3) := (blk_cell BK101.out 3).trans rfl; have hcz57_4 : w56.cell? ⟨gb101, 4, none⟩ = some (.int .i64 a0_4) := (blk_cell BK101.out 4).trans rfl; have hcz57_5 : w56.cell? ⟨gb101, 5, none⟩ = some (.int .i64 a0_5) := (blk_cell BK101.out 5).trans rfl; have hfz57_0 := blk_frozen BK101.out 0; have hfz57_1 := blk_frozen BK101.out 1; have hfz57_2 := blk_frozen BK101.out 2; have hfz57_3 := blk_frozen BK101.out 3; have hfz57_4 := blk_frozen BK101.out 4; have hfz57_5 := blk_frozen BK101.out 5) | ((with_reducible refine gate_callee (f := 107) rfl ?_); refine goesL_ (some 5) rfl rfl Try.func107 (by kernel_rfl) rfl #[.int .i64 a0_0] rfl (by (try simp only [List.map_toArray, List.map_cons, List.map_nil]); first | done | rfl | (simp only [List.length_drop, List.length_take]; rfl)) ?_; (with_reducible refine (impl_isTime.calls a0_0 true _ A2.out).mono ?_); rintro e w' ⟨rfl, ⟨nd, rfl⟩⟩; refine ⟨_, rfl, ?_⟩) | (go_at_call 73; (with_reducible refine (impl_isNode.calls a0_1 true _ A4.out).mono ?_); rintro e w' ⟨rfl, ⟨nd, rfl⟩⟩) | ((with_reducible refine gate_callee (f := 73) rfl ?_); refine goesL_ (some 75) rfl rfl Try.func73 (by kernel_rfl) rfl #[.int .i64 a0_3] rfl (by (try simp only [List.map_toArray, List.map_cons, List.map_nil]); first | done | rfl | (simp only [List.length_drop, List.length_take]; rfl)) ?_; (with_reducible refine (impl_isNode.calls a0_3 true _ A53.out).mono ?_); rintro e w' ⟨rfl, ⟨nd, rfl⟩⟩; refine ⟨_, rfl, ?_⟩))
                      go_ret
                      exact ⟨by first | rfl | (simp [errW_none, errW_some] <;> rfl) | (simp [*, errW_none, errW_some] <;> rfl), by repeat (first | (with_reducible first | exact HB.out | apply below_alloc | apply pw_below_drewN | apply below_drew1 | refine below_set ?_ GE101.out) | exact HB.out)⟩
                    · rw [if_neg c55] at H
                      have c55b0 : (a0_4 == 0) = false := beq_eq_false_iff_ne.mpr c55
                      have c55b1 : (a0_4 != 0) = true := bne_iff_ne.mpr c55
                      obtain rfl := Option.some.inj H
                      go_enter Try.func106, Try.ntmps106
                      go_wp2_with (first | ((with_reducible refine gate_dst (N := 1) rfl ?_); refine box_event ?hg (N := 1) ?hd (cs := #[.int .i64 a0_0, .int .i64 a0_1, .int .i64 a0_2, .int .i64 a0_3, .int .i64 a0_4, .int .i64 a0_5]) (t := 78) ?hr ?_; (case hd => rfl); (case hg => rfl); (case hr => first | (go_simp; done) | (go_simp; rfl)); intro gb101 hg w58 hbox hb; have n0_ := Aside0.mk (below_step (by repeat (first | (with_reducible first | exact HB.out | apply below_alloc | apply pw_below_drewN | apply below_drew1) | exact HB.out)) hb); have n1_ := Aside0.mk (hbox); have n2_ := Aside0.mk ((by rw [hg]; exact (below_size (by repeat (first | (with_reducible first | exact HB.out | apply below_alloc | apply pw_below_drewN | apply below_drew1) | exact HB.out))) : w.heap.size ≤ gb101)); have n3_ := Aside0.mk ((by rw [hg]; exact (below_size (by repeat (first | (with_reducible first | exact HB.out | apply below_alloc | apply pw_below_drewN | apply below_drew1) | exact HB.out))) : w.heap.size ≤ gb101)); clear HB; have HB := n0_; have BK101 := n1_; have GW101 := n2_; have GE101 := n3_; clear n0_ n1_ n2_ n3_; clear hb hbox hg; have hcz59_0 : w58.cell? ⟨gb101, 0, none⟩ = some (.int .i64 a0_0) := (blk_cell BK101.out 0).trans rfl; have hcz59_1 : w58.cell? ⟨gb101, 1, none⟩ = some (.int .i64 a0_1) := (blk_cell BK101.out 1).trans rfl; have hcz59_2 : w58.cell? ⟨gb101, 2, none⟩ = some (.int .i64 a0_2) := (blk_cell BK101.out 2).trans rfl; have hcz59_3 : w58.cell? ⟨gb101, 3, none⟩ = some (.int .i64 a0_3) := (blk_cell BK101.out 3).trans rfl; have hcz59_4 : w58.cell? ⟨gb101, 4, none⟩ = some (.int .i64 a0_4) := (blk_cell BK101.out 4).trans rfl; have hcz59_5 : w58.cell? ⟨gb101, 5, none⟩ = some (.int .i64 a0_5) := (blk_cell BK101.out 5).trans rfl; have hfz59_0 := blk_frozen BK101.out 0; have hfz59_1 := blk_frozen BK101.out 1; have hfz59_2 := blk_frozen BK101.out 2; have hfz59_3 := blk_frozen BK101.out 3; have hfz59_4 := blk_frozen BK101.out 4; have hfz59_5 := blk_frozen BK101.out 5) | ((with_reducible refine gate_callee (f := 107) rfl ?_); refine goesL_ (some 5) rfl rfl Try.func107 (by kernel_rfl) rfl #[.int .i64 a0_0] rfl (by (try simp only [List.map_toArray, List.map_cons, List.map_nil]); first | done | rfl | (simp only [List.length_drop, List.length_take]; rfl)) ?_; (with_reducible refine (impl_isTime.calls a0_0 true _ A2.out).mono ?_); rintro e w' ⟨rfl, ⟨nd, rfl⟩⟩; refine ⟨_, rfl, ?_⟩) | (go_at_call 73; (with_reducible refine (impl_isNode.calls a0_1 true _ A4.out).mono ?_); rintro e w' ⟨rfl, ⟨nd, rfl⟩⟩) | ((with_reducible refine gate_callee (f := 73) rfl ?_); refine goesL_ (some 75) rfl rfl Try.func73 (by kernel_rfl) rfl #[.int .i64 a0_3] rfl (by (try simp only [List.map_toArray, List.map_cons, List.map_nil]); first | done | rfl | (simp only [List.length_drop, List.length_take]; rfl)) ?_; (with_reducible refine (impl_isNode.calls a0_3 true _ A53.out).mono ?_); rintro e w' ⟨rfl, ⟨nd, rfl⟩⟩; refine ⟨_, rfl, ?_⟩))
                      go_ret
                      exact ⟨by first | rfl | (simp [errW_none, errW_some] <;> rfl) | (simp [*, errW_none, errW_some] <;> rfl), by repeat (first | (with_reducible first | exact HB.out | apply below_alloc | apply pw_below_drewN | apply below_drew1 | refine below_set ?_ GE101.out) | exact HB.out)⟩
                  · replace c54 := Bool.eq_false_iff.mpr c54
                    subst c54
                    have H1 : (some false) = some r := by rw [if_neg (show ¬ (false = true) by decide)] at H; exact H
                    clear H
                    have H := H1
                    clear H1
                    obtain rfl := Option.some.inj H
                    go_enter Try.func106, Try.ntmps106
                    go_wp2_with (first | ((with_reducible refine gate_dst (N := 1) rfl ?_); refine box_event ?hg (N := 1) ?hd (cs := #[.int .i64 a0_0, .int .i64 a0_1, .int .i64 a0_2, .int .i64 a0_3, .int .i64 a0_4, .int .i64 a0_5]) (t := 78) ?hr ?_; (case hd => rfl); (case hg => rfl); (case hr => first | (go_simp; done) | (go_simp; rfl)); intro gb101 hg w60 hbox hb; have n0_ := Aside0.mk (below_step (by repeat (first | (with_reducible first | exact HB.out | apply below_alloc | apply pw_below_drewN | apply below_drew1) | exact HB.out)) hb); have n1_ := Aside0.mk (hbox); have n2_ := Aside0.mk ((by rw [hg]; exact (below_size (by repeat (first | (with_reducible first | exact HB.out | apply below_alloc | apply pw_below_drewN | apply below_drew1) | exact HB.out))) : w.heap.size ≤ gb101)); have n3_ := Aside0.mk ((by rw [hg]; exact (below_size (by repeat (first | (with_reducible first | exact HB.out | apply below_alloc | apply pw_below_drewN | apply below_drew1) | exact HB.out))) : w.heap.size ≤ gb101)); clear HB; have HB := n0_; have BK101 := n1_; have GW101 := n2_; have GE101 := n3_; clear n0_ n1_ n2_ n3_; clear hb hbox hg; have hcz61_0 : w60.cell? ⟨gb101, 0, none⟩ = some (.int .i64 a0_0) := (blk_cell BK101.out 0).trans rfl; have hcz61_1 : w60.cell? ⟨gb101, 1, none⟩ = some (.int .i64 a0_1) := (blk_cell BK101.out 1).trans rfl; have hcz61_2 : w60.cell? ⟨gb101, 2, none⟩ = some (.int .i64 a0_2) := (blk_cell BK101.out 2).trans rfl; have hcz61_3 : w60.cell? ⟨gb101, 3, none⟩ = some (.int .i64 a0_3) := (blk_cell BK101.out 3).trans rfl; have hcz61_4 : w60.cell? ⟨gb101, 4, none⟩ = some (.int .i64 a0_4) := (blk_cell BK101.out 4).trans rfl; have hcz61_5 : w60.cell? ⟨gb101, 5, none⟩ = some (.int .i64 a0_5) := (blk_cell BK101.out 5).trans rfl; have hfz61_0 := blk_frozen BK101.out 0; have hfz61_1 := blk_frozen BK101.out 1; have hfz61_2 := blk_frozen BK101.out 2; have hfz61_3 := blk_frozen BK101.out 3; have hfz61_4 := blk_frozen BK101.out 4; have hfz61_5 := blk_frozen BK101.out 5) | ((with_reducible refine gate_callee (f := 107) rfl ?_); refine goesL_ (some 5) rfl rfl Try.func107 (by kernel_rfl) rfl #[.int .i64 a0_0] rfl (by (try simp only [List.map_toArray, List.map_cons, List.map_nil]); first | done | rfl | (simp only [List.length_drop, List.length_take]; rfl)) ?_; (with_reducible refine (impl_isTime.calls a0_0 true _ A2.out).mono ?_); rintro e w' ⟨rfl, ⟨nd, rfl⟩⟩; refine ⟨_, rfl, ?_⟩) | (go_at_call 73; (with_reducible refine (impl_isNode.calls a0_1 true _ A4.out).mono ?_); rintro e w' ⟨rfl, ⟨nd, rfl⟩⟩) | ((with_reducible refine gate_callee (f := 73) rfl ?_); refine goesL_ (some 75) rfl rfl Try.func73 (by kernel_rfl) rfl #[.int .i64 a0_3] rfl (by (try simp only [List.map_toArray, List.map_cons, List.map_nil]); first | done | rfl | (simp only [List.length_drop, List.length_take]; rfl)) ?_; (with_reducible refine (impl_isNode.calls a0_3 false _ A53.out).mono ?_); rintro e w' ⟨rfl, ⟨nd, rfl⟩⟩; refine ⟨_, rfl, ?_⟩))
                    go_ret
                    exact ⟨by first | rfl | (simp [errW_none, errW_some] <;> rfl) | (simp [*, errW_none, errW_some] <;> rfl), by repeat (first | (with_reducible first | exact HB.out | apply below_alloc | apply pw_below_drewN | apply below_drew1 | refine below_set ?_ GE101.out) | exact HB.out)⟩
                · rw [if_neg c52] at H
                  have c52b0 : (a0_2 == 6) = false := beq_eq_false_iff_ne.mpr c52
                  have c52b1 : (a0_2 != 6) = true := bne_iff_ne.mpr c52
                  obtain rfl := Option.some.inj H
                  go_enter Try.func106, Try.ntmps106
                  go_wp2_with (first | ((with_reducible refine gate_dst (N := 1) rfl ?_); refine box_event ?hg (N := 1) ?hd (cs := #[.int .i64 a0_0, .int .i64 a0_1, .int .i64 a0_2, .int .i64 a0_3, .int .i64 a0_4, .int .i64 a0_5]) (t := 78) ?hr ?_; (case hd => rfl); (case hg => rfl); (case hr => first | (go_simp; done) | (go_simp; rfl)); intro gb101 hg w62 hbox hb; have n0_ := Aside0.mk (below_step (by repeat (first | (with_reducible first | exact HB.out | apply below_alloc | apply pw_below_drewN | apply below_drew1) | exact HB.out)) hb); have n1_ := Aside0.mk (hbox); have n2_ := Aside0.mk ((by rw [hg]; exact (below_size (by repeat (first | (with_reducible first | exact HB.out | apply below_alloc | apply pw_below_drewN | apply below_drew1) | exact HB.out))) : w.heap.size ≤ gb101)); have n3_ := Aside0.mk ((by rw [hg]; exact (below_size (by repeat (first | (with_reducible first | exact HB.out | apply below_alloc | apply pw_below_drewN | apply below_drew1) | exact HB.out))) : w.heap.size ≤ gb101)); clear HB; have HB := n0_; have BK101 := n1_; have GW101 := n2_; have GE101 := n3_; clear n0_ n1_ n2_ n3_; clear hb hbox hg; have hcz63_0 : w62.cell? ⟨gb101, 0, none⟩ = some (.int .i64 a0_0) := (blk_cell BK101.out 0).trans rfl; have hcz63_1 : w62.cell? ⟨gb101, 1, none⟩ = some (.int .i64 a0_1) := (blk_cell BK101.out 1).trans rfl; have hcz63_2 : w62.cell? ⟨gb101, 2, none⟩ = some (.int .i64 a0_2) := (blk_cell BK101.out 2).trans rfl; have hcz63_3 : w62.cell? ⟨gb101, 3, none⟩ = some (.int .i64 a0_3) := (blk_cell BK101.out 3).trans rfl; have hcz63_4 : w62.cell? ⟨gb101, 4, none⟩ = some (.int .i64 a0_4) := (blk_cell BK101.out 4).trans rfl; have hcz63_5 : w62.cell? ⟨gb101, 5, none⟩ = some (.int .i64 a0_5) := (blk_cell BK101.out 5).trans rfl; have hfz63_0 := blk_frozen BK101.out 0; have hfz63_1 := blk_frozen BK101.out 1; have hfz63_2 := blk_frozen BK101.out 2; have hfz63_3 := blk_frozen BK101.out 3; have hfz63_4 := blk_frozen BK101.out 4; have hfz63_5 := blk_frozen BK101.out 5) | ((with_reducible refine gate_callee (f := 107) rfl ?_); refine goesL_ (some 5) rfl rfl Try.func107 (by kernel_rfl) rfl #[.int .i64 a0_0] rfl (by (try simp only [List.map_toArray, List.map_cons, List.map_nil]); first | done | rfl | (simp only [List.length_drop, List.length_take]; rfl)) ?_; (with_reducible refine (impl_isTime.calls a0_0 true _ A2.out).mono ?_); rintro e w' ⟨rfl, ⟨nd, rfl⟩⟩; refine ⟨_, rfl, ?_⟩) | (go_at_call 73; (with_reducible refine (impl_isNode.calls a0_1 true _ A4.out).mono ?_); rintro e w' ⟨rfl, ⟨nd, rfl⟩⟩))
                  go_ret
                  exact ⟨by first | rfl | (simp [errW_none, errW_some] <;> rfl) | (simp [*, errW_none, errW_some] <;> rfl), by repeat (first | (with_reducible first | exact HB.out | apply below_alloc | apply pw_below_drewN | apply below_drew1 | refine below_set ?_ GE101.out) | exact HB.out)⟩
    · replace c5 := Bool.eq_false_iff.mpr c5
      subst c5
      have H1 : (some false) = some r := by rw [if_neg (show ¬ (false = true) by decide)] at H; exact H
      clear H
      have H := H1
      clear H1
      obtain rfl := Option.some.inj H
      go_enter Try.func106, Try.ntmps106
      go_wp2_with (first | ((with_reducible refine gate_dst (N := 1) rfl ?_); refine box_event ?hg (N := 1) ?hd (cs := #[.int .i64 a0_0, .int .i64 a0_1, .int .i64 a0_2, .int .i64 a0_3, .int .i64 a0_4, .int .i64 a0_5]) (t := 78) ?hr ?_; (case hd => rfl); (case hg => rfl); (case hr => first | (go_simp; done) | (go_simp; rfl)); intro gb101 hg w64 hbox hb; have n0_ := Aside0.mk (below_step (by repeat (first | (with_reducible first | exact HB.out | apply below_alloc | apply pw_below_drewN | apply below_drew1) | exact HB.out)) hb); have n1_ := Aside0.mk (hbox); have n2_ := Aside0.mk ((by rw [hg]; exact (below_size (by repeat (first | (with_reducible first | exact HB.out | apply below_alloc | apply pw_below_drewN | apply below_drew1) | exact HB.out))) : w.heap.size ≤ gb101)); have n3_ := Aside0.mk ((by rw [hg]; exact (below_size (by repeat (first | (with_reducible first | exact HB.out | apply below_alloc | apply pw_below_drewN | apply below_drew1) | exact HB.out))) : w.heap.size ≤ gb101)); clear HB; have HB := n0_; have BK101 := n1_; have GW101 := n2_; have GE101 := n3_; clear n0_ n1_ n2_ n3_; clear hb hbox hg; have hcz65_0 : w64.cell? ⟨gb101, 0, none⟩ = some (.int .i64 a0_0) := (blk_cell BK101.out 0).trans rfl; have hcz65_1 : w64.cell? ⟨gb101, 1, none⟩ = some (.int .i64 a0_1) := (blk_cell BK101.out 1).trans rfl; have hcz65_2 : w64.cell? ⟨gb101, 2, none⟩ = some (.int .i64 a0_2) := (blk_cell BK101.out 2).trans rfl; have hcz65_3 : w64.cell? ⟨gb101, 3, none⟩ = some (.int .i64 a0_3) := (blk_cell BK101.out 3).trans rfl; have hcz65_4 : w64.cell? ⟨gb101, 4, none⟩ = some (.int .i64 a0_4) := (blk_cell BK101.out 4).trans rfl; have hcz65_5 : w64.cell? ⟨gb101, 5, none⟩ = some (.int .i64 a0_5) := (blk_cell BK101.out 5).trans rfl; have hfz65_0 := blk_frozen BK101.out 0; have hfz65_1 := blk_frozen BK101.out 1; have hfz65_2 := blk_frozen BK101.out 2; have hfz65_3 := blk_frozen BK101.out 3; have hfz65_4 := blk_frozen BK101.out 4; have hfz65_5 := blk_frozen BK101.out 5) | ((with_reducible refine gate_callee (f := 107) rfl ?_); refine goesL_ (some 5) rfl rfl Try.func107 (by kernel_rfl) rfl #[.int .i64 a0_0] rfl (by (try simp only [List.map_toArray, List.map_cons, List.map_nil]); first | done | rfl | (simp only [List.length_drop, List.length_take]; rfl)) ?_; (with_reducible refine (impl_isTime.calls a0_0 true _ A2.out).mono ?_); rintro e w' ⟨rfl, ⟨nd, rfl⟩⟩; refine ⟨_, rfl, ?_⟩) | (go_at_call 73; (with_reducible refine (impl_isNode.calls a0_1 false _ A4.out).mono ?_); rintro e w' ⟨rfl, ⟨nd, rfl⟩⟩))
      go_ret
      exact ⟨by first | rfl | (simp [errW_none, errW_some] <;> rfl) | (simp [*, errW_none, errW_some] <;> rfl), by repeat (first | (with_reducible first | exact HB.out | apply below_alloc | apply pw_below_drewN | apply below_drew1 | refine below_set ?_ GE101.out) | exact HB.out)⟩
  · replace c3 := Bool.eq_false_iff.mpr c3
    subst c3
    have H1 : (some false) = some r := by rw [if_neg (show ¬ (false = true) by decide)] at H; exact H
    clear H
    have H := H1
    clear H1
    obtain rfl := Option.some.inj H
    go_enter Try.func106, Try.ntmps106
    go_wp2_with (first | ((with_reducible refine gate_dst (N := 1) rfl ?_); refine box_event ?hg (N := 1) ?hd (cs := #[.int .i64 a0_0, .int .i64 a0_1, .int .i64 a0_2, .int .i64 a0_3, .int .i64 a0_4, .int .i64 a0_5]) (t := 78) ?hr ?_; (case hd => rfl); (case hg => rfl); (case hr => first | (go_simp; done) | (go_simp; rfl)); intro gb101 hg w66 hbox hb; have n0_ := Aside0.mk (below_step (by repeat (first | (with_reducible first | exact HB.out | apply below_alloc | apply pw_below_drewN | apply below_drew1) | exact HB.out)) hb); have n1_ := Aside0.mk (hbox); have n2_ := Aside0.mk ((by rw [hg]; exact (below_size (by repeat (first | (with_reducible first | exact HB.out | apply below_alloc | apply pw_below_drewN | apply below_drew1) | exact HB.out))) : w.heap.size ≤ gb101)); have n3_ := Aside0.mk ((by rw [hg]; exact (below_size (by repeat (first | (with_reducible first | exact HB.out | apply below_alloc | apply pw_below_drewN | apply below_drew1) | exact HB.out))) : w.heap.size ≤ gb101)); clear HB; have HB := n0_; have BK101 := n1_; have GW101 := n2_; have GE101 := n3_; clear n0_ n1_ n2_ n3_; clear hb hbox hg; have hcz67_0 : w66.cell? ⟨gb101, 0, none⟩ = some (.int .i64 a0_0) := (blk_cell BK101.out 0).trans rfl; have hcz67_1 : w66.cell? ⟨gb101, 1, none⟩ = some (.int .i64 a0_1) := (blk_cell BK101.out 1).trans rfl; have hcz67_2 : w66.cell? ⟨gb101, 2, none⟩ = some (.int .i64 a0_2) := (blk_cell BK101.out 2).trans rfl; have hcz67_3 : w66.cell? ⟨gb101, 3, none⟩ = some (.int .i64 a0_3) := (blk_cell BK101.out 3).trans rfl; have hcz67_4 : w66.cell? ⟨gb101, 4, none⟩ = some (.int .i64 a0_4) := (blk_cell BK101.out 4).trans rfl; have hcz67_5 : w66.cell? ⟨gb101, 5, none⟩ = some (.int .i64 a0_5) := (blk_cell BK101.out 5).trans rfl; have hfz67_0 := blk_frozen BK101.out 0; have hfz67_1 := blk_frozen BK101.out 1; have hfz67_2 := blk_frozen BK101.out 2; have hfz67_3 := blk_frozen BK101.out 3; have hfz67_4 := blk_frozen BK101.out 4; have hfz67_5 := blk_frozen BK101.out 5) | ((with_reducible refine gate_callee (f := 107) rfl ?_); refine goesL_ (some 5) rfl rfl Try.func107 (by kernel_rfl) rfl #[.int .i64 a0_0] rfl (by (try simp only [List.map_toArray, List.map_cons, List.map_nil]); first | done | rfl | (simp only [List.length_drop, List.length_take]; rfl)) ?_; (with_reducible refine (impl_isTime.calls a0_0 false _ A2.out).mono ?_); rintro e w' ⟨rfl, ⟨nd, rfl⟩⟩; refine ⟨_, rfl, ?_⟩))
    go_ret
    exact ⟨by first | rfl | (simp [errW_none, errW_some] <;> rfl) | (simp [*, errW_none, errW_some] <;> rfl), by repeat (first | (with_reducible first | exact HB.out | apply below_alloc | apply pw_below_drewN | apply below_drew1 | refine below_set ?_ GE101.out) | exact HB.out)⟩

end Go.Proofs.Ytgcgdjldhjajaaa.A
namespace Go.Proofs.Ytgcgdjldhjajaaa.A
open Go.RowKit Go.Proofs.YtgcgdjldhjajaaaW.PrintWords Go.Proofs.YtgcgdjldhjajaaaW.PrintLast Go.Proofs.YtgcgdjldhjajaaaW.PrintMore
attribute [local go_sem] max2_int min2_int max_two min_two max_three min_three max_four min_four   -- for this text's walks alone
set_option linter.unusedVariables false
set_option linter.unusedSimpArgs false

/-! ### impl_areRecs_1: function 105 -/
def impl_areRecs_1.f (a0_0 : Int) (a0_1 : Int) (a0_2 : Int) (a0_3 : Int) (a0_4 : Int) (a0_5 : Int) : Option (Bool) := (impl_RecRight.f a0_0 a0_1 a0_2 a0_3 a0_4 a0_5).bind fun t102 => (some (!t102))
set_option maxHeartbeats 8000000 in
set_option maxRecDepth 100000 in
theorem impl_areRecs_1.calls (a0_0 : Int) (a0_1 : Int) (a0_2 : Int) (a0_3 : Int) (a0_4 : Int) (a0_5 : Int) (r : Bool) (w : World) (h : impl_areRecs_1.f a0_0 a0_1 a0_2 a0_3 a0_4 a0_5 = some r) :
    Calls Try.prog 105 #[.agg #[.int .i64 a0_0, .int .i64 a0_1, .int .i64 a0_2, .int .i64 a0_3, .int .i64 a0_4, .int .i64 a0_5]] w fun e w' => e = .returned (.bool r) ∧ Below w.heap.size w w' := by
  have hu78 := Try.underlying78
  have HB := Aside0.mk (Below.refl w.heap.size w)
  have H : ((impl_RecRight.f a0_0 a0_1 a0_2 a0_3 a0_4 a0_5).bind fun t102 => (some (!t102))) = some r := h
  clear h
  replace H := Option.bind_eq_some_iff.mp H
  obtain ⟨t102, A20, H⟩ := H
  replace H : (some (!t102)) = some r := H
  have A2 := Aside0.mk A20
  clear A20
  obtain rfl := Option.some.inj H
  go_enter Try.func105, Try.ntmps105
  go_wp2_with (first | ((with_reducible refine gate_dst (N := 1) rfl ?_); refine box_event ?hg (N := 1) ?hd (cs := #[.int .i64 a0_0, .int .i64 a0_1, .int .i64 a0_2, .int .i64 a0_3, .int .i64 a0_4, .int .i64 a0_5]) (t := 78) ?hr ?_; (case hd => rfl); (case hg => rfl); (case hr => first | (go_simp; done) | (go_simp; rfl)); intro gb101 hg w3 hbox hb; have n0_ := Aside0.mk (below_step (by repeat (first | (with_reducible first | exact HB.out | apply below_alloc | apply pw_below_drewN | apply below_drew1) | exact HB.out)) hb); have n1_ := Aside0.mk (hbox); have n2_ := Aside0.mk ((by rw [hg]; exact (below_size (by repeat (first | (with_reducible first | exact HB.out | apply below_alloc | apply pw_below_drewN | apply below_drew1) | exact HB.out))) : w.heap.size ≤ gb101)); have n3_ := Aside0.mk ((by rw [hg]; exact (below_size (by repeat (first | (with_reducible first | exact HB.out | apply below_alloc | apply pw_below_drewN | apply below_drew1) | exact HB.out))) : w.heap.size ≤ gb101)); clear HB; have HB := n0_; have BK101 := n1_; have GW101 := n2_; have GE101 := n3_; clear n0_ n1_ n2_ n3_; clear hb hbox hg; have hcz4_0 : w3.cell? ⟨gb101, 0, none⟩ = some (.int .i64 a0_0) := (blk_cell BK101.out 0).trans rfl; have hcz4_1 : w3.cell? ⟨gb101, 1, none⟩ = some (.int .i64 a0_1) := (blk_cell BK101.out 1).trans rfl; have hcz4_2 : w3.cell? ⟨gb101, 2, none⟩ = some (.int .i64 a0_2) := (blk_cell BK101.out 2).trans rfl; have hcz4_3 : w3.cell? ⟨gb101, 3, none⟩ = some (.int .i64 a0_3) := (blk_cell BK101.out 3).trans rfl; have hcz4_4 : w3.cell? ⟨gb101, 4, none⟩ = some (.int .i64 a0_4) := (blk_cell BK101.out 4).trans rfl; have hcz4_5 : w3.cell? ⟨gb101, 5, none⟩ = some (.int .i64 a0_5) := (blk_cell BK101.out 5).trans rfl; have hfz4_0 := blk_frozen BK101.out 0; have hfz4_1 := blk_frozen BK101.out 1; have hfz4_2 := blk_frozen BK101.out 2; have hfz4_3 := blk_frozen BK101.out 3; have hfz4_4 := blk_frozen BK101.out 4; have hfz4_5 := blk_frozen BK101.out 5) | ((with_reducible refine gate_callee (f := 106) rfl ?_); refine goesL_ (some 4) rfl rfl Try.func106 (by kernel_rfl) rfl #[.agg #[.int .i64 a0_0, .int .i64 a0_1, .int .i64 a0_2, .int .i64 a0_3, .int .i64 a0_4, .int .i64 a0_5]] rfl (by (try simp only [List.map_toArray, List.map_cons, List.map_nil]); first | done | rfl | (simp only [List.length_drop, List.length_take]; rfl)) ?_; (with_reducible refine (impl_RecRight.calls a0_0 a0_1 a0_2 a0_3 a0_4 a0_5 t102 _ A2.out).mono ?_); rintro e w5 ⟨rfl, hb⟩; refine ⟨_, rfl, ?_⟩; have n0_ := Aside0.mk (blk_below (g := gb101) (o := .cells #[.int .i64 a0_0, .int .i64 a0_1, .int .i64 a0_2, .int .i64 a0_3, .int .i64 a0_4, .int .i64 a0_5] 78 (0, 0)) (by (with_reducible repeat (first | refine blk_drewN ?_ _ | refine blk_drew ?_ | refine blk_alloc ?_ _)); exact BK101.out) hb); have n1_ := Aside0.mk (below_step (by repeat (first | (with_reducible first | exact HB.out | apply below_alloc | apply pw_below_drewN | apply below_drew1 | refine below_set ?_ GE101.out) | exact HB.out)) hb); clear BK101; clear HB; have BK101 := n0_; have HB := n1_; clear n0_ n1_; (try clear hb); (try clear hb2); (try clear hk); (try clear hi)))
  go_ret
  exact ⟨by first | rfl | (simp [errW_none, errW_some] <;> rfl) | (simp [*, errW_none, errW_some] <;> rfl), by repeat (first | (with_reducible first | exact HB.out | apply below_alloc | apply pw_below_drewN | apply below_drew1 | refine below_set ?_ GE101.out) | exact HB.out)⟩

end Go.Proofs.Ytgcgdjldhjajaaa.A
namespace Go.Proofs.Ytgcgdjldhjajaaa.A
open Go.RowKit Go.Proofs.YtgcgdjldhjajaaaW.PrintWords Go.Proofs.YtgcgdjldhjajaaaW.PrintLast Go.Proofs.YtgcgdjldhjajaaaW.PrintMore
attribute [local go_sem] max2_int min2_int max_two min_two max_three min_three max_four min_four   -- for this text's walks alone
set_option linter.unusedVariables false
set_option linter.unusedSimpArgs false

/-! ### impl_areRecs: function 66, by hand -/
def timeB (n : Int) : Bool := decide (0 ≤ n ∧ n ≤ 1000000)
def nodeB (n : Int) : Bool := decide (1 ≤ n ∧ n ≤ 6)
theorem m_within (n lo hi : Int) : impl_within.f n lo hi = some (decide (lo ≤ n ∧ n ≤ hi)) := by
  unfold impl_within.f; by_cases h : lo ≤ n <;> simp [h]
theorem m_time (n : Int) : impl_isTime.f n = some (timeB n) := by
  unfold impl_isTime.f; rw [m_within]; rfl
theorem m_node (n : Int) : impl_isNode.f n = some (nodeB n) := by
  unfold impl_isNode.f; rw [m_within]; rfl
def factB (a b c : Int) : Bool := nodeB a && timeB b && decide (1 ≤ c ∧ c ≤ 3)
theorem m_fact (a b c : Int) : impl_FactRight.f a b c = some (factB a b c) := by
  unfold impl_FactRight.f factB
  simp only [m_node, m_time, m_within, Option.bind_some]
  cases nodeB a <;> cases timeB b <;> simp
/-- What RecRight asks, as one Bool. -/
def recB (a b c d e f : Int) : Bool := timeB a && nodeB b && (if c = 1 then timeB d && e == 0 && f == 0 else if c = 2 then d == 0 && e == 0 && f == 0 else if c = 3 then timeB d && nodeB e && f == 0
  else if c = 4 then timeB d && nodeB e && f == 0 else if c = 5 then factB d e f else if c = 6 then nodeB d && e == 0 && f == 0 else false)
def recOk (x : S78) : Bool := recB x.f0 x.f1 x.f2 x.f3 x.f4 x.f5
theorem m_recRight (a b c d e f : Int) : impl_RecRight.f a b c d e f = some (recB a b c d e f) := by
  unfold impl_RecRight.f recB
  simp only [m_node, m_time, m_fact, Option.bind_some]
  cases timeB a
  · rfl
  cases nodeB b
  · rfl
  simp only [if_true, Bool.true_and]
  by_cases h1 : c = 1
  · rw [if_pos h1, if_pos h1]
    cases timeB d <;> by_cases h2 : e = 0 <;> simp [h2]
  rw [if_neg h1, if_neg h1]
  by_cases h2 : c = 2
  · rw [if_pos h2, if_pos h2]
    by_cases h3 : d = 0 <;> by_cases h4 : e = 0 <;> simp [h3, h4]
  rw [if_neg h2, if_neg h2]
  by_cases h3 : c = 3
  · rw [if_pos h3, if_pos h3]
    cases timeB d <;> cases nodeB e <;> simp
  rw [if_neg h3, if_neg h3]
  by_cases h4 : c = 4
  · rw [if_pos h4, if_pos h4]
    cases timeB d <;> cases nodeB e <;> simp
  rw [if_neg h4, if_neg h4]
  by_cases h5 : c = 5
  · rw [if_pos h5, if_pos h5]
  rw [if_neg h5, if_neg h5]
  by_cases h6 : c = 6
  · rw [if_pos h6, if_pos h6]
    cases nodeB d <;> by_cases h7 : e = 0 <;> simp [h7]
  rw [if_neg h6, if_neg h6]
theorem recRight_eq (x : S78) : impl_RecRight.f x.f0 x.f1 x.f2 x.f3 x.f4 x.f5 = some (recOk x) := m_recRight _ _ _ _ _ _
def impl_areRecs.f (l0 : List S78) : Option Bool := some (decide (l0.length ≤ 400) && l0.all recOk)
set_option maxHeartbeats 4000000 in
set_option maxRecDepth 100000 in
theorem impl_areRecs.calls (A0 : Option Addr) (c0 : Nat) (l0 : List S78) (r : Bool) (w : World) (hr0 : Kd.C k78 w A0 l0.length l0) (hc0 : l0.length ≤ c0) (h : impl_areRecs.f l0 = some r) :
    Calls Try.prog 66 #[.slice A0 l0.length c0] w fun e w' => e = .returned (.bool r) ∧ Below w.heap.size w w' := by
  have hp : RecPred 105 #[] (fun x => !recOk x) (fun x => x ∈ l0) w := by
    intro W x _ hb
    have hf : impl_areRecs_1.f x.f0 x.f1 x.f2 x.f3 x.f4 x.f5 = some (!recOk x) := by
      unfold impl_areRecs_1.f
      rw [recRight_eq]
      rfl
    exact (impl_areRecs_1.calls _ _ _ _ _ _ _ W hf).mono fun _ _ ⟨he, hb'⟩ => ⟨he, hb.trans (hb'.mono hb.size)⟩
  have HC := Aside0.mk (anyRec (fun x => !recOk x) 105 #[] A0 c0 l0 w hr0 hp (enters_of Try.func105 (by kernel_rfl) rfl))
  have hlen : l0.length ≤ 9223372036854775807 := hr0.2.1
  have hany : l0.any (fun x => !recOk x) = !l0.all recOk := by simp [List.any_eq_not_all_not]
  rw [hany] at HC
  clear hr0 hp hany
  have H2 : r = (decide (l0.length ≤ 400) && l0.all recOk) := (Option.some.inj h).symm
  clear h
  generalize l0.all recOk = q at HC H2
  by_cases hb : l0.length ≤ 400
  · have hbi : (l0.length : Int) ≤ 400 := by omega
    have H3 : r = q := by rw [H2]; simp [hb]
    clear H2
    subst H3
    go_enter Try.func66, Try.ntmps66
    go_wp2_with (go_at_call 104; refine HC.out.mono ?_; rintro e w' ⟨rfl, hb'⟩)
    go_ret
    exact ⟨by simp, hb'⟩
  · have hbi : ¬ (l0.length : Int) ≤ 400 := by omega
    have H3 : r = false := by rw [H2]; simp [hb]
    clear H2
    subst H3
    go_enter Try.func66, Try.ntmps66
    go_wp2
    go_ret
    exact ⟨rfl, Below.refl _ _⟩

end Go.Proofs.Ytgcgdjldhjajaaa.A
namespace Go.Proofs.Ytgcgdjldhjajaaa.A
open Go.RowKit Go.Proofs.YtgcgdjldhjajaaaW.PrintWords Go.Proofs.YtgcgdjldhjajaaaW.PrintLast Go.Proofs.YtgcgdjldhjajaaaW.PrintMore
attribute [local go_sem] max2_int min2_int max_two min_two max_three min_three max_four min_four   -- for this text's walks alone
set_option linter.unusedVariables false
set_option linter.unusedSimpArgs false

/-! ### impl_SeenGone: function 54, by hand -/
/-- Whether a record says that a node is gone. -/
def seenB (n i : Int) (x : S78) : Bool := (((x.f2 == 5) && (x.f3 == n)) && (x.f4 == i)) && (x.f5 == 3)
set_option maxHeartbeats 8000000 in
set_option maxRecDepth 100000 in
theorem seenGone_1 (gn gi : Nat) (n i : Int) (x : S78) (W : World)
    (hgn : W.heap[gn]? = some (.cells #[.int .i64 n] 2 (0, 0))) (hgi : W.heap[gi]? = some (.cells #[.int .i64 i] 2 (0, 0))) :
    Calls Try.prog 101 (#[.agg #[.int .i64 x.f0, .int .i64 x.f1, .int .i64 x.f2, .int .i64 x.f3, .int .i64 x.f4, .int .i64 x.f5]] ++ #[.pointer (some ⟨gn, 0, none⟩), .pointer (some ⟨gi, 0, none⟩)]) W fun e w' => e = .returned (.bool (seenB n i x)) ∧ Below W.heap.size W w' := by
  obtain ⟨a0, a1, a2, a3, a4, a5⟩ := x
  have hv : seenB n i ⟨a0, a1, a2, a3, a4, a5⟩ = ((((a2 == 5) && (a3 == n)) && (a4 == i)) && (a5 == 3)) := rfl
  rw [hv]
  clear hv
  have HL := Aside0.mk hgn
  have HX := Aside0.mk hgi
  clear hgn hgi
  have hu78 := Try.underlying78
  simp only [Array.append_eq_append, List.append_toArray, List.cons_append, List.nil_append]
  go_enter Try.func101, Try.ntmps101
  go_upto_region 1 with ((with_reducible refine gate_dst (N := 3) rfl ?_); refine box_event ?hg (N := 3) ?hd (cs := #[.int .i64 a0, .int .i64 a1, .int .i64 a2, .int .i64 a3, .int .i64 a4, .int .i64 a5]) (t := 78) ?hr ?_; (case hd => rfl); (case hg => rfl); (case hr => first | (go_simp; done) | (go_simp; rfl)); intro gb hgb w3 hbox hb; have HB0 := Aside0.mk hbox; have HB := Aside0.mk hb; clear hbox hb hgb)
  have q0 := blk_cell (blk_below HL.out HB.out) 0
  have q1 := blk_cell (blk_below HX.out HB.out) 0
  have r2 := blk_cell HB0.out 2
  have r3 := blk_cell HB0.out 3
  have r4 := blk_cell HB0.out 4
  have r5 := blk_cell HB0.out 5
  simp at q0 q1 r2 r3 r4 r5
  cases h2 : (a2 == 5)
  · go_wp2
    go_ret
    exact ⟨by rw [h2]; rfl, by repeat (first | exact HB.out | apply pw_below_drewN | apply below_drew1)⟩
  · cases h3 : (a3 == n)
    · go_wp2
      go_ret
      exact ⟨by rw [h2, h3]; rfl, by repeat (first | exact HB.out | apply pw_below_drewN | apply below_drew1)⟩
    · cases h4 : (a4 == i)
      all_goals
        go_wp2
        go_ret
        exact ⟨by rw [h2, h3, h4]; rfl, by repeat (first | exact HB.out | apply pw_below_drewN | apply below_drew1)⟩
theorem seen_pred2 (gn gi : Nat) (n i : Int) (w W : World) (ok : S78 → Prop) (hgn : W.heap[gn]? = some (.cells #[.int .i64 n] 2 (0, 0))) (hgi : W.heap[gi]? = some (.cells #[.int .i64 i] 2 (0, 0))) : RecPred2 101 #[.pointer (some ⟨gn, 0, none⟩), .pointer (some ⟨gi, 0, none⟩)] (seenB n i) ok W :=
  fun W2 x _ hb2 => seenGone_1 gn gi n i x W2 (blk_below hgn hb2) (blk_below hgi hb2)
def impl_SeenGone.f (l0 : List S78) (n i : Int) : Option (List Int) := some (if (decide (l0.length ≤ 400) && l0.all recOk) = true then (if nodeB n = true then nodesP (seenB n i) l0 else []) else [])
set_option maxHeartbeats 4000000 in
set_option maxRecDepth 100000 in
theorem impl_SeenGone.calls (A0 : Option Addr) (c0 : Nat) (l0 : List S78) (n i : Int) (r : List Int) (w : World) (hr0 : Kd.C k78 w A0 l0.length l0) (hc0 : l0.length ≤ c0) (h : impl_SeenGone.f l0 n i = some r) :
    Calls Try.prog 54 #[.slice A0 l0.length c0, .int .i64 n, .int .i64 i] w fun e w' => ∃ v0_ : Value, e = .returned (v0_) ∧ Kd.R (Kd.int .i64) 2 w' w.heap.size (fun _ => True) v0_ r ∧ Below w.heap.size w w' := by
  have HA := fun W (hb : Below w.heap.size w W) => Aside0.mk (impl_areRecs.calls A0 c0 l0 _ W (Kd.C_below hr0 hb) hc0 rfl)
  have HF := fun W => Aside0.mk (impl_isNode.calls n _ W (m_node n))
  have HI : l0.length ≤ 400 → ∀ W gn gi, Below w.heap.size w W → W.heap[gn]? = some (.cells #[.int .i64 n] 2 (0, 0)) → W.heap[gi]? = some (.cells #[.int .i64 i] 2 (0, 0)) → Aside0 (Calls Try.prog 100 #[.slice A0 l0.length c0, .func (.func 101) #[] #[.pointer (some ⟨gn, 0, none⟩), .pointer (some ⟨gi, 0, none⟩)]] W fun e w' => ∃ v : Value, e = .returned v ∧ Kd.R (Kd.int .i64) 2 w' W.heap.size (fun _ => True) v (nodesP (seenB n i) l0) ∧ Below W.heap.size W w') := by
    intro h4 W gn gi hb hgn hgi
    exact ⟨nodesRec (seenB n i) 101 #[.pointer (some ⟨gn, 0, none⟩), .pointer (some ⟨gi, 0, none⟩)] A0 c0 l0 W (Kd.C_below hr0 hb) h4 (seen_pred2 gn gi n i w W _ hgn hgi) (enters_of Try.func101 (by kernel_rfl) rfl)⟩
  have h4 : (decide (l0.length ≤ 400) && l0.all recOk) = true → l0.length ≤ 400 := fun h => by
    rw [Bool.and_eq_true] at h
    exact of_decide_eq_true h.1
  have hH : r = if (decide (l0.length ≤ 400) && l0.all recOk) = true then (if nodeB n = true then nodesP (seenB n i) l0 else []) else [] := (Option.some.inj h).symm
  clear h hr0
  generalize nodesP (seenB n i) l0 = v at hH HI
  generalize nodeB n = b2 at hH HF
  generalize (decide (l0.length ≤ 400) && l0.all recOk) = b1 at hH HA h4
  have HI2 := Aside0.mk HI
  have HA2 := Aside0.mk HA
  clear HI HA
  cases b1
  case false =>
    clear HI2 h4
    have hr : r = [] := by rw [hH]; rfl
    subst hr
    clear hH
    go_enter Try.func54, Try.ntmps54
    go_wp2_with (first
      | ((with_reducible refine gate_dst (N := 4) rfl ?_); refine box_event ?hg (N := 4) ?hd (cs := #[.int .i64 n]) (t := 2) ?hr ?_; (case hd => rfl); (case hg => rfl); (case hr => first | (go_simp; done) | (go_simp; rfl)); intro gn hgb w3 hbox hb; have HXA := Aside0.mk hbox; have BX1 := Aside0.mk hb; clear hbox hb hgb)
      | ((with_reducible refine gate_dst (N := 5) rfl ?_); refine box_event ?hg (N := 5) ?hd (cs := #[.int .i64 i]) (t := 2) ?hr ?_; (case hd => rfl); (case hg => rfl); (case hr => first | (go_simp; done) | (go_simp; rfl)); intro gi hgb w3 hbox hb; have HXB2 := Aside0.mk hbox; have BX := Aside0.mk (below_step (by repeat (first | exact BX1.out | apply pw_below_drewN | apply below_drew1)) hb); have HXA2 := Aside0.mk (blk_below (by (with_reducible repeat (first | refine blk_drewN ?_ _ | refine blk_drew ?_)); exact HXA.out) hb); clear hbox hb hgb)
      | (go_at_call 66; refine (HA2.out _ (by repeat (first | exact BX.out | apply pw_below_drewN | apply below_drew1))).out.mono ?_; rintro e w' ⟨rfl, hb'⟩; have z := blk_below (by (with_reducible repeat (first | refine blk_drewN ?_ _ | refine blk_drew ?_)); exact HXA2.out) hb'; have y := blk_below (by (with_reducible repeat (first | refine blk_drewN ?_ _ | refine blk_drew ?_)); exact HXB2.out) hb'; have XA3 := Aside0.mk z; have XB3 := Aside0.mk y; have z0 := blk_cell z 0; have y0 := blk_cell y 0; simp at z0 y0; clear z y; have HB2 := Aside0.mk (below_step (by repeat (first | exact BX.out | apply pw_below_drewN | apply below_drew1)) hb'); clear hb'))
    go_ret
    exact ⟨_, rfl, Kd.R_nil _ _ _ _ _, (by repeat (first | exact HB2.out | apply pw_below_drewN | apply below_drew1))⟩
  case true =>
    cases b2
    case false =>
      clear HI2 h4
      have hr : r = [] := by rw [hH]; rfl
      subst hr
      clear hH
      go_enter Try.func54, Try.ntmps54
      go_wp2_with (first
        | ((with_reducible refine gate_dst (N := 4) rfl ?_); refine box_event ?hg (N := 4) ?hd (cs := #[.int .i64 n]) (t := 2) ?hr ?_; (case hd => rfl); (case hg => rfl); (case hr => first | (go_simp; done) | (go_simp; rfl)); intro gn hgb w3 hbox hb; have HXA := Aside0.mk hbox; have BX1 := Aside0.mk hb; clear hbox hb hgb)
        | ((with_reducible refine gate_dst (N := 5) rfl ?_); refine box_event ?hg (N := 5) ?hd (cs := #[.int .i64 i]) (t := 2) ?hr ?_; (case hd => rfl); (case hg => rfl); (case hr => first | (go_simp; done) | (go_simp; rfl)); intro gi hgb w3 hbox hb; have HXB2 := Aside0.mk hbox; have BX := Aside0.mk (below_step (by repeat (first | exact BX1.out | apply pw_below_drewN | apply below_drew1)) hb); have HXA2 := Aside0.mk (blk_below (by (with_reducible repeat (first | refine blk_drewN ?_ _ | refine blk_drew ?_)); exact HXA.out) hb); clear hbox hb hgb)
        | (go_at_call 66; refine (HA2.out _ (by repeat (first | exact BX.out | apply pw_below_drewN | apply below_drew1))).out.mono ?_; rintro e w' ⟨rfl, hb'⟩; have z := blk_below (by (with_reducible repeat (first | refine blk_drewN ?_ _ | refine blk_drew ?_)); exact HXA2.out) hb'; have y := blk_below (by (with_reducible repeat (first | refine blk_drewN ?_ _ | refine blk_drew ?_)); exact HXB2.out) hb'; have XA3 := Aside0.mk z; have XB3 := Aside0.mk y; have z0 := blk_cell z 0; have y0 := blk_cell y 0; simp at z0 y0; clear z y; have HB2 := Aside0.mk (below_step (by repeat (first | exact BX.out | apply pw_below_drewN | apply below_drew1)) hb'); clear hb')
        | (go_at_call 73; refine (HF _).out.mono ?_; rintro e w' ⟨rfl, hb1⟩; have hb' := hb1.below; have z := blk_below (by (with_reducible repeat (first | refine blk_drewN ?_ _ | refine blk_drew ?_)); exact XA3.out) hb'; have y := blk_below (by (with_reducible repeat (first | refine blk_drewN ?_ _ | refine blk_drew ?_)); exact XB3.out) hb'; have XA4 := Aside0.mk z; have XB4 := Aside0.mk y; clear z y; have HB3 := Aside0.mk (below_step (by repeat (first | exact HB2.out | apply pw_below_drewN | apply below_drew1)) hb'); clear hb' hb1))
      go_ret
      exact ⟨_, rfl, Kd.R_nil _ _ _ _ _, (by repeat (first | exact HB3.out | apply pw_below_drewN | apply below_drew1))⟩
    case true =>
      have HI3 := Aside0.mk (HI2.out (h4 rfl))
      clear HI2 h4
      have hr : r = v := by rw [hH]; rfl
      subst hr
      clear hH
      go_enter Try.func54, Try.ntmps54
      go_wp2_with (first
        | ((with_reducible refine gate_dst (N := 4) rfl ?_); refine box_event ?hg (N := 4) ?hd (cs := #[.int .i64 n]) (t := 2) ?hr ?_; (case hd => rfl); (case hg => rfl); (case hr => first | (go_simp; done) | (go_simp; rfl)); intro gn hgb w3 hbox hb; have HXA := Aside0.mk hbox; have BX1 := Aside0.mk hb; clear hbox hb hgb)
        | ((with_reducible refine gate_dst (N := 5) rfl ?_); refine box_event ?hg (N := 5) ?hd (cs := #[.int .i64 i]) (t := 2) ?hr ?_; (case hd => rfl); (case hg => rfl); (case hr => first | (go_simp; done) | (go_simp; rfl)); intro gi hgb w3 hbox hb; have HXB2 := Aside0.mk hbox; have BX := Aside0.mk (below_step (by repeat (first | exact BX1.out | apply pw_below_drewN | apply below_drew1)) hb); have HXA2 := Aside0.mk (blk_below (by (with_reducible repeat (first | refine blk_drewN ?_ _ | refine blk_drew ?_)); exact HXA.out) hb); clear hbox hb hgb)
        | (go_at_call 66; refine (HA2.out _ (by repeat (first | exact BX.out | apply pw_below_drewN | apply below_drew1))).out.mono ?_; rintro e w' ⟨rfl, hb'⟩; have z := blk_below (by (with_reducible repeat (first | refine blk_drewN ?_ _ | refine blk_drew ?_)); exact HXA2.out) hb'; have y := blk_below (by (with_reducible repeat (first | refine blk_drewN ?_ _ | refine blk_drew ?_)); exact HXB2.out) hb'; have XA3 := Aside0.mk z; have XB3 := Aside0.mk y; have z0 := blk_cell z 0; have y0 := blk_cell y 0; simp at z0 y0; clear z y; have HB2 := Aside0.mk (below_step (by repeat (first | exact BX.out | apply pw_below_drewN | apply below_drew1)) hb'); clear hb')
        | (go_at_call 73; refine (HF _).out.mono ?_; rintro e w' ⟨rfl, hb1⟩; have hb' := hb1.below; have z := blk_below (by (with_reducible repeat (first | refine blk_drewN ?_ _ | refine blk_drew ?_)); exact XA3.out) hb'; have y := blk_below (by (with_reducible repeat (first | refine blk_drewN ?_ _ | refine blk_drew ?_)); exact XB3.out) hb'; have XA4 := Aside0.mk z; have XB4 := Aside0.mk y; clear z y; have HB3 := Aside0.mk (below_step (by repeat (first | exact HB2.out | apply pw_below_drewN | apply below_drew1)) hb'); clear hb' hb1)
        | (go_at_call 100; refine (HI3.out _ gn gi (by repeat (first | exact HB3.out | apply pw_below_drewN | apply below_drew1)) (by (with_reducible repeat (first | refine blk_drewN ?_ _ | refine blk_drew ?_)); exact XA4.out) (by (with_reducible repeat (first | refine blk_drewN ?_ _ | refine blk_drew ?_)); exact XB4.out)).out.mono ?_; rintro e w' ⟨vv, rfl, ho, hb'⟩; have HO5 := Aside0.mk (Kd.R_lower ho (below_size (by repeat (first | exact HB3.out | apply pw_below_drewN | apply below_drew1)))); have HB5 := Aside0.mk (below_step (by repeat (first | exact HB3.out | apply pw_below_drewN | apply below_drew1)) hb'); clear hb' ho))
      go_ret
      exact ⟨_, rfl, (by (with_reducible repeat (first | apply Kd.R_drewN | apply Kd.R_drew)); exact HO5.out), (by repeat (first | exact HB5.out | apply pw_below_drewN | apply below_drew1))⟩

end Go.Proofs.Ytgcgdjldhjajaaa.A
namespace Go.Proofs.Ytgcgdjldhjajaaa.A
open Go.RowKit Go.Proofs.YtgcgdjldhjajaaaW.PrintWords Go.Proofs.YtgcgdjldhjajaaaW.PrintLast Go.Proofs.YtgcgdjldhjajaaaW.PrintMore
attribute [local go_sem] max2_int min2_int max_two min_two max_three min_three max_four min_four   -- for this text's walks alone
set_option linter.unusedVariables false
set_option linter.unusedSimpArgs false

/-! ### laws_FnExactSeenGone: function 12 -/
def laws_FnExactSeenGone.j0 : Nat → List (S80) → Int → Int → List Int → List Int → Bool → Option (Bool)
  | 0, _, _, _, _, _, _ => none
  | k + 1, x0, x1, x2, x8, x10, x50 => if x50 = true then (some false) else ((laws_markInt64S.f k x10 1).bind fun bt122 => ((laws_heldInt64S.f k bt122.2 1).bind fun t124 => (if t124 < 0 then (some false) else (if t124 = bt122.1 then ((laws_toRecS.f k x0).bind fun t125 => ((impl_SeenGone.f t125 x1 x2).bind fun t128 => ((laws_eqInt64S.f k t128 x8).bind fun t131 => (if t131 = true then ((laws_heldInt64S.f k bt122.2 1).bind fun t132 => (if t132 < 0 then (some false) else (if t132 = bt122.1 then (some true) else (some false)))) else (some false))))) else (some false)))))
def laws_FnExactSeenGone.f (k : Nat) (l0 : List (S80)) (a1 : Int) (a2 : Int) : Option (Bool) := (laws_szRecS.f l0 1048576).bind fun t101 => (if t101 < 0 then (some true) else ((laws_toRecS.f k l0).bind fun t102 => ((spec_SeenGone.f k t102 a1 a2).bind fun t105 => ((laws_toRecS.f k l0).bind fun t108 => ((impl_SeenGone.f t108 a1 a2).bind fun t111 => ((laws_eqInt64S.f k t111 t105).bind fun t114 => (if t114 = true then ((laws_toRecS.f k l0).bind fun t115 => ((laws_eqRecS.f k t108 t115).bind fun t118 => (if t118 = true then ((laws_markRecS.f k t108 1).bind fun bt119 => (if bt119.1 < 0 then (laws_FnExactSeenGone.j0 k l0 a1 a2 t105 t111 true) else ((laws_eqInt64S.f k t111 t105).bind fun t121 => (laws_FnExactSeenGone.j0 k l0 a1 a2 t105 t111 (!t121))))) else (some false)))) else (some false))))))))
theorem laws_FnExactSeenGone.mono_l : ∀ k, (∀ y0 y1 y2 y3 y4 y5, LeO (laws_FnExactSeenGone.j0 k y0 y1 y2 y3 y4 y5) (laws_FnExactSeenGone.j0 (k + 1) y0 y1 y2 y3 y4 y5))
  | 0 => fun _ _ _ _ _ _ r h => by simp [laws_FnExactSeenGone.j0] at h
  | k + 1 => by
    have ih0 := laws_FnExactSeenGone.mono_l k
    · intro y0 y1 y2 y3 y4 y5
      unfold laws_FnExactSeenGone.j0
      repeat' first
      | (with_reducible exact ih0 _ _ _ _ _ _)
      | (with_reducible exact laws_eqInt64S.mono _ _ _)
      | (with_reducible exact laws_eqRecS.mono _ _ _)
      | (with_reducible exact laws_heldInt64S.mono _ _ _)
      | (with_reducible exact laws_markInt64S.mono _ _ _)
      | (with_reducible exact laws_markRecS.mono _ _ _)
      | (with_reducible exact laws_toRecS.mono _ _)
      | (with_reducible exact spec_SeenGone.mono _ _ _ _)
      | (with_reducible exact LeO.refl _)
      | (with_reducible exact LeO.none _)
      | (with_reducible refine LeO.ite ?_ ?_)
      | (with_reducible refine LeO.bind ?_ (fun _ => ?_))
      | exact ih0 _ _ _ _ _ _
      | exact laws_eqInt64S.mono _ _ _
      | exact laws_eqRecS.mono _ _ _
      | exact laws_heldInt64S.mono _ _ _
      | exact laws_markInt64S.mono _ _ _
      | exact laws_markRecS.mono _ _ _
      | exact laws_toRecS.mono _ _
      | exact spec_SeenGone.mono _ _ _ _
      | exact LeO.none _
      | refine LeO.ite ?_ ?_
      | refine LeO.bind ?_ (fun _ => ?_)
theorem laws_FnExactSeenGone.mono : ∀ a0 a1 a2 k, LeO (laws_FnExactSeenGone.f k a0 a1 a2) (laws_FnExactSeenGone.f (k + 1) a0 a1 a2) := by
  intro a0 a1 a2 k
  have ih0 := laws_FnExactSeenGone.mono_l k
  unfold laws_FnExactSeenGone.f
  repeat' first
      | (with_reducible exact ih0 _ _ _ _ _ _)
      | (with_reducible exact laws_eqInt64S.mono _ _ _)
      | (with_reducible exact laws_eqRecS.mono _ _ _)
      | (with_reducible exact laws_heldInt64S.mono _ _ _)
      | (with_reducible exact laws_markInt64S.mono _ _ _)
      | (with_reducible exact laws_markRecS.mono _ _ _)
      | (with_reducible exact laws_toRecS.mono _ _)
      | (with_reducible exact spec_SeenGone.mono _ _ _ _)
      | (with_reducible exact LeO.refl _)
      | (with_reducible exact LeO.none _)
      | (with_reducible refine LeO.ite ?_ ?_)
      | (with_reducible refine LeO.bind ?_ (fun _ => ?_))
      | exact ih0 _ _ _ _ _ _
      | exact laws_eqInt64S.mono _ _ _
      | exact laws_eqRecS.mono _ _ _
      | exact laws_heldInt64S.mono _ _ _
      | exact laws_markInt64S.mono _ _ _
      | exact laws_markRecS.mono _ _ _
      | exact laws_toRecS.mono _ _
      | exact spec_SeenGone.mono _ _ _ _
      | exact LeO.none _
      | refine LeO.ite ?_ ?_
      | refine LeO.bind ?_ (fun _ => ?_)
set_option maxHeartbeats 8000000 in
set_option maxRecDepth 100000 in
theorem laws_FnExactSeenGone.calls (k : Nat) (A0 : Option Addr) (c0 : Nat) (l0 : List (S80)) (a1 : Int) (a2 : Int) (r : Bool) (w : World) (hr0 : Kd.C k80 w A0 l0.length l0) (hc0 : l0.length ≤ c0) (ht : r = true) (h : laws_FnExactSeenGone.f k l0 a1 a2 = some r) :
    Calls Try.prog 12 #[.slice A0 l0.length c0, .int .i64 a1, .int .i64 a2] w fun e w' => e = .returned (.bool r) ∧ Below w.heap.size w w' := by
  have HR0 := Aside0.mk hr0
  have HC0 := Aside0.mk hc0
  clear hr0 hc0
  have HB := Aside0.mk (Below.refl w.heap.size w)
  have H : ((laws_szRecS.f l0 1048576).bind fun t101 => (if t101 < 0 then (some true) else ((laws_toRecS.f k l0).bind fun t102 => ((spec_SeenGone.f k t102 a1 a2).bind fun t105 => ((laws_toRecS.f k l0).bind fun t108 => ((impl_SeenGone.f t108 a1 a2).bind fun t111 => ((laws_eqInt64S.f k t111 t105).bind fun t114 => (if t114 = true then ((laws_toRecS.f k l0).bind fun t115 => ((laws_eqRecS.f k t108 t115).bind fun t118 => (if t118 = true then ((laws_markRecS.f k t108 1).bind fun bt119 => (if bt119.1 < 0 then (laws_FnExactSeenGone.j0 k l0 a1 a2 t105 t111 true) else ((laws_eqInt64S.f k t111 t105).bind fun t121 => (laws_FnExactSeenGone.j0 k l0 a1 a2 t105 t111 (!t121))))) else (some false)))) else (some false))))))))) = some r := h
  clear h
  replace H := Option.bind_eq_some_iff.mp H
  obtain ⟨t101, A40, H⟩ := H
  replace H : (if t101 < 0 then (some true) else ((laws_toRecS.f k l0).bind fun t102 => ((spec_SeenGone.f k t102 a1 a2).bind fun t105 => ((laws_toRecS.f k l0).bind fun t108 => ((impl_SeenGone.f t108 a1 a2).bind fun t111 => ((laws_eqInt64S.f k t111 t105).bind fun t114 => (if t114 = true then ((laws_toRecS.f k l0).bind fun t115 => ((laws_eqRecS.f k t108 t115).bind fun t118 => (if t118 = true then ((laws_markRecS.f k t108 1).bind fun bt119 => (if bt119.1 < 0 then (laws_FnExactSeenGone.j0 k l0 a1 a2 t105 t111 true) else ((laws_eqInt64S.f k t111 t105).bind fun t121 => (laws_FnExactSeenGone.j0 k l0 a1 a2 t105 t111 (!t121))))) else (some false)))) else (some false)))))))) = some r := H
  have A4 := Aside0.mk A40
  clear A40
  by_cases c5 : t101 < 0
  · rw [if_pos c5] at H
    have c5b0 : decide (t101 < 0) = true := decide_eq_true c5
    clear c5
    clear ht
    obtain rfl := Option.some.inj H
    go_enter Try.func12, Try.ntmps12
    go_wp2_with (first | ((with_reducible refine gate_callee (f := 15) rfl ?_); refine goesL_ (some 17) rfl rfl Try.func15 (by kernel_rfl) rfl #[.slice A0 l0.length c0, .int .i64 1048576] rfl (by (try simp only [List.map_toArray, List.map_cons, List.map_nil]); first | done | rfl | (simp only [List.length_drop, List.length_take]; rfl)) ?_; (with_reducible refine (laws_szRecS.calls _ _ l0 1048576 t101 _ ?side1 ?side2 A4.out).mono ?_); (case side1 => repeat (first | exact HR0.out | (with_reducible refine Kd.C_alloc ?_ _) | (with_reducible refine Kd.C_drewN ?_ _) | (with_reducible refine Kd.C_drew ?_))); (case side2 => exact HC0.out); rintro e w' ⟨rfl, ⟨nd, rfl⟩⟩; refine ⟨_, rfl, ?_⟩))
    go_ret
    exact ⟨by first | rfl | (simp [errW_none, errW_some] <;> rfl) | (simp [*, errW_none, errW_some] <;> rfl), by repeat (first | (with_reducible first | exact HB.out | apply below_alloc | apply pw_below_drewN | apply below_drew1) | exact HB.out)⟩
  · rw [if_neg c5] at H
    have c5b0 : decide (t101 < 0) = false := decide_eq_false c5
    clear c5
    replace H := Option.bind_eq_some_iff.mp H
    obtain ⟨t102, A60, H⟩ := H
    replace H : ((spec_SeenGone.f k t102 a1 a2).bind fun t105 => ((laws_toRecS.f k l0).bind fun t108 => ((impl_SeenGone.f t108 a1 a2).bind fun t111 => ((laws_eqInt64S.f k t111 t105).bind fun t114 => (if t114 = true then ((laws_toRecS.f k l0).bind fun t115 => ((laws_eqRecS.f k t108 t115).bind fun t118 => (if t118 = true then ((laws_markRecS.f k t108 1).bind fun bt119 => (if bt119.1 < 0 then (laws_FnExactSeenGone.j0 k l0 a1 a2 t105 t111 true) else ((laws_eqInt64S.f k t111 t105).bind fun t121 => (laws_FnExactSeenGone.j0 k l0 a1 a2 t105 t111 (!t121))))) else (some false)))) else (some false)))))) = some r := H
    have A6 := Aside0.mk A60
    clear A60
    replace H := Option.bind_eq_some_iff.mp H
    obtain ⟨t105, A70, H⟩ := H
    replace H : ((laws_toRecS.f k l0).bind fun t108 => ((impl_SeenGone.f t108 a1 a2).bind fun t111 => ((laws_eqInt64S.f k t111 t105).bind fun t114 => (if t114 = true then ((laws_toRecS.f k l0).bind fun t115 => ((laws_eqRecS.f k t108 t115).bind fun t118 => (if t118 = true then ((laws_markRecS.f k t108 1).bind fun bt119 => (if bt119.1 < 0 then (laws_FnExactSeenGone.j0 k l0 a1 a2 t105 t111 true) else ((laws_eqInt64S.f k t111 t105).bind fun t121 => (laws_FnExactSeenGone.j0 k l0 a1 a2 t105 t111 (!t121))))) else (some false)))) else (some false))))) = some r := H
    have A7 := Aside0.mk A70
    clear A70
    replace H := Option.bind_eq_some_iff.mp H
    obtain ⟨t108, A80, H⟩ := H
    replace H : ((impl_SeenGone.f t108 a1 a2).bind fun t111 => ((laws_eqInt64S.f k t111 t105).bind fun t114 => (if t114 = true then ((laws_toRecS.f k l0).bind fun t115 => ((laws_eqRecS.f k t108 t115).bind fun t118 => (if t118 = true then ((laws_markRecS.f k t108 1).bind fun bt119 => (if bt119.1 < 0 then (laws_FnExactSeenGone.j0 k l0 a1 a2 t105 t111 true) else ((laws_eqInt64S.f k t111 t105).bind fun t121 => (laws_FnExactSeenGone.j0 k l0 a1 a2 t105 t111 (!t121))))) else (some false)))) else (some false)))) = some r := H
    have A8 := Aside0.mk A80
    clear A80
    replace H := Option.bind_eq_some_iff.mp H
    obtain ⟨t111, A90, H⟩ := H
    replace H : ((laws_eqInt64S.f k t111 t105).bind fun t114 => (if t114 = true then ((laws_toRecS.f k l0).bind fun t115 => ((laws_eqRecS.f k t108 t115).bind fun t118 => (if t118 = true then ((laws_markRecS.f k t108 1).bind fun bt119 => (if bt119.1 < 0 then (laws_FnExactSeenGone.j0 k l0 a1 a2 t105 t111 true) else ((laws_eqInt64S.f k t111 t105).bind fun t121 => (laws_FnExactSeenGone.j0 k l0 a1 a2 t105 t111 (!t121))))) else (some false)))) else (some false))) = some r := H
    have A9 := Aside0.mk A90
    clear A90
    replace H := Option.bind_eq_some_iff.mp H
    obtain ⟨t114, A100, H⟩ := H
    replace H : (if t114 = true then ((laws_toRecS.f k l0).bind fun t115 => ((laws_eqRecS.f k t108 t115).bind fun t118 => (if t118 = true then ((laws_markRecS.f k t108 1).bind fun bt119 => (if bt119.1 < 0 then (laws_FnExactSeenGone.j0 k l0 a1 a2 t105 t111 true) else ((laws_eqInt64S.f k t111 t105).bind fun t121 => (laws_FnExactSeenGone.j0 k l0 a1 a2 t105 t111 (!t121))))) else (some false)))) else (some false)) = some r := H
    have A10 := Aside0.mk A100
    clear A100
    by_cases c11 : t114 = true
    · subst c11
      have H1 : ((laws_toRecS.f k l0).bind fun t115 => ((laws_eqRecS.f k t108 t115).bind fun t118 => (if t118 = true then ((laws_markRecS.f k t108 1).bind fun bt119 => (if bt119.1 < 0 then (laws_FnExactSeenGone.j0 k l0 a1 a2 t105 t111 true) else ((laws_eqInt64S.f k t111 t105).bind fun t121 => (laws_FnExactSeenGone.j0 k l0 a1 a2 t105 t111 (!t121))))) else (some false)))) = some r := by rw [if_pos rfl] at H; exact H
      clear H
      have H := H1
      clear H1
      replace H := Option.bind_eq_some_iff.mp H
      obtain ⟨t115, A120, H⟩ := H
      replace H : ((laws_eqRecS.f k t108 t115).bind fun t118 => (if t118 = true then ((laws_markRecS.f k t108 1).bind fun bt119 => (if bt119.1 < 0 then (laws_FnExactSeenGone.j0 k l0 a1 a2 t105 t111 true) else ((laws_eqInt64S.f k t111 t105).bind fun t121 => (laws_FnExactSeenGone.j0 k l0 a1 a2 t105 t111 (!t121))))) else (some false))) = some r := H
      have A12 := Aside0.mk A120
      clear A120
      replace H := Option.bind_eq_some_iff.mp H
      obtain ⟨t118, A130, H⟩ := H
      replace H : (if t118 = true then ((laws_markRecS.f k t108 1).bind fun bt119 => (if bt119.1 < 0 then (laws_FnExactSeenGone.j0 k l0 a1 a2 t105 t111 true) else ((laws_eqInt64S.f k t111 t105).bind fun t121 => (laws_FnExactSeenGone.j0 k l0 a1 a2 t105 t111 (!t121))))) else (some false)) = some r := H
      have A13 := Aside0.mk A130
      clear A130
      by_cases c14 : t118 = true
      · subst c14
        have H1 : ((laws_markRecS.f k t108 1).bind fun bt119 => (if bt119.1 < 0 then (laws_FnExactSeenGone.j0 k l0 a1 a2 t105 t111 true) else ((laws_eqInt64S.f k t111 t105).bind fun t121 => (laws_FnExactSeenGone.j0 k l0 a1 a2 t105 t111 (!t121))))) = some r := by rw [if_pos rfl] at H; exact H
        clear H
        have H := H1
        clear H1
        replace H := Option.bind_eq_some_iff.mp H
        obtain ⟨⟨t119, t120⟩, A150, H⟩ := H
        replace H : (if t119 < 0 then (laws_FnExactSeenGone.j0 k l0 a1 a2 t105 t111 true) else ((laws_eqInt64S.f k t111 t105).bind fun t121 => (laws_FnExactSeenGone.j0 k l0 a1 a2 t105 t111 (!t121)))) = some r := H
        have A15 := Aside0.mk A150
        clear A150
        have HC16 := Aside0.mk H
        clear H
        go_enter Try.func12, Try.ntmps12
        go_upto_region 14 with (first | ((with_reducible refine gate_callee (f := 15) rfl ?_); refine goesL_ (some 17) rfl rfl Try.func15 (by kernel_rfl) rfl #[.slice A0 l0.length c0, .int .i64 1048576] rfl (by (try simp only [List.map_toArray, List.map_cons, List.map_nil]); first | done | rfl | (simp only [List.length_drop, List.length_take]; rfl)) ?_; (with_reducible refine (laws_szRecS.calls _ _ l0 1048576 t101 _ ?side1 ?side2 A4.out).mono ?_); (case side1 => repeat (first | exact HR0.out | (with_reducible refine Kd.C_alloc ?_ _) | (with_reducible refine Kd.C_drewN ?_ _) | (with_reducible refine Kd.C_drew ?_))); (case side2 => exact HC0.out); rintro e w' ⟨rfl, ⟨nd, rfl⟩⟩; refine ⟨_, rfl, ?_⟩) | ((with_reducible refine gate_callee (f := 17) rfl ?_); refine goesL_ (some 21) rfl rfl Try.func17 (by kernel_rfl) rfl #[.slice A0 l0.length c0] rfl (by (try simp only [List.map_toArray, List.map_cons, List.map_nil]); first | done | rfl | (simp only [List.length_drop, List.length_take]; rfl)) ?_; (with_reducible refine (laws_toRecS.calls k _ _ l0 t102 _ ?side1 ?side2 A6.out).mono ?_); (case side1 => repeat (first | exact HR0.out | (with_reducible refine Kd.C_alloc ?_ _) | (with_reducible refine Kd.C_drewN ?_ _) | (with_reducible refine Kd.C_drew ?_))); (case side2 => exact HC0.out); rintro e w17 ⟨v103, rfl, ho0, hb⟩; refine ⟨_, rfl, ?_⟩; have n0_ := Aside0.mk (Kd.R_lower ho0 (below_size (by repeat (first | (with_reducible first | exact HB.out | apply below_alloc | apply pw_below_drewN | apply below_drew1) | exact HB.out)))); have n1_ := Aside0.mk (below_step (by repeat (first | (with_reducible first | exact HB.out | apply below_alloc | apply pw_below_drewN | apply below_drew1) | exact HB.out)) hb); clear HB; have HO104 := n0_; have HB := n1_; clear n0_ n1_; (try clear hb); (try clear hb2); (try clear hk); (try clear hi); (try clear ho0); obtain ⟨Ao18, co18, eo18⟩ := Kd.R_slice HO104.out; subst eo18) | ((with_reducible refine gate_callee (f := 53) rfl ?_); refine goesL_ (some 24) rfl rfl Try.func53 (by kernel_rfl) rfl #[.slice Ao18 t102.length co18, .int .i64 a1, .int .i64 a2] rfl (by (try simp only [List.map_toArray, List.map_cons, List.map_nil]); first | done | rfl | (simp only [List.length_drop, List.length_take]; rfl)) ?_; (with_reducible refine (spec_SeenGone.calls k _ _ t102 a1 a2 t105 _ ?side1 ?side2 A7.out).mono ?_); (case side1 => repeat (first | exact (Kd.R_reads' HO104.out).2.2 | (with_reducible refine Kd.C_alloc ?_ _) | (with_reducible refine Kd.C_drewN ?_ _) | (with_reducible refine Kd.C_drew ?_))); (case side2 => exact (Kd.R_reads' HO104.out).2.1); rintro e w19 ⟨v106, rfl, ho0, hb⟩; refine ⟨_, rfl, ?_⟩; have n0_ := Aside0.mk (Kd.R_below (by (with_reducible repeat (first | apply Kd.R_alloc | apply Kd.R_drewN | apply Kd.R_drew)); exact HO104.out) hb); have n1_ := Aside0.mk (Kd.R_lower ho0 (below_size (by repeat (first | (with_reducible first | exact HB.out | apply below_alloc | apply pw_below_drewN | apply below_drew1) | exact HB.out)))); have n2_ := Aside0.mk (below_step (by repeat (first | (with_reducible first | exact HB.out | apply below_alloc | apply pw_below_drewN | apply below_drew1) | exact HB.out)) hb); clear HO104; clear HB; have HO104 := n0_; have HO107 := n1_; have HB := n2_; clear n0_ n1_ n2_; (try clear hb); (try clear hb2); (try clear hk); (try clear hi); (try clear ho0)) | ((with_reducible refine gate_callee (f := 17) rfl ?_); refine goesL_ (some 26) rfl rfl Try.func17 (by kernel_rfl) rfl #[.slice A0 l0.length c0] rfl (by (try simp only [List.map_toArray, List.map_cons, List.map_nil]); first | done | rfl | (simp only [List.length_drop, List.length_take]; rfl)) ?_; (with_reducible refine (laws_toRecS.calls k _ _ l0 t108 _ ?side1 ?side2 A8.out).mono ?_); (case side1 => repeat (first | exact (Kd.C_below HR0.out HB.out) | (with_reducible refine Kd.C_alloc ?_ _) | (with_reducible refine Kd.C_drewN ?_ _) | (with_reducible refine Kd.C_drew ?_))); (case side2 => exact HC0.out); rintro e w20 ⟨v109, rfl, ho0, hb⟩; refine ⟨_, rfl, ?_⟩; have n0_ := Aside0.mk (Kd.R_elder' (by (with_reducible repeat (first | apply Kd.R_alloc | apply Kd.R_drewN | apply Kd.R_drew)); exact HO104.out) (Kd.R_base ho0) hb); have n1_ := Aside0.mk (Kd.R_below (by (with_reducible repeat (first | apply Kd.R_alloc | apply Kd.R_drewN | apply Kd.R_drew)); exact HO107.out) hb); have n2_ := Aside0.mk (Kd.R_lower (Kd.R_new' ho0 (Kd.R_lt (by (with_reducible repeat (first | apply Kd.R_alloc | apply Kd.R_drewN | apply Kd.R_drew)); exact HO104.out))) (below_size (by repeat (first | (with_reducible first | exact HB.out | apply below_alloc | apply pw_below_drewN | apply below_drew1) | exact HB.out)))); have n3_ := Aside0.mk (below_step (by repeat (first | (with_reducible first | exact HB.out | apply below_alloc | apply pw_below_drewN | apply below_drew1) | exact HB.out)) hb); clear HO104; clear HO107; clear HB; have HO104 := n0_; have HO107 := n1_; have HO110 := n2_; have HB := n3_; clear n0_ n1_ n2_ n3_; (try clear hb); (try clear hb2); (try clear hk); (try clear hi); (try clear ho0); obtain ⟨Ao21, co21, eo21⟩ := Kd.R_slice HO110.out; subst eo21) | ((with_reducible refine gate_callee (f := 54) rfl ?_); refine goesL_ (some 30) rfl rfl Try.func54 (by kernel_rfl) rfl #[.slice Ao21 t108.length co21, .int .i64 a1, .int .i64 a2] rfl (by (try simp only [List.map_toArray, List.map_cons, List.map_nil]); first | done | rfl | (simp only [List.length_drop, List.length_take]; rfl)) ?_; (with_reducible refine (impl_SeenGone.calls _ _ t108 a1 a2 t111 _ ?side1 ?side2 A9.out).mono ?_); (case side1 => repeat (first | exact (Kd.R_reads' HO110.out).2.2 | (with_reducible refine Kd.C_alloc ?_ _) | (with_reducible refine Kd.C_drewN ?_ _) | (with_reducible refine Kd.C_drew ?_))); (case side2 => exact (Kd.R_reads' HO110.out).2.1); rintro e w22 ⟨v112, rfl, ho0, hb⟩; refine ⟨_, rfl, ?_⟩; have n0_ := Aside0.mk (Kd.R_below (by (with_reducible repeat (first | apply Kd.R_alloc | apply Kd.R_drewN | apply Kd.R_drew)); exact HO104.out) hb); have n1_ := Aside0.mk (Kd.R_elder' (by (with_reducible repeat (first | apply Kd.R_alloc | apply Kd.R_drewN | apply Kd.R_drew)); exact HO107.out) (Kd.R_base ho0) hb); have n2_ := Aside0.mk (Kd.R_below (by (with_reducible repeat (first | apply Kd.R_alloc | apply Kd.R_drewN | apply Kd.R_drew)); exact HO110.out) hb); have n3_ := Aside0.mk (Kd.R_lower (Kd.R_new' ho0 (Kd.R_lt (by (with_reducible repeat (first | apply Kd.R_alloc | apply Kd.R_drewN | apply Kd.R_drew)); exact HO107.out))) (below_size (by repeat (first | (with_reducible first | exact HB.out | apply below_alloc | apply pw_below_drewN | apply below_drew1) | exact HB.out)))); have n4_ := Aside0.mk (below_step (by repeat (first | (with_reducible first | exact HB.out | apply below_alloc | apply pw_below_drewN | apply below_drew1) | exact HB.out)) hb); clear HO104; clear HO107; clear HO110; clear HB; have HO104 := n0_; have HO107 := n1_; have HO110 := n2_; have HO113 := n3_; have HB := n4_; clear n0_ n1_ n2_ n3_ n4_; (try clear hb); (try clear hb2); (try clear hk); (try clear hi); (try clear ho0); obtain ⟨Ao23, co23, eo23⟩ := Kd.R_slice HO113.out; subst eo23; obtain ⟨Ao24, co24, eo24⟩ := Kd.R_slice HO107.out; subst eo24) | ((with_reducible refine gate_callee (f := 29) rfl ?_); refine goesL_ (some 33) rfl rfl Try.func29 (by kernel_rfl) rfl #[.slice Ao23 t111.length co23, .slice Ao24 t105.length co24] rfl (by (try simp only [List.map_toArray, List.map_cons, List.map_nil]); first | done | rfl | (simp only [List.length_drop, List.length_take]; rfl)) ?_; (with_reducible refine (laws_eqInt64S.calls k _ _ t111 _ _ t105 true _ ?side1 ?side2 ?side3 ?side4 A10.out).mono ?_); (case side1 => repeat (first | exact (Kd.R_reads' HO113.out).2.2 | (with_reducible refine Kd.C_alloc ?_ _) | (with_reducible refine Kd.C_drewN ?_ _) | (with_reducible refine Kd.C_drew ?_))); (case side2 => exact (Kd.R_reads' HO113.out).2.1); (case side3 => repeat (first | exact (Kd.R_reads' HO107.out).2.2 | (with_reducible refine Kd.C_alloc ?_ _) | (with_reducible refine Kd.C_drewN ?_ _) | (with_reducible refine Kd.C_drew ?_))); (case side4 => exact (Kd.R_reads' HO107.out).2.1); rintro e w' ⟨rfl, ⟨nd, rfl⟩⟩; refine ⟨_, rfl, ?_⟩) | ((with_reducible refine gate_callee (f := 17) rfl ?_); refine goesL_ (some 37) rfl rfl Try.func17 (by kernel_rfl) rfl #[.slice A0 l0.length c0] rfl (by (try simp only [List.map_toArray, List.map_cons, List.map_nil]); first | done | rfl | (simp only [List.length_drop, List.length_take]; rfl)) ?_; (with_reducible refine (laws_toRecS.calls k _ _ l0 t115 _ ?side1 ?side2 A12.out).mono ?_); (case side1 => repeat (first | exact (Kd.C_below HR0.out (by repeat (first | (with_reducible first | exact HB.out | apply below_alloc | apply pw_below_drewN | apply below_drew1) | exact HB.out))) | (with_reducible refine Kd.C_alloc ?_ _) | (with_reducible refine Kd.C_drewN ?_ _) | (with_reducible refine Kd.C_drew ?_))); (case side2 => exact HC0.out); rintro e w25 ⟨v116, rfl, ho0, hb⟩; refine ⟨_, rfl, ?_⟩; have n0_ := Aside0.mk (Kd.R_elder' (by (with_reducible repeat (first | apply Kd.R_alloc | apply Kd.R_drewN | apply Kd.R_drew)); exact HO104.out) (Kd.R_base ho0) hb); have n1_ := Aside0.mk (Kd.R_below (by (with_reducible repeat (first | apply Kd.R_alloc | apply Kd.R_drewN | apply Kd.R_drew)); exact HO107.out) hb); have n2_ := Aside0.mk (Kd.R_elder' (by (with_reducible repeat (first | apply Kd.R_alloc | apply Kd.R_drewN | apply Kd.R_drew)); exact HO110.out) (Kd.R_base ho0) hb); have n3_ := Aside0.mk (Kd.R_below (by (with_reducible repeat (first | apply Kd.R_alloc | apply Kd.R_drewN | apply Kd.R_drew)); exact HO113.out) hb); have n4_ := Aside0.mk (Kd.R_lower (Kd.R_new' (Kd.R_new' ho0 (Kd.R_lt (by (with_reducible repeat (first | apply Kd.R_alloc | apply Kd.R_drewN | apply Kd.R_drew)); exact HO104.out))) (Kd.R_lt (by (with_reducible repeat (first | apply Kd.R_alloc | apply Kd.R_drewN | apply Kd.R_drew)); exact HO110.out))) (below_size (by repeat (first | (with_reducible first | exact HB.out | apply below_alloc | apply pw_below_drewN | apply below_drew1) | exact HB.out)))); have n5_ := Aside0.mk (below_step (by repeat (first | (with_reducible first | exact HB.out | apply below_alloc | apply pw_below_drewN | apply below_drew1) | exact HB.out)) hb); clear HO104; clear HO107; clear HO110; clear HO113; clear HB; have HO104 := n0_; have HO107 := n1_; have HO110 := n2_; have HO113 := n3_; have HO117 := n4_; have HB := n5_; clear n0_ n1_ n2_ n3_ n4_ n5_; (try clear hb); (try clear hb2); (try clear hk); (try clear hi); (try clear ho0); obtain ⟨Ao26, co26, eo26⟩ := Kd.R_slice HO117.out; subst eo26) | ((with_reducible refine gate_callee (f := 20) rfl ?_); refine goesL_ (some 38) rfl rfl Try.func20 (by kernel_rfl) rfl #[.slice Ao21 t108.length co21, .slice Ao26 t115.length co26] rfl (by (try simp only [List.map_toArray, List.map_cons, List.map_nil]); first | done | rfl | (simp only [List.length_drop, List.length_take]; rfl)) ?_; (with_reducible refine (laws_eqRecS.calls k _ _ t108 _ _ t115 true _ ?side1 ?side2 ?side3 ?side4 A13.out).mono ?_); (case side1 => repeat (first | exact (Kd.R_reads' HO110.out).2.2 | (with_reducible refine Kd.C_alloc ?_ _) | (with_reducible refine Kd.C_drewN ?_ _) | (with_reducible refine Kd.C_drew ?_))); (case side2 => exact (Kd.R_reads' HO110.out).2.1); (case side3 => repeat (first | exact (Kd.R_reads' HO117.out).2.2 | (with_reducible refine Kd.C_alloc ?_ _) | (with_reducible refine Kd.C_drewN ?_ _) | (with_reducible refine Kd.C_drew ?_))); (case side4 => exact (Kd.R_reads' HO117.out).2.1); rintro e w27 ⟨rfl, hb⟩; refine ⟨_, rfl, ?_⟩; have n0_ := Aside0.mk (Kd.R_below (by (with_reducible repeat (first | apply Kd.R_alloc | apply Kd.R_drewN | apply Kd.R_drew)); exact HO104.out) hb); have n1_ := Aside0.mk (Kd.R_below (by (with_reducible repeat (first | apply Kd.R_alloc | apply Kd.R_drewN | apply Kd.R_drew)); exact HO107.out) hb); have n2_ := Aside0.mk (Kd.R_below (by (with_reducible repeat (first | apply Kd.R_alloc | apply Kd.R_drewN | apply Kd.R_drew)); exact HO110.out) hb); have n3_ := Aside0.mk (Kd.R_below (by (with_reducible repeat (first | apply Kd.R_alloc | apply Kd.R_drewN | apply Kd.R_drew)); exact HO113.out) hb); have n4_ := Aside0.mk (Kd.R_below (by (with_reducible repeat (first | apply Kd.R_alloc | apply Kd.R_drewN | apply Kd.R_drew)); exact HO117.out) hb); have n5_ := Aside0.mk (below_step (by repeat (first | (with_reducible first | exact HB.out | apply below_alloc | apply pw_below_drewN | apply below_drew1) | exact HB.out)) hb); clear HO104; clear HO107; clear HO110; clear HO113; clear HO117; clear HB; have HO104 := n0_; have HO107 := n1_; have HO110 := n2_; have HO113 := n3_; have HO117 := n4_; have HB := n5_; clear n0_ n1_ n2_ n3_ n4_ n5_; (try clear hb); (try clear hb2); (try clear hk); (try clear hi)) | ((with_reducible refine gate_callee (f := 30) rfl ?_); refine goesL_ (some 42) rfl rfl Try.func30 (by kernel_rfl) rfl #[.slice Ao21 t108.length co21, .int .i64 1] rfl (by (try simp only [List.map_toArray, List.map_cons, List.map_nil]); first | done | rfl | (simp only [List.length_drop, List.length_take]; rfl)) ?_; (with_reducible refine (laws_markRecS.calls k (fun k_ => some k_ = (.slice Ao21 t108.length co21 : Value).ownBlock) (.slice Ao21 t108.length co21) t108 1 t119 t120 w _ ?side1 ?side2 A15.out).mono ?_); (case side1 => repeat (first | (with_reducible first | exact HB.out | apply below_alloc | apply pw_below_drewN | apply below_drew1) | exact HB.out)); (case side2 => exact Kd.R_tight rfl HO110.out); rintro e w28 ⟨rfl, hy0, hb, hkp⟩; refine ⟨_, rfl, ?_⟩; have n0_ := Aside0.mk (Kd.R_mono (ok' := fun k_ => some k_ ≠ (.slice Ao21 t108.length co21 : Value).ownBlock ∧ some k_ ≠ (.slice Ao26 t115.length co26 : Value).ownBlock) (Kd.R_keptB (HO104.out) hkp (fun k_ hk_ hs_ => (hk_.1.2) hs_)) (fun k_ hk_ => ⟨hk_.1.1.2, hk_.1.2⟩)); have n1_ := Aside0.mk (Kd.R_mono (ok' := fun k_ => some k_ ≠ (.slice Ao23 t111.length co23 : Value).ownBlock) (Kd.R_keptB ((Kd.R_apart' HO107.out (Kd.R_typed HO110.out) (by decide))) hkp (fun k_ hk_ hs_ => (hk_.2) hs_)) (fun k_ hk_ => hk_.1.1.2)); have n2_ := Aside0.mk (Kd.R_reok rfl hy0 (fun k_ e_ => HO110.out.1 k_ e_)); have n3_ := Aside0.mk (Kd.R_mono (ok' := fun k_ => some k_ ≠ (.slice Ao24 t105.length co24 : Value).ownBlock) (Kd.R_keptB ((Kd.R_apart' HO113.out (Kd.R_typed HO110.out) (by decide))) hkp (fun k_ hk_ hs_ => (hk_.2) hs_)) (fun k_ hk_ => hk_.1.1.2)); have n4_ := Aside0.mk (Kd.R_mono (ok' := fun k_ => some k_ ≠ (.slice Ao18 t102.length co18 : Value).ownBlock ∧ some k_ ≠ (.slice Ao21 t108.length co21 : Value).ownBlock) (Kd.R_keptB (HO117.out) hkp (fun k_ hk_ hs_ => (hk_.2) hs_)) (fun k_ hk_ => ⟨hk_.1.1.2, hk_.1.2⟩)); have n5_ := Aside0.mk (hb); clear HO104; clear HO107; clear HO110; clear HO113; clear HO117; clear HB; have HO104 := n0_; have HO107 := n1_; have HO110 := n2_; have HO113 := n3_; have HO117 := n4_; have HB := n5_; clear n0_ n1_ n2_ n3_ n4_ n5_; (try clear hb); (try clear hkp); (try clear hy0)))
        (try simp only [Act.put, List.setIfInBounds_toArray, List.set_cons_zero, List.set_cons_succ])
        go_cut [50] (fun v50 wc => ∃ (kq : Nat) (x50_15 : Bool), v50 = .bool x50_15 ∧ Aside0 (laws_FnExactSeenGone.j0 kq l0 a1 a2 t105 t111 x50_15 = some r) ∧ Aside0 (kq ≤ k) ∧ Aside0 (Kd.R (Kd.int .i64) 2 wc w.heap.size (fun k_ => some k_ ≠ ((.slice Ao23 t111.length co23) : Value).ownBlock) (.slice Ao24 t105.length co24) t105) ∧ Aside0 (Kd.R (Kd.int .i64) 2 wc w.heap.size (fun k_ => some k_ ≠ ((.slice Ao24 t105.length co24) : Value).ownBlock) (.slice Ao23 t111.length co23) t111) ∧ Aside0 (Below w.heap.size w wc))
        case first =>
          have H := HC16.out
          clear HC16
          by_cases c29 : t119 < 0
          · rw [if_pos c29] at H
            have c29b0 : decide (t119 < 0) = true := decide_eq_true c29
            clear c29
            (first | rw [c29b0] | (simp only [i64_w, i32_w]; rw [c29b0]) | skip)
            have H' := Aside0.mk H
            clear H
            go_wp2
            go_meet
            case rel => exact ⟨_, (true), (by first | rfl | (simp; done) | (simp [*]; done)), H', ⟨by first | omega | exact Nat.le_refl _⟩, ⟨by (with_reducible repeat (first | apply Kd.R_alloc | apply Kd.R_drewN | apply Kd.R_drew)); exact HO107.out⟩, ⟨by (with_reducible repeat (first | apply Kd.R_alloc | apply Kd.R_drewN | apply Kd.R_drew)); exact HO113.out⟩, ⟨by repeat (first | (with_reducible first | exact HB.out | apply below_alloc | apply pw_below_drewN | apply below_drew1) | exact HB.out)⟩⟩
          · rw [if_neg c29] at H
            have c29b0 : decide (t119 < 0) = false := decide_eq_false c29
            clear c29
            (first | rw [c29b0] | (simp only [i64_w, i32_w]; rw [c29b0]) | skip)
            replace H := Option.bind_eq_some_iff.mp H
            obtain ⟨t121, A300, H⟩ := H
            replace H : (laws_FnExactSeenGone.j0 k l0 a1 a2 t105 t111 (!t121)) = some r := H
            have A30 := Aside0.mk A300
            clear A300
            have H' := Aside0.mk H
            clear H
            go_wp2_with (first | (go_at_call 29; (with_reducible refine (laws_eqInt64S.calls k _ _ t111 _ _ t105 t121 _ ?side1 ?side2 ?side3 ?side4 A30.out).mono ?_); (case side1 => repeat (first | exact (Kd.R_reads' HO113.out).2.2 | (with_reducible refine Kd.C_alloc ?_ _) | (with_reducible refine Kd.C_drewN ?_ _) | (with_reducible refine Kd.C_drew ?_))); (case side2 => exact (Kd.R_reads' HO113.out).2.1); (case side3 => repeat (first | exact (Kd.R_reads' HO107.out).2.2 | (with_reducible refine Kd.C_alloc ?_ _) | (with_reducible refine Kd.C_drewN ?_ _) | (with_reducible refine Kd.C_drew ?_))); (case side4 => exact (Kd.R_reads' HO107.out).2.1); rintro e w' ⟨rfl, ⟨nd, rfl⟩⟩))
            go_meet
            case rel => exact ⟨_, (!t121), (by first | rfl | (simp; done) | (simp [*]; done)), H', ⟨by first | omega | exact Nat.le_refl _⟩, ⟨by (with_reducible repeat (first | apply Kd.R_alloc | apply Kd.R_drewN | apply Kd.R_drew)); exact HO107.out⟩, ⟨by (with_reducible repeat (first | apply Kd.R_alloc | apply Kd.R_drewN | apply Kd.R_drew)); exact HO113.out⟩, ⟨by repeat (first | (with_reducible first | exact HB.out | apply below_alloc | apply pw_below_drewN | apply below_drew1) | exact HB.out)⟩⟩
        case rest =>
          clear HC16
          try clear c1
          try clear c2
          try clear p2
          try clear c3
          try clear c5
          try clear c5b0
          try clear c11
          try clear c12
          try clear c14
          try clear c15
          try clear c17
          try clear c20
          try clear c29
          try clear c29b0
          try clear c30
          obtain ⟨kq, x50_15, rfl, HA, HJ15, HO_8, HO_10, HB⟩ := hcut
          cases kq with
          | zero => exact absurd HA.out (by simp [laws_FnExactSeenGone.j0])
          | succ kj15 =>
            have H := HA.out
            clear HA
            simp only [laws_FnExactSeenGone.j0] at H
            by_cases c31 : x50_15 = true
            · subst c31
              have H1 : (some false) = some r := by rw [if_pos rfl] at H; exact H
              clear H
              have H := H1
              clear H1
              obtain rfl := Option.some.inj H
              exact absurd ht (by decide)
            · replace c31 := Bool.eq_false_iff.mpr c31
              subst c31
              have H1 : ((laws_markInt64S.f kj15 t111 1).bind fun bt122 => ((laws_heldInt64S.f kj15 bt122.2 1).bind fun t124 => (if t124 < 0 then (some false) else (if t124 = bt122.1 then ((laws_toRecS.f kj15 l0).bind fun t125 => ((impl_SeenGone.f t125 a1 a2).bind fun t128 => ((laws_eqInt64S.f kj15 t128 t105).bind fun t131 => (if t131 = true then ((laws_heldInt64S.f kj15 bt122.2 1).bind fun t132 => (if t132 < 0 then (some false) else (if t132 = bt122.1 then (some true) else (some false)))) else (some false))))) else (some false))))) = some r := by rw [if_neg (show ¬ (false = true) by decide)] at H; exact H
              clear H
              have H := H1
              clear H1
              replace H := Option.bind_eq_some_iff.mp H
              obtain ⟨⟨t122, t123⟩, A320, H⟩ := H
              replace H : ((laws_heldInt64S.f kj15 t123 1).bind fun t124 => (if t124 < 0 then (some false) else (if t124 = t122 then ((laws_toRecS.f kj15 l0).bind fun t125 => ((impl_SeenGone.f t125 a1 a2).bind fun t128 => ((laws_eqInt64S.f kj15 t128 t105).bind fun t131 => (if t131 = true then ((laws_heldInt64S.f kj15 t123 1).bind fun t132 => (if t132 < 0 then (some false) else (if t132 = t122 then (some true) else (some false)))) else (some false))))) else (some false)))) = some r := H
              have A32 := Aside0.mk A320
              clear A320
              replace H := Option.bind_eq_some_iff.mp H
              obtain ⟨t124, A330, H⟩ := H
              replace H : (if t124 < 0 then (some false) else (if t124 = t122 then ((laws_toRecS.f kj15 l0).bind fun t125 => ((impl_SeenGone.f t125 a1 a2).bind fun t128 => ((laws_eqInt64S.f kj15 t128 t105).bind fun t131 => (if t131 = true then ((laws_heldInt64S.f kj15 t123 1).bind fun t132 => (if t132 < 0 then (some false) else (if t132 = t122 then (some true) else (some false)))) else (some false))))) else (some false))) = some r := H
              have A33 := Aside0.mk A330
              clear A330
              by_cases c34 : t124 < 0
              · rw [if_pos c34] at H
                have c34b0 : decide (t124 < 0) = true := decide_eq_true c34
                clear c34
                obtain rfl := Option.some.inj H
                exact absurd ht (by decide)
              · rw [if_neg c34] at H
                have c34b0 : decide (t124 < 0) = false := decide_eq_false c34
                clear c34
                by_cases c35 : t124 = t122
                · rw [if_pos c35] at H
                  have c35b0 : (t124 == t122) = true := beq_iff_eq.mpr c35
                  have c35b1 : (t124 != t122) = false := bne_eq_false_iff_eq.mpr c35
                  clear c35
                  replace H := Option.bind_eq_some_iff.mp H
                  obtain ⟨t125, A360, H⟩ := H
                  replace H : ((impl_SeenGone.f t125 a1 a2).bind fun t128 => ((laws_eqInt64S.f kj15 t128 t105).bind fun t131 => (if t131 = true then ((laws_heldInt64S.f kj15 t123 1).bind fun t132 => (if t132 < 0 then (some false) else (if t132 = t122 then (some true) else (some false)))) else (some false)))) = some r := H
                  have A36 := Aside0.mk A360
                  clear A360
                  replace H := Option.bind_eq_some_iff.mp H
                  obtain ⟨t128, A370, H⟩ := H
                  replace H : ((laws_eqInt64S.f kj15 t128 t105).bind fun t131 => (if t131 = true then ((laws_heldInt64S.f kj15 t123 1).bind fun t132 => (if t132 < 0 then (some false) else (if t132 = t122 then (some true) else (some false)))) else (some false))) = some r := H
                  have A37 := Aside0.mk A370
                  clear A370
                  replace H := Option.bind_eq_some_iff.mp H
                  obtain ⟨t131, A380, H⟩ := H
                  replace H : (if t131 = true then ((laws_heldInt64S.f kj15 t123 1).bind fun t132 => (if t132 < 0 then (some false) else (if t132 = t122 then (some true) else (some false)))) else (some false)) = some r := H
                  have A38 := Aside0.mk A380
                  clear A380
                  by_cases c39 : t131 = true
                  · subst c39
                    have H1 : ((laws_heldInt64S.f kj15 t123 1).bind fun t132 => (if t132 < 0 then (some false) else (if t132 = t122 then (some true) else (some false)))) = some r := by rw [if_pos rfl] at H; exact H
                    clear H
                    have H := H1
                    clear H1
                    replace H := Option.bind_eq_some_iff.mp H
                    obtain ⟨t132, A400, H⟩ := H
                    replace H : (if t132 < 0 then (some false) else (if t132 = t122 then (some true) else (some false))) = some r := H
                    have A40 := Aside0.mk A400
                    clear A400
                    by_cases c41 : t132 < 0
                    · rw [if_pos c41] at H
                      have c41b0 : decide (t132 < 0) = true := decide_eq_true c41
                      clear c41
                      obtain rfl := Option.some.inj H
                      exact absurd ht (by decide)
                    · rw [if_neg c41] at H
                      have c41b0 : decide (t132 < 0) = false := decide_eq_false c41
                      clear c41
                      by_cases c42 : t132 = t122
                      · rw [if_pos c42] at H
                        have c42b0 : (t132 == t122) = true := beq_iff_eq.mpr c42
                        have c42b1 : (t132 != t122) = false := bne_eq_false_iff_eq.mpr c42
                        clear c42
                        clear ht
                        obtain rfl := Option.some.inj H
                        go_wp2_with (first | ((with_reducible refine gate_callee (f := 31) rfl ?_); refine goesL_ (some 53) rfl rfl Try.func31 (by kernel_rfl) rfl #[.slice Ao23 t111.length co23, .int .i64 1] rfl (by (try simp only [List.map_toArray, List.map_cons, List.map_nil]); first | done | rfl | (simp only [List.length_drop, List.length_take]; rfl)) ?_; (with_reducible refine (laws_markInt64S.calls kj15 (fun k_ => some k_ = (.slice Ao23 t111.length co23 : Value).ownBlock) (.slice Ao23 t111.length co23) t111 1 t122 t123 w _ ?side1 ?side2 A32.out).mono ?_); (case side1 => repeat (first | (with_reducible first | exact HB.out | apply below_alloc | apply pw_below_drewN | apply below_drew1) | exact HB.out)); (case side2 => exact Kd.R_tight rfl HO_10.out); rintro e w43 ⟨rfl, hy0, hb, hkp⟩; refine ⟨_, rfl, ?_⟩; have n0_ := Aside0.mk (Kd.R_mono (ok' := fun k_ => some k_ ≠ (.slice Ao23 t111.length co23 : Value).ownBlock) (Kd.R_keptB (HO_8.out) hkp (fun k_ hk_ hs_ => (hk_) hs_)) (fun k_ hk_ => hk_.1)); have n1_ := Aside0.mk (Kd.R_reok rfl hy0 (fun k_ e_ => HO_10.out.1 k_ e_)); have n2_ := Aside0.mk (hb); clear HO_8; clear HO_10; clear HB; have HO_8 := n0_; have HO_10 := n1_; have HB := n2_; clear n0_ n1_ n2_; (try clear hb); (try clear hkp); (try clear hy0)) | ((with_reducible refine gate_callee (f := 32) rfl ?_); refine goesL_ (some 56) rfl rfl Try.func32 (by kernel_rfl) rfl #[.slice Ao23 t123.length co23, .int .i64 1] rfl (by (try simp only [List.map_toArray, List.map_cons, List.map_nil]); first | done | (rw [show t123.length = t111.length from (Kd.R_reads' HO_10.out).1.symm] <;> rfl) | rfl | (simp only [List.length_drop, List.length_take]; rfl)) ?_; (with_reducible refine (laws_heldInt64S.calls kj15 _ _ t123 1 t124 _ ?side1 ?side2 A33.out).mono ?_); (case side1 => repeat (first | exact (Kd.R_reads' HO_10.out).2.2 | (with_reducible refine Kd.C_alloc ?_ _) | (with_reducible refine Kd.C_drewN ?_ _) | (with_reducible refine Kd.C_drew ?_))); (case side2 => rw [show t123.length = t111.length from (Kd.R_reads' HO_10.out).1.symm]; exact (Kd.R_reads' HO_10.out).2.1); rintro e w' ⟨rfl, ⟨nd, rfl⟩⟩; refine ⟨_, rfl, ?_⟩) | ((with_reducible refine gate_callee (f := 17) rfl ?_); refine goesL_ (some 63) rfl rfl Try.func17 (by kernel_rfl) rfl #[.slice A0 l0.length c0] rfl (by (try simp only [List.map_toArray, List.map_cons, List.map_nil]); first | done | rfl | (simp only [List.length_drop, List.length_take]; rfl)) ?_; (with_reducible refine (laws_toRecS.calls kj15 _ _ l0 t125 _ ?side1 ?side2 A36.out).mono ?_); (case side1 => repeat (first | exact (Kd.C_below HR0.out (by repeat (first | (with_reducible first | exact HB.out | apply below_alloc | apply pw_below_drewN | apply below_drew1) | exact HB.out))) | (with_reducible refine Kd.C_alloc ?_ _) | (with_reducible refine Kd.C_drewN ?_ _) | (with_reducible refine Kd.C_drew ?_))); (case side2 => exact HC0.out); rintro e w44 ⟨v126, rfl, ho0, hb⟩; refine ⟨_, rfl, ?_⟩; have n0_ := Aside0.mk (Kd.R_below (by (with_reducible repeat (first | apply Kd.R_alloc | apply Kd.R_drewN | apply Kd.R_drew)); exact HO_8.out) hb); have n1_ := Aside0.mk (Kd.R_below (by (with_reducible repeat (first | apply Kd.R_alloc | apply Kd.R_drewN | apply Kd.R_drew)); exact HO_10.out) hb); have n2_ := Aside0.mk (Kd.R_lower ho0 (below_size (by repeat (first | (with_reducible first | exact HB.out | apply below_alloc | apply pw_below_drewN | apply below_drew1) | exact HB.out)))); have n3_ := Aside0.mk (below_step (by repeat (first | (with_reducible first | exact HB.out | apply below_alloc | apply pw_below_drewN | apply below_drew1) | exact HB.out)) hb); clear HO_8; clear HO_10; clear HB; have HO_8 := n0_; have HO_10 := n1_; have HO127 := n2_; have HB := n3_; clear n0_ n1_ n2_ n3_; (try clear hb); (try clear hb2); (try clear hk); (try clear hi); (try clear ho0); obtain ⟨Ao45, co45, eo45⟩ := Kd.R_slice HO127.out; subst eo45) | ((with_reducible refine gate_callee (f := 54) rfl ?_); refine goesL_ (some 66) rfl rfl Try.func54 (by kernel_rfl) rfl #[.slice Ao45 t125.length co45, .int .i64 a1, .int .i64 a2] rfl (by (try simp only [List.map_toArray, List.map_cons, List.map_nil]); first | done | rfl | (simp only [List.length_drop, List.length_take]; rfl)) ?_; (with_reducible refine (impl_SeenGone.calls _ _ t125 a1 a2 t128 _ ?side1 ?side2 A37.out).mono ?_); (case side1 => repeat (first | exact (Kd.R_reads' HO127.out).2.2 | (with_reducible refine Kd.C_alloc ?_ _) | (with_reducible refine Kd.C_drewN ?_ _) | (with_reducible refine Kd.C_drew ?_))); (case side2 => exact (Kd.R_reads' HO127.out).2.1); rintro e w46 ⟨v129, rfl, ho0, hb⟩; refine ⟨_, rfl, ?_⟩; have n0_ := Aside0.mk (Kd.R_elder' (by (with_reducible repeat (first | apply Kd.R_alloc | apply Kd.R_drewN | apply Kd.R_drew)); exact HO_8.out) (Kd.R_base ho0) hb); have n1_ := Aside0.mk (Kd.R_elder' (by (with_reducible repeat (first | apply Kd.R_alloc | apply Kd.R_drewN | apply Kd.R_drew)); exact HO_10.out) (Kd.R_base ho0) hb); have n2_ := Aside0.mk (Kd.R_below (by (with_reducible repeat (first | apply Kd.R_alloc | apply Kd.R_drewN | apply Kd.R_drew)); exact HO127.out) hb); have n3_ := Aside0.mk (Kd.R_lower (Kd.R_new' (Kd.R_new' ho0 (Kd.R_lt (by (with_reducible repeat (first | apply Kd.R_alloc | apply Kd.R_drewN | apply Kd.R_drew)); exact HO_8.out))) (Kd.R_lt (by (with_reducible repeat (first | apply Kd.R_alloc | apply Kd.R_drewN | apply Kd.R_drew)); exact HO_10.out))) (below_size (by repeat (first | (with_reducible first | exact HB.out | apply below_alloc | apply pw_below_drewN | apply below_drew1) | exact HB.out)))); have n4_ := Aside0.mk (below_step (by repeat (first | (with_reducible first | exact HB.out | apply below_alloc | apply pw_below_drewN | apply below_drew1) | exact HB.out)) hb); clear HO_8; clear HO_10; clear HO127; clear HB; have HO_8 := n0_; have HO_10 := n1_; have HO127 := n2_; have HO130 := n3_; have HB := n4_; clear n0_ n1_ n2_ n3_ n4_; (try clear hb); (try clear hb2); (try clear hk); (try clear hi); (try clear ho0); obtain ⟨Ao47, co47, eo47⟩ := Kd.R_slice HO130.out; subst eo47) | ((with_reducible refine gate_callee (f := 29) rfl ?_); refine goesL_ (some 69) rfl rfl Try.func29 (by kernel_rfl) rfl #[.slice Ao47 t128.length co47, .slice Ao24 t105.length co24] rfl (by (try simp only [List.map_toArray, List.map_cons, List.map_nil]); first | done | rfl | (simp only [List.length_drop, List.length_take]; rfl)) ?_; (with_reducible refine (laws_eqInt64S.calls kj15 _ _ t128 _ _ t105 true _ ?side1 ?side2 ?side3 ?side4 A38.out).mono ?_); (case side1 => repeat (first | exact (Kd.R_reads' HO130.out).2.2 | (with_reducible refine Kd.C_alloc ?_ _) | (with_reducible refine Kd.C_drewN ?_ _) | (with_reducible refine Kd.C_drew ?_))); (case side2 => exact (Kd.R_reads' HO130.out).2.1); (case side3 => repeat (first | exact (Kd.R_reads' HO_8.out).2.2 | (with_reducible refine Kd.C_alloc ?_ _) | (with_reducible refine Kd.C_drewN ?_ _) | (with_reducible refine Kd.C_drew ?_))); (case side4 => exact (Kd.R_reads' HO_8.out).2.1); rintro e w' ⟨rfl, ⟨nd, rfl⟩⟩; refine ⟨_, rfl, ?_⟩) | ((with_reducible refine gate_callee (f := 32) rfl ?_); refine goesL_ (some 73) rfl rfl Try.func32 (by kernel_rfl) rfl #[.slice Ao23 t123.length co23, .int .i64 1] rfl (by (try simp only [List.map_toArray, List.map_cons, List.map_nil]); first | done | (rw [show t123.length = t111.length from (Kd.R_reads' HO_10.out).1.symm] <;> rfl) | rfl | (simp only [List.length_drop, List.length_take]; rfl)) ?_; (with_reducible refine (laws_heldInt64S.calls kj15 _ _ t123 1 t132 _ ?side1 ?side2 A40.out).mono ?_); (case side1 => repeat (first | exact (Kd.R_reads' HO_10.out).2.2 | (with_reducible refine Kd.C_alloc ?_ _) | (with_reducible refine Kd.C_drewN ?_ _) | (with_reducible refine Kd.C_drew ?_))); (case side2 => rw [show t123.length = t111.length from (Kd.R_reads' HO_10.out).1.symm]; exact (Kd.R_reads' HO_10.out).2.1); rintro e w' ⟨rfl, ⟨nd, rfl⟩⟩; refine ⟨_, rfl, ?_⟩))
                        go_ret
                        exact ⟨by first | rfl | (simp [errW_none, errW_some] <;> rfl) | (simp [*, errW_none, errW_some] <;> rfl), by repeat (first | (with_reducible first | exact HB.out | apply below_alloc | apply pw_below_drewN | apply below_drew1) | exact HB.out)⟩
                      · rw [if_neg c42] at H
                        have c42b0 : (t132 == t122) = false := beq_eq_false_iff_ne.mpr c42
                        have c42b1 : (t132 != t122) = true := bne_iff_ne.mpr c42
                        obtain rfl := Option.some.inj H
                        exact absurd ht (by decide)
                  · replace c39 := Bool.eq_false_iff.mpr c39
                    subst c39
                    have H1 : (some false) = some r := by rw [if_neg (show ¬ (false = true) by decide)] at H; exact H
                    clear H
                    have H := H1
                    clear H1
                    obtain rfl := Option.some.inj H
                    exact absurd ht (by decide)
                · rw [if_neg c35] at H
                  have c35b0 : (t124 == t122) = false := beq_eq_false_iff_ne.mpr c35
                  have c35b1 : (t124 != t122) = true := bne_iff_ne.mpr c35
                  obtain rfl := Option.some.inj H
                  exact absurd ht (by decide)
      · replace c14 := Bool.eq_false_iff.mpr c14
        subst c14
        have H1 : (some false) = some r := by rw [if_neg (show ¬ (false = true) by decide)] at H; exact H
        clear H
        have H := H1
        clear H1
        obtain rfl := Option.some.inj H
        exact absurd ht (by decide)
    · replace c11 := Bool.eq_false_iff.mpr c11
      subst c11
      have H1 : (some false) = some r := by rw [if_neg (show ¬ (false = true) by decide)] at H; exact H
      clear H
      have H := H1
      clear H1
      obtain rfl := Option.some.inj H
      exact absurd ht (by decide)

end Go.Proofs.Ytgcgdjldhjajaaa.A
/- Loops over lists, in plain Lean: a copy into a new row, a comparison of a row with itself. Conditions: the rows are no longer than a number of the machine can tell. -/
namespace Go.Proofs.Ytgcgdjldhjajaaa.Lst
open Go.RowKit
set_option linter.unusedVariables false
set_option linter.unusedSimpArgs false

theorem w1 (i : Int) (h0 : 0 ≤ i) (h : i < 4611686018427387904) : wrap64 (i + 1) = i + 1 := by unfold wrap64; omega
theorem w1n (i n : Nat) (hi : i < n) (hn : n ≤ 4611686018427387904) : wrap64 ((i : Int) + 1) = ((i + 1 : Nat) : Int) := by unfold wrap64; omega
theorem wr (i : Int) (h0 : -9223372036854775808 ≤ i) (h : i < 9223372036854775808) : wrap64 i = i := by unfold wrap64; omega
theorem toNat_ofNat (i : Nat) : ((i : Int)).toNat = i := rfl

theorem set_take {β : Type} (l : List β) (i : Nat) (b : β) (h : i < l.length) : (l.set i b).take (i + 1) = l.take i ++ [b] := by
  apply List.ext_getElem?
  intro j
  simp only [List.getElem?_take, List.getElem?_append, List.getElem?_set, List.length_take]
  by_cases h1 : j < i
  · rw [if_pos (by omega), if_neg (by omega), if_pos (by omega), if_pos h1]
  · by_cases h2 : j = i
    · subst h2
      rw [if_pos (by omega), if_pos rfl, if_pos h, if_neg (by omega)]
      simp [Nat.min_eq_left (Nat.le_of_lt h)]
    · rw [if_neg (by omega), if_neg (by omega)]
      rw [List.getElem?_eq_none]
      simp; omega

/-- A copy, element by element, into a row that is there. -/
theorem copy_from {α β : Type} (g : Nat → List α → List β → Int → Option (List β)) (z : α) (h : α → β) (l : List α) (hl : l.length ≤ 4611686018427387904)
    (hstep : ∀ (k : Nat) (x : List β) (i : Nat), i < l.length → i < x.length → g (k + 1) l x (i : Int) = g k l (x.set i (h (l.getD i z))) (wrap64 ((i : Int) + 1)))
    (hend : ∀ (k : Nat) (x : List β), g (k + 1) l x (l.length : Int) = some x) :
    ∀ (d k i : Nat) (x : List β), d + i = l.length → x.length = l.length → x.take i = (l.take i).map h → d < k → g k l x (i : Int) = some (l.map h) := by
  intro d
  induction d with
  | zero =>
    intro k i x hd hx ht hk
    obtain ⟨k, rfl⟩ : ∃ m, k = m + 1 := ⟨k - 1, by omega⟩
    obtain rfl : i = l.length := by omega
    rw [hend]
    rw [List.take_of_length_le (by omega), List.take_of_length_le (Nat.le_refl _)] at ht
    rw [ht]
  | succ d ih =>
    intro k i x hd hx ht hk
    obtain ⟨k, rfl⟩ : ∃ m, k = m + 1 := ⟨k - 1, by omega⟩
    rw [hstep k x i (by omega) (by omega), w1n i l.length (by omega) hl]
    refine ih k (i + 1) _ (by omega) (by simpa using hx) ?_ (by omega)
    rw [set_take x i _ (by omega), ht, List.take_succ_eq_append_getElem (by omega), List.map_append, List.getD_eq_getElem?_getD, List.getElem?_eq_getElem (by omega)]
    simp

theorem copy_all {α β : Type} (g : Nat → List α → List β → Int → Option (List β)) (z : α) (zb : β) (h : α → β) (l : List α) (hl : l.length ≤ 4611686018427387904)
    (hstep : ∀ (k : Nat) (x : List β) (i : Nat), i < l.length → i < x.length → g (k + 1) l x (i : Int) = g k l (x.set i (h (l.getD i z))) (wrap64 ((i : Int) + 1)))
    (hend : ∀ (k : Nat) (x : List β), g (k + 1) l x (l.length : Int) = some x) (k : Nat) (hk : l.length < k) : g k l (List.replicate l.length zb) 0 = some (l.map h) :=
  copy_from g z h l hl hstep hend l.length k 0 _ rfl (by simp) (by simp) hk

/-- A walk along a row that never leaves before the end. -/
theorem along {ρ : Type} (g : Nat → Int → Option ρ) (n : Nat) (hn : n ≤ 4611686018427387904) (r : ρ)
    (hstep : ∀ (k i : Nat), i < n → g (k + 1) (i : Int) = g k (wrap64 ((i : Int) + 1))) (hend : ∀ k : Nat, g (k + 1) (n : Int) = some r) :
    ∀ (d k i : Nat), d + i = n → d < k → g k (i : Int) = some r := by
  intro d
  induction d with
  | zero =>
    intro k i hd hk
    obtain ⟨k, rfl⟩ : ∃ m, k = m + 1 := ⟨k - 1, by omega⟩
    obtain rfl : i = n := by omega
    exact hend k
  | succ d ih =>
    intro k i hd hk
    obtain ⟨k, rfl⟩ : ∃ m, k = m + 1 := ⟨k - 1, by omega⟩
    rw [hstep k i (by omega), w1n i n (by omega) hn]
    exact ih k (i + 1) (by omega) (by omega)

theorem along_all {ρ : Type} (g : Nat → Int → Option ρ) (n : Nat) (hn : n ≤ 4611686018427387904) (r : ρ)
    (hstep : ∀ (k i : Nat), i < n → g (k + 1) (i : Int) = g k (wrap64 ((i : Int) + 1))) (hend : ∀ k : Nat, g (k + 1) (n : Int) = some r) (k : Nat) (hk : n < k) : g k 0 = some r :=
  along g n hn r hstep hend n k 0 (by omega) hk

/-- Element by element, each set to something of its number and of what it was. -/
theorem setting {β : Type} (g : Nat → List β → Int → Int → Option (Int × List β)) (z : β) (F : Int → β → β) (c : Int) (n : Nat) (hn : n ≤ 4611686018427387904)
    (hstep : ∀ (k : Nat) (x : List β) (m : Int) (i : Nat), x.length = n → i < n → 0 ≤ m → m ≤ 1000000000000 → g (k + 1) x m (i : Int) = g k (x.set i (F m (x.getD i z))) (m + c) (wrap64 ((i : Int) + 1)))
    (hend : ∀ (k : Nat) (x : List β) (m : Int), x.length = n → g (k + 1) x m (n : Int) = some (m, x)) (hc : 0 ≤ c) :
    ∀ (d k i : Nat) (x : List β) (m : Int), d + i = n → x.length = n → d < k → 0 ≤ m → m + c * d ≤ 1000000000000 →
      ∃ y, g k x m (i : Int) = some (m + c * d, y) ∧ y.length = n ∧ (∀ j, j < i → y.getD j z = x.getD j z) ∧ ∀ j, i ≤ j → j < n → y.getD j z = F (m + c * (j - i : Nat)) (x.getD j z) := by
  intro d
  induction d with
  | zero =>
    intro k i x m hd hx hk h0 h1
    obtain ⟨k, rfl⟩ : ∃ q, k = q + 1 := ⟨k - 1, by omega⟩
    obtain rfl : i = n := by omega
    exact ⟨x, by rw [hend k x m hx]; simp, hx, fun j _ => rfl, fun j h2 h3 => by omega⟩
  | succ d ih =>
    intro k i x m hd hx hk h0 h1
    obtain ⟨k, rfl⟩ : ∃ q, k = q + 1 := ⟨k - 1, by omega⟩
    have hcd : 0 ≤ c * (d : Int) := Int.mul_nonneg hc (by omega)
    have e1 : c * ((d + 1 : Nat) : Int) = c * (d : Int) + c := by rw [show ((d + 1 : Nat) : Int) = (d : Int) + 1 from rfl, Int.mul_add, Int.mul_one]
    rw [e1] at h1
    rw [hstep k x m i hx (by omega) h0 (by omega), w1n i n (by omega) hn]
    obtain ⟨y, h2, h3, h4, h5⟩ := ih k (i + 1) (x.set i (F m (x.getD i z))) (m + c) (by omega) (by simpa using hx) (by omega) (by omega) (by omega)
    refine ⟨y, by rw [h2, e1]; congr 2; omega, h3, fun j hj => ?_, fun j hj hjn => ?_⟩
    · rw [h4 j (by omega)]
      simp only [List.getD_eq_getElem?_getD, List.getElem?_set]
      rw [if_neg (by omega)]
    · by_cases e : j = i
      · subst e
        rw [h4 j (by omega)]
        simp only [List.getD_eq_getElem?_getD, List.getElem?_set]
        rw [if_pos trivial, if_pos (by omega)]
        simp
      · rw [h5 j (by omega) hjn]
        have e2 : m + c + c * ((j - (i + 1) : Nat) : Int) = m + c * ((j - i : Nat) : Int) := by
          have : ((j - i : Nat) : Int) = ((j - (i + 1) : Nat) : Int) + 1 := by omega
          rw [this, Int.mul_add, Int.mul_one]
          omega
        rw [e2]
        congr 1
        simp only [List.getD_eq_getElem?_getD, List.getElem?_set]
        rw [if_neg (by omega)]
/-- A walk that counts up as it goes. -/
theorem holding {ρ : Type} (g : Nat → Int → Int → Option ρ) (n : Nat) (hn : n ≤ 4611686018427387904) (m c : Int) (r : ρ)
    (hstep : ∀ (k i : Nat), i < n → g (k + 1) (m + c * i) (i : Int) = g k (m + c * ((i + 1 : Nat) : Int)) (wrap64 ((i : Int) + 1))) (hend : ∀ k : Nat, g (k + 1) (m + c * n) (n : Int) = some r) :
    ∀ (d k i : Nat), d + i = n → d < k → g k (m + c * i) (i : Int) = some r := by
  intro d
  induction d with
  | zero =>
    intro k i hd hk
    obtain ⟨k, rfl⟩ : ∃ q, k = q + 1 := ⟨k - 1, by omega⟩
    obtain rfl : i = n := by omega
    exact hend k
  | succ d ih =>
    intro k i hd hk
    obtain ⟨k, rfl⟩ : ∃ q, k = q + 1 := ⟨k - 1, by omega⟩
    rw [hstep k i (by omega), w1n i n (by omega) hn]
    exact ih k (i + 1) (by omega) (by omega)

theorem map_id_of {α : Type} (l : List α) (f : α → α) (h : ∀ x, f x = x) : l.map f = l := by
  induction l with
  | nil => rfl
  | cons a l ih => rw [List.map_cons, h, ih]
end Go.Proofs.Ytgcgdjldhjajaaa.Lst
/- The plain statement that is left of the law FnExactSeenGone, over numbers and lists. -/
namespace Go.Proofs.Ytgcgdjldhjajaaa.A
open Go.RowKit Go.Proofs.YtgcgdjldhjajaaaW.PrintWords Go.Proofs.YtgcgdjldhjajaaaW.PrintLast
def Pure_FnExactSeenGone : Prop := ∀ (l0 : List (S80)) (a1 : Int) (a2 : Int), (l0.length ≤ maxLen ∧ ∀ q1 ∈ l0, ((Lit.int .i64 q1.f0).wf = true ∧ ((Lit.int .i64 q1.f1).wf = true ∧ ((Lit.int .i64 q1.f2).wf = true ∧ ((Lit.int .i64 q1.f3).wf = true ∧ ((Lit.int .i64 q1.f4).wf = true ∧ (Lit.int .i64 q1.f5).wf = true)))))) → (Lit.int .i64 a1).wf = true → (Lit.int .i64 a2).wf = true → ∃ k, laws_FnExactSeenGone.f k l0 a1 a2 = some true
end Go.Proofs.Ytgcgdjldhjajaaa.A
/- What is right of records, as the reference tells it and as the program does. -/
namespace Go.Proofs.Ytgcgdjldhjajaaa.A
open Go.RowKit Go.Proofs.Ytgcgdjldhjajaaa Go.Proofs.YtgcgdjldhjajaaaW.PrintWords Go.Proofs.YtgcgdjldhjajaaaW.PrintLast Go.Proofs.YtgcgdjldhjajaaaW.PrintMore
set_option linter.unusedVariables false
set_option linter.unusedSimpArgs false
theorem s_is (n lo hi : Int) : spec_l02Is.f n lo hi = some (decide (lo ≤ n ∧ n ≤ hi)) := by
  unfold spec_l02Is.f; by_cases h : n ≥ lo
  · rw [if_pos h]; congr 1; simp; omega
  · rw [if_neg h]; congr 1; simp; omega
theorem s_time (n : Int) : spec_l03Time.f n = some (timeB n) := by
  unfold spec_l03Time.f; rw [s_is]; rfl
theorem s_node (n : Int) : spec_l04Node.f n = some (nodeB n) := by
  unfold spec_l04Node.f; rw [s_is]; rfl
theorem s_recRight (a b c d e f : Int) : spec_RecRight.f a b c d e f = some (recB a b c d e f) := by
  unfold spec_RecRight.f recB
  simp only [s_node, s_time, s_is, Option.bind_some]
  cases timeB a
  · rfl
  cases nodeB b
  · rfl
  simp only [if_true, Bool.true_and]
  by_cases h1 : c = 1
  · rw [if_pos h1, if_pos h1]
    cases timeB d <;> by_cases h2 : e = 0 <;> simp [h2]
  rw [if_neg h1, if_neg h1]
  by_cases h2 : c = 2
  · rw [if_pos h2, if_pos h2]
    by_cases h3 : d = 0 <;> by_cases h4 : e = 0 <;> simp [h3, h4]
  rw [if_neg h2, if_neg h2]
  by_cases h3 : c = 3
  · rw [if_pos h3, if_pos h3]
    cases timeB d <;> cases nodeB e <;> simp
  rw [if_neg h3, if_neg h3]
  by_cases h4 : c = 4
  · rw [if_pos h4, if_pos h4]
    cases timeB d <;> cases nodeB e <;> simp
  rw [if_neg h4, if_neg h4]
  by_cases h5 : c = 5
  · rw [if_pos h5, if_pos h5]
    unfold factB
    cases nodeB d <;> cases timeB e <;> simp
  rw [if_neg h5, if_neg h5]
  by_cases h6 : c = 6
  · rw [if_pos h6, if_pos h6]
    cases nodeB d <;> by_cases h7 : e = 0 <;> simp [h7]
  rw [if_neg h6, if_neg h6]
/-- Records that are right, and not too many. -/
def okRecs (l : List S78) : Bool := decide (l.length ≤ 400) && l.all recOk
theorem i_recs (l : List S78) : impl_areRecs.f l = some (okRecs l) := rfl
theorem s_recs (l : List S78) (k : Nat) (hk : l.length < k) : spec_l12Recs.f k l = some (okRecs l) := by
  unfold spec_l12Recs.f okRecs
  by_cases h : l.length ≤ 400
  · rw [if_neg (by omega)]
    have key : ∀ (d k i : Nat), d + i = l.length → d < k → spec_l12Recs.l0 k l (i : Int) = some ((l.drop i).all recOk) := by
      intro d
      induction d with
      | zero =>
        intro k i hd hk
        obtain ⟨k, rfl⟩ : ∃ m, k = m + 1 := ⟨k - 1, by omega⟩
        simp only [spec_l12Recs.l0]
        rw [if_neg (by omega), List.drop_of_length_le (by omega)]
        rfl
      | succ d ih =>
        intro k i hd hk
        obtain ⟨k, rfl⟩ : ∃ m, k = m + 1 := ⟨k - 1, by omega⟩
        have hi : i < l.length := by omega
        simp only [spec_l12Recs.l0]
        rw [if_pos (by omega), if_pos (by omega), rd_nat_Rec l i hi, s_recRight]
        simp only [Option.bind_some]
        rw [List.drop_eq_getElem_cons hi, List.all_cons]
        show (if recOk l[i] = true then _ else _) = _
        cases hq : recOk l[i]
        · rfl
        · rw [if_pos rfl, Lst.w1n i l.length hi (by omega), ih k (i + 1) (by omega) (by omega)]
          rfl
    have := key l.length k 0 (by omega) hk
    rw [show ((0 : Nat) : Int) = 0 from rfl] at this
    rw [this]
    simp [h]
  · rw [if_pos (by omega)]
    simp [h]
end Go.Proofs.Ytgcgdjldhjajaaa.A
/- Copies of records, their comparison and their size. -/
namespace Go.Proofs.Ytgcgdjldhjajaaa.A
open Go.RowKit Go.Proofs.Ytgcgdjldhjajaaa Go.Proofs.YtgcgdjldhjajaaaW.PrintWords Go.Proofs.YtgcgdjldhjajaaaW.PrintLast Go.Proofs.YtgcgdjldhjajaaaW.PrintMore
set_option linter.unusedVariables false
set_option linter.unusedSimpArgs false
def cvR (x : S80) : S78 := ⟨x.f0, x.f1, x.f2, x.f3, x.f4, x.f5⟩
theorem toR (l : List S80) (hl : l.length ≤ 1048576) (k : Nat) (hk : l.length < k) : laws_toRecS.f k l = some (l.map cvR) := by
  unfold laws_toRecS.f
  rw [if_pos (by omega), if_pos (by omega)]
  refine Lst.copy_all laws_toRecS.l0 z80 z78 cvR l (by omega) ?_ ?_ k hk
  · intro k x i h1 h2
    simp only [laws_toRecS.l0]
    rw [if_pos (by omega), if_pos (by omega)]
    simp only [laws_toRec.f, Option.bind_some]
    rw [if_pos (by omega)]
    rfl
  · intro k x
    simp only [laws_toRecS.l0]
    rw [if_neg (by omega)]
theorem eqR (l : List S78) (hl : l.length ≤ 1048576) (k : Nat) (hk : l.length < k) : laws_eqRecS.f k l l = some true := by
  unfold laws_eqRecS.f
  rw [if_pos rfl]
  refine Lst.along_all (fun k i => laws_eqRecS.l0 k l l i) l.length (by omega) true ?_ ?_ k hk
  · intro k i h1
    simp only [laws_eqRecS.l0]
    rw [if_pos (by omega), if_pos (by omega), if_pos (by omega)]
    simp [laws_eqRec.f]
  · intro k
    simp only [laws_eqRecS.l0]
    rw [if_neg (by omega)]
theorem szR (l : List S80) (hl : l.length ≤ maxLen) : laws_szRecS.f l 1048576 = some (if l.length ≤ 1048576 then 1048576 - (l.length : Int) else -1) := by
  unfold laws_szRecS.f
  unfold maxLen at hl
  have e' : wrap64 (1048576 - (l.length : Int)) = 1048576 - (l.length : Int) := by unfold wrap64; omega
  rw [e']
  by_cases h : l.length ≤ 1048576
  · rw [if_neg (by omega), if_pos h]
  · rw [if_pos (by omega), if_neg h]
end Go.Proofs.Ytgcgdjldhjajaaa.A
/- What the law's marks come to. -/
namespace Go.Proofs.Ytgcgdjldhjajaaa.A
open Go.RowKit Go.Proofs.Ytgcgdjldhjajaaa Go.Proofs.YtgcgdjldhjajaaaW.PrintWords Go.Proofs.YtgcgdjldhjajaaaW.PrintLast Go.Proofs.YtgcgdjldhjajaaaW.PrintMore
set_option linter.unusedVariables false
set_option linter.unusedSimpArgs false
theorem eqI (l : List Int) (hl : l.length ≤ 1048576) (k : Nat) (hk : l.length < k) : laws_eqInt64S.f k l l = some true := by
  unfold laws_eqInt64S.f
  rw [if_pos rfl]
  refine Lst.along_all (fun k i => laws_eqInt64S.l0 k l l i) l.length (by omega) true ?_ ?_ k hk
  · intro k i h1
    simp only [laws_eqInt64S.l0]
    rw [if_pos (by omega), if_pos (by omega), if_pos (by omega), if_true]
  · intro k
    simp only [laws_eqInt64S.l0]
    rw [if_neg (by omega)]
theorem rd_getD (l : List Int) (i : Nat) : rd l (i : Int) = l.getD i 0 := rfl
/-- What is marked is held. -/
theorem markI (l : List Int) (hl : l.length ≤ 1048576) (k : Nat) (hk : l.length < k) : ∃ y : List Int, laws_markInt64S.f k l 1 = some (1 + (l.length : Int), y) ∧ ∀ k, l.length < k → laws_heldInt64S.f k y 1 = some (1 + (l.length : Int)) := by
  obtain ⟨y, h1, h2, _, h4⟩ := Lst.setting laws_markInt64S.l0 0 (fun m _ => m) 1 l.length (by omega) (by
      intro k x m i hx hi h0 h1
      simp only [laws_markInt64S.l0]
      rw [if_pos (by omega), if_pos (by omega), Lst.wr (m + 1) (by omega) (by omega)]
      rfl) (by
      intro k x m hx
      simp only [laws_markInt64S.l0]
      rw [if_neg (by omega)]) (by omega) l.length k 0 l 1 (by omega) rfl hk (by omega) (by omega)
  refine ⟨y, ?_, fun k hk => ?_⟩
  · unfold laws_markInt64S.f
    rw [show (0 : Int) = ((0 : Nat) : Int) from rfl, h1, Int.one_mul]
  · unfold laws_heldInt64S.f
    have := Lst.holding (fun k m i => laws_heldInt64S.l0 k y m i) l.length (by omega) 1 1 (1 + (l.length : Int)) (by
      intro k i hi
      simp only [laws_heldInt64S.l0]
      rw [if_pos (by omega), if_pos (by omega), rd_getD, h4 i (by omega) hi]
      simp only [Nat.sub_zero, if_true]
      rw [Lst.wr _ (by omega) (by omega)]
      congr 1) (by
      intro k
      simp only [laws_heldInt64S.l0]
      rw [if_neg (by omega), Int.one_mul]) l.length k 0 (by omega) hk
    simpa using this
theorem markR (l : List S78) (hl : l.length ≤ 1048576) (k : Nat) (hk : l.length < k) : ∃ y : List S78, laws_markRecS.f k l 1 = some (1 + 6 * (l.length : Int), y) := by
  obtain ⟨y, h1, _⟩ := Lst.setting laws_markRecS.l0 z78 (fun m _ => ⟨m, m + 1, m + 2, m + 3, m + 4, m + 5⟩) 6 l.length (by omega) (by
      intro k x m i hx hi h0 h1
      have w : ∀ j : Int, 0 ≤ j → j ≤ 10 → wrap64 (m + j + 1) = m + (j + 1) := fun j _ _ => by unfold wrap64; omega
      have w1 : wrap64 (m + 1) = m + 1 := by unfold wrap64; omega
      have w2 : wrap64 (m + 1 + 1) = m + 2 := by unfold wrap64; omega
      have w3 : wrap64 (m + 2 + 1) = m + 3 := by unfold wrap64; omega
      have w4 : wrap64 (m + 3 + 1) = m + 4 := by unfold wrap64; omega
      have w5 : wrap64 (m + 4 + 1) = m + 5 := by unfold wrap64; omega
      have w6 : wrap64 (m + 5 + 1) = m + 6 := by unfold wrap64; omega
      have g : ∀ (x : List S78) (v : S78), i < x.length → rd_T78 (x.set i v) (i : Int) = v := fun x v hx => by
        rw [rd_nat_Rec _ i (by simpa using hx)]
        simp
      simp only [laws_markRecS.l0]
      rw [if_pos (by omega), if_pos (by omega)]
      simp only [Option.bind_some, Int.toNat_natCast, w1, w2, w3, w4, w5, w6]
      rw [g x _ (by omega)]
      simp only [List.set_set]
      rw [g x _ (by omega)]
      simp only [List.set_set]
      rw [g x _ (by omega)]
      simp only [List.set_set]
      rw [g x _ (by omega)]
      simp only [List.set_set]
      try rw [g x _ (by omega)]
      try simp only [List.set_set]) (by
      intro k x m hx
      simp only [laws_markRecS.l0]
      rw [if_neg (by omega)]) (by omega) l.length k 0 l 1 (by omega) rfl hk (by omega) (by omega)
  exact ⟨y, by unfold laws_markRecS.f; rw [show (0 : Int) = ((0 : Nat) : Int) from rfl, h1]⟩
end Go.Proofs.Ytgcgdjldhjajaaa.A
/- Rising rows of nodes, as the reference puts them together. -/
namespace Go.Proofs.Ytgcgdjldhjajaaa.A
open Go.RowKit Go.Proofs.Ytgcgdjldhjajaaa Go.Proofs.YtgcgdjldhjajaaaW.PrintWords Go.Proofs.YtgcgdjldhjajaaaW.PrintLast Go.Proofs.YtgcgdjldhjajaaaW.PrintMore
set_option linter.unusedVariables false
set_option linter.unusedSimpArgs false
theorem has_loop (l : List Int) (n : Int) (hL : l.length ≤ 400) : ∀ (d k i : Nat), i + d = l.length → d < k → (∀ t (h : t < l.length), t < i → l[t] ≠ n) → spec_l02Has.l0 k l n (i : Int) = some (l.contains n) := by
  intro d
  induction d with
  | zero =>
    intro k i hi hk h
    obtain ⟨k, rfl⟩ : ∃ m, k = m + 1 := ⟨k - 1, by omega⟩
    simp only [spec_l02Has.l0]
    rw [if_neg (by omega)]
    have : l.contains n = false := by
      rw [Bool.eq_false_iff]
      intro hc
      rw [List.contains_iff_mem] at hc
      obtain ⟨t, ht, e⟩ := List.getElem_of_mem hc
      exact h t ht (by omega) e
    rw [this]
  | succ d ih =>
    intro k i hi hk h
    obtain ⟨k, rfl⟩ : ∃ m, k = m + 1 := ⟨k - 1, by omega⟩
    have hlt : i < l.length := by omega
    simp only [spec_l02Has.l0]
    rw [if_pos (by omega), if_pos (by omega), rd_nat l i hlt]
    by_cases e : l[i] = n
    · rw [if_pos e]
      have : l.contains n = true := by rw [List.contains_iff_mem, ← e]; exact List.getElem_mem hlt
      rw [this]
    · rw [if_neg e, Lst.w1n i l.length hlt (by omega)]
      refine ih k (i + 1) (by omega) (by omega) (fun t ht hti => ?_)
      by_cases e2 : t = i
      · subst e2; exact e
      · exact h t ht (by omega)
theorem s_has (l : List Int) (n : Int) (hL : l.length ≤ 400) (k : Nat) (hk : l.length < k) : spec_l02Has.f k l n = some (l.contains n) :=
  has_loop l n hL l.length k 0 (by omega) hk (fun t _ h => absurd h (Nat.not_lt_zero _))
theorem put_loop (l : List Int) (n : Int) (hL : l.length ≤ 400) (hr : Rising l) : ∀ (d k i : Nat), i + d = l.length → d < k → (∀ t (h : t < l.length), t < i → l[t] < n) → spec_l02Put.l0 k l n (i : Int) = some (putAt l (lowOf l n) n) := by
  intro d
  induction d with
  | zero =>
    intro k i hi hk h
    obtain ⟨k, rfl⟩ : ∃ m, k = m + 1 := ⟨k - 1, by omega⟩
    have e : lowOf l n = i := lowOf_eq l n i (by omega) h (fun t ht hle => by omega)
    simp only [spec_l02Put.l0]
    rw [if_neg (by omega)]
    simp only [Option.bind_some, Int.toNat_natCast, List.nil_append, List.length_nil]
    rw [if_pos (by omega), if_pos (by omega), if_pos (by rw [List.length_take]; omega), if_pos (by rw [List.length_take]; omega), if_pos (by simp only [List.length_append, List.length_take, List.length_drop, List.length_cons, List.length_nil]; omega), e]
    unfold putAt
    simp
  | succ d ih =>
    intro k i hi hk h
    obtain ⟨k, rfl⟩ : ∃ m, k = m + 1 := ⟨k - 1, by omega⟩
    have hlt : i < l.length := by omega
    simp only [spec_l02Put.l0]
    rw [if_pos (by omega), if_pos (by omega), rd_nat l i hlt]
    by_cases c : l[i] < n
    · rw [if_pos c, Lst.w1n i l.length hlt (by omega)]
      refine ih k (i + 1) (by omega) (by omega) (fun t ht hti => ?_)
      by_cases e2 : t = i
      · subst e2; exact c
      · exact h t ht (by omega)
    · rw [if_neg c]
      have e : lowOf l n = i := lowOf_eq l n i (by omega) h (fun t ht hle => by
        by_cases e2 : t = i
        · subst e2; omega
        · have := List.pairwise_iff_getElem.1 hr i t hlt ht (by omega)
          omega)
      simp only [Option.bind_some, Int.toNat_natCast, List.nil_append, List.length_nil]
      rw [if_pos (by omega), if_pos (by rw [List.length_take]; omega), if_pos (by rw [List.length_take]; omega), if_pos (by simp only [List.length_append, List.length_take, List.length_drop, List.length_cons, List.length_nil]; omega), e]
      unfold putAt
      simp
theorem s_put (l : List Int) (n : Int) (hL : l.length ≤ 400) (hr : Rising l) (k : Nat) (hk : l.length < k) : spec_l02Put.f k l n = some (setIns l n) := by
  unfold spec_l02Put.f setIns
  rw [s_has l n hL k hk]
  simp only [Option.bind_some, List.nil_append, List.length_nil]
  cases l.contains n
  · rw [if_neg (by simp), if_neg (by simp)]
    exact put_loop l n hL hr l.length k 0 (by omega) hk (fun t _ h => absurd h (Nat.not_lt_zero _))
  · rw [if_pos rfl, if_pos rfl, if_pos (by omega)]
theorem okRecs_400 (l : List S78) (h : okRecs l = true) : l.length ≤ 400 := by
  unfold okRecs at h
  rw [Bool.and_eq_true] at h
  exact of_decide_eq_true h.1
theorem nodesP_le (p : S78 → Bool) (l : List S78) (i : Nat) (hi : i ≤ l.length) : (nodesP p (l.take i)).length ≤ i := by
  have := (nodesP_good p (l.take i)).2
  rw [List.length_take] at this
  omega
theorem nodesP_whole (p : S78 → Bool) (l : List S78) (i : Nat) (hi : l.length ≤ i) : nodesP p (l.take i) = nodesP p l := by rw [List.take_of_length_le hi]
end Go.Proofs.Ytgcgdjldhjajaaa.A
/- SeenGone of the program and of the reference come to the same nodes. -/
namespace Go.Proofs.Ytgcgdjldhjajaaa.A
open Go.RowKit Go.Proofs.Ytgcgdjldhjajaaa Go.Proofs.YtgcgdjldhjajaaaW.PrintWords Go.Proofs.YtgcgdjldhjajaaaW.PrintLast Go.Proofs.YtgcgdjldhjajaaaW.PrintMore
set_option linter.unusedVariables false
set_option linter.unusedSimpArgs false
theorem seen_loop (l : List S78) (n i : Int) (hl : l.length ≤ 400) : ∀ (d k j : Nat), j + d = l.length → l.length + d + 2 < k → spec_SeenGone.l0 k l n i (nodesP (seenB n i) (l.take j)) (j : Int) = some (nodesP (seenB n i) l) := by
  intro d
  induction d with
  | zero =>
    intro k j hj hk
    obtain ⟨m, rfl⟩ : ∃ m, k = m + 1 := ⟨k - 1, by omega⟩
    simp only [spec_SeenGone.l0]
    rw [if_neg (by omega), nodesP_whole _ l j (by omega)]
  | succ d ih =>
    intro k j hj hk
    obtain ⟨m, rfl⟩ : ∃ m, k = m + 1 := ⟨k - 1, by omega⟩
    have hlt : j < l.length := by omega
    have hsn := nodesP_snoc (seenB n i) l j hlt
    simp only [spec_SeenGone.l0]
    rw [if_pos (by omega), if_pos (by omega), rd_nat_Rec l j hlt, Lst.w1n j l.length hlt (by omega)]
    have hih := ih m (j + 1) (by omega) (by omega)
    rw [hsn] at hih
    have hput := s_put (nodesP (seenB n i) (l.take j)) l[j].f1 (by have := nodesP_le (seenB n i) l j (by omega); omega) (nodesP_good _ _).1 m (by have := nodesP_le (seenB n i) l j (by omega); omega)
    rw [hput]
    simp only [Option.bind_some]
    by_cases c1 : l[j].f2 = 5
    · rw [if_pos c1]
      by_cases c2 : l[j].f3 = n
      · rw [if_pos c2]
        by_cases c3 : l[j].f4 = i
        · rw [if_pos c3]
          by_cases c4 : l[j].f5 = 3
          · rw [if_pos c4]
            have hc : seenB n i l[j] = true := by unfold seenB; simp [c1, c2, c3, c4]
            rw [if_pos hc] at hih
            exact hih
          · rw [if_neg c4]
            have hc : ¬ seenB n i l[j] = true := by unfold seenB; simp [c4]
            rw [if_neg hc] at hih
            exact hih
        · rw [if_neg c3]
          have hc : ¬ seenB n i l[j] = true := by unfold seenB; simp [c3]
          rw [if_neg hc] at hih
          exact hih
      · rw [if_neg c2]
        have hc : ¬ seenB n i l[j] = true := by unfold seenB; simp [c2]
        rw [if_neg hc] at hih
        exact hih
    · rw [if_neg c1]
      have hc : ¬ seenB n i l[j] = true := by unfold seenB; simp [c1]
      rw [if_neg hc] at hih
      exact hih
theorem seen_none (l : List S78) (n i : Int) (hr : okRecs l = true) (ht : timeB i = false) : nodesP (seenB n i) l = [] := by
  have hno : ∀ x ∈ l, seenB n i x = false := by
    intro x hx
    have hok : recOk x = true := by
      unfold okRecs at hr
      rw [Bool.and_eq_true] at hr
      exact List.all_eq_true.1 hr.2 x hx
    rw [Bool.eq_false_iff]
    intro hs
    unfold seenB at hs
    simp only [Bool.and_eq_true, beq_iff_eq] at hs
    obtain ⟨⟨⟨h1, h2⟩, h3⟩, h4⟩ := hs
    unfold recOk recB at hok
    rw [h1] at hok
    unfold factB at hok
    rw [h3, ht] at hok
    simp at hok
  unfold nodesP
  have gen : ∀ (l : List S78), (∀ x ∈ l, seenB n i x = false) → l.foldl (fun out r => if seenB n i r = true then setIns out r.f1 else out) [] = [] := by
    intro l
    induction l with
    | nil => intro _; rfl
    | cons a l ih =>
      intro h
      rw [List.foldl_cons, h a List.mem_cons_self]
      exact ih (fun x hx => h x (List.mem_cons_of_mem _ hx))
  exact gen l hno
def seenR (l : List S78) (n i : Int) : List Int := if okRecs l = true then (if nodeB n = true then nodesP (seenB n i) l else []) else []
theorem seenR_len (l : List S78) (n i : Int) : (seenR l n i).length ≤ l.length := by
  unfold seenR
  split
  · split
    · exact (nodesP_good _ _).2
    · simp
  · simp
theorem seen_spec (l : List S78) (n i : Int) (k : Nat) (hk : 3 * l.length + 10 < k) : spec_SeenGone.f k l n i = some (seenR l n i) := by
  obtain ⟨m, rfl⟩ : ∃ m, k = m + 1 := ⟨k - 1, by omega⟩
  unfold spec_SeenGone.f seenR
  simp only [Option.bind_some]
  rw [s_recs l _ (by omega)]
  simp only [Option.bind_some, s_node, s_time]
  by_cases hr : okRecs l = true
  · have hl := okRecs_400 l hr
    rw [if_pos hr, if_pos hr]
    by_cases hn : nodeB n = true
    · rw [if_pos hn, if_pos hn]
      simp only [spec_SeenGone.j0]
      by_cases ht : timeB i = true
      · rw [ht]
        simp only [Bool.not_true, Bool.false_eq_true, if_false]
        exact seen_loop l n i hl l.length m 0 (by omega) (by omega)
      · have ht' : timeB i = false := by simpa using ht
        rw [ht', seen_none l n i hr ht']
        rfl
    · rw [if_neg hn, if_neg hn]
      rfl
  · rw [if_neg hr, if_neg hr]
    rfl
theorem seen_impl (l : List S78) (n i : Int) : impl_SeenGone.f l n i = some (seenR l n i) := rfl
theorem pure_SeenGone : Pure_FnExactSeenGone := by
  intro l n i h _ _
  by_cases hb : l.length ≤ 1048576
  · obtain ⟨K, hK⟩ : ∃ K : Nat, 3 * l.length + 1000 ≤ K := ⟨_, Nat.le_refl _⟩
    refine ⟨K + 1, ?_⟩
    unfold laws_FnExactSeenGone.f
    rw [szR l h.1]
    simp only [Option.bind_some, hb, if_true]
    rw [if_neg (by omega), toR l hb _ (by omega)]
    have hm : (l.map cvR).length = l.length := by simp
    have ht : ∀ k, l.length < k → laws_toRecS.f k l = some (l.map cvR) := fun k hk => toR l hb k hk
    generalize l.map cvR = m at hm ht
    have hs := seenR_len m n i
    obtain ⟨y, hy⟩ := markR m (by omega) (K + 1) (by omega)
    obtain ⟨z, hz, hz2⟩ := markI (seenR m n i) (by omega) K (by omega)
    simp only [Option.bind_some]
    rw [seen_spec m n i _ (by omega)]
    simp only [Option.bind_some]
    rw [seen_impl m n i]
    simp only [Option.bind_some]
    rw [eqI _ (by omega) _ (by omega)]
    simp only [Option.bind_some, if_true]
    rw [eqR m (by omega) _ (by omega)]
    simp only [Option.bind_some, if_true]
    rw [hy]
    simp only [Option.bind_some]
    rw [if_neg (by omega)]
    simp only [laws_FnExactSeenGone.j0]
    rw [hz]
    simp only [Option.bind_some, Bool.not_true, if_false, Bool.false_eq_true]
    rw [hz2 _ (by omega)]
    simp only [Option.bind_some, if_true]
    rw [if_neg (by omega), ht _ (by omega)]
    simp only [Option.bind_some]
    rw [seen_impl m n i]
    simp only [Option.bind_some]
    rw [eqI _ (by omega) _ (by omega)]
    simp only [Option.bind_some, if_true]
    rw [if_neg (by omega)]
  · refine ⟨1, ?_⟩
    unfold laws_FnExactSeenGone.f
    rw [szR l h.1]
    simp [hb]
end Go.Proofs.Ytgcgdjldhjajaaa.A
namespace Go.Proofs.Ytgcgdjldhjajaaa.Pure
theorem FnExactSeenGone : A.Pure_FnExactSeenGone := A.pure_SeenGone
end Go.Proofs.Ytgcgdjldhjajaaa.Pure
