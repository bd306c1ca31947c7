-- Merged by bundle.py out of 7 printed and hand-written texts of this claim.
import Derived.Test.YtgcgdjldhjajaaaZFnExactDownOfa
import Derived.Test.YtgcgdjldhjajaaaZFnExactDownOfb
import Derived.RowKit
namespace Go.Proofs.Ytgcgdjldhjajaaa.A
open Go.RowKit Go.Proofs.YtgcgdjldhjajaaaW.PrintWords Go.Proofs.YtgcgdjldhjajaaaW.PrintLast Go.Proofs.YtgcgdjldhjajaaaW.PrintMore
attribute [local go_sem] max2_int min2_int max_two min_two max_three min_three max_four min_four   -- for this text's walks alone
set_option linter.unusedVariables false
set_option linter.unusedSimpArgs false

/-! ### impl_DownOf: function 22 -/
mutual
def impl_DownOf.j0 : Nat → List (S78) → Int → Bool → Option (Int)
  | 0, _, _, _ => none
  | k + 1, x0, x1, x17 => if x17 = true then (some (-1)) else (impl_DownOf.l0 k x0 x1 0 false false x0 (x0.length : Int) 0)
def impl_DownOf.l0 : Nat → List (S78) → Int → Int → Bool → Bool → List (S78) → Int → Int → Option (Int)
  | 0, _, _, _, _, _, _, _, _ => none
  | k + 1, x0, x1, x5, x6, x7, x18, x19, x20 => if x20 < x19 then (if 0 ≤ x20 then (if x20 < (x18.length : Int) then (if x6 = true then (impl_DownOf.j2 k x0 x1 x5 x6 x7 x20 x18 x19 x20 (!x7) ((rd_T78 x18 x20).f0) ((rd_T78 x18 x20).f1) ((rd_T78 x18 x20).f2) ((rd_T78 x18 x20).f3) ((rd_T78 x18 x20).f4) ((rd_T78 x18 x20).f5)) else (impl_DownOf.j2 k x0 x1 x5 x6 x7 x20 x18 x19 x20 false ((rd_T78 x18 x20).f0) ((rd_T78 x18 x20).f1) ((rd_T78 x18 x20).f2) ((rd_T78 x18 x20).f3) ((rd_T78 x18 x20).f4) ((rd_T78 x18 x20).f5))) else (none)) else (none)) else (if x6 = true then (some x5) else (some (-1)))
def impl_DownOf.j2 : Nat → List (S78) → Int → Int → Bool → Bool → Int → List (S78) → Int → Int → Bool → Int → Int → Int → Int → Int → Int → Option (Int)
  | 0, _, _, _, _, _, _, _, _, _, _, _, _, _, _, _, _ => none
  | k + 1, x0, x1, x5, x6, x7, x8, x18, x19, x20, x29, x312000, x312001, x312002, x312003, x312004, x312005 => if x29 = true then (if 0 ≤ (wrap64 (x8 - 1)) then (if (wrap64 (x8 - 1)) < (x0.length : Int) then (if x312001 = x1 then ((impl_isLife.f x312000 x312001 x312002 x312003 x312004 x312005).bind fun t313 => (if t313 = true then (if x6 = true then (impl_DownOf.l0 k x0 x1 (wrap64 (x5 + (mx 0 (wrap64 (x312000 - ((rd_T78 x0 (wrap64 (x8 - 1))).f0)))))) true (x312002 == 1) x18 x19 (wrap64 (x20 + 1))) else (impl_DownOf.l0 k x0 x1 (wrap64 (x5 + (mx 0 (wrap64 (x312000 - ((rd_T78 x0 (wrap64 (x8 - 1))).f0)))))) (x312002 == 1) (x312002 == 1) x18 x19 (wrap64 (x20 + 1)))) else (impl_DownOf.l0 k x0 x1 (wrap64 (x5 + (mx 0 (wrap64 (x312000 - ((rd_T78 x0 (wrap64 (x8 - 1))).f0)))))) x6 x7 x18 x19 (wrap64 (x20 + 1))))) else (impl_DownOf.l0 k x0 x1 (wrap64 (x5 + (mx 0 (wrap64 (x312000 - ((rd_T78 x0 (wrap64 (x8 - 1))).f0)))))) x6 x7 x18 x19 (wrap64 (x20 + 1)))) else (none)) else (none)) else (if x312001 = x1 then ((impl_isLife.f x312000 x312001 x312002 x312003 x312004 x312005).bind fun t314 => (if t314 = true then (if x6 = true then (impl_DownOf.l0 k x0 x1 x5 true (x312002 == 1) x18 x19 (wrap64 (x20 + 1))) else (impl_DownOf.l0 k x0 x1 x5 (x312002 == 1) (x312002 == 1) x18 x19 (wrap64 (x20 + 1)))) else (impl_DownOf.l0 k x0 x1 x5 x6 x7 x18 x19 (wrap64 (x20 + 1))))) else (impl_DownOf.l0 k x0 x1 x5 x6 x7 x18 x19 (wrap64 (x20 + 1))))
end
def impl_DownOf.f (k : Nat) (l0 : List (S78)) (a1 : Int) : Option (Int) := (impl_areRecs.f l0).bind fun t308 => (if t308 = true then ((impl_isNode.f a1).bind fun t309 => (impl_DownOf.j0 k l0 a1 (!t309))) else (impl_DownOf.j0 k l0 a1 true))
theorem impl_DownOf.mono_l : ∀ k, (∀ y0 y1 y2, LeO (impl_DownOf.j0 k y0 y1 y2) (impl_DownOf.j0 (k + 1) y0 y1 y2)) ∧ (∀ y0 y1 y2 y3 y4 y5 y6 y7, LeO (impl_DownOf.l0 k y0 y1 y2 y3 y4 y5 y6 y7) (impl_DownOf.l0 (k + 1) y0 y1 y2 y3 y4 y5 y6 y7)) ∧ (∀ y0 y1 y2 y3 y4 y5 y6 y7 y8 y9 y10 y11 y12 y13 y14 y15, LeO (impl_DownOf.j2 k y0 y1 y2 y3 y4 y5 y6 y7 y8 y9 y10 y11 y12 y13 y14 y15) (impl_DownOf.j2 (k + 1) y0 y1 y2 y3 y4 y5 y6 y7 y8 y9 y10 y11 y12 y13 y14 y15))
  | 0 => ⟨fun _ _ _ r h => by simp [impl_DownOf.j0] at h, fun _ _ _ _ _ _ _ _ r h => by simp [impl_DownOf.l0] at h, fun _ _ _ _ _ _ _ _ _ _ _ _ _ _ _ _ r h => by simp [impl_DownOf.j2] at h⟩
  | k + 1 => by
    obtain ⟨ih0, ih1, ih2⟩ := impl_DownOf.mono_l k
    refine ⟨?_, ?_, ?_⟩
    · intro y0 y1 y2
      unfold impl_DownOf.j0
      repeat' first
      | (with_reducible exact ih0 _ _ _)
      | (with_reducible exact ih1 _ _ _ _ _ _ _ _)
      | (with_reducible exact ih2 _ _ _ _ _ _ _ _ _ _ _ _ _ _ _ _)
      | (with_reducible exact LeO.refl _)
      | (with_reducible exact LeO.none _)
      | (with_reducible refine LeO.ite ?_ ?_)
      | (with_reducible refine LeO.bind ?_ (fun _ => ?_))
      | exact ih0 _ _ _
      | exact ih1 _ _ _ _ _ _ _ _
      | exact ih2 _ _ _ _ _ _ _ _ _ _ _ _ _ _ _ _
      | exact LeO.none _
      | refine LeO.ite ?_ ?_
      | refine LeO.bind ?_ (fun _ => ?_)
    · intro y0 y1 y2 y3 y4 y5 y6 y7
      unfold impl_DownOf.l0
      repeat' first
      | (with_reducible exact ih0 _ _ _)
      | (with_reducible exact ih1 _ _ _ _ _ _ _ _)
      | (with_reducible exact ih2 _ _ _ _ _ _ _ _ _ _ _ _ _ _ _ _)
      | (with_reducible exact LeO.refl _)
      | (with_reducible exact LeO.none _)
      | (with_reducible refine LeO.ite ?_ ?_)
      | (with_reducible refine LeO.bind ?_ (fun _ => ?_))
      | exact ih0 _ _ _
      | exact ih1 _ _ _ _ _ _ _ _
      | exact ih2 _ _ _ _ _ _ _ _ _ _ _ _ _ _ _ _
      | exact LeO.none _
      | refine LeO.ite ?_ ?_
      | refine LeO.bind ?_ (fun _ => ?_)
    · intro y0 y1 y2 y3 y4 y5 y6 y7 y8 y9 y10 y11 y12 y13 y14 y15
      unfold impl_DownOf.j2
      repeat' first
      | (with_reducible exact ih0 _ _ _)
      | (with_reducible exact ih1 _ _ _ _ _ _ _ _)
      | (with_reducible exact ih2 _ _ _ _ _ _ _ _ _ _ _ _ _ _ _ _)
      | (with_reducible exact LeO.refl _)
      | (with_reducible exact LeO.none _)
      | (with_reducible refine LeO.ite ?_ ?_)
      | (with_reducible refine LeO.bind ?_ (fun _ => ?_))
      | exact ih0 _ _ _
      | exact ih1 _ _ _ _ _ _ _ _
      | exact ih2 _ _ _ _ _ _ _ _ _ _ _ _ _ _ _ _
      | exact LeO.none _
      | refine LeO.ite ?_ ?_
      | refine LeO.bind ?_ (fun _ => ?_)
theorem impl_DownOf.mono : ∀ a0 a1 k, LeO (impl_DownOf.f k a0 a1) (impl_DownOf.f (k + 1) a0 a1) := by
  intro a0 a1 k
  obtain ⟨ih0, ih1, ih2⟩ := impl_DownOf.mono_l k
  unfold impl_DownOf.f
  repeat' first
      | (with_reducible exact ih0 _ _ _)
      | (with_reducible exact ih1 _ _ _ _ _ _ _ _)
      | (with_reducible exact ih2 _ _ _ _ _ _ _ _ _ _ _ _ _ _ _ _)
      | (with_reducible exact LeO.refl _)
      | (with_reducible exact LeO.none _)
      | (with_reducible refine LeO.ite ?_ ?_)
      | (with_reducible refine LeO.bind ?_ (fun _ => ?_))
      | exact ih0 _ _ _
      | exact ih1 _ _ _ _ _ _ _ _
      | exact ih2 _ _ _ _ _ _ _ _ _ _ _ _ _ _ _ _
      | exact LeO.none _
      | refine LeO.ite ?_ ?_
      | refine LeO.bind ?_ (fun _ => ?_)
set_option maxHeartbeats 8000000 in
set_option maxRecDepth 100000 in
theorem impl_DownOf.calls (k : Nat) (A0 : Option Addr) (c0 : Nat) (l0 : List (S78)) (a1 : Int) (r : Int) (w : World) (hr0 : Kd.C k78 w A0 l0.length l0) (hc0 : l0.length ≤ c0) (h : impl_DownOf.f k l0 a1 = some r) :
    Calls Try.prog 22 #[.slice A0 l0.length c0, .int .i64 a1] w fun e w' => e = .returned (.int .i64 r) ∧ Below w.heap.size w w' := by
  have hu78 := Try.underlying78
  have HR0 := Aside0.mk hr0
  have HC0 := Aside0.mk hc0
  clear hr0 hc0
  have HB := Aside0.mk (Below.refl w.heap.size w)
  have H : ((impl_areRecs.f l0).bind fun t308 => (if t308 = true then ((impl_isNode.f a1).bind fun t309 => (impl_DownOf.j0 k l0 a1 (!t309))) else (impl_DownOf.j0 k l0 a1 true))) = some r := h
  clear h
  have HC3 := Aside0.mk H
  clear H
  go_enter Try.func22, Try.ntmps22
  go_upto_region 1 with (fail)
  repeat (go_quiet (fail); go_upto_region 1 with (fail))
  go_cut [17] (fun v17 wc => ∃ (kq : Nat) (x17_2 : Bool), v17 = .bool x17_2 ∧ Aside0 (impl_DownOf.j0 kq l0 a1 x17_2 = some r) ∧ Aside0 (kq ≤ k) ∧ Aside0 (Below w.heap.size w wc))
  case first =>
    have H := HC3.out
    clear HC3
    replace H := Option.bind_eq_some_iff.mp H
    obtain ⟨t308, A40, H⟩ := H
    replace H : (if t308 = true then ((impl_isNode.f a1).bind fun t309 => (impl_DownOf.j0 k l0 a1 (!t309))) else (impl_DownOf.j0 k l0 a1 true)) = some r := H
    have A4 := Aside0.mk A40
    clear A40
    by_cases c5 : t308 = true
    · subst c5
      have H1 : ((impl_isNode.f a1).bind fun t309 => (impl_DownOf.j0 k l0 a1 (!t309))) = some r := by rw [if_pos rfl] at H; exact H
      clear H
      have H := H1
      clear H1
      replace H := Option.bind_eq_some_iff.mp H
      obtain ⟨t309, A60, H⟩ := H
      replace H : (impl_DownOf.j0 k l0 a1 (!t309)) = some r := H
      have A6 := Aside0.mk A60
      clear A60
      have H' := Aside0.mk H
      clear H
      go_wp2_with (first | (go_at_call 66; (with_reducible refine (impl_areRecs.calls _ _ l0 true _ ?side1 ?side2 A4.out).mono ?_); (case side1 => repeat (first | exact (Kd.C_below HR0.out HB.out) | (with_reducible refine Kd.C_alloc ?_ _) | (with_reducible refine Kd.C_drewN ?_ _) | (with_reducible refine Kd.C_drew ?_))); (case side2 => exact HC0.out); rintro e w7 ⟨rfl, hb⟩; have n0_ := Aside0.mk (below_step (by repeat (first | (with_reducible first | exact HB.out | apply below_alloc | apply pw_below_drewN | apply below_drew1) | exact HB.out)) hb); clear HB; have HB := n0_; clear n0_; (try clear hb); (try clear hb2); (try clear hk); (try clear hi)) | (go_at_call 73; (with_reducible refine (impl_isNode.calls a1 t309 _ A6.out).mono ?_); rintro e w' ⟨rfl, ⟨nd, rfl⟩⟩; (try first | exact ⟨rfl, _, World.drewN_drewN _ _ _⟩ | exact ⟨rfl, _, Eq.trans (World.drewN_drewN _ _ _) (congrArg (World.drewN _) (Nat.add_assoc _ _ _))⟩)))
      repeat (go_quiet (first | (go_at_call 66; (with_reducible refine (impl_areRecs.calls _ _ l0 true _ ?side1 ?side2 A4.out).mono ?_); (case side1 => repeat (first | exact (Kd.C_below HR0.out HB.out) | (with_reducible refine Kd.C_alloc ?_ _) | (with_reducible refine Kd.C_drewN ?_ _) | (with_reducible refine Kd.C_drew ?_))); (case side2 => exact HC0.out); rintro e w7 ⟨rfl, hb⟩; have n0_ := Aside0.mk (below_step (by repeat (first | (with_reducible first | exact HB.out | apply below_alloc | apply pw_below_drewN | apply below_drew1) | exact HB.out)) hb); clear HB; have HB := n0_; clear n0_; (try clear hb); (try clear hb2); (try clear hk); (try clear hi)) | (go_at_call 73; (with_reducible refine (impl_isNode.calls a1 t309 _ A6.out).mono ?_); rintro e w' ⟨rfl, ⟨nd, rfl⟩⟩; (try first | exact ⟨rfl, _, World.drewN_drewN _ _ _⟩ | exact ⟨rfl, _, Eq.trans (World.drewN_drewN _ _ _) (congrArg (World.drewN _) (Nat.add_assoc _ _ _))⟩))); try go_wp2_with (first | (go_at_call 66; (with_reducible refine (impl_areRecs.calls _ _ l0 true _ ?side1 ?side2 A4.out).mono ?_); (case side1 => repeat (first | exact (Kd.C_below HR0.out HB.out) | (with_reducible refine Kd.C_alloc ?_ _) | (with_reducible refine Kd.C_drewN ?_ _) | (with_reducible refine Kd.C_drew ?_))); (case side2 => exact HC0.out); rintro e w7 ⟨rfl, hb⟩; have n0_ := Aside0.mk (below_step (by repeat (first | (with_reducible first | exact HB.out | apply below_alloc | apply pw_below_drewN | apply below_drew1) | exact HB.out)) hb); clear HB; have HB := n0_; clear n0_; (try clear hb); (try clear hb2); (try clear hk); (try clear hi)) | (go_at_call 73; (with_reducible refine (impl_isNode.calls a1 t309 _ A6.out).mono ?_); rintro e w' ⟨rfl, ⟨nd, rfl⟩⟩; (try first | exact ⟨rfl, _, World.drewN_drewN _ _ _⟩ | exact ⟨rfl, _, Eq.trans (World.drewN_drewN _ _ _) (congrArg (World.drewN _) (Nat.add_assoc _ _ _))⟩))))
      go_meet
      case rel => exact ⟨_, (!t309), (by first | rfl | (simp; done) | (simp [*]; done)), H', ⟨by first | omega | exact Nat.le_refl _⟩, ⟨by repeat (first | (with_reducible first | exact HB.out | apply below_alloc | apply pw_below_drewN | apply below_drew1) | exact HB.out)⟩⟩
    · replace c5 := Bool.eq_false_iff.mpr c5
      subst c5
      have H1 : (impl_DownOf.j0 k l0 a1 true) = some r := by rw [if_neg (show ¬ (false = true) by decide)] at H; exact H
      clear H
      have H := H1
      clear H1
      have H' := Aside0.mk H
      clear H
      go_wp2_with (first | (go_at_call 66; (with_reducible refine (impl_areRecs.calls _ _ l0 false _ ?side1 ?side2 A4.out).mono ?_); (case side1 => repeat (first | exact (Kd.C_below HR0.out HB.out) | (with_reducible refine Kd.C_alloc ?_ _) | (with_reducible refine Kd.C_drewN ?_ _) | (with_reducible refine Kd.C_drew ?_))); (case side2 => exact HC0.out); rintro e w8 ⟨rfl, hb⟩; have n0_ := Aside0.mk (below_step (by repeat (first | (with_reducible first | exact HB.out | apply below_alloc | apply pw_below_drewN | apply below_drew1) | exact HB.out)) hb); clear HB; have HB := n0_; clear n0_; (try clear hb); (try clear hb2); (try clear hk); (try clear hi)))
      repeat (go_quiet (first | (go_at_call 66; (with_reducible refine (impl_areRecs.calls _ _ l0 false _ ?side1 ?side2 A4.out).mono ?_); (case side1 => repeat (first | exact (Kd.C_below HR0.out HB.out) | (with_reducible refine Kd.C_alloc ?_ _) | (with_reducible refine Kd.C_drewN ?_ _) | (with_reducible refine Kd.C_drew ?_))); (case side2 => exact HC0.out); rintro e w8 ⟨rfl, hb⟩; have n0_ := Aside0.mk (below_step (by repeat (first | (with_reducible first | exact HB.out | apply below_alloc | apply pw_below_drewN | apply below_drew1) | exact HB.out)) hb); clear HB; have HB := n0_; clear n0_; (try clear hb); (try clear hb2); (try clear hk); (try clear hi))); try go_wp2_with (first | (go_at_call 66; (with_reducible refine (impl_areRecs.calls _ _ l0 false _ ?side1 ?side2 A4.out).mono ?_); (case side1 => repeat (first | exact (Kd.C_below HR0.out HB.out) | (with_reducible refine Kd.C_alloc ?_ _) | (with_reducible refine Kd.C_drewN ?_ _) | (with_reducible refine Kd.C_drew ?_))); (case side2 => exact HC0.out); rintro e w8 ⟨rfl, hb⟩; have n0_ := Aside0.mk (below_step (by repeat (first | (with_reducible first | exact HB.out | apply below_alloc | apply pw_below_drewN | apply below_drew1) | exact HB.out)) hb); clear HB; have HB := n0_; clear n0_; (try clear hb); (try clear hb2); (try clear hk); (try clear hi))))
      go_meet
      case rel => exact ⟨_, (true), (by first | rfl | (simp; done) | (simp [*]; done)), H', ⟨by first | omega | exact Nat.le_refl _⟩, ⟨by repeat (first | (with_reducible first | exact HB.out | apply below_alloc | apply pw_below_drewN | apply below_drew1) | exact HB.out)⟩⟩
  case rest =>
    clear HC3
    try clear c2
    try clear p2
    try clear c5
    obtain ⟨kq, x17_2, rfl, HA, HJ2, HB⟩ := hcut
    cases kq with
    | zero => exact absurd HA.out (by simp [impl_DownOf.j0])
    | succ kj2 =>
      have H := HA.out
      clear HA
      simp only [impl_DownOf.j0] at H
      by_cases c9 : x17_2 = true
      · subst c9
        have H1 : (some (-1)) = some r := by rw [if_pos rfl] at H; exact H
        clear H
        have H := H1
        clear H1
        obtain rfl := Option.some.inj H
        go_wp2
        repeat (go_quiet (fail); try go_wp2)
        go_ret
        exact ⟨by first | rfl | (simp [errW_none, errW_some] <;> rfl) | (simp [*, errW_none, errW_some] <;> rfl), by repeat (first | (with_reducible first | exact HB.out | apply below_alloc | apply pw_below_drewN | apply below_drew1) | exact HB.out)⟩
      · replace c9 := Bool.eq_false_iff.mpr c9
        subst c9
        have H1 : (impl_DownOf.l0 kj2 l0 a1 0 false false l0 (l0.length : Int) 0) = some r := by rw [if_neg (show ¬ (false = true) by decide)] at H; exact H
        clear H
        have H := H1
        clear H1
        have H' := Aside0.mk H
        clear H
        go_wp2
        repeat (go_quiet (fail); try go_wp2)
        go_loopg [5, 6, 7, 20] kj2 (fun kq v5 v6 v7 v20 w' => ∃ (x5_2 : Int) (x6_2 : Bool) (x7_2 : Bool) (x20_2 : Int), v5 = .int .i64 x5_2 ∧ v6 = .bool x6_2 ∧ v7 = .bool x7_2 ∧ v20 = .int .i64 x20_2 ∧ Aside0 (impl_DownOf.l0 kq l0 a1 x5_2 x6_2 x7_2 l0 (l0.length : Int) x20_2 = some r) ∧ Aside0 (kq ≤ kj2) ∧ Aside0 (Below w.heap.size w w'))
        case atStart => exact ⟨(0), (false), (false), (0), (by first | rfl | (simp; done) | (simp [*]; done)), (by first | rfl | (simp; done) | (simp [*]; done)), (by first | rfl | (simp; done) | (simp [*]; done)), (by first | rfl | (simp; done) | (simp [*]; done)), H', ⟨Nat.le_refl _⟩, ⟨by repeat (first | (with_reducible first | exact HB.out | apply below_alloc | apply pw_below_drewN | apply below_drew1) | exact HB.out)⟩⟩
        case round =>
          clear H'
          try clear c2
          try clear p2
          try clear c5
          try clear c9
          try clear p2
          obtain ⟨x5_2, x6_2, x7_2, x20_2, rfl, rfl, rfl, rfl, HA, HK2, HB⟩ := hrel
          cases gk with
          | zero => exact absurd HA.out (by simp [impl_DownOf.l0])
          | succ k2 =>
            have H := HA.out
            clear HA
            simp only [impl_DownOf.l0] at H
            by_cases c10 : x20_2 < (l0.length : Int)
            · rw [if_pos c10] at H
              have c10b0 : decide (x20_2 < (l0.length : Int)) = true := decide_eq_true c10
              clear c10
              by_cases c11 : 0 ≤ x20_2
              · rw [if_pos c11] at H
                have c11b0 : decide (0 ≤ x20_2) = true := decide_eq_true c11
                clear c11
                by_cases c12 : x20_2 < (l0.length : Int)
                · rw [if_pos c12] at H
                  have c12b0 : decide (x20_2 < (l0.length : Int)) = true := decide_eq_true c12
                  clear c12
                  have HC13 := Aside0.mk H
                  clear H
                  have p310 : 0 ≤ (x20_2 : Int) := of_decide_eq_true (by first | (with_reducible assumption) | assumption)
                  have q310 : x20_2 < (l0.length : Int) := of_decide_eq_true (by first | (with_reducible assumption) | assumption)
                  obtain ⟨ad310, e310, hx310_0, hx310_1, hx310_2, hx310_3, hx310_4, hx310_5⟩ := at_T78 HR0.out x20_2 p310 q310
                  cases e310
                  replace hx310_0 := (HB.out.cell (World.block_lt_of_cell? w _ hx310_0)).trans hx310_0
                  replace hx310_1 := (HB.out.cell (World.block_lt_of_cell? w _ hx310_1)).trans hx310_1
                  replace hx310_2 := (HB.out.cell (World.block_lt_of_cell? w _ hx310_2)).trans hx310_2
                  replace hx310_3 := (HB.out.cell (World.block_lt_of_cell? w _ hx310_3)).trans hx310_3
                  replace hx310_4 := (HB.out.cell (World.block_lt_of_cell? w _ hx310_4)).trans hx310_4
                  replace hx310_5 := (HB.out.cell (World.block_lt_of_cell? w _ hx310_5)).trans hx310_5
                  replace p310 := eq_true p310
                  replace q310 := eq_true q310
                  go_upto_region 7 with (first | ((with_reducible refine gate_dst (N := 9) rfl ?_); refine box_event ?hg (N := 9) ?hd (cs := #[.int .i64 0, .int .i64 0, .int .i64 0, .int .i64 0, .int .i64 0, .int .i64 0]) (t := 78) ?hr ?_; (case hd => rfl); (case hg => rfl); (case hr => first | (go_simp; done) | (go_simp; rfl)); intro gb311 hg w14 hbox hb; have n0_ := Aside0.mk (below_step (by repeat (first | (with_reducible first | exact HB.out | apply below_alloc | apply pw_below_drewN | apply below_drew1) | exact HB.out)) hb); have n1_ := Aside0.mk (hbox); have n2_ := Aside0.mk ((by rw [hg]; exact (below_size (by repeat (first | (with_reducible first | exact HB.out | apply below_alloc | apply pw_below_drewN | apply below_drew1) | exact HB.out))) : w.heap.size ≤ gb311)); have n3_ := Aside0.mk ((by rw [hg]; exact (below_size (by repeat (first | (with_reducible first | exact HB.out | apply below_alloc | apply pw_below_drewN | apply below_drew1) | exact HB.out))) : w.heap.size ≤ gb311)); clear HB; have HB := n0_; have BK311 := n1_; have GW311 := n2_; have GE311 := n3_; clear n0_ n1_ n2_ n3_; clear hb hbox hg; have hcz15_0 : w14.cell? ⟨gb311, 0, none⟩ = some (.int .i64 0) := (blk_cell BK311.out 0).trans rfl; have hcz15_1 : w14.cell? ⟨gb311, 1, none⟩ = some (.int .i64 0) := (blk_cell BK311.out 1).trans rfl; have hcz15_2 : w14.cell? ⟨gb311, 2, none⟩ = some (.int .i64 0) := (blk_cell BK311.out 2).trans rfl; have hcz15_3 : w14.cell? ⟨gb311, 3, none⟩ = some (.int .i64 0) := (blk_cell BK311.out 3).trans rfl; have hcz15_4 : w14.cell? ⟨gb311, 4, none⟩ = some (.int .i64 0) := (blk_cell BK311.out 4).trans rfl; have hcz15_5 : w14.cell? ⟨gb311, 5, none⟩ = some (.int .i64 0) := (blk_cell BK311.out 5).trans rfl; have hfz15_0 := blk_frozen BK311.out 0; have hfz15_1 := blk_frozen BK311.out 1; have hfz15_2 := blk_frozen BK311.out 2; have hfz15_3 := blk_frozen BK311.out 3; have hfz15_4 := blk_frozen BK311.out 4; have hfz15_5 := blk_frozen BK311.out 5))
                  repeat (go_quiet (first | ((with_reducible refine gate_dst (N := 9) rfl ?_); refine box_event ?hg (N := 9) ?hd (cs := #[.int .i64 0, .int .i64 0, .int .i64 0, .int .i64 0, .int .i64 0, .int .i64 0]) (t := 78) ?hr ?_; (case hd => rfl); (case hg => rfl); (case hr => first | (go_simp; done) | (go_simp; rfl)); intro gb311 hg w14 hbox hb; have n0_ := Aside0.mk (below_step (by repeat (first | (with_reducible first | exact HB.out | apply below_alloc | apply pw_below_drewN | apply below_drew1) | exact HB.out)) hb); have n1_ := Aside0.mk (hbox); have n2_ := Aside0.mk ((by rw [hg]; exact (below_size (by repeat (first | (with_reducible first | exact HB.out | apply below_alloc | apply pw_below_drewN | apply below_drew1) | exact HB.out))) : w.heap.size ≤ gb311)); have n3_ := Aside0.mk ((by rw [hg]; exact (below_size (by repeat (first | (with_reducible first | exact HB.out | apply below_alloc | apply pw_below_drewN | apply below_drew1) | exact HB.out))) : w.heap.size ≤ gb311)); clear HB; have HB := n0_; have BK311 := n1_; have GW311 := n2_; have GE311 := n3_; clear n0_ n1_ n2_ n3_; clear hb hbox hg; have hcz15_0 : w14.cell? ⟨gb311, 0, none⟩ = some (.int .i64 0) := (blk_cell BK311.out 0).trans rfl; have hcz15_1 : w14.cell? ⟨gb311, 1, none⟩ = some (.int .i64 0) := (blk_cell BK311.out 1).trans rfl; have hcz15_2 : w14.cell? ⟨gb311, 2, none⟩ = some (.int .i64 0) := (blk_cell BK311.out 2).trans rfl; have hcz15_3 : w14.cell? ⟨gb311, 3, none⟩ = some (.int .i64 0) := (blk_cell BK311.out 3).trans rfl; have hcz15_4 : w14.cell? ⟨gb311, 4, none⟩ = some (.int .i64 0) := (blk_cell BK311.out 4).trans rfl; have hcz15_5 : w14.cell? ⟨gb311, 5, none⟩ = some (.int .i64 0) := (blk_cell BK311.out 5).trans rfl; have hfz15_0 := blk_frozen BK311.out 0; have hfz15_1 := blk_frozen BK311.out 1; have hfz15_2 := blk_frozen BK311.out 2; have hfz15_3 := blk_frozen BK311.out 3; have hfz15_4 := blk_frozen BK311.out 4; have hfz15_5 := blk_frozen BK311.out 5)); go_upto_region 7 with (first | ((with_reducible refine gate_dst (N := 9) rfl ?_); refine box_event ?hg (N := 9) ?hd (cs := #[.int .i64 0, .int .i64 0, .int .i64 0, .int .i64 0, .int .i64 0, .int .i64 0]) (t := 78) ?hr ?_; (case hd => rfl); (case hg => rfl); (case hr => first | (go_simp; done) | (go_simp; rfl)); intro gb311 hg w14 hbox hb; have n0_ := Aside0.mk (below_step (by repeat (first | (with_reducible first | exact HB.out | apply below_alloc | apply pw_below_drewN | apply below_drew1) | exact HB.out)) hb); have n1_ := Aside0.mk (hbox); have n2_ := Aside0.mk ((by rw [hg]; exact (below_size (by repeat (first | (with_reducible first | exact HB.out | apply below_alloc | apply pw_below_drewN | apply below_drew1) | exact HB.out))) : w.heap.size ≤ gb311)); have n3_ := Aside0.mk ((by rw [hg]; exact (below_size (by repeat (first | (with_reducible first | exact HB.out | apply below_alloc | apply pw_below_drewN | apply below_drew1) | exact HB.out))) : w.heap.size ≤ gb311)); clear HB; have HB := n0_; have BK311 := n1_; have GW311 := n2_; have GE311 := n3_; clear n0_ n1_ n2_ n3_; clear hb hbox hg; have hcz15_0 : w14.cell? ⟨gb311, 0, none⟩ = some (.int .i64 0) := (blk_cell BK311.out 0).trans rfl; have hcz15_1 : w14.cell? ⟨gb311, 1, none⟩ = some (.int .i64 0) := (blk_cell BK311.out 1).trans rfl; have hcz15_2 : w14.cell? ⟨gb311, 2, none⟩ = some (.int .i64 0) := (blk_cell BK311.out 2).trans rfl; have hcz15_3 : w14.cell? ⟨gb311, 3, none⟩ = some (.int .i64 0) := (blk_cell BK311.out 3).trans rfl; have hcz15_4 : w14.cell? ⟨gb311, 4, none⟩ = some (.int .i64 0) := (blk_cell BK311.out 4).trans rfl; have hcz15_5 : w14.cell? ⟨gb311, 5, none⟩ = some (.int .i64 0) := (blk_cell BK311.out 5).trans rfl; have hfz15_0 := blk_frozen BK311.out 0; have hfz15_1 := blk_frozen BK311.out 1; have hfz15_2 := blk_frozen BK311.out 2; have hfz15_3 := blk_frozen BK311.out 3; have hfz15_4 := blk_frozen BK311.out 4; have hfz15_5 := blk_frozen BK311.out 5)))
                  (try simp only [Act.put, List.setIfInBounds_toArray, List.set_cons_zero, List.set_cons_succ])
                  go_cut [29] (fun v29 wc => ∃ (kq : Nat) (x29_12 : Bool), v29 = .bool x29_12 ∧ Aside0 (impl_DownOf.j2 kq l0 a1 x5_2 x6_2 x7_2 x20_2 l0 (l0.length : Int) x20_2 x29_12 ((rd_T78 l0 x20_2).f0) ((rd_T78 l0 x20_2).f1) ((rd_T78 l0 x20_2).f2) ((rd_T78 l0 x20_2).f3) ((rd_T78 l0 x20_2).f4) ((rd_T78 l0 x20_2).f5) = some r) ∧ Aside0 (kq ≤ k2) ∧ Aside0 (wc.heap[gb311]? = some (.cells #[.int .i64 ((rd_T78 l0 x20_2).f0), .int .i64 ((rd_T78 l0 x20_2).f1), .int .i64 ((rd_T78 l0 x20_2).f2), .int .i64 ((rd_T78 l0 x20_2).f3), .int .i64 ((rd_T78 l0 x20_2).f4), .int .i64 ((rd_T78 l0 x20_2).f5)] 78 (0, 0))) ∧ Aside0 (Below w.heap.size w wc))
                  case first =>
                    have H := HC13.out
                    clear HC13
                    by_cases c16 : x6_2 = true
                    · subst c16
                      have H1 : (impl_DownOf.j2 k2 l0 a1 x5_2 true x7_2 x20_2 l0 (l0.length : Int) x20_2 (!x7_2) ((rd_T78 l0 x20_2).f0) ((rd_T78 l0 x20_2).f1) ((rd_T78 l0 x20_2).f2) ((rd_T78 l0 x20_2).f3) ((rd_T78 l0 x20_2).f4) ((rd_T78 l0 x20_2).f5)) = some r := by rw [if_pos rfl] at H; exact H
                      clear H
                      have H := H1
                      clear H1
                      have H' := Aside0.mk H
                      clear H
                      go_wp2
                      repeat (go_quiet (fail); try go_wp2)
                      go_meet
                      case rel => exact ⟨_, (!x7_2), (by first | rfl | (simp; done) | (simp [*]; done)), H', ⟨by have := HJ2.out; have := HK2.out; first | omega | exact Nat.le_refl _⟩, ⟨by (with_reducible repeat (first | refine blk_drewN ?_ _ | refine blk_drew ?_ | refine blk_alloc ?_ _)); refine blk_put (cs := #[.int .i64 ((rd_T78 l0 x20_2).f0), .int .i64 ((rd_T78 l0 x20_2).f1), .int .i64 ((rd_T78 l0 x20_2).f2), .int .i64 ((rd_T78 l0 x20_2).f3), .int .i64 ((rd_T78 l0 x20_2).f4), .int .i64 0]) ?_ 5 _ rfl; (with_reducible repeat (first | refine blk_drewN ?_ _ | refine blk_drew ?_ | refine blk_alloc ?_ _)); refine blk_put (cs := #[.int .i64 ((rd_T78 l0 x20_2).f0), .int .i64 ((rd_T78 l0 x20_2).f1), .int .i64 ((rd_T78 l0 x20_2).f2), .int .i64 ((rd_T78 l0 x20_2).f3), .int .i64 0, .int .i64 0]) ?_ 4 _ rfl; (with_reducible repeat (first | refine blk_drewN ?_ _ | refine blk_drew ?_ | refine blk_alloc ?_ _)); refine blk_put (cs := #[.int .i64 ((rd_T78 l0 x20_2).f0), .int .i64 ((rd_T78 l0 x20_2).f1), .int .i64 ((rd_T78 l0 x20_2).f2), .int .i64 0, .int .i64 0, .int .i64 0]) ?_ 3 _ rfl; (with_reducible repeat (first | refine blk_drewN ?_ _ | refine blk_drew ?_ | refine blk_alloc ?_ _)); refine blk_put (cs := #[.int .i64 ((rd_T78 l0 x20_2).f0), .int .i64 ((rd_T78 l0 x20_2).f1), .int .i64 0, .int .i64 0, .int .i64 0, .int .i64 0]) ?_ 2 _ rfl; (with_reducible repeat (first | refine blk_drewN ?_ _ | refine blk_drew ?_ | refine blk_alloc ?_ _)); refine blk_put (cs := #[.int .i64 ((rd_T78 l0 x20_2).f0), .int .i64 0, .int .i64 0, .int .i64 0, .int .i64 0, .int .i64 0]) ?_ 1 _ rfl; (with_reducible repeat (first | refine blk_drewN ?_ _ | refine blk_drew ?_ | refine blk_alloc ?_ _)); refine blk_put (cs := #[.int .i64 0, .int .i64 0, .int .i64 0, .int .i64 0, .int .i64 0, .int .i64 0]) ?_ 0 _ rfl; (with_reducible repeat (first | refine blk_drewN ?_ _ | refine blk_drew ?_ | refine blk_alloc ?_ _)); exact BK311.out⟩, ⟨by repeat (first | (with_reducible first | exact HB.out | apply below_alloc | apply pw_below_drewN | apply below_drew1 | refine below_set ?_ GE311.out) | exact HB.out)⟩⟩
                    · replace c16 := Bool.eq_false_iff.mpr c16
                      subst c16
                      have H1 : (impl_DownOf.j2 k2 l0 a1 x5_2 false x7_2 x20_2 l0 (l0.length : Int) x20_2 false ((rd_T78 l0 x20_2).f0) ((rd_T78 l0 x20_2).f1) ((rd_T78 l0 x20_2).f2) ((rd_T78 l0 x20_2).f3) ((rd_T78 l0 x20_2).f4) ((rd_T78 l0 x20_2).f5)) = some r := by rw [if_neg (show ¬ (false = true) by decide)] at H; exact H
                      clear H
                      have H := H1
                      clear H1
                      have H' := Aside0.mk H
                      clear H
                      go_wp2
                      repeat (go_quiet (fail); try go_wp2)
                      go_meet
                      case rel => exact ⟨_, (false), (by first | rfl | (simp; done) | (simp [*]; done)), H', ⟨by have := HJ2.out; have := HK2.out; first | omega | exact Nat.le_refl _⟩, ⟨by (with_reducible repeat (first | refine blk_drewN ?_ _ | refine blk_drew ?_ | refine blk_alloc ?_ _)); refine blk_put (cs := #[.int .i64 ((rd_T78 l0 x20_2).f0), .int .i64 ((rd_T78 l0 x20_2).f1), .int .i64 ((rd_T78 l0 x20_2).f2), .int .i64 ((rd_T78 l0 x20_2).f3), .int .i64 ((rd_T78 l0 x20_2).f4), .int .i64 0]) ?_ 5 _ rfl; (with_reducible repeat (first | refine blk_drewN ?_ _ | refine blk_drew ?_ | refine blk_alloc ?_ _)); refine blk_put (cs := #[.int .i64 ((rd_T78 l0 x20_2).f0), .int .i64 ((rd_T78 l0 x20_2).f1), .int .i64 ((rd_T78 l0 x20_2).f2), .int .i64 ((rd_T78 l0 x20_2).f3), .int .i64 0, .int .i64 0]) ?_ 4 _ rfl; (with_reducible repeat (first | refine blk_drewN ?_ _ | refine blk_drew ?_ | refine blk_alloc ?_ _)); refine blk_put (cs := #[.int .i64 ((rd_T78 l0 x20_2).f0), .int .i64 ((rd_T78 l0 x20_2).f1), .int .i64 ((rd_T78 l0 x20_2).f2), .int .i64 0, .int .i64 0, .int .i64 0]) ?_ 3 _ rfl; (with_reducible repeat (first | refine blk_drewN ?_ _ | refine blk_drew ?_ | refine blk_alloc ?_ _)); refine blk_put (cs := #[.int .i64 ((rd_T78 l0 x20_2).f0), .int .i64 ((rd_T78 l0 x20_2).f1), .int .i64 0, .int .i64 0, .int .i64 0, .int .i64 0]) ?_ 2 _ rfl; (with_reducible repeat (first | refine blk_drewN ?_ _ | refine blk_drew ?_ | refine blk_alloc ?_ _)); refine blk_put (cs := #[.int .i64 ((rd_T78 l0 x20_2).f0), .int .i64 0, .int .i64 0, .int .i64 0, .int .i64 0, .int .i64 0]) ?_ 1 _ rfl; (with_reducible repeat (first | refine blk_drewN ?_ _ | refine blk_drew ?_ | refine blk_alloc ?_ _)); refine blk_put (cs := #[.int .i64 0, .int .i64 0, .int .i64 0, .int .i64 0, .int .i64 0, .int .i64 0]) ?_ 0 _ rfl; (with_reducible repeat (first | refine blk_drewN ?_ _ | refine blk_drew ?_ | refine blk_alloc ?_ _)); exact BK311.out⟩, ⟨by repeat (first | (with_reducible first | exact HB.out | apply below_alloc | apply pw_below_drewN | apply below_drew1 | refine below_set ?_ GE311.out) | exact HB.out)⟩⟩
                  case rest =>
                    clear HC13
                    try clear c1
                    try clear c2
                    try clear p2
                    try clear p3
                    try clear q3
                    try clear hx3
                    try clear c5
                    try clear c9
                    try clear c10
                    try clear c10b0
                    try clear c11
                    try clear c11b0
                    try clear c12
                    try clear c12b0
                    try clear c16
                    try clear hcz15_0
                    try clear hcz15_1
                    try clear hcz15_2
                    try clear hcz15_3
                    try clear hcz15_4
                    try clear hcz15_5
                    try clear hfz15_0
                    try clear hfz15_1
                    try clear hfz15_2
                    try clear hfz15_3
                    try clear hfz15_4
                    try clear hfz15_5
                    try clear hx310_0
                    try clear hx310_1
                    try clear hx310_2
                    try clear hx310_3
                    try clear hx310_4
                    try clear hx310_5
                    try clear p2
                    try clear p310
                    try clear q310
                    obtain ⟨kq, x29_12, rfl, HA, HJ12, BK311, HB⟩ := hcut
                    cases kq with
                    | zero => exact absurd HA.out (by simp [impl_DownOf.j2])
                    | succ kj12 =>
                      have H := HA.out
                      clear HA
                      simp only [impl_DownOf.j2] at H
                      by_cases c17 : x29_12 = true
                      · subst c17
                        have H1 : (if 0 ≤ (wrap64 (x20_2 - 1)) then (if (wrap64 (x20_2 - 1)) < (l0.length : Int) then (if ((rd_T78 l0 x20_2).f1) = a1 then ((impl_isLife.f ((rd_T78 l0 x20_2).f0) ((rd_T78 l0 x20_2).f1) ((rd_T78 l0 x20_2).f2) ((rd_T78 l0 x20_2).f3) ((rd_T78 l0 x20_2).f4) ((rd_T78 l0 x20_2).f5)).bind fun t313 => (if t313 = true then (if x6_2 = true then (impl_DownOf.l0 kj12 l0 a1 (wrap64 (x5_2 + (mx 0 (wrap64 (((rd_T78 l0 x20_2).f0) - ((rd_T78 l0 (wrap64 (x20_2 - 1))).f0)))))) true (((rd_T78 l0 x20_2).f2) == 1) l0 (l0.length : Int) (wrap64 (x20_2 + 1))) else (impl_DownOf.l0 kj12 l0 a1 (wrap64 (x5_2 + (mx 0 (wrap64 (((rd_T78 l0 x20_2).f0) - ((rd_T78 l0 (wrap64 (x20_2 - 1))).f0)))))) (((rd_T78 l0 x20_2).f2) == 1) (((rd_T78 l0 x20_2).f2) == 1) l0 (l0.length : Int) (wrap64 (x20_2 + 1)))) else (impl_DownOf.l0 kj12 l0 a1 (wrap64 (x5_2 + (mx 0 (wrap64 (((rd_T78 l0 x20_2).f0) - ((rd_T78 l0 (wrap64 (x20_2 - 1))).f0)))))) x6_2 x7_2 l0 (l0.length : Int) (wrap64 (x20_2 + 1))))) else (impl_DownOf.l0 kj12 l0 a1 (wrap64 (x5_2 + (mx 0 (wrap64 (((rd_T78 l0 x20_2).f0) - ((rd_T78 l0 (wrap64 (x20_2 - 1))).f0)))))) x6_2 x7_2 l0 (l0.length : Int) (wrap64 (x20_2 + 1)))) else (none)) else (none)) = some r := by rw [if_pos rfl] at H; exact H
                        clear H
                        have H := H1
                        clear H1
                        obtain ⟨ji18, hji18⟩ : ∃ j_ : Int, (wrap64 (x20_2 - 1)) = j_ := ⟨_, rfl⟩
                        replace H : (if 0 ≤ (ji18) then (if (ji18) < (l0.length : Int) then (if ((rd_T78 l0 x20_2).f1) = a1 then ((impl_isLife.f ((rd_T78 l0 x20_2).f0) ((rd_T78 l0 x20_2).f1) ((rd_T78 l0 x20_2).f2) ((rd_T78 l0 x20_2).f3) ((rd_T78 l0 x20_2).f4) ((rd_T78 l0 x20_2).f5)).bind fun t313 => (if t313 = true then (if x6_2 = true then (impl_DownOf.l0 kj12 l0 a1 (wrap64 (x5_2 + (mx 0 (wrap64 (((rd_T78 l0 x20_2).f0) - ((rd_T78 l0 (ji18)).f0)))))) true (((rd_T78 l0 x20_2).f2) == 1) l0 (l0.length : Int) (wrap64 (x20_2 + 1))) else (impl_DownOf.l0 kj12 l0 a1 (wrap64 (x5_2 + (mx 0 (wrap64 (((rd_T78 l0 x20_2).f0) - ((rd_T78 l0 (ji18)).f0)))))) (((rd_T78 l0 x20_2).f2) == 1) (((rd_T78 l0 x20_2).f2) == 1) l0 (l0.length : Int) (wrap64 (x20_2 + 1)))) else (impl_DownOf.l0 kj12 l0 a1 (wrap64 (x5_2 + (mx 0 (wrap64 (((rd_T78 l0 x20_2).f0) - ((rd_T78 l0 (ji18)).f0)))))) x6_2 x7_2 l0 (l0.length : Int) (wrap64 (x20_2 + 1))))) else (impl_DownOf.l0 kj12 l0 a1 (wrap64 (x5_2 + (mx 0 (wrap64 (((rd_T78 l0 x20_2).f0) - ((rd_T78 l0 (ji18)).f0)))))) x6_2 x7_2 l0 (l0.length : Int) (wrap64 (x20_2 + 1)))) else (none)) else (none)) = some r := by first | (rw [hji18] at H; exact H) | (simp only [hji18] at H ⊢; exact H)
                        have hji18w : (IntKind.i64.wrap (x20_2 - 1)) = ji18 := (i64_w _).trans hji18
                        by_cases c19 : 0 ≤ (ji18)
                        · rw [if_pos c19] at H
                          have c19b0 : decide (0 ≤ (ji18)) = true := decide_eq_true c19
                          clear c19
                          by_cases c20 : (ji18) < (l0.length : Int)
                          · rw [if_pos c20] at H
                            have c20b0 : decide ((ji18) < (l0.length : Int)) = true := decide_eq_true c20
                            clear c20
                            obtain ⟨ji21, hji21⟩ : ∃ j_ : Int, (mx 0 (wrap64 (((rd_T78 l0 x20_2).f0) - ((rd_T78 l0 (ji18)).f0)))) = j_ := ⟨_, rfl⟩
                            replace H : (if ((rd_T78 l0 x20_2).f1) = a1 then ((impl_isLife.f ((rd_T78 l0 x20_2).f0) ((rd_T78 l0 x20_2).f1) ((rd_T78 l0 x20_2).f2) ((rd_T78 l0 x20_2).f3) ((rd_T78 l0 x20_2).f4) ((rd_T78 l0 x20_2).f5)).bind fun t313 => (if t313 = true then (if x6_2 = true then (impl_DownOf.l0 kj12 l0 a1 (wrap64 (x5_2 + (ji21))) true (((rd_T78 l0 x20_2).f2) == 1) l0 (l0.length : Int) (wrap64 (x20_2 + 1))) else (impl_DownOf.l0 kj12 l0 a1 (wrap64 (x5_2 + (ji21))) (((rd_T78 l0 x20_2).f2) == 1) (((rd_T78 l0 x20_2).f2) == 1) l0 (l0.length : Int) (wrap64 (x20_2 + 1)))) else (impl_DownOf.l0 kj12 l0 a1 (wrap64 (x5_2 + (ji21))) x6_2 x7_2 l0 (l0.length : Int) (wrap64 (x20_2 + 1))))) else (impl_DownOf.l0 kj12 l0 a1 (wrap64 (x5_2 + (ji21))) x6_2 x7_2 l0 (l0.length : Int) (wrap64 (x20_2 + 1)))) = some r := by first | (rw [hji21] at H; exact H) | (simp only [hji21] at H ⊢; exact H)
                            have hji21_ : (if 0 < (wrap64 (((rd_T78 l0 x20_2).f0) - ((rd_T78 l0 (ji18)).f0))) then (wrap64 (((rd_T78 l0 x20_2).f0) - ((rd_T78 l0 (ji18)).f0))) else 0) = ji21 := hji21
                            by_cases c22 : ((rd_T78 l0 x20_2).f1) = a1
                            · rw [if_pos c22] at H
                              have c22b0 : (((rd_T78 l0 x20_2).f1) == a1) = true := beq_iff_eq.mpr c22
                              have c22b1 : (((rd_T78 l0 x20_2).f1) != a1) = false := bne_eq_false_iff_eq.mpr c22
                              clear c22
                              replace H := Option.bind_eq_some_iff.mp H
                              obtain ⟨t313, A230, H⟩ := H
                              replace H : (if t313 = true then (if x6_2 = true then (impl_DownOf.l0 kj12 l0 a1 (wrap64 (x5_2 + (ji21))) true (((rd_T78 l0 x20_2).f2) == 1) l0 (l0.length : Int) (wrap64 (x20_2 + 1))) else (impl_DownOf.l0 kj12 l0 a1 (wrap64 (x5_2 + (ji21))) (((rd_T78 l0 x20_2).f2) == 1) (((rd_T78 l0 x20_2).f2) == 1) l0 (l0.length : Int) (wrap64 (x20_2 + 1)))) else (impl_DownOf.l0 kj12 l0 a1 (wrap64 (x5_2 + (ji21))) x6_2 x7_2 l0 (l0.length : Int) (wrap64 (x20_2 + 1)))) = some r := H
                              have A23 := Aside0.mk A230
                              clear A230
                              by_cases c24 : t313 = true
                              · subst c24
                                have H1 : (if x6_2 = true then (impl_DownOf.l0 kj12 l0 a1 (wrap64 (x5_2 + (ji21))) true (((rd_T78 l0 x20_2).f2) == 1) l0 (l0.length : Int) (wrap64 (x20_2 + 1))) else (impl_DownOf.l0 kj12 l0 a1 (wrap64 (x5_2 + (ji21))) (((rd_T78 l0 x20_2).f2) == 1) (((rd_T78 l0 x20_2).f2) == 1) l0 (l0.length : Int) (wrap64 (x20_2 + 1)))) = some r := by rw [if_pos rfl] at H; exact H
                                clear H
                                have H := H1
                                clear H1
                                by_cases c25 : x6_2 = true
                                · subst c25
                                  have H1 : (impl_DownOf.l0 kj12 l0 a1 (wrap64 (x5_2 + (ji21))) true (((rd_T78 l0 x20_2).f2) == 1) l0 (l0.length : Int) (wrap64 (x20_2 + 1))) = some r := by rw [if_pos rfl] at H; exact H
                                  clear H
                                  have H := H1
                                  clear H1
                                  have H' := Aside0.mk H
                                  clear H
                                  have hcz26_0 : wc.cell? ⟨gb311, 0, none⟩ = some (.int .i64 ((rd_T78 l0 x20_2).f0)) := (blk_cell BK311.out 0).trans rfl
                                  have hcz26_1 : wc.cell? ⟨gb311, 1, none⟩ = some (.int .i64 ((rd_T78 l0 x20_2).f1)) := (blk_cell BK311.out 1).trans rfl
                                  have hcz26_2 : wc.cell? ⟨gb311, 2, none⟩ = some (.int .i64 ((rd_T78 l0 x20_2).f2)) := (blk_cell BK311.out 2).trans rfl
                                  have hcz26_3 : wc.cell? ⟨gb311, 3, none⟩ = some (.int .i64 ((rd_T78 l0 x20_2).f3)) := (blk_cell BK311.out 3).trans rfl
                                  have hcz26_4 : wc.cell? ⟨gb311, 4, none⟩ = some (.int .i64 ((rd_T78 l0 x20_2).f4)) := (blk_cell BK311.out 4).trans rfl
                                  have hcz26_5 : wc.cell? ⟨gb311, 5, none⟩ = some (.int .i64 ((rd_T78 l0 x20_2).f5)) := (blk_cell BK311.out 5).trans rfl
                                  have hfz26_0 := blk_frozen BK311.out 0
                                  have hfz26_1 := blk_frozen BK311.out 1
                                  have hfz26_2 := blk_frozen BK311.out 2
                                  have hfz26_3 := blk_frozen BK311.out 3
                                  have hfz26_4 := blk_frozen BK311.out 4
                                  have hfz26_5 := blk_frozen BK311.out 5
                                  have p312 : 0 ≤ ((ji18) : Int) := of_decide_eq_true (by first | (with_reducible assumption) | assumption)
                                  have q312 : (ji18) < (l0.length : Int) := of_decide_eq_true (by first | (with_reducible assumption) | assumption)
                                  obtain ⟨ad312, e312, hx312_0, hx312_1, hx312_2, hx312_3, hx312_4, hx312_5⟩ := at_T78 HR0.out (ji18) p312 q312
                                  obtain rfl : ad310 = ad312 := (by injection e312)
                                  replace hx312_0 := (HB.out.cell (World.block_lt_of_cell? w _ hx312_0)).trans hx312_0
                                  replace hx312_1 := (HB.out.cell (World.block_lt_of_cell? w _ hx312_1)).trans hx312_1
                                  replace hx312_2 := (HB.out.cell (World.block_lt_of_cell? w _ hx312_2)).trans hx312_2
                                  replace hx312_3 := (HB.out.cell (World.block_lt_of_cell? w _ hx312_3)).trans hx312_3
                                  replace hx312_4 := (HB.out.cell (World.block_lt_of_cell? w _ hx312_4)).trans hx312_4
                                  replace hx312_5 := (HB.out.cell (World.block_lt_of_cell? w _ hx312_5)).trans hx312_5
                                  replace p312 := eq_true p312
                                  replace q312 := eq_true q312
                                  go_wp2_with (first | (go_at_call 74; (with_reducible refine (impl_isLife.calls ((rd_T78 l0 x20_2).f0) ((rd_T78 l0 x20_2).f1) ((rd_T78 l0 x20_2).f2) ((rd_T78 l0 x20_2).f3) ((rd_T78 l0 x20_2).f4) ((rd_T78 l0 x20_2).f5) true _ A23.out).mono ?_); rintro e w27 ⟨rfl, hb⟩; have n0_ := Aside0.mk (blk_below (g := gb311) (o := .cells #[.int .i64 ((rd_T78 l0 x20_2).f0), .int .i64 ((rd_T78 l0 x20_2).f1), .int .i64 ((rd_T78 l0 x20_2).f2), .int .i64 ((rd_T78 l0 x20_2).f3), .int .i64 ((rd_T78 l0 x20_2).f4), .int .i64 ((rd_T78 l0 x20_2).f5)] 78 (0, 0)) (by (with_reducible repeat (first | refine blk_drewN ?_ _ | refine blk_drew ?_ | refine blk_alloc ?_ _)); exact BK311.out) hb); have n1_ := Aside0.mk (below_step (by repeat (first | (with_reducible first | exact HB.out | apply below_alloc | apply pw_below_drewN | apply below_drew1 | refine below_set ?_ GE311.out) | exact HB.out)) hb); clear BK311; clear HB; have BK311 := n0_; have HB := n1_; clear n0_ n1_; (try clear hb); (try clear hb2); (try clear hk); (try clear hi); have hcz28_0 : w27.cell? ⟨gb311, 0, none⟩ = some (.int .i64 ((rd_T78 l0 x20_2).f0)) := (blk_cell BK311.out 0).trans rfl; have hcz28_1 : w27.cell? ⟨gb311, 1, none⟩ = some (.int .i64 ((rd_T78 l0 x20_2).f1)) := (blk_cell BK311.out 1).trans rfl; have hcz28_2 : w27.cell? ⟨gb311, 2, none⟩ = some (.int .i64 ((rd_T78 l0 x20_2).f2)) := (blk_cell BK311.out 2).trans rfl; have hcz28_3 : w27.cell? ⟨gb311, 3, none⟩ = some (.int .i64 ((rd_T78 l0 x20_2).f3)) := (blk_cell BK311.out 3).trans rfl; have hcz28_4 : w27.cell? ⟨gb311, 4, none⟩ = some (.int .i64 ((rd_T78 l0 x20_2).f4)) := (blk_cell BK311.out 4).trans rfl; have hcz28_5 : w27.cell? ⟨gb311, 5, none⟩ = some (.int .i64 ((rd_T78 l0 x20_2).f5)) := (blk_cell BK311.out 5).trans rfl; have hfz28_0 := blk_frozen BK311.out 0; have hfz28_1 := blk_frozen BK311.out 1; have hfz28_2 := blk_frozen BK311.out 2; have hfz28_3 := blk_frozen BK311.out 3; have hfz28_4 := blk_frozen BK311.out 4; have hfz28_5 := blk_frozen BK311.out 5))
                                  repeat (go_quiet (first | (go_at_call 74; (with_reducible refine (impl_isLife.calls ((rd_T78 l0 x20_2).f0) ((rd_T78 l0 x20_2).f1) ((rd_T78 l0 x20_2).f2) ((rd_T78 l0 x20_2).f3) ((rd_T78 l0 x20_2).f4) ((rd_T78 l0 x20_2).f5) true _ A23.out).mono ?_); rintro e w27 ⟨rfl, hb⟩; have n0_ := Aside0.mk (blk_below (g := gb311) (o := .cells #[.int .i64 ((rd_T78 l0 x20_2).f0), .int .i64 ((rd_T78 l0 x20_2).f1), .int .i64 ((rd_T78 l0 x20_2).f2), .int .i64 ((rd_T78 l0 x20_2).f3), .int .i64 ((rd_T78 l0 x20_2).f4), .int .i64 ((rd_T78 l0 x20_2).f5)] 78 (0, 0)) (by (with_reducible repeat (first | refine blk_drewN ?_ _ | refine blk_drew ?_ | refine blk_alloc ?_ _)); exact BK311.out) hb); have n1_ := Aside0.mk (below_step (by repeat (first | (with_reducible first | exact HB.out | apply below_alloc | apply pw_below_drewN | apply below_drew1 | refine below_set ?_ GE311.out) | exact HB.out)) hb); clear BK311; clear HB; have BK311 := n0_; have HB := n1_; clear n0_ n1_; (try clear hb); (try clear hb2); (try clear hk); (try clear hi); have hcz28_0 : w27.cell? ⟨gb311, 0, none⟩ = some (.int .i64 ((rd_T78 l0 x20_2).f0)) := (blk_cell BK311.out 0).trans rfl; have hcz28_1 : w27.cell? ⟨gb311, 1, none⟩ = some (.int .i64 ((rd_T78 l0 x20_2).f1)) := (blk_cell BK311.out 1).trans rfl; have hcz28_2 : w27.cell? ⟨gb311, 2, none⟩ = some (.int .i64 ((rd_T78 l0 x20_2).f2)) := (blk_cell BK311.out 2).trans rfl; have hcz28_3 : w27.cell? ⟨gb311, 3, none⟩ = some (.int .i64 ((rd_T78 l0 x20_2).f3)) := (blk_cell BK311.out 3).trans rfl; have hcz28_4 : w27.cell? ⟨gb311, 4, none⟩ = some (.int .i64 ((rd_T78 l0 x20_2).f4)) := (blk_cell BK311.out 4).trans rfl; have hcz28_5 : w27.cell? ⟨gb311, 5, none⟩ = some (.int .i64 ((rd_T78 l0 x20_2).f5)) := (blk_cell BK311.out 5).trans rfl; have hfz28_0 := blk_frozen BK311.out 0; have hfz28_1 := blk_frozen BK311.out 1; have hfz28_2 := blk_frozen BK311.out 2; have hfz28_3 := blk_frozen BK311.out 3; have hfz28_4 := blk_frozen BK311.out 4; have hfz28_5 := blk_frozen BK311.out 5)); try go_wp2_with (first | (go_at_call 74; (with_reducible refine (impl_isLife.calls ((rd_T78 l0 x20_2).f0) ((rd_T78 l0 x20_2).f1) ((rd_T78 l0 x20_2).f2) ((rd_T78 l0 x20_2).f3) ((rd_T78 l0 x20_2).f4) ((rd_T78 l0 x20_2).f5) true _ A23.out).mono ?_); rintro e w27 ⟨rfl, hb⟩; have n0_ := Aside0.mk (blk_below (g := gb311) (o := .cells #[.int .i64 ((rd_T78 l0 x20_2).f0), .int .i64 ((rd_T78 l0 x20_2).f1), .int .i64 ((rd_T78 l0 x20_2).f2), .int .i64 ((rd_T78 l0 x20_2).f3), .int .i64 ((rd_T78 l0 x20_2).f4), .int .i64 ((rd_T78 l0 x20_2).f5)] 78 (0, 0)) (by (with_reducible repeat (first | refine blk_drewN ?_ _ | refine blk_drew ?_ | refine blk_alloc ?_ _)); exact BK311.out) hb); have n1_ := Aside0.mk (below_step (by repeat (first | (with_reducible first | exact HB.out | apply below_alloc | apply pw_below_drewN | apply below_drew1 | refine below_set ?_ GE311.out) | exact HB.out)) hb); clear BK311; clear HB; have BK311 := n0_; have HB := n1_; clear n0_ n1_; (try clear hb); (try clear hb2); (try clear hk); (try clear hi); have hcz28_0 : w27.cell? ⟨gb311, 0, none⟩ = some (.int .i64 ((rd_T78 l0 x20_2).f0)) := (blk_cell BK311.out 0).trans rfl; have hcz28_1 : w27.cell? ⟨gb311, 1, none⟩ = some (.int .i64 ((rd_T78 l0 x20_2).f1)) := (blk_cell BK311.out 1).trans rfl; have hcz28_2 : w27.cell? ⟨gb311, 2, none⟩ = some (.int .i64 ((rd_T78 l0 x20_2).f2)) := (blk_cell BK311.out 2).trans rfl; have hcz28_3 : w27.cell? ⟨gb311, 3, none⟩ = some (.int .i64 ((rd_T78 l0 x20_2).f3)) := (blk_cell BK311.out 3).trans rfl; have hcz28_4 : w27.cell? ⟨gb311, 4, none⟩ = some (.int .i64 ((rd_T78 l0 x20_2).f4)) := (blk_cell BK311.out 4).trans rfl; have hcz28_5 : w27.cell? ⟨gb311, 5, none⟩ = some (.int .i64 ((rd_T78 l0 x20_2).f5)) := (blk_cell BK311.out 5).trans rfl; have hfz28_0 := blk_frozen BK311.out 0; have hfz28_1 := blk_frozen BK311.out 1; have hfz28_2 := blk_frozen BK311.out 2; have hfz28_3 := blk_frozen BK311.out 3; have hfz28_4 := blk_frozen BK311.out 4; have hfz28_5 := blk_frozen BK311.out 5)))
                                  go_roundg kj12
                                  case measure => have := HJ2.out; have := HK2.out; have := HJ12.out; omega
                                  case rel => exact ⟨(wrap64 (x5_2 + (ji21))), (true), ((((rd_T78 l0 x20_2).f2) == 1)), (wrap64 (x20_2 + 1)), (by first | rfl | (simp; done) | (simp only [← hji21] <;> (first | rfl | simp)) | (simp [*]; done)), (by first | rfl | (simp; done) | (simp [*]; done)), (by first | rfl | (simp; done) | (simp [*]; done)), (by first | rfl | (simp; done) | (simp [*]; done)), H', ⟨by have := HJ2.out; have := HK2.out; have := HJ12.out; omega⟩, ⟨by repeat (first | (with_reducible first | exact HB.out | apply below_alloc | apply pw_below_drewN | apply below_drew1 | refine below_set ?_ GE311.out) | exact HB.out)⟩⟩
                                · replace c25 := Bool.eq_false_iff.mpr c25
                                  subst c25
                                  have H1 : (impl_DownOf.l0 kj12 l0 a1 (wrap64 (x5_2 + (ji21))) (((rd_T78 l0 x20_2).f2) == 1) (((rd_T78 l0 x20_2).f2) == 1) l0 (l0.length : Int) (wrap64 (x20_2 + 1))) = some r := by rw [if_neg (show ¬ (false = true) by decide)] at H; exact H
                                  clear H
                                  have H := H1
                                  clear H1
                                  have H' := Aside0.mk H
                                  clear H
                                  have hcz29_0 : wc.cell? ⟨gb311, 0, none⟩ = some (.int .i64 ((rd_T78 l0 x20_2).f0)) := (blk_cell BK311.out 0).trans rfl
                                  have hcz29_1 : wc.cell? ⟨gb311, 1, none⟩ = some (.int .i64 ((rd_T78 l0 x20_2).f1)) := (blk_cell BK311.out 1).trans rfl
                                  have hcz29_2 : wc.cell? ⟨gb311, 2, none⟩ = some (.int .i64 ((rd_T78 l0 x20_2).f2)) := (blk_cell BK311.out 2).trans rfl
                                  have hcz29_3 : wc.cell? ⟨gb311, 3, none⟩ = some (.int .i64 ((rd_T78 l0 x20_2).f3)) := (blk_cell BK311.out 3).trans rfl
                                  have hcz29_4 : wc.cell? ⟨gb311, 4, none⟩ = some (.int .i64 ((rd_T78 l0 x20_2).f4)) := (blk_cell BK311.out 4).trans rfl
                                  have hcz29_5 : wc.cell? ⟨gb311, 5, none⟩ = some (.int .i64 ((rd_T78 l0 x20_2).f5)) := (blk_cell BK311.out 5).trans rfl
                                  have hfz29_0 := blk_frozen BK311.out 0
                                  have hfz29_1 := blk_frozen BK311.out 1
                                  have hfz29_2 := blk_frozen BK311.out 2
                                  have hfz29_3 := blk_frozen BK311.out 3
                                  have hfz29_4 := blk_frozen BK311.out 4
                                  have hfz29_5 := blk_frozen BK311.out 5
                                  have p312 : 0 ≤ ((ji18) : Int) := of_decide_eq_true (by first | (with_reducible assumption) | assumption)
                                  have q312 : (ji18) < (l0.length : Int) := of_decide_eq_true (by first | (with_reducible assumption) | assumption)
                                  obtain ⟨ad312, e312, hx312_0, hx312_1, hx312_2, hx312_3, hx312_4, hx312_5⟩ := at_T78 HR0.out (ji18) p312 q312
                                  obtain rfl : ad310 = ad312 := (by injection e312)
                                  replace hx312_0 := (HB.out.cell (World.block_lt_of_cell? w _ hx312_0)).trans hx312_0
                                  replace hx312_1 := (HB.out.cell (World.block_lt_of_cell? w _ hx312_1)).trans hx312_1
                                  replace hx312_2 := (HB.out.cell (World.block_lt_of_cell? w _ hx312_2)).trans hx312_2
                                  replace hx312_3 := (HB.out.cell (World.block_lt_of_cell? w _ hx312_3)).trans hx312_3
                                  replace hx312_4 := (HB.out.cell (World.block_lt_of_cell? w _ hx312_4)).trans hx312_4
                                  replace hx312_5 := (HB.out.cell (World.block_lt_of_cell? w _ hx312_5)).trans hx312_5
                                  replace p312 := eq_true p312
                                  replace q312 := eq_true q312
                                  go_wp2_with (first | (go_at_call 74; (with_reducible refine (impl_isLife.calls ((rd_T78 l0 x20_2).f0) ((rd_T78 l0 x20_2).f1) ((rd_T78 l0 x20_2).f2) ((rd_T78 l0 x20_2).f3) ((rd_T78 l0 x20_2).f4) ((rd_T78 l0 x20_2).f5) true _ A23.out).mono ?_); rintro e w30 ⟨rfl, hb⟩; have n0_ := Aside0.mk (blk_below (g := gb311) (o := .cells #[.int .i64 ((rd_T78 l0 x20_2).f0), .int .i64 ((rd_T78 l0 x20_2).f1), .int .i64 ((rd_T78 l0 x20_2).f2), .int .i64 ((rd_T78 l0 x20_2).f3), .int .i64 ((rd_T78 l0 x20_2).f4), .int .i64 ((rd_T78 l0 x20_2).f5)] 78 (0, 0)) (by (with_reducible repeat (first | refine blk_drewN ?_ _ | refine blk_drew ?_ | refine blk_alloc ?_ _)); exact BK311.out) hb); have n1_ := Aside0.mk (below_step (by repeat (first | (with_reducible first | exact HB.out | apply below_alloc | apply pw_below_drewN | apply below_drew1 | refine below_set ?_ GE311.out) | exact HB.out)) hb); clear BK311; clear HB; have BK311 := n0_; have HB := n1_; clear n0_ n1_; (try clear hb); (try clear hb2); (try clear hk); (try clear hi); have hcz31_0 : w30.cell? ⟨gb311, 0, none⟩ = some (.int .i64 ((rd_T78 l0 x20_2).f0)) := (blk_cell BK311.out 0).trans rfl; have hcz31_1 : w30.cell? ⟨gb311, 1, none⟩ = some (.int .i64 ((rd_T78 l0 x20_2).f1)) := (blk_cell BK311.out 1).trans rfl; have hcz31_2 : w30.cell? ⟨gb311, 2, none⟩ = some (.int .i64 ((rd_T78 l0 x20_2).f2)) := (blk_cell BK311.out 2).trans rfl; have hcz31_3 : w30.cell? ⟨gb311, 3, none⟩ = some (.int .i64 ((rd_T78 l0 x20_2).f3)) := (blk_cell BK311.out 3).trans rfl; have hcz31_4 : w30.cell? ⟨gb311, 4, none⟩ = some (.int .i64 ((rd_T78 l0 x20_2).f4)) := (blk_cell BK311.out 4).trans rfl; have hcz31_5 : w30.cell? ⟨gb311, 5, none⟩ = some (.int .i64 ((rd_T78 l0 x20_2).f5)) := (blk_cell BK311.out 5).trans rfl; have hfz31_0 := blk_frozen BK311.out 0; have hfz31_1 := blk_frozen BK311.out 1; have hfz31_2 := blk_frozen BK311.out 2; have hfz31_3 := blk_frozen BK311.out 3; have hfz31_4 := blk_frozen BK311.out 4; have hfz31_5 := blk_frozen BK311.out 5))
                                  repeat (go_quiet (first | (go_at_call 74; (with_reducible refine (impl_isLife.calls ((rd_T78 l0 x20_2).f0) ((rd_T78 l0 x20_2).f1) ((rd_T78 l0 x20_2).f2) ((rd_T78 l0 x20_2).f3) ((rd_T78 l0 x20_2).f4) ((rd_T78 l0 x20_2).f5) true _ A23.out).mono ?_); rintro e w30 ⟨rfl, hb⟩; have n0_ := Aside0.mk (blk_below (g := gb311) (o := .cells #[.int .i64 ((rd_T78 l0 x20_2).f0), .int .i64 ((rd_T78 l0 x20_2).f1), .int .i64 ((rd_T78 l0 x20_2).f2), .int .i64 ((rd_T78 l0 x20_2).f3), .int .i64 ((rd_T78 l0 x20_2).f4), .int .i64 ((rd_T78 l0 x20_2).f5)] 78 (0, 0)) (by (with_reducible repeat (first | refine blk_drewN ?_ _ | refine blk_drew ?_ | refine blk_alloc ?_ _)); exact BK311.out) hb); have n1_ := Aside0.mk (below_step (by repeat (first | (with_reducible first | exact HB.out | apply below_alloc | apply pw_below_drewN | apply below_drew1 | refine below_set ?_ GE311.out) | exact HB.out)) hb); clear BK311; clear HB; have BK311 := n0_; have HB := n1_; clear n0_ n1_; (try clear hb); (try clear hb2); (try clear hk); (try clear hi); have hcz31_0 : w30.cell? ⟨gb311, 0, none⟩ = some (.int .i64 ((rd_T78 l0 x20_2).f0)) := (blk_cell BK311.out 0).trans rfl; have hcz31_1 : w30.cell? ⟨gb311, 1, none⟩ = some (.int .i64 ((rd_T78 l0 x20_2).f1)) := (blk_cell BK311.out 1).trans rfl; have hcz31_2 : w30.cell? ⟨gb311, 2, none⟩ = some (.int .i64 ((rd_T78 l0 x20_2).f2)) := (blk_cell BK311.out 2).trans rfl; have hcz31_3 : w30.cell? ⟨gb311, 3, none⟩ = some (.int .i64 ((rd_T78 l0 x20_2).f3)) := (blk_cell BK311.out 3).trans rfl; have hcz31_4 : w30.cell? ⟨gb311, 4, none⟩ = some (.int .i64 ((rd_T78 l0 x20_2).f4)) := (blk_cell BK311.out 4).trans rfl; have hcz31_5 : w30.cell? ⟨gb311, 5, none⟩ = some (.int .i64 ((rd_T78 l0 x20_2).f5)) := (blk_cell BK311.out 5).trans rfl; have hfz31_0 := blk_frozen BK311.out 0; have hfz31_1 := blk_frozen BK311.out 1; have hfz31_2 := blk_frozen BK311.out 2; have hfz31_3 := blk_frozen BK311.out 3; have hfz31_4 := blk_frozen BK311.out 4; have hfz31_5 := blk_frozen BK311.out 5)); try go_wp2_with (first | (go_at_call 74; (with_reducible refine (impl_isLife.calls ((rd_T78 l0 x20_2).f0) ((rd_T78 l0 x20_2).f1) ((rd_T78 l0 x20_2).f2) ((rd_T78 l0 x20_2).f3) ((rd_T78 l0 x20_2).f4) ((rd_T78 l0 x20_2).f5) true _ A23.out).mono ?_); rintro e w30 ⟨rfl, hb⟩; have n0_ := Aside0.mk (blk_below (g := gb311) (o := .cells #[.int .i64 ((rd_T78 l0 x20_2).f0), .int .i64 ((rd_T78 l0 x20_2).f1), .int .i64 ((rd_T78 l0 x20_2).f2), .int .i64 ((rd_T78 l0 x20_2).f3), .int .i64 ((rd_T78 l0 x20_2).f4), .int .i64 ((rd_T78 l0 x20_2).f5)] 78 (0, 0)) (by (with_reducible repeat (first | refine blk_drewN ?_ _ | refine blk_drew ?_ | refine blk_alloc ?_ _)); exact BK311.out) hb); have n1_ := Aside0.mk (below_step (by repeat (first | (with_reducible first | exact HB.out | apply below_alloc | apply pw_below_drewN | apply below_drew1 | refine below_set ?_ GE311.out) | exact HB.out)) hb); clear BK311; clear HB; have BK311 := n0_; have HB := n1_; clear n0_ n1_; (try clear hb); (try clear hb2); (try clear hk); (try clear hi); have hcz31_0 : w30.cell? ⟨gb311, 0, none⟩ = some (.int .i64 ((rd_T78 l0 x20_2).f0)) := (blk_cell BK311.out 0).trans rfl; have hcz31_1 : w30.cell? ⟨gb311, 1, none⟩ = some (.int .i64 ((rd_T78 l0 x20_2).f1)) := (blk_cell BK311.out 1).trans rfl; have hcz31_2 : w30.cell? ⟨gb311, 2, none⟩ = some (.int .i64 ((rd_T78 l0 x20_2).f2)) := (blk_cell BK311.out 2).trans rfl; have hcz31_3 : w30.cell? ⟨gb311, 3, none⟩ = some (.int .i64 ((rd_T78 l0 x20_2).f3)) := (blk_cell BK311.out 3).trans rfl; have hcz31_4 : w30.cell? ⟨gb311, 4, none⟩ = some (.int .i64 ((rd_T78 l0 x20_2).f4)) := (blk_cell BK311.out 4).trans rfl; have hcz31_5 : w30.cell? ⟨gb311, 5, none⟩ = some (.int .i64 ((rd_T78 l0 x20_2).f5)) := (blk_cell BK311.out 5).trans rfl; have hfz31_0 := blk_frozen BK311.out 0; have hfz31_1 := blk_frozen BK311.out 1; have hfz31_2 := blk_frozen BK311.out 2; have hfz31_3 := blk_frozen BK311.out 3; have hfz31_4 := blk_frozen BK311.out 4; have hfz31_5 := blk_frozen BK311.out 5)))
                                  go_roundg kj12
                                  case measure => have := HJ2.out; have := HK2.out; have := HJ12.out; omega
                                  case rel => exact ⟨(wrap64 (x5_2 + (ji21))), ((((rd_T78 l0 x20_2).f2) == 1)), ((((rd_T78 l0 x20_2).f2) == 1)), (wrap64 (x20_2 + 1)), (by first | rfl | (simp; done) | (simp only [← hji21] <;> (first | rfl | simp)) | (simp [*]; done)), (by first | rfl | (simp; done) | (simp [*]; done)), (by first | rfl | (simp; done) | (simp [*]; done)), (by first | rfl | (simp; done) | (simp [*]; done)), H', ⟨by have := HJ2.out; have := HK2.out; have := HJ12.out; omega⟩, ⟨by repeat (first | (with_reducible first | exact HB.out | apply below_alloc | apply pw_below_drewN | apply below_drew1 | refine below_set ?_ GE311.out) | exact HB.out)⟩⟩
                              · replace c24 := Bool.eq_false_iff.mpr c24
                                subst c24
                                have H1 : (impl_DownOf.l0 kj12 l0 a1 (wrap64 (x5_2 + (ji21))) x6_2 x7_2 l0 (l0.length : Int) (wrap64 (x20_2 + 1))) = some r := by rw [if_neg (show ¬ (false = true) by decide)] at H; exact H
                                clear H
                                have H := H1
                                clear H1
                                have H' := Aside0.mk H
                                clear H
                                have hcz32_0 : wc.cell? ⟨gb311, 0, none⟩ = some (.int .i64 ((rd_T78 l0 x20_2).f0)) := (blk_cell BK311.out 0).trans rfl
                                have hcz32_1 : wc.cell? ⟨gb311, 1, none⟩ = some (.int .i64 ((rd_T78 l0 x20_2).f1)) := (blk_cell BK311.out 1).trans rfl
                                have hcz32_2 : wc.cell? ⟨gb311, 2, none⟩ = some (.int .i64 ((rd_T78 l0 x20_2).f2)) := (blk_cell BK311.out 2).trans rfl
                                have hcz32_3 : wc.cell? ⟨gb311, 3, none⟩ = some (.int .i64 ((rd_T78 l0 x20_2).f3)) := (blk_cell BK311.out 3).trans rfl
                                have hcz32_4 : wc.cell? ⟨gb311, 4, none⟩ = some (.int .i64 ((rd_T78 l0 x20_2).f4)) := (blk_cell BK311.out 4).trans rfl
                                have hcz32_5 : wc.cell? ⟨gb311, 5, none⟩ = some (.int .i64 ((rd_T78 l0 x20_2).f5)) := (blk_cell BK311.out 5).trans rfl
                                have hfz32_0 := blk_frozen BK311.out 0
                                have hfz32_1 := blk_frozen BK311.out 1
                                have hfz32_2 := blk_frozen BK311.out 2
                                have hfz32_3 := blk_frozen BK311.out 3
                                have hfz32_4 := blk_frozen BK311.out 4
                                have hfz32_5 := blk_frozen BK311.out 5
                                have p312 : 0 ≤ ((ji18) : Int) := of_decide_eq_true (by first | (with_reducible assumption) | assumption)
                                have q312 : (ji18) < (l0.length : Int) := of_decide_eq_true (by first | (with_reducible assumption) | assumption)
                                obtain ⟨ad312, e312, hx312_0, hx312_1, hx312_2, hx312_3, hx312_4, hx312_5⟩ := at_T78 HR0.out (ji18) p312 q312
                                obtain rfl : ad310 = ad312 := (by injection e312)
                                replace hx312_0 := (HB.out.cell (World.block_lt_of_cell? w _ hx312_0)).trans hx312_0
                                replace hx312_1 := (HB.out.cell (World.block_lt_of_cell? w _ hx312_1)).trans hx312_1
                                replace hx312_2 := (HB.out.cell (World.block_lt_of_cell? w _ hx312_2)).trans hx312_2
                                replace hx312_3 := (HB.out.cell (World.block_lt_of_cell? w _ hx312_3)).trans hx312_3
                                replace hx312_4 := (HB.out.cell (World.block_lt_of_cell? w _ hx312_4)).trans hx312_4
                                replace hx312_5 := (HB.out.cell (World.block_lt_of_cell? w _ hx312_5)).trans hx312_5
                                replace p312 := eq_true p312
                                replace q312 := eq_true q312
                                go_wp2_with (first | (go_at_call 74; (with_reducible refine (impl_isLife.calls ((rd_T78 l0 x20_2).f0) ((rd_T78 l0 x20_2).f1) ((rd_T78 l0 x20_2).f2) ((rd_T78 l0 x20_2).f3) ((rd_T78 l0 x20_2).f4) ((rd_T78 l0 x20_2).f5) false _ A23.out).mono ?_); rintro e w33 ⟨rfl, hb⟩; have n0_ := Aside0.mk (blk_below (g := gb311) (o := .cells #[.int .i64 ((rd_T78 l0 x20_2).f0), .int .i64 ((rd_T78 l0 x20_2).f1), .int .i64 ((rd_T78 l0 x20_2).f2), .int .i64 ((rd_T78 l0 x20_2).f3), .int .i64 ((rd_T78 l0 x20_2).f4), .int .i64 ((rd_T78 l0 x20_2).f5)] 78 (0, 0)) (by (with_reducible repeat (first | refine blk_drewN ?_ _ | refine blk_drew ?_ | refine blk_alloc ?_ _)); exact BK311.out) hb); have n1_ := Aside0.mk (below_step (by repeat (first | (with_reducible first | exact HB.out | apply below_alloc | apply pw_below_drewN | apply below_drew1 | refine below_set ?_ GE311.out) | exact HB.out)) hb); clear BK311; clear HB; have BK311 := n0_; have HB := n1_; clear n0_ n1_; (try clear hb); (try clear hb2); (try clear hk); (try clear hi)))
                                repeat (go_quiet (first | (go_at_call 74; (with_reducible refine (impl_isLife.calls ((rd_T78 l0 x20_2).f0) ((rd_T78 l0 x20_2).f1) ((rd_T78 l0 x20_2).f2) ((rd_T78 l0 x20_2).f3) ((rd_T78 l0 x20_2).f4) ((rd_T78 l0 x20_2).f5) false _ A23.out).mono ?_); rintro e w33 ⟨rfl, hb⟩; have n0_ := Aside0.mk (blk_below (g := gb311) (o := .cells #[.int .i64 ((rd_T78 l0 x20_2).f0), .int .i64 ((rd_T78 l0 x20_2).f1), .int .i64 ((rd_T78 l0 x20_2).f2), .int .i64 ((rd_T78 l0 x20_2).f3), .int .i64 ((rd_T78 l0 x20_2).f4), .int .i64 ((rd_T78 l0 x20_2).f5)] 78 (0, 0)) (by (with_reducible repeat (first | refine blk_drewN ?_ _ | refine blk_drew ?_ | refine blk_alloc ?_ _)); exact BK311.out) hb); have n1_ := Aside0.mk (below_step (by repeat (first | (with_reducible first | exact HB.out | apply below_alloc | apply pw_below_drewN | apply below_drew1 | refine below_set ?_ GE311.out) | exact HB.out)) hb); clear BK311; clear HB; have BK311 := n0_; have HB := n1_; clear n0_ n1_; (try clear hb); (try clear hb2); (try clear hk); (try clear hi))); try go_wp2_with (first | (go_at_call 74; (with_reducible refine (impl_isLife.calls ((rd_T78 l0 x20_2).f0) ((rd_T78 l0 x20_2).f1) ((rd_T78 l0 x20_2).f2) ((rd_T78 l0 x20_2).f3) ((rd_T78 l0 x20_2).f4) ((rd_T78 l0 x20_2).f5) false _ A23.out).mono ?_); rintro e w33 ⟨rfl, hb⟩; have n0_ := Aside0.mk (blk_below (g := gb311) (o := .cells #[.int .i64 ((rd_T78 l0 x20_2).f0), .int .i64 ((rd_T78 l0 x20_2).f1), .int .i64 ((rd_T78 l0 x20_2).f2), .int .i64 ((rd_T78 l0 x20_2).f3), .int .i64 ((rd_T78 l0 x20_2).f4), .int .i64 ((rd_T78 l0 x20_2).f5)] 78 (0, 0)) (by (with_reducible repeat (first | refine blk_drewN ?_ _ | refine blk_drew ?_ | refine blk_alloc ?_ _)); exact BK311.out) hb); have n1_ := Aside0.mk (below_step (by repeat (first | (with_reducible first | exact HB.out | apply below_alloc | apply pw_below_drewN | apply below_drew1 | refine below_set ?_ GE311.out) | exact HB.out)) hb); clear BK311; clear HB; have BK311 := n0_; have HB := n1_; clear n0_ n1_; (try clear hb); (try clear hb2); (try clear hk); (try clear hi))))
                                go_roundg kj12
                                case measure => have := HJ2.out; have := HK2.out; have := HJ12.out; omega
                                case rel => exact ⟨(wrap64 (x5_2 + (ji21))), (x6_2), (x7_2), (wrap64 (x20_2 + 1)), (by first | rfl | (simp; done) | (simp only [← hji21] <;> (first | rfl | simp)) | (simp [*]; done)), (by first | rfl | (simp; done) | (simp [*]; done)), (by first | rfl | (simp; done) | (simp [*]; done)), (by first | rfl | (simp; done) | (simp [*]; done)), H', ⟨by have := HJ2.out; have := HK2.out; have := HJ12.out; omega⟩, ⟨by repeat (first | (with_reducible first | exact HB.out | apply below_alloc | apply pw_below_drewN | apply below_drew1 | refine below_set ?_ GE311.out) | exact HB.out)⟩⟩
                            · rw [if_neg c22] at H
                              have c22b0 : (((rd_T78 l0 x20_2).f1) == a1) = false := beq_eq_false_iff_ne.mpr c22
                              have c22b1 : (((rd_T78 l0 x20_2).f1) != a1) = true := bne_iff_ne.mpr c22
                              have H' := Aside0.mk H
                              clear H
                              have hcz34_0 : wc.cell? ⟨gb311, 0, none⟩ = some (.int .i64 ((rd_T78 l0 x20_2).f0)) := (blk_cell BK311.out 0).trans rfl
                              have hcz34_1 : wc.cell? ⟨gb311, 1, none⟩ = some (.int .i64 ((rd_T78 l0 x20_2).f1)) := (blk_cell BK311.out 1).trans rfl
                              have hcz34_2 : wc.cell? ⟨gb311, 2, none⟩ = some (.int .i64 ((rd_T78 l0 x20_2).f2)) := (blk_cell BK311.out 2).trans rfl
                              have hcz34_3 : wc.cell? ⟨gb311, 3, none⟩ = some (.int .i64 ((rd_T78 l0 x20_2).f3)) := (blk_cell BK311.out 3).trans rfl
                              have hcz34_4 : wc.cell? ⟨gb311, 4, none⟩ = some (.int .i64 ((rd_T78 l0 x20_2).f4)) := (blk_cell BK311.out 4).trans rfl
                              have hcz34_5 : wc.cell? ⟨gb311, 5, none⟩ = some (.int .i64 ((rd_T78 l0 x20_2).f5)) := (blk_cell BK311.out 5).trans rfl
                              have hfz34_0 := blk_frozen BK311.out 0
                              have hfz34_1 := blk_frozen BK311.out 1
                              have hfz34_2 := blk_frozen BK311.out 2
                              have hfz34_3 := blk_frozen BK311.out 3
                              have hfz34_4 := blk_frozen BK311.out 4
                              have hfz34_5 := blk_frozen BK311.out 5
                              have p312 : 0 ≤ ((ji18) : Int) := of_decide_eq_true (by first | (with_reducible assumption) | assumption)
                              have q312 : (ji18) < (l0.length : Int) := of_decide_eq_true (by first | (with_reducible assumption) | assumption)
                              obtain ⟨ad312, e312, hx312_0, hx312_1, hx312_2, hx312_3, hx312_4, hx312_5⟩ := at_T78 HR0.out (ji18) p312 q312
                              obtain rfl : ad310 = ad312 := (by injection e312)
                              replace hx312_0 := (HB.out.cell (World.block_lt_of_cell? w _ hx312_0)).trans hx312_0
                              replace hx312_1 := (HB.out.cell (World.block_lt_of_cell? w _ hx312_1)).trans hx312_1
                              replace hx312_2 := (HB.out.cell (World.block_lt_of_cell? w _ hx312_2)).trans hx312_2
                              replace hx312_3 := (HB.out.cell (World.block_lt_of_cell? w _ hx312_3)).trans hx312_3
                              replace hx312_4 := (HB.out.cell (World.block_lt_of_cell? w _ hx312_4)).trans hx312_4
                              replace hx312_5 := (HB.out.cell (World.block_lt_of_cell? w _ hx312_5)).trans hx312_5
                              replace p312 := eq_true p312
                              replace q312 := eq_true q312
                              go_wp2
                              repeat (go_quiet (fail); try go_wp2)
                              go_roundg kj12
                              case measure => have := HJ2.out; have := HK2.out; have := HJ12.out; omega
                              case rel => exact ⟨(wrap64 (x5_2 + (ji21))), (x6_2), (x7_2), (wrap64 (x20_2 + 1)), (by first | rfl | (simp; done) | (simp only [← hji21] <;> (first | rfl | simp)) | (simp [*]; done)), (by first | rfl | (simp; done) | (simp [*]; done)), (by first | rfl | (simp; done) | (simp [*]; done)), (by first | rfl | (simp; done) | (simp [*]; done)), H', ⟨by have := HJ2.out; have := HK2.out; have := HJ12.out; omega⟩, ⟨by repeat (first | (with_reducible first | exact HB.out | apply below_alloc | apply pw_below_drewN | apply below_drew1 | refine below_set ?_ GE311.out) | exact HB.out)⟩⟩
                          · rw [if_neg c20] at H
                            exact absurd H (by simp)
                        · rw [if_neg c19] at H
                          exact absurd H (by simp)
                      · replace c17 := Bool.eq_false_iff.mpr c17
                        subst c17
                        have H1 : (if ((rd_T78 l0 x20_2).f1) = a1 then ((impl_isLife.f ((rd_T78 l0 x20_2).f0) ((rd_T78 l0 x20_2).f1) ((rd_T78 l0 x20_2).f2) ((rd_T78 l0 x20_2).f3) ((rd_T78 l0 x20_2).f4) ((rd_T78 l0 x20_2).f5)).bind fun t314 => (if t314 = true then (if x6_2 = true then (impl_DownOf.l0 kj12 l0 a1 x5_2 true (((rd_T78 l0 x20_2).f2) == 1) l0 (l0.length : Int) (wrap64 (x20_2 + 1))) else (impl_DownOf.l0 kj12 l0 a1 x5_2 (((rd_T78 l0 x20_2).f2) == 1) (((rd_T78 l0 x20_2).f2) == 1) l0 (l0.length : Int) (wrap64 (x20_2 + 1)))) else (impl_DownOf.l0 kj12 l0 a1 x5_2 x6_2 x7_2 l0 (l0.length : Int) (wrap64 (x20_2 + 1))))) else (impl_DownOf.l0 kj12 l0 a1 x5_2 x6_2 x7_2 l0 (l0.length : Int) (wrap64 (x20_2 + 1)))) = some r := by rw [if_neg (show ¬ (false = true) by decide)] at H; exact H
                        clear H
                        have H := H1
                        clear H1
                        by_cases c35 : ((rd_T78 l0 x20_2).f1) = a1
                        · rw [if_pos c35] at H
                          have c35b0 : (((rd_T78 l0 x20_2).f1) == a1) = true := beq_iff_eq.mpr c35
                          have c35b1 : (((rd_T78 l0 x20_2).f1) != a1) = false := bne_eq_false_iff_eq.mpr c35
                          clear c35
                          replace H := Option.bind_eq_some_iff.mp H
                          obtain ⟨t314, A360, H⟩ := H
                          replace H : (if t314 = true then (if x6_2 = true then (impl_DownOf.l0 kj12 l0 a1 x5_2 true (((rd_T78 l0 x20_2).f2) == 1) l0 (l0.length : Int) (wrap64 (x20_2 + 1))) else (impl_DownOf.l0 kj12 l0 a1 x5_2 (((rd_T78 l0 x20_2).f2) == 1) (((rd_T78 l0 x20_2).f2) == 1) l0 (l0.length : Int) (wrap64 (x20_2 + 1)))) else (impl_DownOf.l0 kj12 l0 a1 x5_2 x6_2 x7_2 l0 (l0.length : Int) (wrap64 (x20_2 + 1)))) = some r := H
                          have A36 := Aside0.mk A360
                          clear A360
                          by_cases c37 : t314 = true
                          · subst c37
                            have H1 : (if x6_2 = true then (impl_DownOf.l0 kj12 l0 a1 x5_2 true (((rd_T78 l0 x20_2).f2) == 1) l0 (l0.length : Int) (wrap64 (x20_2 + 1))) else (impl_DownOf.l0 kj12 l0 a1 x5_2 (((rd_T78 l0 x20_2).f2) == 1) (((rd_T78 l0 x20_2).f2) == 1) l0 (l0.length : Int) (wrap64 (x20_2 + 1)))) = some r := by rw [if_pos rfl] at H; exact H
                            clear H
                            have H := H1
                            clear H1
                            by_cases c38 : x6_2 = true
                            · subst c38
                              have H1 : (impl_DownOf.l0 kj12 l0 a1 x5_2 true (((rd_T78 l0 x20_2).f2) == 1) l0 (l0.length : Int) (wrap64 (x20_2 + 1))) = some r := by rw [if_pos rfl] at H; exact H
                              clear H
                              have H := H1
                              clear H1
                              have H' := Aside0.mk H
                              clear H
                              have hcz39_0 : wc.cell? ⟨gb311, 0, none⟩ = some (.int .i64 ((rd_T78 l0 x20_2).f0)) := (blk_cell BK311.out 0).trans rfl
                              have hcz39_1 : wc.cell? ⟨gb311, 1, none⟩ = some (.int .i64 ((rd_T78 l0 x20_2).f1)) := (blk_cell BK311.out 1).trans rfl
                              have hcz39_2 : wc.cell? ⟨gb311, 2, none⟩ = some (.int .i64 ((rd_T78 l0 x20_2).f2)) := (blk_cell BK311.out 2).trans rfl
                              have hcz39_3 : wc.cell? ⟨gb311, 3, none⟩ = some (.int .i64 ((rd_T78 l0 x20_2).f3)) := (blk_cell BK311.out 3).trans rfl
                              have hcz39_4 : wc.cell? ⟨gb311, 4, none⟩ = some (.int .i64 ((rd_T78 l0 x20_2).f4)) := (blk_cell BK311.out 4).trans rfl
                              have hcz39_5 : wc.cell? ⟨gb311, 5, none⟩ = some (.int .i64 ((rd_T78 l0 x20_2).f5)) := (blk_cell BK311.out 5).trans rfl
                              have hfz39_0 := blk_frozen BK311.out 0
                              have hfz39_1 := blk_frozen BK311.out 1
                              have hfz39_2 := blk_frozen BK311.out 2
                              have hfz39_3 := blk_frozen BK311.out 3
                              have hfz39_4 := blk_frozen BK311.out 4
                              have hfz39_5 := blk_frozen BK311.out 5
                              go_wp2_with (first | (go_at_call 74; (with_reducible refine (impl_isLife.calls ((rd_T78 l0 x20_2).f0) ((rd_T78 l0 x20_2).f1) ((rd_T78 l0 x20_2).f2) ((rd_T78 l0 x20_2).f3) ((rd_T78 l0 x20_2).f4) ((rd_T78 l0 x20_2).f5) true _ A36.out).mono ?_); rintro e w40 ⟨rfl, hb⟩; have n0_ := Aside0.mk (blk_below (g := gb311) (o := .cells #[.int .i64 ((rd_T78 l0 x20_2).f0), .int .i64 ((rd_T78 l0 x20_2).f1), .int .i64 ((rd_T78 l0 x20_2).f2), .int .i64 ((rd_T78 l0 x20_2).f3), .int .i64 ((rd_T78 l0 x20_2).f4), .int .i64 ((rd_T78 l0 x20_2).f5)] 78 (0, 0)) (by (with_reducible repeat (first | refine blk_drewN ?_ _ | refine blk_drew ?_ | refine blk_alloc ?_ _)); exact BK311.out) hb); have n1_ := Aside0.mk (below_step (by repeat (first | (with_reducible first | exact HB.out | apply below_alloc | apply pw_below_drewN | apply below_drew1 | refine below_set ?_ GE311.out) | exact HB.out)) hb); clear BK311; clear HB; have BK311 := n0_; have HB := n1_; clear n0_ n1_; (try clear hb); (try clear hb2); (try clear hk); (try clear hi); have hcz41_0 : w40.cell? ⟨gb311, 0, none⟩ = some (.int .i64 ((rd_T78 l0 x20_2).f0)) := (blk_cell BK311.out 0).trans rfl; have hcz41_1 : w40.cell? ⟨gb311, 1, none⟩ = some (.int .i64 ((rd_T78 l0 x20_2).f1)) := (blk_cell BK311.out 1).trans rfl; have hcz41_2 : w40.cell? ⟨gb311, 2, none⟩ = some (.int .i64 ((rd_T78 l0 x20_2).f2)) := (blk_cell BK311.out 2).trans rfl; have hcz41_3 : w40.cell? ⟨gb311, 3, none⟩ = some (.int .i64 ((rd_T78 l0 x20_2).f3)) := (blk_cell BK311.out 3).trans rfl; have hcz41_4 : w40.cell? ⟨gb311, 4, none⟩ = some (.int .i64 ((rd_T78 l0 x20_2).f4)) := (blk_cell BK311.out 4).trans rfl; have hcz41_5 : w40.cell? ⟨gb311, 5, none⟩ = some (.int .i64 ((rd_T78 l0 x20_2).f5)) := (blk_cell BK311.out 5).trans rfl; have hfz41_0 := blk_frozen BK311.out 0; have hfz41_1 := blk_frozen BK311.out 1; have hfz41_2 := blk_frozen BK311.out 2; have hfz41_3 := blk_frozen BK311.out 3; have hfz41_4 := blk_frozen BK311.out 4; have hfz41_5 := blk_frozen BK311.out 5))
                              repeat (go_quiet (first | (go_at_call 74; (with_reducible refine (impl_isLife.calls ((rd_T78 l0 x20_2).f0) ((rd_T78 l0 x20_2).f1) ((rd_T78 l0 x20_2).f2) ((rd_T78 l0 x20_2).f3) ((rd_T78 l0 x20_2).f4) ((rd_T78 l0 x20_2).f5) true _ A36.out).mono ?_); rintro e w40 ⟨rfl, hb⟩; have n0_ := Aside0.mk (blk_below (g := gb311) (o := .cells #[.int .i64 ((rd_T78 l0 x20_2).f0), .int .i64 ((rd_T78 l0 x20_2).f1), .int .i64 ((rd_T78 l0 x20_2).f2), .int .i64 ((rd_T78 l0 x20_2).f3), .int .i64 ((rd_T78 l0 x20_2).f4), .int .i64 ((rd_T78 l0 x20_2).f5)] 78 (0, 0)) (by (with_reducible repeat (first | refine blk_drewN ?_ _ | refine blk_drew ?_ | refine blk_alloc ?_ _)); exact BK311.out) hb); have n1_ := Aside0.mk (below_step (by repeat (first | (with_reducible first | exact HB.out | apply below_alloc | apply pw_below_drewN | apply below_drew1 | refine below_set ?_ GE311.out) | exact HB.out)) hb); clear BK311; clear HB; have BK311 := n0_; have HB := n1_; clear n0_ n1_; (try clear hb); (try clear hb2); (try clear hk); (try clear hi); have hcz41_0 : w40.cell? ⟨gb311, 0, none⟩ = some (.int .i64 ((rd_T78 l0 x20_2).f0)) := (blk_cell BK311.out 0).trans rfl; have hcz41_1 : w40.cell? ⟨gb311, 1, none⟩ = some (.int .i64 ((rd_T78 l0 x20_2).f1)) := (blk_cell BK311.out 1).trans rfl; have hcz41_2 : w40.cell? ⟨gb311, 2, none⟩ = some (.int .i64 ((rd_T78 l0 x20_2).f2)) := (blk_cell BK311.out 2).trans rfl; have hcz41_3 : w40.cell? ⟨gb311, 3, none⟩ = some (.int .i64 ((rd_T78 l0 x20_2).f3)) := (blk_cell BK311.out 3).trans rfl; have hcz41_4 : w40.cell? ⟨gb311, 4, none⟩ = some (.int .i64 ((rd_T78 l0 x20_2).f4)) := (blk_cell BK311.out 4).trans rfl; have hcz41_5 : w40.cell? ⟨gb311, 5, none⟩ = some (.int .i64 ((rd_T78 l0 x20_2).f5)) := (blk_cell BK311.out 5).trans rfl; have hfz41_0 := blk_frozen BK311.out 0; have hfz41_1 := blk_frozen BK311.out 1; have hfz41_2 := blk_frozen BK311.out 2; have hfz41_3 := blk_frozen BK311.out 3; have hfz41_4 := blk_frozen BK311.out 4; have hfz41_5 := blk_frozen BK311.out 5)); try go_wp2_with (first | (go_at_call 74; (with_reducible refine (impl_isLife.calls ((rd_T78 l0 x20_2).f0) ((rd_T78 l0 x20_2).f1) ((rd_T78 l0 x20_2).f2) ((rd_T78 l0 x20_2).f3) ((rd_T78 l0 x20_2).f4) ((rd_T78 l0 x20_2).f5) true _ A36.out).mono ?_); rintro e w40 ⟨rfl, hb⟩; have n0_ := Aside0.mk (blk_below (g := gb311) (o := .cells #[.int .i64 ((rd_T78 l0 x20_2).f0), .int .i64 ((rd_T78 l0 x20_2).f1), .int .i64 ((rd_T78 l0 x20_2).f2), .int .i64 ((rd_T78 l0 x20_2).f3), .int .i64 ((rd_T78 l0 x20_2).f4), .int .i64 ((rd_T78 l0 x20_2).f5)] 78 (0, 0)) (by (with_reducible repeat (first | refine blk_drewN ?_ _ | refine blk_drew ?_ | refine blk_alloc ?_ _)); exact BK311.out) hb); have n1_ := Aside0.mk (below_step (by repeat (first | (with_reducible first | exact HB.out | apply below_alloc | apply pw_below_drewN | apply below_drew1 | refine below_set ?_ GE311.out) | exact HB.out)) hb); clear BK311; clear HB; have BK311 := n0_; have HB := n1_; clear n0_ n1_; (try clear hb); (try clear hb2); (try clear hk); (try clear hi); have hcz41_0 : w40.cell? ⟨gb311, 0, none⟩ = some (.int .i64 ((rd_T78 l0 x20_2).f0)) := (blk_cell BK311.out 0).trans rfl; have hcz41_1 : w40.cell? ⟨gb311, 1, none⟩ = some (.int .i64 ((rd_T78 l0 x20_2).f1)) := (blk_cell BK311.out 1).trans rfl; have hcz41_2 : w40.cell? ⟨gb311, 2, none⟩ = some (.int .i64 ((rd_T78 l0 x20_2).f2)) := (blk_cell BK311.out 2).trans rfl; have hcz41_3 : w40.cell? ⟨gb311, 3, none⟩ = some (.int .i64 ((rd_T78 l0 x20_2).f3)) := (blk_cell BK311.out 3).trans rfl; have hcz41_4 : w40.cell? ⟨gb311, 4, none⟩ = some (.int .i64 ((rd_T78 l0 x20_2).f4)) := (blk_cell BK311.out 4).trans rfl; have hcz41_5 : w40.cell? ⟨gb311, 5, none⟩ = some (.int .i64 ((rd_T78 l0 x20_2).f5)) := (blk_cell BK311.out 5).trans rfl; have hfz41_0 := blk_frozen BK311.out 0; have hfz41_1 := blk_frozen BK311.out 1; have hfz41_2 := blk_frozen BK311.out 2; have hfz41_3 := blk_frozen BK311.out 3; have hfz41_4 := blk_frozen BK311.out 4; have hfz41_5 := blk_frozen BK311.out 5)))
                              go_roundg kj12
                              case measure => have := HJ2.out; have := HK2.out; have := HJ12.out; omega
                              case rel => exact ⟨(x5_2), (true), ((((rd_T78 l0 x20_2).f2) == 1)), (wrap64 (x20_2 + 1)), (by first | rfl | (simp; done) | (simp [*]; done)), (by first | rfl | (simp; done) | (simp [*]; done)), (by first | rfl | (simp; done) | (simp [*]; done)), (by first | rfl | (simp; done) | (simp [*]; done)), H', ⟨by have := HJ2.out; have := HK2.out; have := HJ12.out; omega⟩, ⟨by repeat (first | (with_reducible first | exact HB.out | apply below_alloc | apply pw_below_drewN | apply below_drew1 | refine below_set ?_ GE311.out) | exact HB.out)⟩⟩
                            · replace c38 := Bool.eq_false_iff.mpr c38
                              subst c38
                              have H1 : (impl_DownOf.l0 kj12 l0 a1 x5_2 (((rd_T78 l0 x20_2).f2) == 1) (((rd_T78 l0 x20_2).f2) == 1) l0 (l0.length : Int) (wrap64 (x20_2 + 1))) = some r := by rw [if_neg (show ¬ (false = true) by decide)] at H; exact H
                              clear H
                              have H := H1
                              clear H1
                              have H' := Aside0.mk H
                              clear H
                              have hcz42_0 : wc.cell? ⟨gb311, 0, none⟩ = some (.int .i64 ((rd_T78 l0 x20_2).f0)) := (blk_cell BK311.out 0).trans rfl
                              have hcz42_1 : wc.cell? ⟨gb311, 1, none⟩ = some (.int .i64 ((rd_T78 l0 x20_2).f1)) := (blk_cell BK311.out 1).trans rfl
                              have hcz42_2 : wc.cell? ⟨gb311, 2, none⟩ = some (.int .i64 ((rd_T78 l0 x20_2).f2)) := (blk_cell BK311.out 2).trans rfl
                              have hcz42_3 : wc.cell? ⟨gb311, 3, none⟩ = some (.int .i64 ((rd_T78 l0 x20_2).f3)) := (blk_cell BK311.out 3).trans rfl
                              have hcz42_4 : wc.cell? ⟨gb311, 4, none⟩ = some (.int .i64 ((rd_T78 l0 x20_2).f4)) := (blk_cell BK311.out 4).trans rfl
                              have hcz42_5 : wc.cell? ⟨gb311, 5, none⟩ = some (.int .i64 ((rd_T78 l0 x20_2).f5)) := (blk_cell BK311.out 5).trans rfl
                              have hfz42_0 := blk_frozen BK311.out 0
                              have hfz42_1 := blk_frozen BK311.out 1
                              have hfz42_2 := blk_frozen BK311.out 2
                              have hfz42_3 := blk_frozen BK311.out 3
                              have hfz42_4 := blk_frozen BK311.out 4
                              have hfz42_5 := blk_frozen BK311.out 5
                              go_wp2_with (first | (go_at_call 74; (with_reducible refine (impl_isLife.calls ((rd_T78 l0 x20_2).f0) ((rd_T78 l0 x20_2).f1) ((rd_T78 l0 x20_2).f2) ((rd_T78 l0 x20_2).f3) ((rd_T78 l0 x20_2).f4) ((rd_T78 l0 x20_2).f5) true _ A36.out).mono ?_); rintro e w43 ⟨rfl, hb⟩; have n0_ := Aside0.mk (blk_below (g := gb311) (o := .cells #[.int .i64 ((rd_T78 l0 x20_2).f0), .int .i64 ((rd_T78 l0 x20_2).f1), .int .i64 ((rd_T78 l0 x20_2).f2), .int .i64 ((rd_T78 l0 x20_2).f3), .int .i64 ((rd_T78 l0 x20_2).f4), .int .i64 ((rd_T78 l0 x20_2).f5)] 78 (0, 0)) (by (with_reducible repeat (first | refine blk_drewN ?_ _ | refine blk_drew ?_ | refine blk_alloc ?_ _)); exact BK311.out) hb); have n1_ := Aside0.mk (below_step (by repeat (first | (with_reducible first | exact HB.out | apply below_alloc | apply pw_below_drewN | apply below_drew1 | refine below_set ?_ GE311.out) | exact HB.out)) hb); clear BK311; clear HB; have BK311 := n0_; have HB := n1_; clear n0_ n1_; (try clear hb); (try clear hb2); (try clear hk); (try clear hi); have hcz44_0 : w43.cell? ⟨gb311, 0, none⟩ = some (.int .i64 ((rd_T78 l0 x20_2).f0)) := (blk_cell BK311.out 0).trans rfl; have hcz44_1 : w43.cell? ⟨gb311, 1, none⟩ = some (.int .i64 ((rd_T78 l0 x20_2).f1)) := (blk_cell BK311.out 1).trans rfl; have hcz44_2 : w43.cell? ⟨gb311, 2, none⟩ = some (.int .i64 ((rd_T78 l0 x20_2).f2)) := (blk_cell BK311.out 2).trans rfl; have hcz44_3 : w43.cell? ⟨gb311, 3, none⟩ = some (.int .i64 ((rd_T78 l0 x20_2).f3)) := (blk_cell BK311.out 3).trans rfl; have hcz44_4 : w43.cell? ⟨gb311, 4, none⟩ = some (.int .i64 ((rd_T78 l0 x20_2).f4)) := (blk_cell BK311.out 4).trans rfl; have hcz44_5 : w43.cell? ⟨gb311, 5, none⟩ = some (.int .i64 ((rd_T78 l0 x20_2).f5)) := (blk_cell BK311.out 5).trans rfl; have hfz44_0 := blk_frozen BK311.out 0; have hfz44_1 := blk_frozen BK311.out 1; have hfz44_2 := blk_frozen BK311.out 2; have hfz44_3 := blk_frozen BK311.out 3; have hfz44_4 := blk_frozen BK311.out 4; have hfz44_5 := blk_frozen BK311.out 5))
                              repeat (go_quiet (first | (go_at_call 74; (with_reducible refine (impl_isLife.calls ((rd_T78 l0 x20_2).f0) ((rd_T78 l0 x20_2).f1) ((rd_T78 l0 x20_2).f2) ((rd_T78 l0 x20_2).f3) ((rd_T78 l0 x20_2).f4) ((rd_T78 l0 x20_2).f5) true _ A36.out).mono ?_); rintro e w43 ⟨rfl, hb⟩; have n0_ := Aside0.mk (blk_below (g := gb311) (o := .cells #[.int .i64 ((rd_T78 l0 x20_2).f0), .int .i64 ((rd_T78 l0 x20_2).f1), .int .i64 ((rd_T78 l0 x20_2).f2), .int .i64 ((rd_T78 l0 x20_2).f3), .int .i64 ((rd_T78 l0 x20_2).f4), .int .i64 ((rd_T78 l0 x20_2).f5)] 78 (0, 0)) (by (with_reducible repeat (first | refine blk_drewN ?_ _ | refine blk_drew ?_ | refine blk_alloc ?_ _)); exact BK311.out) hb); have n1_ := Aside0.mk (below_step (by repeat (first | (with_reducible first | exact HB.out | apply below_alloc | apply pw_below_drewN | apply below_drew1 | refine below_set ?_ GE311.out) | exact HB.out)) hb); clear BK311; clear HB; have BK311 := n0_; have HB := n1_; clear n0_ n1_; (try clear hb); (try clear hb2); (try clear hk); (try clear hi); have hcz44_0 : w43.cell? ⟨gb311, 0, none⟩ = some (.int .i64 ((rd_T78 l0 x20_2).f0)) := (blk_cell BK311.out 0).trans rfl; have hcz44_1 : w43.cell? ⟨gb311, 1, none⟩ = some (.int .i64 ((rd_T78 l0 x20_2).f1)) := (blk_cell BK311.out 1).trans rfl; have hcz44_2 : w43.cell? ⟨gb311, 2, none⟩ = some (.int .i64 ((rd_T78 l0 x20_2).f2)) := (blk_cell BK311.out 2).trans rfl; have hcz44_3 : w43.cell? ⟨gb311, 3, none⟩ = some (.int .i64 ((rd_T78 l0 x20_2).f3)) := (blk_cell BK311.out 3).trans rfl; have hcz44_4 : w43.cell? ⟨gb311, 4, none⟩ = some (.int .i64 ((rd_T78 l0 x20_2).f4)) := (blk_cell BK311.out 4).trans rfl; have hcz44_5 : w43.cell? ⟨gb311, 5, none⟩ = some (.int .i64 ((rd_T78 l0 x20_2).f5)) := (blk_cell BK311.out 5).trans rfl; have hfz44_0 := blk_frozen BK311.out 0; have hfz44_1 := blk_frozen BK311.out 1; have hfz44_2 := blk_frozen BK311.out 2; have hfz44_3 := blk_frozen BK311.out 3; have hfz44_4 := blk_frozen BK311.out 4; have hfz44_5 := blk_frozen BK311.out 5)); try go_wp2_with (first | (go_at_call 74; (with_reducible refine (impl_isLife.calls ((rd_T78 l0 x20_2).f0) ((rd_T78 l0 x20_2).f1) ((rd_T78 l0 x20_2).f2) ((rd_T78 l0 x20_2).f3) ((rd_T78 l0 x20_2).f4) ((rd_T78 l0 x20_2).f5) true _ A36.out).mono ?_); rintro e w43 ⟨rfl, hb⟩; have n0_ := Aside0.mk (blk_below (g := gb311) (o := .cells #[.int .i64 ((rd_T78 l0 x20_2).f0), .int .i64 ((rd_T78 l0 x20_2).f1), .int .i64 ((rd_T78 l0 x20_2).f2), .int .i64 ((rd_T78 l0 x20_2).f3), .int .i64 ((rd_T78 l0 x20_2).f4), .int .i64 ((rd_T78 l0 x20_2).f5)] 78 (0, 0)) (by (with_reducible repeat (first | refine blk_drewN ?_ _ | refine blk_drew ?_ | refine blk_alloc ?_ _)); exact BK311.out) hb); have n1_ := Aside0.mk (below_step (by repeat (first | (with_reducible first | exact HB.out | apply below_alloc | apply pw_below_drewN | apply below_drew1 | refine below_set ?_ GE311.out) | exact HB.out)) hb); clear BK311; clear HB; have BK311 := n0_; have HB := n1_; clear n0_ n1_; (try clear hb); (try clear hb2); (try clear hk); (try clear hi); have hcz44_0 : w43.cell? ⟨gb311, 0, none⟩ = some (.int .i64 ((rd_T78 l0 x20_2).f0)) := (blk_cell BK311.out 0).trans rfl; have hcz44_1 : w43.cell? ⟨gb311, 1, none⟩ = some (.int .i64 ((rd_T78 l0 x20_2).f1)) := (blk_cell BK311.out 1).trans rfl; have hcz44_2 : w43.cell? ⟨gb311, 2, none⟩ = some (.int .i64 ((rd_T78 l0 x20_2).f2)) := (blk_cell BK311.out 2).trans rfl; have hcz44_3 : w43.cell? ⟨gb311, 3, none⟩ = some (.int .i64 ((rd_T78 l0 x20_2).f3)) := (blk_cell BK311.out 3).trans rfl; have hcz44_4 : w43.cell? ⟨gb311, 4, none⟩ = some (.int .i64 ((rd_T78 l0 x20_2).f4)) := (blk_cell BK311.out 4).trans rfl; have hcz44_5 : w43.cell? ⟨gb311, 5, none⟩ = some (.int .i64 ((rd_T78 l0 x20_2).f5)) := (blk_cell BK311.out 5).trans rfl; have hfz44_0 := blk_frozen BK311.out 0; have hfz44_1 := blk_frozen BK311.out 1; have hfz44_2 := blk_frozen BK311.out 2; have hfz44_3 := blk_frozen BK311.out 3; have hfz44_4 := blk_frozen BK311.out 4; have hfz44_5 := blk_frozen BK311.out 5)))
                              go_roundg kj12
                              case measure => have := HJ2.out; have := HK2.out; have := HJ12.out; omega
                              case rel => exact ⟨(x5_2), ((((rd_T78 l0 x20_2).f2) == 1)), ((((rd_T78 l0 x20_2).f2) == 1)), (wrap64 (x20_2 + 1)), (by first | rfl | (simp; done) | (simp [*]; done)), (by first | rfl | (simp; done) | (simp [*]; done)), (by first | rfl | (simp; done) | (simp [*]; done)), (by first | rfl | (simp; done) | (simp [*]; done)), H', ⟨by have := HJ2.out; have := HK2.out; have := HJ12.out; omega⟩, ⟨by repeat (first | (with_reducible first | exact HB.out | apply below_alloc | apply pw_below_drewN | apply below_drew1 | refine below_set ?_ GE311.out) | exact HB.out)⟩⟩
                          · replace c37 := Bool.eq_false_iff.mpr c37
                            subst c37
                            have H1 : (impl_DownOf.l0 kj12 l0 a1 x5_2 x6_2 x7_2 l0 (l0.length : Int) (wrap64 (x20_2 + 1))) = some r := by rw [if_neg (show ¬ (false = true) by decide)] at H; exact H
                            clear H
                            have H := H1
                            clear H1
                            have H' := Aside0.mk H
                            clear H
                            have hcz45_0 : wc.cell? ⟨gb311, 0, none⟩ = some (.int .i64 ((rd_T78 l0 x20_2).f0)) := (blk_cell BK311.out 0).trans rfl
                            have hcz45_1 : wc.cell? ⟨gb311, 1, none⟩ = some (.int .i64 ((rd_T78 l0 x20_2).f1)) := (blk_cell BK311.out 1).trans rfl
                            have hcz45_2 : wc.cell? ⟨gb311, 2, none⟩ = some (.int .i64 ((rd_T78 l0 x20_2).f2)) := (blk_cell BK311.out 2).trans rfl
                            have hcz45_3 : wc.cell? ⟨gb311, 3, none⟩ = some (.int .i64 ((rd_T78 l0 x20_2).f3)) := (blk_cell BK311.out 3).trans rfl
                            have hcz45_4 : wc.cell? ⟨gb311, 4, none⟩ = some (.int .i64 ((rd_T78 l0 x20_2).f4)) := (blk_cell BK311.out 4).trans rfl
                            have hcz45_5 : wc.cell? ⟨gb311, 5, none⟩ = some (.int .i64 ((rd_T78 l0 x20_2).f5)) := (blk_cell BK311.out 5).trans rfl
                            have hfz45_0 := blk_frozen BK311.out 0
                            have hfz45_1 := blk_frozen BK311.out 1
                            have hfz45_2 := blk_frozen BK311.out 2
                            have hfz45_3 := blk_frozen BK311.out 3
                            have hfz45_4 := blk_frozen BK311.out 4
                            have hfz45_5 := blk_frozen BK311.out 5
                            go_wp2_with (first | (go_at_call 74; (with_reducible refine (impl_isLife.calls ((rd_T78 l0 x20_2).f0) ((rd_T78 l0 x20_2).f1) ((rd_T78 l0 x20_2).f2) ((rd_T78 l0 x20_2).f3) ((rd_T78 l0 x20_2).f4) ((rd_T78 l0 x20_2).f5) false _ A36.out).mono ?_); rintro e w46 ⟨rfl, hb⟩; have n0_ := Aside0.mk (blk_below (g := gb311) (o := .cells #[.int .i64 ((rd_T78 l0 x20_2).f0), .int .i64 ((rd_T78 l0 x20_2).f1), .int .i64 ((rd_T78 l0 x20_2).f2), .int .i64 ((rd_T78 l0 x20_2).f3), .int .i64 ((rd_T78 l0 x20_2).f4), .int .i64 ((rd_T78 l0 x20_2).f5)] 78 (0, 0)) (by (with_reducible repeat (first | refine blk_drewN ?_ _ | refine blk_drew ?_ | refine blk_alloc ?_ _)); exact BK311.out) hb); have n1_ := Aside0.mk (below_step (by repeat (first | (with_reducible first | exact HB.out | apply below_alloc | apply pw_below_drewN | apply below_drew1 | refine below_set ?_ GE311.out) | exact HB.out)) hb); clear BK311; clear HB; have BK311 := n0_; have HB := n1_; clear n0_ n1_; (try clear hb); (try clear hb2); (try clear hk); (try clear hi)))
                            repeat (go_quiet (first | (go_at_call 74; (with_reducible refine (impl_isLife.calls ((rd_T78 l0 x20_2).f0) ((rd_T78 l0 x20_2).f1) ((rd_T78 l0 x20_2).f2) ((rd_T78 l0 x20_2).f3) ((rd_T78 l0 x20_2).f4) ((rd_T78 l0 x20_2).f5) false _ A36.out).mono ?_); rintro e w46 ⟨rfl, hb⟩; have n0_ := Aside0.mk (blk_below (g := gb311) (o := .cells #[.int .i64 ((rd_T78 l0 x20_2).f0), .int .i64 ((rd_T78 l0 x20_2).f1), .int .i64 ((rd_T78 l0 x20_2).f2), .int .i64 ((rd_T78 l0 x20_2).f3), .int .i64 ((rd_T78 l0 x20_2).f4), .int .i64 ((rd_T78 l0 x20_2).f5)] 78 (0, 0)) (by (with_reducible repeat (first | refine blk_drewN ?_ _ | refine blk_drew ?_ | refine blk_alloc ?_ _)); exact BK311.out) hb); have n1_ := Aside0.mk (below_step (by repeat (first | (with_reducible first | exact HB.out | apply below_alloc | apply pw_below_drewN | apply below_drew1 | refine below_set ?_ GE311.out) | exact HB.out)) hb); clear BK311; clear HB; have BK311 := n0_; have HB := n1_; clear n0_ n1_; (try clear hb); (try clear hb2); (try clear hk); (try clear hi))); try go_wp2_with (first | (go_at_call 74; (with_reducible refine (impl_isLife.calls ((rd_T78 l0 x20_2).f0) ((rd_T78 l0 x20_2).f1) ((rd_T78 l0 x20_2).f2) ((rd_T78 l0 x20_2).f3) ((rd_T78 l0 x20_2).f4) ((rd_T78 l0 x20_2).f5) false _ A36.out).mono ?_); rintro e w46 ⟨rfl, hb⟩; have n0_ := Aside0.mk (blk_below (g := gb311) (o := .cells #[.int .i64 ((rd_T78 l0 x20_2).f0), .int .i64 ((rd_T78 l0 x20_2).f1), .int .i64 ((rd_T78 l0 x20_2).f2), .int .i64 ((rd_T78 l0 x20_2).f3), .int .i64 ((rd_T78 l0 x20_2).f4), .int .i64 ((rd_T78 l0 x20_2).f5)] 78 (0, 0)) (by (with_reducible repeat (first | refine blk_drewN ?_ _ | refine blk_drew ?_ | refine blk_alloc ?_ _)); exact BK311.out) hb); have n1_ := Aside0.mk (below_step (by repeat (first | (with_reducible first | exact HB.out | apply below_alloc | apply pw_below_drewN | apply below_drew1 | refine below_set ?_ GE311.out) | exact HB.out)) hb); clear BK311; clear HB; have BK311 := n0_; have HB := n1_; clear n0_ n1_; (try clear hb); (try clear hb2); (try clear hk); (try clear hi))))
                            go_roundg kj12
                            case measure => have := HJ2.out; have := HK2.out; have := HJ12.out; omega
                            case rel => exact ⟨(x5_2), (x6_2), (x7_2), (wrap64 (x20_2 + 1)), (by first | rfl | (simp; done) | (simp [*]; done)), (by first | rfl | (simp; done) | (simp [*]; done)), (by first | rfl | (simp; done) | (simp [*]; done)), (by first | rfl | (simp; done) | (simp [*]; done)), H', ⟨by have := HJ2.out; have := HK2.out; have := HJ12.out; omega⟩, ⟨by repeat (first | (with_reducible first | exact HB.out | apply below_alloc | apply pw_below_drewN | apply below_drew1 | refine below_set ?_ GE311.out) | exact HB.out)⟩⟩
                        · rw [if_neg c35] at H
                          have c35b0 : (((rd_T78 l0 x20_2).f1) == a1) = false := beq_eq_false_iff_ne.mpr c35
                          have c35b1 : (((rd_T78 l0 x20_2).f1) != a1) = true := bne_iff_ne.mpr c35
                          have H' := Aside0.mk H
                          clear H
                          have hcz47_0 : wc.cell? ⟨gb311, 0, none⟩ = some (.int .i64 ((rd_T78 l0 x20_2).f0)) := (blk_cell BK311.out 0).trans rfl
                          have hcz47_1 : wc.cell? ⟨gb311, 1, none⟩ = some (.int .i64 ((rd_T78 l0 x20_2).f1)) := (blk_cell BK311.out 1).trans rfl
                          have hcz47_2 : wc.cell? ⟨gb311, 2, none⟩ = some (.int .i64 ((rd_T78 l0 x20_2).f2)) := (blk_cell BK311.out 2).trans rfl
                          have hcz47_3 : wc.cell? ⟨gb311, 3, none⟩ = some (.int .i64 ((rd_T78 l0 x20_2).f3)) := (blk_cell BK311.out 3).trans rfl
                          have hcz47_4 : wc.cell? ⟨gb311, 4, none⟩ = some (.int .i64 ((rd_T78 l0 x20_2).f4)) := (blk_cell BK311.out 4).trans rfl
                          have hcz47_5 : wc.cell? ⟨gb311, 5, none⟩ = some (.int .i64 ((rd_T78 l0 x20_2).f5)) := (blk_cell BK311.out 5).trans rfl
                          have hfz47_0 := blk_frozen BK311.out 0
                          have hfz47_1 := blk_frozen BK311.out 1
                          have hfz47_2 := blk_frozen BK311.out 2
                          have hfz47_3 := blk_frozen BK311.out 3
                          have hfz47_4 := blk_frozen BK311.out 4
                          have hfz47_5 := blk_frozen BK311.out 5
                          go_wp2
                          repeat (go_quiet (fail); try go_wp2)
                          go_roundg kj12
                          case measure => have := HJ2.out; have := HK2.out; have := HJ12.out; omega
                          case rel => exact ⟨(x5_2), (x6_2), (x7_2), (wrap64 (x20_2 + 1)), (by first | rfl | (simp; done) | (simp [*]; done)), (by first | rfl | (simp; done) | (simp [*]; done)), (by first | rfl | (simp; done) | (simp [*]; done)), (by first | rfl | (simp; done) | (simp [*]; done)), H', ⟨by have := HJ2.out; have := HK2.out; have := HJ12.out; omega⟩, ⟨by repeat (first | (with_reducible first | exact HB.out | apply below_alloc | apply pw_below_drewN | apply below_drew1 | refine below_set ?_ GE311.out) | exact HB.out)⟩⟩
                · rw [if_neg c12] at H
                  exact absurd H (by simp)
              · rw [if_neg c11] at H
                exact absurd H (by simp)
            · rw [if_neg c10] at H
              have c10b0 : decide (x20_2 < (l0.length : Int)) = false := decide_eq_false c10
              clear c10
              by_cases c48 : x6_2 = true
              · subst c48
                have H1 : (some x5_2) = some r := by rw [if_pos rfl] at H; exact H
                clear H
                have H := H1
                clear H1
                obtain rfl := Option.some.inj H
                go_wp2
                repeat (go_quiet (fail); try go_wp2)
                go_ret
                exact ⟨by first | rfl | (simp [errW_none, errW_some] <;> rfl) | (simp [*, errW_none, errW_some] <;> rfl), by repeat (first | (with_reducible first | exact HB.out | apply below_alloc | apply pw_below_drewN | apply below_drew1) | exact HB.out)⟩
              · replace c48 := Bool.eq_false_iff.mpr c48
                subst c48
                have H1 : (some (-1)) = some r := by rw [if_neg (show ¬ (false = true) by decide)] at H; exact H
                clear H
                have H := H1
                clear H1
                obtain rfl := Option.some.inj H
                go_wp2
                repeat (go_quiet (fail); try go_wp2)
                go_ret
                exact ⟨by first | rfl | (simp [errW_none, errW_some] <;> rfl) | (simp [*, errW_none, errW_some] <;> rfl), by repeat (first | (with_reducible first | exact HB.out | apply below_alloc | apply pw_below_drewN | apply below_drew1) | exact HB.out)⟩

end Go.Proofs.Ytgcgdjldhjajaaa.A
namespace Go.Proofs.Ytgcgdjldhjajaaa.A
open Go.RowKit Go.Proofs.YtgcgdjldhjajaaaW.PrintWords Go.Proofs.YtgcgdjldhjajaaaW.PrintLast Go.Proofs.YtgcgdjldhjajaaaW.PrintMore
attribute [local go_sem] max2_int min2_int max_two min_two max_three min_three max_four min_four   -- for this text's walks alone
set_option linter.unusedVariables false
set_option linter.unusedSimpArgs false

/-! ### laws_FnExactDownOf: function 4 -/
def laws_FnExactDownOf.f (k : Nat) (l0 : List (S80)) (a1 : Int) : Option (Bool) := (laws_szRecS.f l0 1048576).bind fun t315 => (if t315 < 0 then (some true) else ((laws_toRecS.f k l0).bind fun t316 => ((spec_DownOf.f k t316 a1).bind fun t319 => ((laws_toRecS.f k l0).bind fun t320 => ((impl_DownOf.f k t320 a1).bind fun t323 => (if t323 = t319 then ((laws_toRecS.f k l0).bind fun t324 => ((laws_eqRecS.f k t320 t324).bind fun t327 => (if t327 = true then (some true) else (some false)))) else (some false)))))))
theorem laws_FnExactDownOf.mono : ∀ a0 a1 k, LeO (laws_FnExactDownOf.f k a0 a1) (laws_FnExactDownOf.f (k + 1) a0 a1) := by
  intro a0 a1 k
  unfold laws_FnExactDownOf.f
  repeat' first
      | (with_reducible exact impl_DownOf.mono _ _ _)
      | (with_reducible exact laws_eqRecS.mono _ _ _)
      | (with_reducible exact laws_toRecS.mono _ _)
      | (with_reducible exact spec_DownOf.mono _ _ _)
      | (with_reducible exact LeO.refl _)
      | (with_reducible exact LeO.none _)
      | (with_reducible refine LeO.ite ?_ ?_)
      | (with_reducible refine LeO.bind ?_ (fun _ => ?_))
      | exact impl_DownOf.mono _ _ _
      | exact laws_eqRecS.mono _ _ _
      | exact laws_toRecS.mono _ _
      | exact spec_DownOf.mono _ _ _
      | exact LeO.none _
      | refine LeO.ite ?_ ?_
      | refine LeO.bind ?_ (fun _ => ?_)
set_option maxHeartbeats 8000000 in
set_option maxRecDepth 100000 in
theorem laws_FnExactDownOf.calls (k : Nat) (A0 : Option Addr) (c0 : Nat) (l0 : List (S80)) (a1 : Int) (r : Bool) (w : World) (hr0 : Kd.C k80 w A0 l0.length l0) (hc0 : l0.length ≤ c0) (ht : r = true) (h : laws_FnExactDownOf.f k l0 a1 = some r) :
    Calls Try.prog 4 #[.slice A0 l0.length c0, .int .i64 a1] w fun e w' => e = .returned (.bool r) ∧ Below w.heap.size w w' := by
  have HR0 := Aside0.mk hr0
  have HC0 := Aside0.mk hc0
  clear hr0 hc0
  have HB := Aside0.mk (Below.refl w.heap.size w)
  have H : ((laws_szRecS.f l0 1048576).bind fun t315 => (if t315 < 0 then (some true) else ((laws_toRecS.f k l0).bind fun t316 => ((spec_DownOf.f k t316 a1).bind fun t319 => ((laws_toRecS.f k l0).bind fun t320 => ((impl_DownOf.f k t320 a1).bind fun t323 => (if t323 = t319 then ((laws_toRecS.f k l0).bind fun t324 => ((laws_eqRecS.f k t320 t324).bind fun t327 => (if t327 = true then (some true) else (some false)))) else (some false)))))))) = some r := h
  clear h
  replace H := Option.bind_eq_some_iff.mp H
  obtain ⟨t315, A30, H⟩ := H
  replace H : (if t315 < 0 then (some true) else ((laws_toRecS.f k l0).bind fun t316 => ((spec_DownOf.f k t316 a1).bind fun t319 => ((laws_toRecS.f k l0).bind fun t320 => ((impl_DownOf.f k t320 a1).bind fun t323 => (if t323 = t319 then ((laws_toRecS.f k l0).bind fun t324 => ((laws_eqRecS.f k t320 t324).bind fun t327 => (if t327 = true then (some true) else (some false)))) else (some false))))))) = some r := H
  have A3 := Aside0.mk A30
  clear A30
  by_cases c4 : t315 < 0
  · rw [if_pos c4] at H
    have c4b0 : decide (t315 < 0) = true := decide_eq_true c4
    clear c4
    clear ht
    obtain rfl := Option.some.inj H
    go_enter Try.func4, Try.ntmps4
    go_wp2_with (first | ((with_reducible refine gate_callee (f := 15) rfl ?_); refine goesL_ (some 11) rfl rfl Try.func15 (by kernel_rfl) rfl #[.slice A0 l0.length c0, .int .i64 1048576] rfl (by (try simp only [List.map_toArray, List.map_cons, List.map_nil]); first | done | rfl | (simp only [List.length_drop, List.length_take]; rfl)) ?_; (with_reducible refine (laws_szRecS.calls _ _ l0 1048576 t315 _ ?side1 ?side2 A3.out).mono ?_); (case side1 => repeat (first | exact HR0.out | (with_reducible refine Kd.C_alloc ?_ _) | (with_reducible refine Kd.C_drewN ?_ _) | (with_reducible refine Kd.C_drew ?_))); (case side2 => exact HC0.out); rintro e w' ⟨rfl, ⟨nd, rfl⟩⟩; refine ⟨_, rfl, ?_⟩))
    go_ret
    exact ⟨by first | rfl | (simp [errW_none, errW_some] <;> rfl) | (simp [*, errW_none, errW_some] <;> rfl), by repeat (first | (with_reducible first | exact HB.out | apply below_alloc | apply pw_below_drewN | apply below_drew1) | exact HB.out)⟩
  · rw [if_neg c4] at H
    have c4b0 : decide (t315 < 0) = false := decide_eq_false c4
    clear c4
    replace H := Option.bind_eq_some_iff.mp H
    obtain ⟨t316, A50, H⟩ := H
    replace H : ((spec_DownOf.f k t316 a1).bind fun t319 => ((laws_toRecS.f k l0).bind fun t320 => ((impl_DownOf.f k t320 a1).bind fun t323 => (if t323 = t319 then ((laws_toRecS.f k l0).bind fun t324 => ((laws_eqRecS.f k t320 t324).bind fun t327 => (if t327 = true then (some true) else (some false)))) else (some false))))) = some r := H
    have A5 := Aside0.mk A50
    clear A50
    replace H := Option.bind_eq_some_iff.mp H
    obtain ⟨t319, A60, H⟩ := H
    replace H : ((laws_toRecS.f k l0).bind fun t320 => ((impl_DownOf.f k t320 a1).bind fun t323 => (if t323 = t319 then ((laws_toRecS.f k l0).bind fun t324 => ((laws_eqRecS.f k t320 t324).bind fun t327 => (if t327 = true then (some true) else (some false)))) else (some false)))) = some r := H
    have A6 := Aside0.mk A60
    clear A60
    replace H := Option.bind_eq_some_iff.mp H
    obtain ⟨t320, A70, H⟩ := H
    replace H : ((impl_DownOf.f k t320 a1).bind fun t323 => (if t323 = t319 then ((laws_toRecS.f k l0).bind fun t324 => ((laws_eqRecS.f k t320 t324).bind fun t327 => (if t327 = true then (some true) else (some false)))) else (some false))) = some r := H
    have A7 := Aside0.mk A70
    clear A70
    replace H := Option.bind_eq_some_iff.mp H
    obtain ⟨t323, A80, H⟩ := H
    replace H : (if t323 = t319 then ((laws_toRecS.f k l0).bind fun t324 => ((laws_eqRecS.f k t320 t324).bind fun t327 => (if t327 = true then (some true) else (some false)))) else (some false)) = some r := H
    have A8 := Aside0.mk A80
    clear A80
    by_cases c9 : t323 = t319
    · rw [if_pos c9] at H
      have c9b0 : (t323 == t319) = true := beq_iff_eq.mpr c9
      have c9b1 : (t323 != t319) = false := bne_eq_false_iff_eq.mpr c9
      clear c9
      replace H := Option.bind_eq_some_iff.mp H
      obtain ⟨t324, A100, H⟩ := H
      replace H : ((laws_eqRecS.f k t320 t324).bind fun t327 => (if t327 = true then (some true) else (some false))) = some r := H
      have A10 := Aside0.mk A100
      clear A100
      replace H := Option.bind_eq_some_iff.mp H
      obtain ⟨t327, A110, H⟩ := H
      replace H : (if t327 = true then (some true) else (some false)) = some r := H
      have A11 := Aside0.mk A110
      clear A110
      by_cases c12 : t327 = true
      · subst c12
        have H1 : (some true) = some r := by rw [if_pos rfl] at H; exact H
        clear H
        have H := H1
        clear H1
        clear ht
        obtain rfl := Option.some.inj H
        go_enter Try.func4, Try.ntmps4
        go_wp2_with (first | ((with_reducible refine gate_callee (f := 15) rfl ?_); refine goesL_ (some 11) rfl rfl Try.func15 (by kernel_rfl) rfl #[.slice A0 l0.length c0, .int .i64 1048576] rfl (by (try simp only [List.map_toArray, List.map_cons, List.map_nil]); first | done | rfl | (simp only [List.length_drop, List.length_take]; rfl)) ?_; (with_reducible refine (laws_szRecS.calls _ _ l0 1048576 t315 _ ?side1 ?side2 A3.out).mono ?_); (case side1 => repeat (first | exact HR0.out | (with_reducible refine Kd.C_alloc ?_ _) | (with_reducible refine Kd.C_drewN ?_ _) | (with_reducible refine Kd.C_drew ?_))); (case side2 => exact HC0.out); rintro e w' ⟨rfl, ⟨nd, rfl⟩⟩; refine ⟨_, rfl, ?_⟩) | ((with_reducible refine gate_callee (f := 17) rfl ?_); refine goesL_ (some 15) rfl rfl Try.func17 (by kernel_rfl) rfl #[.slice A0 l0.length c0] rfl (by (try simp only [List.map_toArray, List.map_cons, List.map_nil]); first | done | rfl | (simp only [List.length_drop, List.length_take]; rfl)) ?_; (with_reducible refine (laws_toRecS.calls k _ _ l0 t316 _ ?side1 ?side2 A5.out).mono ?_); (case side1 => repeat (first | exact HR0.out | (with_reducible refine Kd.C_alloc ?_ _) | (with_reducible refine Kd.C_drewN ?_ _) | (with_reducible refine Kd.C_drew ?_))); (case side2 => exact HC0.out); rintro e w13 ⟨v317, rfl, ho0, hb⟩; refine ⟨_, rfl, ?_⟩; have n0_ := Aside0.mk (Kd.R_lower ho0 (below_size (by repeat (first | (with_reducible first | exact HB.out | apply below_alloc | apply pw_below_drewN | apply below_drew1) | exact HB.out)))); have n1_ := Aside0.mk (below_step (by repeat (first | (with_reducible first | exact HB.out | apply below_alloc | apply pw_below_drewN | apply below_drew1) | exact HB.out)) hb); clear HB; have HO318 := n0_; have HB := n1_; clear n0_ n1_; (try clear hb); (try clear hb2); (try clear hk); (try clear hi); (try clear ho0); obtain ⟨Ao14, co14, eo14⟩ := Kd.R_slice HO318.out; subst eo14) | ((with_reducible refine gate_callee (f := 21) rfl ?_); refine goesL_ (some 17) rfl rfl Try.func21 (by kernel_rfl) rfl #[.slice Ao14 t316.length co14, .int .i64 a1] rfl (by (try simp only [List.map_toArray, List.map_cons, List.map_nil]); first | done | rfl | (simp only [List.length_drop, List.length_take]; rfl)) ?_; (with_reducible refine (spec_DownOf.calls k _ _ t316 a1 t319 _ ?side1 ?side2 A6.out).mono ?_); (case side1 => repeat (first | exact (Kd.R_reads' HO318.out).2.2 | (with_reducible refine Kd.C_alloc ?_ _) | (with_reducible refine Kd.C_drewN ?_ _) | (with_reducible refine Kd.C_drew ?_))); (case side2 => exact (Kd.R_reads' HO318.out).2.1); rintro e w15 ⟨rfl, hb⟩; refine ⟨_, rfl, ?_⟩; have n0_ := Aside0.mk (Kd.R_below (by (with_reducible repeat (first | apply Kd.R_alloc | apply Kd.R_drewN | apply Kd.R_drew)); exact HO318.out) hb); have n1_ := Aside0.mk (below_step (by repeat (first | (with_reducible first | exact HB.out | apply below_alloc | apply pw_below_drewN | apply below_drew1) | exact HB.out)) hb); clear HO318; clear HB; have HO318 := n0_; have HB := n1_; clear n0_ n1_; (try clear hb); (try clear hb2); (try clear hk); (try clear hi)) | ((with_reducible refine gate_callee (f := 17) rfl ?_); refine goesL_ (some 19) rfl rfl Try.func17 (by kernel_rfl) rfl #[.slice A0 l0.length c0] rfl (by (try simp only [List.map_toArray, List.map_cons, List.map_nil]); first | done | rfl | (simp only [List.length_drop, List.length_take]; rfl)) ?_; (with_reducible refine (laws_toRecS.calls k _ _ l0 t320 _ ?side1 ?side2 A7.out).mono ?_); (case side1 => repeat (first | exact (Kd.C_below HR0.out HB.out) | (with_reducible refine Kd.C_alloc ?_ _) | (with_reducible refine Kd.C_drewN ?_ _) | (with_reducible refine Kd.C_drew ?_))); (case side2 => exact HC0.out); rintro e w16 ⟨v321, rfl, ho0, hb⟩; refine ⟨_, rfl, ?_⟩; have n0_ := Aside0.mk (Kd.R_elder' (by (with_reducible repeat (first | apply Kd.R_alloc | apply Kd.R_drewN | apply Kd.R_drew)); exact HO318.out) (Kd.R_base ho0) hb); have n1_ := Aside0.mk (Kd.R_lower (Kd.R_new' ho0 (Kd.R_lt (by (with_reducible repeat (first | apply Kd.R_alloc | apply Kd.R_drewN | apply Kd.R_drew)); exact HO318.out))) (below_size (by repeat (first | (with_reducible first | exact HB.out | apply below_alloc | apply pw_below_drewN | apply below_drew1) | exact HB.out)))); have n2_ := Aside0.mk (below_step (by repeat (first | (with_reducible first | exact HB.out | apply below_alloc | apply pw_below_drewN | apply below_drew1) | exact HB.out)) hb); clear HO318; clear HB; have HO318 := n0_; have HO322 := n1_; have HB := n2_; clear n0_ n1_ n2_; (try clear hb); (try clear hb2); (try clear hk); (try clear hi); (try clear ho0); obtain ⟨Ao17, co17, eo17⟩ := Kd.R_slice HO322.out; subst eo17) | ((with_reducible refine gate_callee (f := 22) rfl ?_); refine goesL_ (some 22) rfl rfl Try.func22 (by kernel_rfl) rfl #[.slice Ao17 t320.length co17, .int .i64 a1] rfl (by (try simp only [List.map_toArray, List.map_cons, List.map_nil]); first | done | rfl | (simp only [List.length_drop, List.length_take]; rfl)) ?_; (with_reducible refine (impl_DownOf.calls k _ _ t320 a1 t323 _ ?side1 ?side2 A8.out).mono ?_); (case side1 => repeat (first | exact (Kd.R_reads' HO322.out).2.2 | (with_reducible refine Kd.C_alloc ?_ _) | (with_reducible refine Kd.C_drewN ?_ _) | (with_reducible refine Kd.C_drew ?_))); (case side2 => exact (Kd.R_reads' HO322.out).2.1); rintro e w18 ⟨rfl, hb⟩; refine ⟨_, rfl, ?_⟩; have n0_ := Aside0.mk (Kd.R_below (by (with_reducible repeat (first | apply Kd.R_alloc | apply Kd.R_drewN | apply Kd.R_drew)); exact HO318.out) hb); have n1_ := Aside0.mk (Kd.R_below (by (with_reducible repeat (first | apply Kd.R_alloc | apply Kd.R_drewN | apply Kd.R_drew)); exact HO322.out) hb); have n2_ := Aside0.mk (below_step (by repeat (first | (with_reducible first | exact HB.out | apply below_alloc | apply pw_below_drewN | apply below_drew1) | exact HB.out)) hb); clear HO318; clear HO322; clear HB; have HO318 := n0_; have HO322 := n1_; have HB := n2_; clear n0_ n1_ n2_; (try clear hb); (try clear hb2); (try clear hk); (try clear hi)) | ((with_reducible refine gate_callee (f := 17) rfl ?_); refine goesL_ (some 28) rfl rfl Try.func17 (by kernel_rfl) rfl #[.slice A0 l0.length c0] rfl (by (try simp only [List.map_toArray, List.map_cons, List.map_nil]); first | done | rfl | (simp only [List.length_drop, List.length_take]; rfl)) ?_; (with_reducible refine (laws_toRecS.calls k _ _ l0 t324 _ ?side1 ?side2 A10.out).mono ?_); (case side1 => repeat (first | exact (Kd.C_below HR0.out HB.out) | (with_reducible refine Kd.C_alloc ?_ _) | (with_reducible refine Kd.C_drewN ?_ _) | (with_reducible refine Kd.C_drew ?_))); (case side2 => exact HC0.out); rintro e w19 ⟨v325, rfl, ho0, hb⟩; refine ⟨_, rfl, ?_⟩; have n0_ := Aside0.mk (Kd.R_elder' (by (with_reducible repeat (first | apply Kd.R_alloc | apply Kd.R_drewN | apply Kd.R_drew)); exact HO318.out) (Kd.R_base ho0) hb); have n1_ := Aside0.mk (Kd.R_elder' (by (with_reducible repeat (first | apply Kd.R_alloc | apply Kd.R_drewN | apply Kd.R_drew)); exact HO322.out) (Kd.R_base ho0) hb); have n2_ := Aside0.mk (Kd.R_lower (Kd.R_new' (Kd.R_new' ho0 (Kd.R_lt (by (with_reducible repeat (first | apply Kd.R_alloc | apply Kd.R_drewN | apply Kd.R_drew)); exact HO318.out))) (Kd.R_lt (by (with_reducible repeat (first | apply Kd.R_alloc | apply Kd.R_drewN | apply Kd.R_drew)); exact HO322.out))) (below_size (by repeat (first | (with_reducible first | exact HB.out | apply below_alloc | apply pw_below_drewN | apply below_drew1) | exact HB.out)))); have n3_ := Aside0.mk (below_step (by repeat (first | (with_reducible first | exact HB.out | apply below_alloc | apply pw_below_drewN | apply below_drew1) | exact HB.out)) hb); clear HO318; clear HO322; clear HB; have HO318 := n0_; have HO322 := n1_; have HO326 := n2_; have HB := n3_; clear n0_ n1_ n2_ n3_; (try clear hb); (try clear hb2); (try clear hk); (try clear hi); (try clear ho0); obtain ⟨Ao20, co20, eo20⟩ := Kd.R_slice HO326.out; subst eo20) | ((with_reducible refine gate_callee (f := 20) rfl ?_); refine goesL_ (some 29) rfl rfl Try.func20 (by kernel_rfl) rfl #[.slice Ao17 t320.length co17, .slice Ao20 t324.length co20] rfl (by (try simp only [List.map_toArray, List.map_cons, List.map_nil]); first | done | rfl | (simp only [List.length_drop, List.length_take]; rfl)) ?_; (with_reducible refine (laws_eqRecS.calls k _ _ t320 _ _ t324 true _ ?side1 ?side2 ?side3 ?side4 A11.out).mono ?_); (case side1 => repeat (first | exact (Kd.R_reads' HO322.out).2.2 | (with_reducible refine Kd.C_alloc ?_ _) | (with_reducible refine Kd.C_drewN ?_ _) | (with_reducible refine Kd.C_drew ?_))); (case side2 => exact (Kd.R_reads' HO322.out).2.1); (case side3 => repeat (first | exact (Kd.R_reads' HO326.out).2.2 | (with_reducible refine Kd.C_alloc ?_ _) | (with_reducible refine Kd.C_drewN ?_ _) | (with_reducible refine Kd.C_drew ?_))); (case side4 => exact (Kd.R_reads' HO326.out).2.1); rintro e w21 ⟨rfl, hb⟩; refine ⟨_, rfl, ?_⟩; have n0_ := Aside0.mk (Kd.R_below (by (with_reducible repeat (first | apply Kd.R_alloc | apply Kd.R_drewN | apply Kd.R_drew)); exact HO318.out) hb); have n1_ := Aside0.mk (Kd.R_below (by (with_reducible repeat (first | apply Kd.R_alloc | apply Kd.R_drewN | apply Kd.R_drew)); exact HO322.out) hb); have n2_ := Aside0.mk (Kd.R_below (by (with_reducible repeat (first | apply Kd.R_alloc | apply Kd.R_drewN | apply Kd.R_drew)); exact HO326.out) hb); have n3_ := Aside0.mk (below_step (by repeat (first | (with_reducible first | exact HB.out | apply below_alloc | apply pw_below_drewN | apply below_drew1) | exact HB.out)) hb); clear HO318; clear HO322; clear HO326; clear HB; have HO318 := n0_; have HO322 := n1_; have HO326 := n2_; have HB := n3_; clear n0_ n1_ n2_ n3_; (try clear hb); (try clear hb2); (try clear hk); (try clear hi)))
        go_ret
        exact ⟨by first | rfl | (simp [errW_none, errW_some] <;> rfl) | (simp [*, errW_none, errW_some] <;> rfl), by repeat (first | (with_reducible first | exact HB.out | apply below_alloc | apply pw_below_drewN | apply below_drew1) | exact HB.out)⟩
      · replace c12 := Bool.eq_false_iff.mpr c12
        subst c12
        have H1 : (some false) = some r := by rw [if_neg (show ¬ (false = true) by decide)] at H; exact H
        clear H
        have H := H1
        clear H1
        obtain rfl := Option.some.inj H
        exact absurd ht (by decide)
    · rw [if_neg c9] at H
      have c9b0 : (t323 == t319) = false := beq_eq_false_iff_ne.mpr c9
      have c9b1 : (t323 != t319) = true := bne_iff_ne.mpr c9
      obtain rfl := Option.some.inj H
      exact absurd ht (by decide)

end Go.Proofs.Ytgcgdjldhjajaaa.A
/- Loops over lists, in plain Lean: a copy into a new row, a comparison of a row with itself. Conditions: the rows are no longer than a number of the machine can tell. -/
namespace Go.Proofs.Ytgcgdjldhjajaaa.Lst
open Go.RowKit
set_option linter.unusedVariables false
set_option linter.unusedSimpArgs false

theorem w1 (i : Int) (h0 : 0 ≤ i) (h : i < 4611686018427387904) : wrap64 (i + 1) = i + 1 := by unfold wrap64; omega
theorem w1n (i n : Nat) (hi : i < n) (hn : n ≤ 4611686018427387904) : wrap64 ((i : Int) + 1) = ((i + 1 : Nat) : Int) := by unfold wrap64; omega
theorem wr (i : Int) (h0 : -9223372036854775808 ≤ i) (h : i < 9223372036854775808) : wrap64 i = i := by unfold wrap64; omega
theorem toNat_ofNat (i : Nat) : ((i : Int)).toNat = i := rfl

theorem set_take {β : Type} (l : List β) (i : Nat) (b : β) (h : i < l.length) : (l.set i b).take (i + 1) = l.take i ++ [b] := by
  apply List.ext_getElem?
  intro j
  simp only [List.getElem?_take, List.getElem?_append, List.getElem?_set, List.length_take]
  by_cases h1 : j < i
  · rw [if_pos (by omega), if_neg (by omega), if_pos (by omega), if_pos h1]
  · by_cases h2 : j = i
    · subst h2
      rw [if_pos (by omega), if_pos rfl, if_pos h, if_neg (by omega)]
      simp [Nat.min_eq_left (Nat.le_of_lt h)]
    · rw [if_neg (by omega), if_neg (by omega)]
      rw [List.getElem?_eq_none]
      simp; omega

/-- A copy, element by element, into a row that is there. -/
theorem copy_from {α β : Type} (g : Nat → List α → List β → Int → Option (List β)) (z : α) (h : α → β) (l : List α) (hl : l.length ≤ 4611686018427387904)
    (hstep : ∀ (k : Nat) (x : List β) (i : Nat), i < l.length → i < x.length → g (k + 1) l x (i : Int) = g k l (x.set i (h (l.getD i z))) (wrap64 ((i : Int) + 1)))
    (hend : ∀ (k : Nat) (x : List β), g (k + 1) l x (l.length : Int) = some x) :
    ∀ (d k i : Nat) (x : List β), d + i = l.length → x.length = l.length → x.take i = (l.take i).map h → d < k → g k l x (i : Int) = some (l.map h) := by
  intro d
  induction d with
  | zero =>
    intro k i x hd hx ht hk
    obtain ⟨k, rfl⟩ : ∃ m, k = m + 1 := ⟨k - 1, by omega⟩
    obtain rfl : i = l.length := by omega
    rw [hend]
    rw [List.take_of_length_le (by omega), List.take_of_length_le (Nat.le_refl _)] at ht
    rw [ht]
  | succ d ih =>
    intro k i x hd hx ht hk
    obtain ⟨k, rfl⟩ : ∃ m, k = m + 1 := ⟨k - 1, by omega⟩
    rw [hstep k x i (by omega) (by omega), w1n i l.length (by omega) hl]
    refine ih k (i + 1) _ (by omega) (by simpa using hx) ?_ (by omega)
    rw [set_take x i _ (by omega), ht, List.take_succ_eq_append_getElem (by omega), List.map_append, List.getD_eq_getElem?_getD, List.getElem?_eq_getElem (by omega)]
    simp

theorem copy_all {α β : Type} (g : Nat → List α → List β → Int → Option (List β)) (z : α) (zb : β) (h : α → β) (l : List α) (hl : l.length ≤ 4611686018427387904)
    (hstep : ∀ (k : Nat) (x : List β) (i : Nat), i < l.length → i < x.length → g (k + 1) l x (i : Int) = g k l (x.set i (h (l.getD i z))) (wrap64 ((i : Int) + 1)))
    (hend : ∀ (k : Nat) (x : List β), g (k + 1) l x (l.length : Int) = some x) (k : Nat) (hk : l.length < k) : g k l (List.replicate l.length zb) 0 = some (l.map h) :=
  copy_from g z h l hl hstep hend l.length k 0 _ rfl (by simp) (by simp) hk

/-- A walk along a row that never leaves before the end. -/
theorem along {ρ : Type} (g : Nat → Int → Option ρ) (n : Nat) (hn : n ≤ 4611686018427387904) (r : ρ)
    (hstep : ∀ (k i : Nat), i < n → g (k + 1) (i : Int) = g k (wrap64 ((i : Int) + 1))) (hend : ∀ k : Nat, g (k + 1) (n : Int) = some r) :
    ∀ (d k i : Nat), d + i = n → d < k → g k (i : Int) = some r := by
  intro d
  induction d with
  | zero =>
    intro k i hd hk
    obtain ⟨k, rfl⟩ : ∃ m, k = m + 1 := ⟨k - 1, by omega⟩
    obtain rfl : i = n := by omega
    exact hend k
  | succ d ih =>
    intro k i hd hk
    obtain ⟨k, rfl⟩ : ∃ m, k = m + 1 := ⟨k - 1, by omega⟩
    rw [hstep k i (by omega), w1n i n (by omega) hn]
    exact ih k (i + 1) (by omega) (by omega)

theorem along_all {ρ : Type} (g : Nat → Int → Option ρ) (n : Nat) (hn : n ≤ 4611686018427387904) (r : ρ)
    (hstep : ∀ (k i : Nat), i < n → g (k + 1) (i : Int) = g k (wrap64 ((i : Int) + 1))) (hend : ∀ k : Nat, g (k + 1) (n : Int) = some r) (k : Nat) (hk : n < k) : g k 0 = some r :=
  along g n hn r hstep hend n k 0 (by omega) hk

/-- Element by element, each set to something of its number and of what it was. -/
theorem setting {β : Type} (g : Nat → List β → Int → Int → Option (Int × List β)) (z : β) (F : Int → β → β) (c : Int) (n : Nat) (hn : n ≤ 4611686018427387904)
    (hstep : ∀ (k : Nat) (x : List β) (m : Int) (i : Nat), x.length = n → i < n → 0 ≤ m → m ≤ 1000000000000 → g (k + 1) x m (i : Int) = g k (x.set i (F m (x.getD i z))) (m + c) (wrap64 ((i : Int) + 1)))
    (hend : ∀ (k : Nat) (x : List β) (m : Int), x.length = n → g (k + 1) x m (n : Int) = some (m, x)) (hc : 0 ≤ c) :
    ∀ (d k i : Nat) (x : List β) (m : Int), d + i = n → x.length = n → d < k → 0 ≤ m → m + c * d ≤ 1000000000000 →
      ∃ y, g k x m (i : Int) = some (m + c * d, y) ∧ y.length = n ∧ (∀ j, j < i → y.getD j z = x.getD j z) ∧ ∀ j, i ≤ j → j < n → y.getD j z = F (m + c * (j - i : Nat)) (x.getD j z) := by
  intro d
  induction d with
  | zero =>
    intro k i x m hd hx hk h0 h1
    obtain ⟨k, rfl⟩ : ∃ q, k = q + 1 := ⟨k - 1, by omega⟩
    obtain rfl : i = n := by omega
    exact ⟨x, by rw [hend k x m hx]; simp, hx, fun j _ => rfl, fun j h2 h3 => by omega⟩
  | succ d ih =>
    intro k i x m hd hx hk h0 h1
    obtain ⟨k, rfl⟩ : ∃ q, k = q + 1 := ⟨k - 1, by omega⟩
    have hcd : 0 ≤ c * (d : Int) := Int.mul_nonneg hc (by omega)
    have e1 : c * ((d + 1 : Nat) : Int) = c * (d : Int) + c := by rw [show ((d + 1 : Nat) : Int) = (d : Int) + 1 from rfl, Int.mul_add, Int.mul_one]
    rw [e1] at h1
    rw [hstep k x m i hx (by omega) h0 (by omega), w1n i n (by omega) hn]
    obtain ⟨y, h2, h3, h4, h5⟩ := ih k (i + 1) (x.set i (F m (x.getD i z))) (m + c) (by omega) (by simpa using hx) (by omega) (by omega) (by omega)
    refine ⟨y, by rw [h2, e1]; congr 2; omega, h3, fun j hj => ?_, fun j hj hjn => ?_⟩
    · rw [h4 j (by omega)]
      simp only [List.getD_eq_getElem?_getD, List.getElem?_set]
      rw [if_neg (by omega)]
    · by_cases e : j = i
      · subst e
        rw [h4 j (by omega)]
        simp only [List.getD_eq_getElem?_getD, List.getElem?_set]
        rw [if_pos trivial, if_pos (by omega)]
        simp
      · rw [h5 j (by omega) hjn]
        have e2 : m + c + c * ((j - (i + 1) : Nat) : Int) = m + c * ((j - i : Nat) : Int) := by
          have : ((j - i : Nat) : Int) = ((j - (i + 1) : Nat) : Int) + 1 := by omega
          rw [this, Int.mul_add, Int.mul_one]
          omega
        rw [e2]
        congr 1
        simp only [List.getD_eq_getElem?_getD, List.getElem?_set]
        rw [if_neg (by omega)]
/-- A walk that counts up as it goes. -/
theorem holding {ρ : Type} (g : Nat → Int → Int → Option ρ) (n : Nat) (hn : n ≤ 4611686018427387904) (m c : Int) (r : ρ)
    (hstep : ∀ (k i : Nat), i < n → g (k + 1) (m + c * i) (i : Int) = g k (m + c * ((i + 1 : Nat) : Int)) (wrap64 ((i : Int) + 1))) (hend : ∀ k : Nat, g (k + 1) (m + c * n) (n : Int) = some r) :
    ∀ (d k i : Nat), d + i = n → d < k → g k (m + c * i) (i : Int) = some r := by
  intro d
  induction d with
  | zero =>
    intro k i hd hk
    obtain ⟨k, rfl⟩ : ∃ q, k = q + 1 := ⟨k - 1, by omega⟩
    obtain rfl : i = n := by omega
    exact hend k
  | succ d ih =>
    intro k i hd hk
    obtain ⟨k, rfl⟩ : ∃ q, k = q + 1 := ⟨k - 1, by omega⟩
    rw [hstep k i (by omega), w1n i n (by omega) hn]
    exact ih k (i + 1) (by omega) (by omega)

theorem map_id_of {α : Type} (l : List α) (f : α → α) (h : ∀ x, f x = x) : l.map f = l := by
  induction l with
  | nil => rfl
  | cons a l ih => rw [List.map_cons, h, ih]
end Go.Proofs.Ytgcgdjldhjajaaa.Lst
/- The plain statement that is left of the law FnExactDownOf, over numbers and lists. -/
namespace Go.Proofs.Ytgcgdjldhjajaaa.A
open Go.RowKit Go.Proofs.YtgcgdjldhjajaaaW.PrintWords Go.Proofs.YtgcgdjldhjajaaaW.PrintLast
def Pure_FnExactDownOf : Prop := ∀ (l0 : List (S80)) (a1 : Int), (l0.length ≤ maxLen ∧ ∀ q1 ∈ l0, ((Lit.int .i64 q1.f0).wf = true ∧ ((Lit.int .i64 q1.f1).wf = true ∧ ((Lit.int .i64 q1.f2).wf = true ∧ ((Lit.int .i64 q1.f3).wf = true ∧ ((Lit.int .i64 q1.f4).wf = true ∧ (Lit.int .i64 q1.f5).wf = true)))))) → (Lit.int .i64 a1).wf = true → ∃ k, laws_FnExactDownOf.f k l0 a1 = some true
end Go.Proofs.Ytgcgdjldhjajaaa.A
/- What is right of records, as the reference tells it and as the program does. -/
namespace Go.Proofs.Ytgcgdjldhjajaaa.A
open Go.RowKit Go.Proofs.Ytgcgdjldhjajaaa Go.Proofs.YtgcgdjldhjajaaaW.PrintWords Go.Proofs.YtgcgdjldhjajaaaW.PrintLast Go.Proofs.YtgcgdjldhjajaaaW.PrintMore
set_option linter.unusedVariables false
set_option linter.unusedSimpArgs false
theorem s_is (n lo hi : Int) : spec_l02Is.f n lo hi = some (decide (lo ≤ n ∧ n ≤ hi)) := by
  unfold spec_l02Is.f; by_cases h : n ≥ lo
  · rw [if_pos h]; congr 1; simp; omega
  · rw [if_neg h]; congr 1; simp; omega
theorem s_time (n : Int) : spec_l03Time.f n = some (timeB n) := by
  unfold spec_l03Time.f; rw [s_is]; rfl
theorem s_node (n : Int) : spec_l04Node.f n = some (nodeB n) := by
  unfold spec_l04Node.f; rw [s_is]; rfl
theorem s_recRight (a b c d e f : Int) : spec_RecRight.f a b c d e f = some (recB a b c d e f) := by
  unfold spec_RecRight.f recB
  simp only [s_node, s_time, s_is, Option.bind_some]
  cases timeB a
  · rfl
  cases nodeB b
  · rfl
  simp only [if_true, Bool.true_and]
  by_cases h1 : c = 1
  · rw [if_pos h1, if_pos h1]
    cases timeB d <;> by_cases h2 : e = 0 <;> simp [h2]
  rw [if_neg h1, if_neg h1]
  by_cases h2 : c = 2
  · rw [if_pos h2, if_pos h2]
    by_cases h3 : d = 0 <;> by_cases h4 : e = 0 <;> simp [h3, h4]
  rw [if_neg h2, if_neg h2]
  by_cases h3 : c = 3
  · rw [if_pos h3, if_pos h3]
    cases timeB d <;> cases nodeB e <;> simp
  rw [if_neg h3, if_neg h3]
  by_cases h4 : c = 4
  · rw [if_pos h4, if_pos h4]
    cases timeB d <;> cases nodeB e <;> simp
  rw [if_neg h4, if_neg h4]
  by_cases h5 : c = 5
  · rw [if_pos h5, if_pos h5]
    unfold factB
    cases nodeB d <;> cases timeB e <;> simp
  rw [if_neg h5, if_neg h5]
  by_cases h6 : c = 6
  · rw [if_pos h6, if_pos h6]
    cases nodeB d <;> by_cases h7 : e = 0 <;> simp [h7]
  rw [if_neg h6, if_neg h6]
/-- Records that are right, and not too many. -/
def okRecs (l : List S78) : Bool := decide (l.length ≤ 400) && l.all recOk
theorem i_recs (l : List S78) : impl_areRecs.f l = some (okRecs l) := rfl
theorem s_recs (l : List S78) (k : Nat) (hk : l.length < k) : spec_l12Recs.f k l = some (okRecs l) := by
  unfold spec_l12Recs.f okRecs
  by_cases h : l.length ≤ 400
  · rw [if_neg (by omega)]
    have key : ∀ (d k i : Nat), d + i = l.length → d < k → spec_l12Recs.l0 k l (i : Int) = some ((l.drop i).all recOk) := by
      intro d
      induction d with
      | zero =>
        intro k i hd hk
        obtain ⟨k, rfl⟩ : ∃ m, k = m + 1 := ⟨k - 1, by omega⟩
        simp only [spec_l12Recs.l0]
        rw [if_neg (by omega), List.drop_of_length_le (by omega)]
        rfl
      | succ d ih =>
        intro k i hd hk
        obtain ⟨k, rfl⟩ : ∃ m, k = m + 1 := ⟨k - 1, by omega⟩
        have hi : i < l.length := by omega
        simp only [spec_l12Recs.l0]
        rw [if_pos (by omega), if_pos (by omega), rd_nat_Rec l i hi, s_recRight]
        simp only [Option.bind_some]
        rw [List.drop_eq_getElem_cons hi, List.all_cons]
        show (if recOk l[i] = true then _ else _) = _
        cases hq : recOk l[i]
        · rfl
        · rw [if_pos rfl, Lst.w1n i l.length hi (by omega), ih k (i + 1) (by omega) (by omega)]
          rfl
    have := key l.length k 0 (by omega) hk
    rw [show ((0 : Nat) : Int) = 0 from rfl] at this
    rw [this]
    simp [h]
  · rw [if_pos (by omega)]
    simp [h]
end Go.Proofs.Ytgcgdjldhjajaaa.A
/- Copies of records, their comparison and their size. -/
namespace Go.Proofs.Ytgcgdjldhjajaaa.A
open Go.RowKit Go.Proofs.Ytgcgdjldhjajaaa Go.Proofs.YtgcgdjldhjajaaaW.PrintWords Go.Proofs.YtgcgdjldhjajaaaW.PrintLast Go.Proofs.YtgcgdjldhjajaaaW.PrintMore
set_option linter.unusedVariables false
set_option linter.unusedSimpArgs false
def cvR (x : S80) : S78 := ⟨x.f0, x.f1, x.f2, x.f3, x.f4, x.f5⟩
theorem toR (l : List S80) (hl : l.length ≤ 1048576) (k : Nat) (hk : l.length < k) : laws_toRecS.f k l = some (l.map cvR) := by
  unfold laws_toRecS.f
  rw [if_pos (by omega), if_pos (by omega)]
  refine Lst.copy_all laws_toRecS.l0 z80 z78 cvR l (by omega) ?_ ?_ k hk
  · intro k x i h1 h2
    simp only [laws_toRecS.l0]
    rw [if_pos (by omega), if_pos (by omega)]
    simp only [laws_toRec.f, Option.bind_some]
    rw [if_pos (by omega)]
    rfl
  · intro k x
    simp only [laws_toRecS.l0]
    rw [if_neg (by omega)]
theorem eqR (l : List S78) (hl : l.length ≤ 1048576) (k : Nat) (hk : l.length < k) : laws_eqRecS.f k l l = some true := by
  unfold laws_eqRecS.f
  rw [if_pos rfl]
  refine Lst.along_all (fun k i => laws_eqRecS.l0 k l l i) l.length (by omega) true ?_ ?_ k hk
  · intro k i h1
    simp only [laws_eqRecS.l0]
    rw [if_pos (by omega), if_pos (by omega), if_pos (by omega)]
    simp [laws_eqRec.f]
  · intro k
    simp only [laws_eqRecS.l0]
    rw [if_neg (by omega)]
theorem szR (l : List S80) (hl : l.length ≤ maxLen) : laws_szRecS.f l 1048576 = some (if l.length ≤ 1048576 then 1048576 - (l.length : Int) else -1) := by
  unfold laws_szRecS.f
  unfold maxLen at hl
  have e' : wrap64 (1048576 - (l.length : Int)) = 1048576 - (l.length : Int) := by unfold wrap64; omega
  rw [e']
  by_cases h : l.length ≤ 1048576
  · rw [if_neg (by omega), if_pos h]
  · rw [if_pos (by omega), if_neg h]
end Go.Proofs.Ytgcgdjldhjajaaa.A
/- DownOf of the program and of the reference come to the same time. -/
namespace Go.Proofs.Ytgcgdjldhjajaaa.A
open Go.RowKit Go.Proofs.Ytgcgdjldhjajaaa Go.Proofs.YtgcgdjldhjajaaaW.PrintWords Go.Proofs.YtgcgdjldhjajaaaW.PrintLast Go.Proofs.YtgcgdjldhjajaaaW.PrintMore
set_option linter.unusedVariables false
set_option linter.unusedSimpArgs false
/-- Whether a node lived, as the records ahead of number i tell. -/
def aliveAt (l : List S78) (n : Int) : Nat → Bool
  | 0 => false
  | i + 1 => if (rd_T78 l (i : Int)).f1 = n then (if (rd_T78 l (i : Int)).f2 = 1 then true else if (rd_T78 l (i : Int)).f2 = 2 then false else aliveAt l n i) else aliveAt l n i
theorem last_is (l : List S78) (n : Int) (hl : l.length ≤ 400) : ∀ (i k : Nat), i ≤ l.length → i < k → ∃ t : Int, spec_l12Last.l0 k l n ((i : Int) - 1) = some t ∧ t < (l.length : Int) ∧ (if t ≥ 0 then ((rd_T78 l t).f2 == 1) else false) = aliveAt l n i := by
  intro i
  induction i with
  | zero =>
    intro k hi hk
    obtain ⟨k, rfl⟩ : ∃ m, k = m + 1 := ⟨k - 1, by omega⟩
    refine ⟨-1, ?_, by omega, rfl⟩
    simp only [spec_l12Last.l0]
    rw [if_neg (by omega)]
  | succ i ih =>
    intro k hi hk
    obtain ⟨k, rfl⟩ : ∃ m, k = m + 1 := ⟨k - 1, by omega⟩
    obtain ⟨t, h1, h2, h3⟩ := ih k (by omega) (by omega)
    have e : ((i + 1 : Nat) : Int) - 1 = (i : Int) := by omega
    have ew : wrap64 ((i : Int) - 1) = (i : Int) - 1 := by unfold wrap64; omega
    rw [e]
    simp only [spec_l12Last.l0, aliveAt]
    rw [if_pos (by omega), if_pos (by omega), if_pos (by omega), ew, h1]
    by_cases c1 : (rd_T78 l (i : Int)).f1 = n
    · rw [if_pos c1, if_pos c1]
      by_cases c2 : (rd_T78 l (i : Int)).f2 = 1
      · rw [if_pos c2, if_pos c2]
        refine ⟨_, rfl, by omega, ?_⟩
        rw [if_pos (by omega), c2]
        rfl
      · rw [if_neg c2, if_neg c2]
        by_cases c3 : (rd_T78 l (i : Int)).f2 = 2
        · rw [if_pos c3, if_pos c3]
          refine ⟨_, rfl, by omega, ?_⟩
          rw [if_pos (by omega), c3]
          rfl
        · rw [if_neg c3, if_neg c3]
          exact ⟨t, rfl, h2, h3⟩
    · rw [if_neg c1, if_neg c1]
      exact ⟨t, rfl, h2, h3⟩
theorem lives_is (l : List S78) (n : Int) (hl : l.length ≤ 400) (i k : Nat) (hi : i ≤ l.length) (hk : i < k) : spec_l12Lives.f k l (i : Int) n = some (aliveAt l n i) := by
  unfold spec_l12Lives.f spec_l12Last.f
  have ew : wrap64 ((i : Int) - 1) = (i : Int) - 1 := by unfold wrap64; omega
  obtain ⟨t, h1, h2, h3⟩ := last_is l n hl i k hi hk
  rw [ew, h1, ← h3]
  simp only [Option.bind_some]
  by_cases c : t ≥ 0
  · rw [if_pos c, if_pos c, if_pos h2, if_pos c]
  · rw [if_neg c, if_neg c]
/-- Time that went by without the node, and whether it was ever heard of, as far as record i. -/
def downAt (l : List S78) (n : Int) : Nat → Int × Bool
  | 0 => (0, false)
  | i + 1 =>
    let p := downAt l n i
    (p.1 + (if p.2 = true ∧ aliveAt l n i = false then (if (rd_T78 l (i : Int)).f0 > (rd_T78 l ((i : Int) - 1)).f0 then (rd_T78 l (i : Int)).f0 - (rd_T78 l ((i : Int) - 1)).f0 else 0) else 0),
      if p.2 = true then true else decide ((rd_T78 l (i : Int)).f1 = n ∧ (rd_T78 l (i : Int)).f2 = 1))
theorem times (l : List S78) (hr : okRecs l = true) (i : Int) (h0 : 0 ≤ i) (hi : i < (l.length : Int)) : 0 ≤ (rd_T78 l i).f0 ∧ (rd_T78 l i).f0 ≤ 1000000 := by
  unfold okRecs at hr
  rw [Bool.and_eq_true] at hr
  obtain ⟨j, rfl⟩ : ∃ j : Nat, i = (j : Int) := ⟨i.toNat, by omega⟩
  have hj : j < l.length := by omega
  rw [rd_nat_Rec l j hj]
  have := List.all_eq_true.mp hr.2 l[j] (List.getElem_mem hj)
  unfold recOk recB timeB at this
  simp only [Bool.and_eq_true, decide_eq_true_eq] at this
  exact this.1.1
theorem down_bound (l : List S78) (n : Int) (hr : okRecs l = true) : ∀ i : Nat, i ≤ l.length → 0 ≤ (downAt l n i).1 ∧ (downAt l n i).1 ≤ 1000000 * (i : Int) ∧ (i = 0 → (downAt l n i).2 = false) ∧ ((downAt l n i).2 = false → (downAt l n i).1 = 0) := by
  intro i
  induction i with
  | zero => intro _; simp [downAt]
  | succ i ih =>
    intro hi
    obtain ⟨h1, h2, h3, h4⟩ := ih (by omega)
    have ha := times l hr (i : Int) (by omega) (by omega)
    simp only [downAt]
    refine ⟨?_, ?_, by omega, ?_⟩
    · split
      · split <;> omega
      · omega
    · split
      · rename_i hc
        have hi0 : i ≠ 0 := fun h => by rw [h3 h] at hc; exact absurd hc.1 (by simp)
        have hb := times l hr ((i : Int) - 1) (by omega) (by omega)
        split <;> omega
      · omega
    · intro hf
      have hg : (downAt l n i).2 = false := by
        cases h : (downAt l n i).2
        · rfl
        · rw [h] at hf; simp at hf
      rw [h4 hg, if_neg (by rw [hg]; simp)]
      rfl
def downV (p : Int × Bool) : Int := if p.2 = true then p.1 else -1
theorem down_spec (l : List S78) (n : Int) (hr : okRecs l = true) (hl : l.length ≤ 400) : ∀ (d k i : Nat), i + d = l.length → l.length + 2 * d + 2 < k → spec_DownOf.l0 k l n (downV (downAt l n i)) (i : Int) = some (downV (downAt l n l.length)) := by
  intro d
  induction d with
  | zero =>
    intro k i hi hk
    obtain ⟨k, rfl⟩ : ∃ m, k = m + 1 := ⟨k - 1, by omega⟩
    simp only [spec_DownOf.l0]
    rw [if_neg (by omega), show i = l.length by omega]
  | succ d ih =>
    intro k i hi hk
    obtain ⟨k, rfl⟩ : ∃ m, k = m + 1 + 1 := ⟨k - 2, by omega⟩
    have hlt : i < l.length := by omega
    obtain ⟨b1, b2, b3, b4⟩ := down_bound l n hr i (by omega)
    have IH := ih k (i + 1) (by omega) (by omega)
    rw [← Lst.w1n i l.length hlt (by omega)] at IH
    simp only [spec_DownOf.l0]
    rw [if_pos (by omega), lives_is l n hl i _ (by omega) (by omega)]
    simp only [Option.bind_some]
    have ha := times l hr (i : Int) (by omega) (by omega)
    generalize hp : downAt l n i = p at IH b1 b2 b3 b4
    have hq : downAt l n (i + 1) = (p.1 + (if p.2 = true ∧ aliveAt l n i = false then (if (rd_T78 l (i : Int)).f0 > (rd_T78 l ((i : Int) - 1)).f0 then (rd_T78 l (i : Int)).f0 - (rd_T78 l ((i : Int) - 1)).f0 else 0) else 0), if p.2 = true then true else decide ((rd_T78 l (i : Int)).f1 = n ∧ (rd_T78 l (i : Int)).f2 = 1)) := by rw [← hp]; rfl
    rw [hq] at IH
    obtain ⟨v, hd⟩ := p
    simp only at IH b1 b2 b3 b4
    have ew : wrap64 ((i : Int) - 1) = (i : Int) - 1 := by unfold wrap64; omega
    cases hd
    · simp only [downV, Bool.false_eq_true, if_false, false_and] at IH ⊢
      rw [if_neg (by omega)]
      simp only [spec_DownOf.j2, Bool.false_eq_true, if_false]
      rw [if_pos (by omega), if_pos (by omega), if_pos (by omega)]
      by_cases c1 : (rd_T78 l (i : Int)).f1 = n
      · rw [if_pos c1]
        by_cases c2 : (rd_T78 l (i : Int)).f2 = 1
        · rw [if_pos c2]
          have v0 : v = 0 := b4 rfl
          rw [if_pos (by simp [c1, c2]), v0] at IH
          exact IH
        · rw [if_neg c2]
          rw [if_neg (by simp [c2])] at IH
          exact IH
      · rw [if_neg c1]
        rw [if_neg (by simp [c1])] at IH
        exact IH
    · have hi0 : i ≠ 0 := fun h => absurd (b3 h) (by simp)
      have hb := times l hr ((i : Int) - 1) (by omega) (by omega)
      simp only [downV, if_true, true_and] at IH ⊢
      rw [if_pos b1, ew]
      generalize aliveAt l n i = av at IH ⊢
      cases av
      · simp only [Bool.false_eq_true, if_false, if_true] at IH ⊢
        rw [if_pos (by omega), if_pos (by omega), if_pos (by omega)]
        by_cases c : (rd_T78 l (i : Int)).f0 > (rd_T78 l ((i : Int) - 1)).f0
        · rw [if_pos c] at IH
          simp only [spec_DownOf.j2, c, decide_true, if_true]
          have e2 : wrap64 (wrap64 (v + (rd_T78 l (i : Int)).f0) - (rd_T78 l ((i : Int) - 1)).f0) = v + ((rd_T78 l (i : Int)).f0 - (rd_T78 l ((i : Int) - 1)).f0) := by unfold wrap64; omega
          rw [if_pos (by omega), if_pos (by omega), ew, if_pos (by omega), if_pos (by omega), e2, if_neg (by omega)]
          exact IH
        · rw [if_neg c, Int.add_zero] at IH
          simp only [spec_DownOf.j2, c, decide_false, Bool.false_eq_true, if_false]
          rw [if_neg (by omega)]
          exact IH
      · simp only [Bool.true_eq_false, if_false, if_true, Int.add_zero] at IH ⊢
        simp only [spec_DownOf.j2, Bool.false_eq_true, if_false]
        rw [if_neg (by omega)]
        exact IH
theorem down_impl (l : List S78) (n : Int) (hr : okRecs l = true) (hl : l.length ≤ 400) : ∀ (d k i : Nat), i + d = l.length → 2 * d + 2 < k → impl_DownOf.l0 k l n (downAt l n i).1 (downAt l n i).2 (aliveAt l n i) l (l.length : Int) (i : Int) = some (downV (downAt l n l.length)) := by
  intro d
  induction d with
  | zero =>
    intro k i hi hk
    obtain ⟨k, rfl⟩ : ∃ m, k = m + 1 := ⟨k - 1, by omega⟩
    simp only [impl_DownOf.l0]
    rw [if_neg (by omega), show i = l.length by omega]
    unfold downV
    split <;> rfl
  | succ d ih =>
    intro k i hi hk
    obtain ⟨k, rfl⟩ : ∃ m, k = m + 1 + 1 := ⟨k - 2, by omega⟩
    have hlt : i < l.length := by omega
    obtain ⟨b1, b2, b3, b4⟩ := down_bound l n hr i (by omega)
    have IH := ih k (i + 1) (by omega) (by omega)
    rw [← Lst.w1n i l.length hlt (by omega)] at IH
    simp only [impl_DownOf.l0]
    rw [if_pos (by omega), if_pos (by omega), if_pos (by omega)]
    have ha := times l hr (i : Int) (by omega) (by omega)
    have hal : aliveAt l n (i + 1) = if (rd_T78 l (i : Int)).f1 = n then (if (rd_T78 l (i : Int)).f2 = 1 then true else if (rd_T78 l (i : Int)).f2 = 2 then false else aliveAt l n i) else aliveAt l n i := rfl
    rw [hal] at IH
    clear hal
    generalize hp : downAt l n i = p at IH b1 b2 b3 b4
    have hq : downAt l n (i + 1) = (p.1 + (if p.2 = true ∧ aliveAt l n i = false then (if (rd_T78 l (i : Int)).f0 > (rd_T78 l ((i : Int) - 1)).f0 then (rd_T78 l (i : Int)).f0 - (rd_T78 l ((i : Int) - 1)).f0 else 0) else 0), if p.2 = true then true else decide ((rd_T78 l (i : Int)).f1 = n ∧ (rd_T78 l (i : Int)).f2 = 1)) := by rw [← hp]; rfl
    rw [hq] at IH
    obtain ⟨v, hd⟩ := p
    simp only at IH b1 b2 b3 b4 ⊢
    have ew : wrap64 ((i : Int) - 1) = (i : Int) - 1 := by unfold wrap64; omega
    generalize aliveAt l n i = av at IH ⊢
    simp only [impl_DownOf.j2, impl_isLife.f, ew]
    cases hd
    · simp only [Bool.false_eq_true, if_false, false_and, Int.add_zero] at IH ⊢
      by_cases c1 : (rd_T78 l (i : Int)).f1 = n
      · simp only [c1, if_true, true_and] at IH ⊢
        by_cases c2 : (rd_T78 l (i : Int)).f2 = 1
        · simp only [c2, if_true, Option.bind_some, decide_true] at IH ⊢
          exact IH
        · by_cases c3 : (rd_T78 l (i : Int)).f2 = 2
          · simp only [c3, if_true, Option.bind_some] at IH ⊢
            exact IH
          · simp only [c2, c3, if_false, Option.bind_some, decide_false] at IH ⊢
            rw [if_neg (by simp [c3])]
            exact IH
      · simp only [c1, if_false, false_and, decide_false] at IH ⊢
        exact IH
    · have hi0 : i ≠ 0 := fun h => absurd (b3 h) (by simp)
      have hb := times l hr ((i : Int) - 1) (by omega) (by omega)
      simp only [if_true, true_and] at IH ⊢
      have em : wrap64 (v + mx 0 (wrap64 ((rd_T78 l (i : Int)).f0 - (rd_T78 l ((i : Int) - 1)).f0))) = v + (if (rd_T78 l (i : Int)).f0 > (rd_T78 l ((i : Int) - 1)).f0 then (rd_T78 l (i : Int)).f0 - (rd_T78 l ((i : Int) - 1)).f0 else 0) := by
        have e1 : wrap64 ((rd_T78 l (i : Int)).f0 - (rd_T78 l ((i : Int) - 1)).f0) = (rd_T78 l (i : Int)).f0 - (rd_T78 l ((i : Int) - 1)).f0 := by unfold wrap64; omega
        rw [e1]
        unfold mx
        split <;> split <;> (unfold wrap64; omega)
      rw [em]
      cases av
      · simp only [Bool.not_false, if_true] at IH ⊢
        rw [if_pos (by omega), if_pos (by omega)]
        by_cases c1 : (rd_T78 l (i : Int)).f1 = n
        · simp only [c1, if_true] at IH ⊢
          by_cases c2 : (rd_T78 l (i : Int)).f2 = 1
          · simp only [c2, if_true, Option.bind_some] at IH ⊢
            exact IH
          · by_cases c3 : (rd_T78 l (i : Int)).f2 = 2
            · simp only [c3, if_true, Option.bind_some] at IH ⊢
              exact IH
            · simp only [c2, c3, if_false, Option.bind_some] at IH ⊢
              rw [if_neg (by simp [c3])]
              exact IH
        · simp only [c1, if_false] at IH ⊢
          exact IH
      · simp only [Bool.not_true, Bool.false_eq_true, if_false, Bool.true_eq_false, Int.add_zero] at IH ⊢
        by_cases c1 : (rd_T78 l (i : Int)).f1 = n
        · simp only [c1, if_true] at IH ⊢
          by_cases c2 : (rd_T78 l (i : Int)).f2 = 1
          · simp only [c2, if_true, Option.bind_some] at IH ⊢
            exact IH
          · by_cases c3 : (rd_T78 l (i : Int)).f2 = 2
            · simp only [c3, if_true, Option.bind_some] at IH ⊢
              exact IH
            · simp only [c2, c3, if_false, Option.bind_some] at IH ⊢
              rw [if_neg (by simp [c3])]
              exact IH
        · simp only [c1, if_false] at IH ⊢
          exact IH
theorem downOf_eq (m : List S78) (n : Int) (k : Nat) (hk : 3 * m.length + 10 < k) : ∃ r, spec_DownOf.f k m n = some r ∧ impl_DownOf.f k m n = some r := by
  unfold spec_DownOf.f impl_DownOf.f
  obtain ⟨k, rfl⟩ : ∃ j, k = j + 1 := ⟨k - 1, by omega⟩
  rw [s_recs m _ (by omega), i_recs]
  simp only [Option.bind_some]
  by_cases hr : okRecs m = true
  · have hl : m.length ≤ 400 := by
      unfold okRecs at hr
      rw [Bool.and_eq_true] at hr
      exact of_decide_eq_true hr.1
    rw [if_pos hr, if_pos hr, s_node, m_node]
    simp only [Option.bind_some, spec_DownOf.j0, impl_DownOf.j0]
    cases nodeB n
    · exact ⟨_, rfl, rfl⟩
    · simp only [Bool.not_true, Bool.false_eq_true, if_false]
      exact ⟨_, down_spec m n hr hl m.length k 0 (by omega) (by omega), down_impl m n hr hl m.length k 0 (by omega) (by omega)⟩
  · rw [if_neg hr, if_neg hr]
    simp only [spec_DownOf.j0, impl_DownOf.j0]
    exact ⟨_, rfl, rfl⟩
theorem pure_DownOf : Pure_FnExactDownOf := by
  intro l n h _
  by_cases hb : l.length ≤ 1048576
  · refine ⟨3 * l.length + 1000, ?_⟩
    unfold laws_FnExactDownOf.f
    rw [szR l h.1]
    simp only [Option.bind_some, hb, if_true]
    rw [if_neg (by omega), toR l hb _ (by omega)]
    have hm : (l.map cvR).length = l.length := by simp
    generalize l.map cvR = m at hm
    simp only [Option.bind_some]
    obtain ⟨r, h1, h2⟩ := downOf_eq m n (3 * l.length + 1000) (by omega)
    rw [h1, h2]
    simp only [Option.bind_some, if_true]
    rw [eqR m (by omega) _ (by omega)]
    rfl
  · refine ⟨1, ?_⟩
    unfold laws_FnExactDownOf.f
    rw [szR l h.1]
    simp [hb]
end Go.Proofs.Ytgcgdjldhjajaaa.A
namespace Go.Proofs.Ytgcgdjldhjajaaa.Pure
theorem FnExactDownOf : A.Pure_FnExactDownOf := A.pure_DownOf
end Go.Proofs.Ytgcgdjldhjajaaa.Pure
