-- Merged by bundle.py out of 10 printed and hand-written texts of this claim.
import Derived.Test.YtgcgdjldhjajaaaZFnExactTimesOfa
import Derived.Test.YtgcgdjldhjajaaaZFnExactTimesOfc
import Derived.Test.YtgcgdjldhjajaaaZFnExactTimesOfb
import Derived.RowKit
namespace Go.Proofs.Ytgcgdjldhjajaaa.A
open Go.RowKit Go.Proofs.YtgcgdjldhjajaaaW.PrintWords Go.Proofs.YtgcgdjldhjajaaaW.PrintLast Go.Proofs.YtgcgdjldhjajaaaW.PrintMore
attribute [local go_sem] max2_int min2_int max_two min_two max_three min_three max_four min_four   -- for this text's walks alone
set_option linter.unusedVariables false
set_option linter.unusedSimpArgs false

/-! ### laws_markTimes: function 46 -/
def laws_markTimes.f (k : Nat) (a0_0 : Int) (a0_1 : Int) (a0_2 : Int) (a0_3 : Int) (a0_4 : Int) (l0_5 : List Int) (a1 : Int) : Option (Int × List Int) := (laws_markInt64S.f k l0_5 a1).bind fun bt102 => (some (bt102.1, bt102.2))
theorem laws_markTimes.mono : ∀ a0 a1 a2 a3 a4 a5 a6 k, LeO (laws_markTimes.f k a0 a1 a2 a3 a4 a5 a6) (laws_markTimes.f (k + 1) a0 a1 a2 a3 a4 a5 a6) := by
  intro a0 a1 a2 a3 a4 a5 a6 k
  unfold laws_markTimes.f
  repeat' first
      | (with_reducible exact laws_markInt64S.mono _ _ _)
      | (with_reducible exact LeO.refl _)
      | (with_reducible exact LeO.none _)
      | (with_reducible refine LeO.ite ?_ ?_)
      | (with_reducible refine LeO.bind ?_ (fun _ => ?_))
      | exact laws_markInt64S.mono _ _ _
      | exact LeO.none _
      | refine LeO.ite ?_ ?_
      | refine LeO.bind ?_ (fun _ => ?_)
set_option maxHeartbeats 8000000 in
set_option maxRecDepth 100000 in
theorem laws_markTimes.calls (k : Nat) (a0_0 : Int) (a0_1 : Int) (a0_2 : Int) (a0_3 : Int) (a0_4 : Int) (P0_5_ : Nat → Prop) (u9000_ : Value) (l0_5 : List Int) (a1 : Int) (r1 : Int) (r2 : List Int) (w0 w : World) (hB : Below w0.heap.size w0 w) (ho0_5 : Kd.R (Kd.int .i64) 2 w w0.heap.size P0_5_ u9000_ l0_5) (h : laws_markTimes.f k a0_0 a0_1 a0_2 a0_3 a0_4 l0_5 a1 = some (r1, r2)) :
    Calls Try.prog 46 #[.agg #[.int .i64 a0_0, .int .i64 a0_1, .int .i64 a0_2, .int .i64 a0_3, .int .i64 a0_4, u9000_], .int .i64 a1] w fun e w' => e = .returned (.int .i64 r1) ∧ Kd.R (Kd.int .i64) 2 w' w0.heap.size (fun k_ => (P0_5_ k_ ∨ w.heap.size ≤ k_)) u9000_ r2 ∧ Below w0.heap.size w0 w' ∧ Kept w w' (fun k_ => P0_5_ k_) := by
  have hu58 := Try.underlying58
  have HO0_5 := Aside0.mk (show Kd.R (Kd.int .i64) 2 w w0.heap.size (fun k_ => (P0_5_ k_ ∨ w.heap.size ≤ k_)) u9000_ l0_5 from Kd.R_mono ho0_5 (fun k_ hk => (.inl hk)))
  have HK := Aside0.mk (Kept.refl w (fun k_ => P0_5_ k_))
  have HW0 := Aside0.mk hB.size
  have HB := Aside0.mk hB
  clear hB
  have H : ((laws_markInt64S.f k l0_5 a1).bind fun bt102 => (some (bt102.1, bt102.2))) = some (r1, r2) := h
  clear h
  replace H := Option.bind_eq_some_iff.mp H
  obtain ⟨⟨t102, t103⟩, A30, H⟩ := H
  replace H : (some (t102, t103)) = some (r1, r2) := H
  have A3 := Aside0.mk A30
  clear A30
  simp only [Option.some.injEq, Prod.mk.injEq] at H
  obtain ⟨rfl, rfl⟩ := H
  obtain ⟨Ao4, co4, eo4⟩ := Kd.R_slice HO0_5.out
  subst eo4
  go_enter Try.func46, Try.ntmps46
  go_wp2_with (first | ((with_reducible refine gate_dst (N := 2) rfl ?_); refine box_event ?hg (N := 2) ?hd (cs := #[.int .i64 a0_0, .int .i64 a0_1, .int .i64 a0_2, .int .i64 a0_3, .int .i64 a0_4, .slice Ao4 l0_5.length co4]) (t := 58) ?hr ?_; (case hd => rfl); (case hg => rfl); (case hr => first | (go_simp; done) | (go_simp; rfl)); intro gb101 hg w5 hbox hb; have n0_ := Aside0.mk (Kd.R_below (by (with_reducible repeat (first | apply Kd.R_alloc | apply Kd.R_drewN | apply Kd.R_drew)); exact HO0_5.out) hb); have n1_ := Aside0.mk (Kept.below (S := (fun k_ => P0_5_ k_)) (by repeat (first | (with_reducible first | exact HK.out | apply Kept.alloc | apply Kept.drewN | apply Kept.drew) | exact HK.out)) hb); have n2_ := Aside0.mk (below_step (by repeat (first | (with_reducible first | exact HB.out | apply below_alloc | apply pw_below_drewN | apply below_drew1) | exact HB.out)) hb); have n3_ := Aside0.mk (hbox); have n4_ := Aside0.mk ((by rw [hg]; exact (by first | exact HK.out.1 | exact (show Kept w _ (fun k_ => P0_5_ k_) from by repeat (first | (with_reducible first | exact HK.out | apply Kept.alloc | apply Kept.drewN | apply Kept.drew) | exact HK.out)).1) : w.heap.size ≤ gb101)); have n5_ := Aside0.mk ((by rw [hg]; exact (below_size (by repeat (first | (with_reducible first | exact HB.out | apply below_alloc | apply pw_below_drewN | apply below_drew1) | exact HB.out))) : w0.heap.size ≤ gb101)); clear HO0_5; clear HK; clear HB; have HO0_5 := n0_; have HK := n1_; have HB := n2_; have BK101 := n3_; have GW101 := n4_; have GE101 := n5_; clear n0_ n1_ n2_ n3_ n4_ n5_; clear hb hbox hg; have hcz6_0 : w5.cell? ⟨gb101, 0, none⟩ = some (.int .i64 a0_0) := (blk_cell BK101.out 0).trans rfl; have hcz6_1 : w5.cell? ⟨gb101, 1, none⟩ = some (.int .i64 a0_1) := (blk_cell BK101.out 1).trans rfl; have hcz6_2 : w5.cell? ⟨gb101, 2, none⟩ = some (.int .i64 a0_2) := (blk_cell BK101.out 2).trans rfl; have hcz6_3 : w5.cell? ⟨gb101, 3, none⟩ = some (.int .i64 a0_3) := (blk_cell BK101.out 3).trans rfl; have hcz6_4 : w5.cell? ⟨gb101, 4, none⟩ = some (.int .i64 a0_4) := (blk_cell BK101.out 4).trans rfl; have hcz6_5 : w5.cell? ⟨gb101, 5, none⟩ = some (.slice Ao4 l0_5.length co4) := (blk_cell BK101.out 5).trans rfl; have hfz6_0 := blk_frozen BK101.out 0; have hfz6_1 := blk_frozen BK101.out 1; have hfz6_2 := blk_frozen BK101.out 2; have hfz6_3 := blk_frozen BK101.out 3; have hfz6_4 := blk_frozen BK101.out 4; have hfz6_5 := blk_frozen BK101.out 5) | ((with_reducible refine gate_callee (f := 31) rfl ?_); refine goesL_ (some 8) rfl rfl Try.func31 (by kernel_rfl) rfl #[.slice Ao4 l0_5.length co4, .int .i64 a1] rfl (by (try simp only [List.map_toArray, List.map_cons, List.map_nil]); first | done | rfl | (simp only [List.length_drop, List.length_take]; rfl)) ?_; (with_reducible refine (laws_markInt64S.calls k (fun k_ => some k_ = (.slice Ao4 l0_5.length co4 : Value).ownBlock) (.slice Ao4 l0_5.length co4) l0_5 a1 t102 t103 w0 _ ?side1 ?side2 A3.out).mono ?_); (case side1 => repeat (first | (with_reducible first | exact HB.out | apply below_alloc | apply pw_below_drewN | apply below_drew1 | refine below_set ?_ GE101.out) | exact HB.out)); (case side2 => exact Kd.R_tight rfl HO0_5.out); rintro e w7 ⟨rfl, hy0, hb, hkp⟩; refine ⟨_, rfl, ?_⟩; have n0_ := Aside0.mk (Kd.R_reok rfl hy0 (fun k_ e_ => HO0_5.out.1 k_ e_)); have n1_ := Aside0.mk (blk_kept (by (with_reducible repeat (first | refine blk_drewN ?_ _ | refine blk_drew ?_ | refine blk_alloc ?_ _)); exact BK101.out) hkp (fun hs_ => (fun e_ => (Kd.R_ne HO0_5.out BK101.out (by decide)) e_) hs_)); have n2_ := Aside0.mk (Kept.then_ (S := (fun k_ => P0_5_ k_)) (by repeat (first | (with_reducible first | exact HK.out | apply Kept.alloc | apply Kept.drewN | apply Kept.drew | refine Kept.setCell ?_ (.inr GW101.out) _) | exact HK.out)) hkp (fun k_ hs_ => (fun e_ => (HO0_5.out.1 k_ e_.symm)) hs_)); have n3_ := Aside0.mk (hb); clear HO0_5; clear BK101; clear HK; clear HB; have HO0_5 := n0_; have BK101 := n1_; have HK := n2_; have HB := n3_; clear n0_ n1_ n2_ n3_; (try clear hb); (try clear hkp); (try clear hy0)))
  go_ret
  exact ⟨by first | rfl | (simp [errW_none, errW_some] <;> rfl) | (simp [*, errW_none, errW_some] <;> rfl), by (with_reducible repeat (first | apply Kd.R_alloc | apply Kd.R_drewN | apply Kd.R_drew)); exact HO0_5.out, by repeat (first | (with_reducible first | exact HB.out | apply below_alloc | apply pw_below_drewN | apply below_drew1 | refine below_set ?_ GE101.out) | exact HB.out), by repeat (first | (with_reducible first | exact HK.out | apply Kept.alloc | apply Kept.drewN | apply Kept.drew | refine Kept.setCell ?_ (.inr GW101.out) _) | exact HK.out)⟩

end Go.Proofs.Ytgcgdjldhjajaaa.A
namespace Go.Proofs.Ytgcgdjldhjajaaa.A
open Go.RowKit Go.Proofs.YtgcgdjldhjajaaaW.PrintWords Go.Proofs.YtgcgdjldhjajaaaW.PrintLast Go.Proofs.YtgcgdjldhjajaaaW.PrintMore
attribute [local go_sem] max2_int min2_int max_two min_two max_three min_three max_four min_four   -- for this text's walks alone
set_option linter.unusedVariables false
set_option linter.unusedSimpArgs false

/-! ### laws_heldInt64S: function 32 -/
def laws_heldInt64S.l0 : Nat → List Int → Int → Int → Option (Int)
  | 0, _, _, _ => none
  | k + 1, x0, x1, x5 => if x5 < (x0.length : Int) then (if 0 ≤ x5 then (if (rd x0 x5) = x1 then (laws_heldInt64S.l0 k x0 (wrap64 (x1 + 1)) (wrap64 (x5 + 1))) else (some (-1))) else (none)) else (some x1)
def laws_heldInt64S.f (k : Nat) (l0 : List Int) (a1 : Int) : Option (Int) := laws_heldInt64S.l0 k l0 a1 0
theorem laws_heldInt64S.mono_l : ∀ k, (∀ y0 y1 y2, LeO (laws_heldInt64S.l0 k y0 y1 y2) (laws_heldInt64S.l0 (k + 1) y0 y1 y2))
  | 0 => fun _ _ _ r h => by simp [laws_heldInt64S.l0] at h
  | k + 1 => by
    have ih0 := laws_heldInt64S.mono_l k
    · intro y0 y1 y2
      unfold laws_heldInt64S.l0
      repeat' first
      | (with_reducible exact ih0 _ _ _)
      | (with_reducible exact LeO.refl _)
      | (with_reducible exact LeO.none _)
      | (with_reducible refine LeO.ite ?_ ?_)
      | (with_reducible refine LeO.bind ?_ (fun _ => ?_))
      | exact ih0 _ _ _
      | exact LeO.none _
      | refine LeO.ite ?_ ?_
      | refine LeO.bind ?_ (fun _ => ?_)
theorem laws_heldInt64S.mono : ∀ a0 a1 k, LeO (laws_heldInt64S.f k a0 a1) (laws_heldInt64S.f (k + 1) a0 a1) := by
  intro a0 a1 k
  have ih0 := laws_heldInt64S.mono_l k
  unfold laws_heldInt64S.f
  repeat' first
      | (with_reducible exact ih0 _ _ _)
      | (with_reducible exact LeO.refl _)
      | (with_reducible exact LeO.none _)
      | (with_reducible refine LeO.ite ?_ ?_)
      | (with_reducible refine LeO.bind ?_ (fun _ => ?_))
      | exact ih0 _ _ _
      | exact LeO.none _
      | refine LeO.ite ?_ ?_
      | refine LeO.bind ?_ (fun _ => ?_)
set_option maxHeartbeats 8000000 in
set_option maxRecDepth 100000 in
theorem laws_heldInt64S.calls (k : Nat) (A0 : Option Addr) (c0 : Nat) (l0 : List Int) (a1 : Int) (r : Int) (w : World) (hr0 : Kd.C (Kd.int .i64) w A0 l0.length l0) (hc0 : l0.length ≤ c0) (h : laws_heldInt64S.f k l0 a1 = some r) :
    Calls Try.prog 32 #[.slice A0 l0.length c0, .int .i64 a1] w fun e w' => e = .returned (.int .i64 r) ∧ Drawn0 w w' := by
  have HR0 := Aside0.mk hr0
  have HC0 := Aside0.mk hc0
  clear hr0 hc0
  have H : (laws_heldInt64S.l0 k l0 a1 0) = some r := h
  clear h
  have H' := Aside0.mk H
  clear H
  go_enter Try.func32, Try.ntmps32
  go_wp2
  go_loopg [1, 5] k (fun kq v1 v5 w' => ∃ (x1_1 : Int) (x5_1 : Int), v1 = .int .i64 x1_1 ∧ v5 = .int .i64 x5_1 ∧ Aside0 (laws_heldInt64S.l0 kq l0 x1_1 x5_1 = some r) ∧ Aside0 (kq ≤ k) ∧ Drawn0 w w')
  case atStart => exact ⟨(a1), (0), (by first | rfl | (simp; done) | (simp [*]; done)), (by first | rfl | (simp; done) | (simp [*]; done)), H', ⟨Nat.le_refl _⟩, by repeat (first | exact Drawn0.refl _ | apply Drawn0.step)⟩
  case round =>
    clear H'
    try clear p2
    obtain ⟨x1_1, x5_1, rfl, rfl, HA, HK1, ⟨m1, rfl⟩⟩ := hrel
    cases gk with
    | zero => exact absurd HA.out (by simp [laws_heldInt64S.l0])
    | succ k1 =>
      have H := HA.out
      clear HA
      simp only [laws_heldInt64S.l0] at H
      by_cases c3 : x5_1 < (l0.length : Int)
      · rw [if_pos c3] at H
        have c3b0 : decide (x5_1 < (l0.length : Int)) = true := decide_eq_true c3
        clear c3
        by_cases c4 : 0 ≤ x5_1
        · rw [if_pos c4] at H
          have c4b0 : decide (0 ≤ x5_1) = true := decide_eq_true c4
          clear c4
          by_cases c5 : (rd l0 x5_1) = x1_1
          · rw [if_pos c5] at H
            have c5b0 : ((rd l0 x5_1) == x1_1) = true := beq_iff_eq.mpr c5
            have c5b1 : ((rd l0 x5_1) != x1_1) = false := bne_eq_false_iff_eq.mpr c5
            clear c5
            have H' := Aside0.mk H
            clear H
            have p101 : 0 ≤ (x5_1 : Int) := of_decide_eq_true (by first | (with_reducible assumption) | assumption)
            have q101 : x5_1 < (l0.length : Int) := of_decide_eq_true (by first | (with_reducible assumption) | assumption)
            obtain ⟨ad101, e101, hx101_0⟩ := Kd.at_int HR0.out x5_1 p101 q101
            cases e101
            replace p101 := eq_true p101
            replace q101 := eq_true q101
            go_wp2
            go_roundg k1
            case measure => have := HK1.out; omega
            case rel => exact ⟨(wrap64 (x1_1 + 1)), (wrap64 (x5_1 + 1)), (by first | rfl | (simp; done) | (simp [*]; done)), (by first | rfl | (simp; done) | (simp [*]; done)), H', ⟨by have := HK1.out; omega⟩, by repeat (first | exact Drawn0.refl _ | apply Drawn0.step)⟩
          · rw [if_neg c5] at H
            have c5b0 : ((rd l0 x5_1) == x1_1) = false := beq_eq_false_iff_ne.mpr c5
            have c5b1 : ((rd l0 x5_1) != x1_1) = true := bne_iff_ne.mpr c5
            obtain rfl := Option.some.inj H
            have p101 : 0 ≤ (x5_1 : Int) := of_decide_eq_true (by first | (with_reducible assumption) | assumption)
            have q101 : x5_1 < (l0.length : Int) := of_decide_eq_true (by first | (with_reducible assumption) | assumption)
            obtain ⟨ad101, e101, hx101_0⟩ := Kd.at_int HR0.out x5_1 p101 q101
            cases e101
            replace p101 := eq_true p101
            replace q101 := eq_true q101
            go_wp2
            go_ret
            exact ⟨by first | rfl | (simp; done) | (simp [*]; done), by repeat (first | exact Drawn0.refl _ | apply Drawn0.step)⟩
        · rw [if_neg c4] at H
          exact absurd H (by simp)
      · rw [if_neg c3] at H
        have c3b0 : decide (x5_1 < (l0.length : Int)) = false := decide_eq_false c3
        clear c3
        obtain rfl := Option.some.inj H
        go_wp2
        go_ret
        exact ⟨by first | rfl | (simp; done) | (simp [*]; done), by repeat (first | exact Drawn0.refl _ | apply Drawn0.step)⟩

end Go.Proofs.Ytgcgdjldhjajaaa.A
namespace Go.Proofs.Ytgcgdjldhjajaaa.A
open Go.RowKit Go.Proofs.YtgcgdjldhjajaaaW.PrintWords Go.Proofs.YtgcgdjldhjajaaaW.PrintLast Go.Proofs.YtgcgdjldhjajaaaW.PrintMore
attribute [local go_sem] max2_int min2_int max_two min_two max_three min_three max_four min_four   -- for this text's walks alone
set_option linter.unusedVariables false
set_option linter.unusedSimpArgs false

/-! ### laws_heldTimes: function 47 -/
def laws_heldTimes.f (k : Nat) (a0_0 : Int) (a0_1 : Int) (a0_2 : Int) (a0_3 : Int) (a0_4 : Int) (l0_5 : List Int) (a1 : Int) : Option (Int) := (laws_heldInt64S.f k l0_5 a1).bind fun t102 => (if t102 < 0 then (some (-1)) else (some t102))
theorem laws_heldTimes.mono : ∀ a0 a1 a2 a3 a4 a5 a6 k, LeO (laws_heldTimes.f k a0 a1 a2 a3 a4 a5 a6) (laws_heldTimes.f (k + 1) a0 a1 a2 a3 a4 a5 a6) := by
  intro a0 a1 a2 a3 a4 a5 a6 k
  unfold laws_heldTimes.f
  repeat' first
      | (with_reducible exact laws_heldInt64S.mono _ _ _)
      | (with_reducible exact LeO.refl _)
      | (with_reducible exact LeO.none _)
      | (with_reducible refine LeO.ite ?_ ?_)
      | (with_reducible refine LeO.bind ?_ (fun _ => ?_))
      | exact laws_heldInt64S.mono _ _ _
      | exact LeO.none _
      | refine LeO.ite ?_ ?_
      | refine LeO.bind ?_ (fun _ => ?_)
set_option maxHeartbeats 8000000 in
set_option maxRecDepth 100000 in
theorem laws_heldTimes.calls (k : Nat) (a0_0 : Int) (a0_1 : Int) (a0_2 : Int) (a0_3 : Int) (a0_4 : Int) (A0_5 : Option Addr) (c0_5 : Nat) (l0_5 : List Int) (a1 : Int) (r : Int) (w : World) (hr0_5 : Kd.C (Kd.int .i64) w A0_5 l0_5.length l0_5) (hc0_5 : l0_5.length ≤ c0_5) (h : laws_heldTimes.f k a0_0 a0_1 a0_2 a0_3 a0_4 l0_5 a1 = some r) :
    Calls Try.prog 47 #[.agg #[.int .i64 a0_0, .int .i64 a0_1, .int .i64 a0_2, .int .i64 a0_3, .int .i64 a0_4, .slice A0_5 l0_5.length c0_5], .int .i64 a1] w fun e w' => e = .returned (.int .i64 r) ∧ Below w.heap.size w w' := by
  have hu58 := Try.underlying58
  have HR0_5 := Aside0.mk hr0_5
  have HC0_5 := Aside0.mk hc0_5
  clear hr0_5 hc0_5
  have HB := Aside0.mk (Below.refl w.heap.size w)
  have H : ((laws_heldInt64S.f k l0_5 a1).bind fun t102 => (if t102 < 0 then (some (-1)) else (some t102))) = some r := h
  clear h
  replace H := Option.bind_eq_some_iff.mp H
  obtain ⟨t102, A30, H⟩ := H
  replace H : (if t102 < 0 then (some (-1)) else (some t102)) = some r := H
  have A3 := Aside0.mk A30
  clear A30
  by_cases c4 : t102 < 0
  · rw [if_pos c4] at H
    have c4b0 : decide (t102 < 0) = true := decide_eq_true c4
    clear c4
    obtain rfl := Option.some.inj H
    go_enter Try.func47, Try.ntmps47
    go_wp2_with (first | ((with_reducible refine gate_dst (N := 2) rfl ?_); refine box_event ?hg (N := 2) ?hd (cs := #[.int .i64 a0_0, .int .i64 a0_1, .int .i64 a0_2, .int .i64 a0_3, .int .i64 a0_4, .slice A0_5 l0_5.length c0_5]) (t := 58) ?hr ?_; (case hd => rfl); (case hg => rfl); (case hr => first | (go_simp; done) | (go_simp; rfl)); intro gb101 hg w5 hbox hb; have n0_ := Aside0.mk (below_step (by repeat (first | (with_reducible first | exact HB.out | apply below_alloc | apply pw_below_drewN | apply below_drew1) | exact HB.out)) hb); have n1_ := Aside0.mk (hbox); have n2_ := Aside0.mk ((by rw [hg]; exact (below_size (by repeat (first | (with_reducible first | exact HB.out | apply below_alloc | apply pw_below_drewN | apply below_drew1) | exact HB.out))) : w.heap.size ≤ gb101)); have n3_ := Aside0.mk ((by rw [hg]; exact (below_size (by repeat (first | (with_reducible first | exact HB.out | apply below_alloc | apply pw_below_drewN | apply below_drew1) | exact HB.out))) : w.heap.size ≤ gb101)); clear HB; have HB := n0_; have BK101 := n1_; have GW101 := n2_; have GE101 := n3_; clear n0_ n1_ n2_ n3_; clear hb hbox hg; have hcz6_0 : w5.cell? ⟨gb101, 0, none⟩ = some (.int .i64 a0_0) := (blk_cell BK101.out 0).trans rfl; have hcz6_1 : w5.cell? ⟨gb101, 1, none⟩ = some (.int .i64 a0_1) := (blk_cell BK101.out 1).trans rfl; have hcz6_2 : w5.cell? ⟨gb101, 2, none⟩ = some (.int .i64 a0_2) := (blk_cell BK101.out 2).trans rfl; have hcz6_3 : w5.cell? ⟨gb101, 3, none⟩ = some (.int .i64 a0_3) := (blk_cell BK101.out 3).trans rfl; have hcz6_4 : w5.cell? ⟨gb101, 4, none⟩ = some (.int .i64 a0_4) := (blk_cell BK101.out 4).trans rfl; have hcz6_5 : w5.cell? ⟨gb101, 5, none⟩ = some (.slice A0_5 l0_5.length c0_5) := (blk_cell BK101.out 5).trans rfl; have hfz6_0 := blk_frozen BK101.out 0; have hfz6_1 := blk_frozen BK101.out 1; have hfz6_2 := blk_frozen BK101.out 2; have hfz6_3 := blk_frozen BK101.out 3; have hfz6_4 := blk_frozen BK101.out 4; have hfz6_5 := blk_frozen BK101.out 5) | ((with_reducible refine gate_callee (f := 32) rfl ?_); refine goesL_ (some 8) rfl rfl Try.func32 (by kernel_rfl) rfl #[.slice A0_5 l0_5.length c0_5, .int .i64 a1] rfl (by (try simp only [List.map_toArray, List.map_cons, List.map_nil]); first | done | rfl | (simp only [List.length_drop, List.length_take]; rfl)) ?_; (with_reducible refine (laws_heldInt64S.calls k _ _ l0_5 a1 t102 _ ?side1 ?side2 A3.out).mono ?_); (case side1 => repeat (first | exact (Kd.C_below HR0_5.out HB.out) | (with_reducible refine Kd.C_alloc ?_ _) | (with_reducible refine Kd.C_drewN ?_ _) | (with_reducible refine Kd.C_drew ?_))); (case side2 => exact HC0_5.out); rintro e w' ⟨rfl, ⟨nd, rfl⟩⟩; refine ⟨_, rfl, ?_⟩))
    go_ret
    exact ⟨by first | rfl | (simp [errW_none, errW_some] <;> rfl) | (simp [*, errW_none, errW_some] <;> rfl), by repeat (first | (with_reducible first | exact HB.out | apply below_alloc | apply pw_below_drewN | apply below_drew1 | refine below_set ?_ GE101.out) | exact HB.out)⟩
  · rw [if_neg c4] at H
    have c4b0 : decide (t102 < 0) = false := decide_eq_false c4
    clear c4
    obtain rfl := Option.some.inj H
    go_enter Try.func47, Try.ntmps47
    go_wp2_with (first | ((with_reducible refine gate_dst (N := 2) rfl ?_); refine box_event ?hg (N := 2) ?hd (cs := #[.int .i64 a0_0, .int .i64 a0_1, .int .i64 a0_2, .int .i64 a0_3, .int .i64 a0_4, .slice A0_5 l0_5.length c0_5]) (t := 58) ?hr ?_; (case hd => rfl); (case hg => rfl); (case hr => first | (go_simp; done) | (go_simp; rfl)); intro gb101 hg w7 hbox hb; have n0_ := Aside0.mk (below_step (by repeat (first | (with_reducible first | exact HB.out | apply below_alloc | apply pw_below_drewN | apply below_drew1) | exact HB.out)) hb); have n1_ := Aside0.mk (hbox); have n2_ := Aside0.mk ((by rw [hg]; exact (below_size (by repeat (first | (with_reducible first | exact HB.out | apply below_alloc | apply pw_below_drewN | apply below_drew1) | exact HB.out))) : w.heap.size ≤ gb101)); have n3_ := Aside0.mk ((by rw [hg]; exact (below_size (by repeat (first | (with_reducible first | exact HB.out | apply below_alloc | apply pw_below_drewN | apply below_drew1) | exact HB.out))) : w.heap.size ≤ gb101)); clear HB; have HB := n0_; have BK101 := n1_; have GW101 := n2_; have GE101 := n3_; clear n0_ n1_ n2_ n3_; clear hb hbox hg; have hcz8_0 : w7.cell? ⟨gb101, 0, none⟩ = some (.int .i64 a0_0) := (blk_cell BK101.out 0).trans rfl; have hcz8_1 : w7.cell? ⟨gb101, 1, none⟩ = some (.int .i64 a0_1) := (blk_cell BK101.out 1).trans rfl; have hcz8_2 : w7.cell? ⟨gb101, 2, none⟩ = some (.int .i64 a0_2) := (blk_cell BK101.out 2).trans rfl; have hcz8_3 : w7.cell? ⟨gb101, 3, none⟩ = some (.int .i64 a0_3) := (blk_cell BK101.out 3).trans rfl; have hcz8_4 : w7.cell? ⟨gb101, 4, none⟩ = some (.int .i64 a0_4) := (blk_cell BK101.out 4).trans rfl; have hcz8_5 : w7.cell? ⟨gb101, 5, none⟩ = some (.slice A0_5 l0_5.length c0_5) := (blk_cell BK101.out 5).trans rfl; have hfz8_0 := blk_frozen BK101.out 0; have hfz8_1 := blk_frozen BK101.out 1; have hfz8_2 := blk_frozen BK101.out 2; have hfz8_3 := blk_frozen BK101.out 3; have hfz8_4 := blk_frozen BK101.out 4; have hfz8_5 := blk_frozen BK101.out 5) | ((with_reducible refine gate_callee (f := 32) rfl ?_); refine goesL_ (some 8) rfl rfl Try.func32 (by kernel_rfl) rfl #[.slice A0_5 l0_5.length c0_5, .int .i64 a1] rfl (by (try simp only [List.map_toArray, List.map_cons, List.map_nil]); first | done | rfl | (simp only [List.length_drop, List.length_take]; rfl)) ?_; (with_reducible refine (laws_heldInt64S.calls k _ _ l0_5 a1 t102 _ ?side1 ?side2 A3.out).mono ?_); (case side1 => repeat (first | exact (Kd.C_below HR0_5.out HB.out) | (with_reducible refine Kd.C_alloc ?_ _) | (with_reducible refine Kd.C_drewN ?_ _) | (with_reducible refine Kd.C_drew ?_))); (case side2 => exact HC0_5.out); rintro e w' ⟨rfl, ⟨nd, rfl⟩⟩; refine ⟨_, rfl, ?_⟩))
    go_ret
    exact ⟨by first | rfl | (simp [errW_none, errW_some] <;> rfl) | (simp [*, errW_none, errW_some] <;> rfl), by repeat (first | (with_reducible first | exact HB.out | apply below_alloc | apply pw_below_drewN | apply below_drew1 | refine below_set ?_ GE101.out) | exact HB.out)⟩

end Go.Proofs.Ytgcgdjldhjajaaa.A
namespace Go.Proofs.Ytgcgdjldhjajaaa.A
open Go.RowKit Go.Proofs.YtgcgdjldhjajaaaW.PrintWords Go.Proofs.YtgcgdjldhjajaaaW.PrintLast Go.Proofs.YtgcgdjldhjajaaaW.PrintMore
attribute [local go_sem] max2_int min2_int max_two min_two max_three min_three max_four min_four   -- for this text's walks alone
set_option linter.unusedVariables false
set_option linter.unusedSimpArgs false

/-! ### laws_FnExactTimesOf: function 10 -/
def laws_FnExactTimesOf.j0 : Nat → List (S80) → Bool → Int → Int → Int → Int → Int → List Int → Int → Int → Int → Int → Int → List Int → Option (Bool)
  | 0, _, _, _, _, _, _, _, _, _, _, _, _, _, _ => none
  | k + 1, x0, x42, x114000, x114001, x114002, x114003, x114004, x114005, x126000, x126001, x126002, x126003, x126004, x126005 => if x42 = true then (some false) else ((laws_markTimes.f k x126000 x126001 x126002 x126003 x126004 x126005 1).bind fun bt134 => ((laws_heldTimes.f k x126000 x126001 x126002 x126003 x126004 bt134.2 1).bind fun t136 => (if t136 < 0 then (some false) else (if t136 = bt134.1 then ((laws_toRecS.f k x0).bind fun t137 => ((impl_TimesOf.f t137).bind fun bt140 => ((laws_eqTimes.f k bt140.1 bt140.2.1 bt140.2.2.1 bt140.2.2.2.1 bt140.2.2.2.2.1 bt140.2.2.2.2.2 x114000 x114001 x114002 x114003 x114004 x114005).bind fun t149 => (if t149 = true then ((laws_heldTimes.f k x126000 x126001 x126002 x126003 x126004 bt134.2 1).bind fun t150 => (if t150 < 0 then (some false) else (if t150 = bt134.1 then (some true) else (some false)))) else (some false))))) else (some false)))))
def laws_FnExactTimesOf.f (k : Nat) (l0 : List (S80)) : Option (Bool) := (laws_szRecS.f l0 1048576).bind fun t101 => (if t101 < 0 then (some true) else ((laws_toRecS.f k l0).bind fun t102 => ((spec_TimesOf.f t102).bind fun bt105 => ((laws_toRecS.f k l0).bind fun t114 => ((impl_TimesOf.f t114).bind fun bt117 => ((laws_eqTimes.f k bt117.1 bt117.2.1 bt117.2.2.1 bt117.2.2.2.1 bt117.2.2.2.2.1 bt117.2.2.2.2.2 bt105.1 bt105.2.1 bt105.2.2.1 bt105.2.2.2.1 bt105.2.2.2.2.1 bt105.2.2.2.2.2).bind fun t126 => (if t126 = true then ((laws_toRecS.f k l0).bind fun t127 => ((laws_eqRecS.f k t114 t127).bind fun t130 => (if t130 = true then ((laws_markRecS.f k t114 1).bind fun bt131 => (if bt131.1 < 0 then (laws_FnExactTimesOf.j0 k l0 true bt105.1 bt105.2.1 bt105.2.2.1 bt105.2.2.2.1 bt105.2.2.2.2.1 bt105.2.2.2.2.2 bt117.1 bt117.2.1 bt117.2.2.1 bt117.2.2.2.1 bt117.2.2.2.2.1 bt117.2.2.2.2.2) else ((laws_eqTimes.f k bt117.1 bt117.2.1 bt117.2.2.1 bt117.2.2.2.1 bt117.2.2.2.2.1 bt117.2.2.2.2.2 bt105.1 bt105.2.1 bt105.2.2.1 bt105.2.2.2.1 bt105.2.2.2.2.1 bt105.2.2.2.2.2).bind fun t133 => (laws_FnExactTimesOf.j0 k l0 (!t133) bt105.1 bt105.2.1 bt105.2.2.1 bt105.2.2.2.1 bt105.2.2.2.2.1 bt105.2.2.2.2.2 bt117.1 bt117.2.1 bt117.2.2.1 bt117.2.2.2.1 bt117.2.2.2.2.1 bt117.2.2.2.2.2)))) else (some false)))) else (some false))))))))
theorem laws_FnExactTimesOf.mono_l : ∀ k, (∀ y0 y1 y2 y3 y4 y5 y6 y7 y8 y9 y10 y11 y12 y13, LeO (laws_FnExactTimesOf.j0 k y0 y1 y2 y3 y4 y5 y6 y7 y8 y9 y10 y11 y12 y13) (laws_FnExactTimesOf.j0 (k + 1) y0 y1 y2 y3 y4 y5 y6 y7 y8 y9 y10 y11 y12 y13))
  | 0 => fun _ _ _ _ _ _ _ _ _ _ _ _ _ _ r h => by simp [laws_FnExactTimesOf.j0] at h
  | k + 1 => by
    have ih0 := laws_FnExactTimesOf.mono_l k
    · intro y0 y1 y2 y3 y4 y5 y6 y7 y8 y9 y10 y11 y12 y13
      unfold laws_FnExactTimesOf.j0
      repeat' first
      | (with_reducible exact ih0 _ _ _ _ _ _ _ _ _ _ _ _ _ _)
      | (with_reducible exact laws_eqRecS.mono _ _ _)
      | (with_reducible exact laws_eqTimes.mono _ _ _ _ _ _ _ _ _ _ _ _ _)
      | (with_reducible exact laws_heldTimes.mono _ _ _ _ _ _ _ _)
      | (with_reducible exact laws_markRecS.mono _ _ _)
      | (with_reducible exact laws_markTimes.mono _ _ _ _ _ _ _ _)
      | (with_reducible exact laws_toRecS.mono _ _)
      | (with_reducible exact LeO.refl _)
      | (with_reducible exact LeO.none _)
      | (with_reducible refine LeO.ite ?_ ?_)
      | (with_reducible refine LeO.bind ?_ (fun _ => ?_))
      | exact ih0 _ _ _ _ _ _ _ _ _ _ _ _ _ _
      | exact laws_eqRecS.mono _ _ _
      | exact laws_eqTimes.mono _ _ _ _ _ _ _ _ _ _ _ _ _
      | exact laws_heldTimes.mono _ _ _ _ _ _ _ _
      | exact laws_markRecS.mono _ _ _
      | exact laws_markTimes.mono _ _ _ _ _ _ _ _
      | exact laws_toRecS.mono _ _
      | exact LeO.none _
      | refine LeO.ite ?_ ?_
      | refine LeO.bind ?_ (fun _ => ?_)
theorem laws_FnExactTimesOf.mono : ∀ a0 k, LeO (laws_FnExactTimesOf.f k a0) (laws_FnExactTimesOf.f (k + 1) a0) := by
  intro a0 k
  have ih0 := laws_FnExactTimesOf.mono_l k
  unfold laws_FnExactTimesOf.f
  repeat' first
      | (with_reducible exact ih0 _ _ _ _ _ _ _ _ _ _ _ _ _ _)
      | (with_reducible exact laws_eqRecS.mono _ _ _)
      | (with_reducible exact laws_eqTimes.mono _ _ _ _ _ _ _ _ _ _ _ _ _)
      | (with_reducible exact laws_heldTimes.mono _ _ _ _ _ _ _ _)
      | (with_reducible exact laws_markRecS.mono _ _ _)
      | (with_reducible exact laws_markTimes.mono _ _ _ _ _ _ _ _)
      | (with_reducible exact laws_toRecS.mono _ _)
      | (with_reducible exact LeO.refl _)
      | (with_reducible exact LeO.none _)
      | (with_reducible refine LeO.ite ?_ ?_)
      | (with_reducible refine LeO.bind ?_ (fun _ => ?_))
      | exact ih0 _ _ _ _ _ _ _ _ _ _ _ _ _ _
      | exact laws_eqRecS.mono _ _ _
      | exact laws_eqTimes.mono _ _ _ _ _ _ _ _ _ _ _ _ _
      | exact laws_heldTimes.mono _ _ _ _ _ _ _ _
      | exact laws_markRecS.mono _ _ _
      | exact laws_markTimes.mono _ _ _ _ _ _ _ _
      | exact laws_toRecS.mono _ _
      | exact LeO.none _
      | refine LeO.ite ?_ ?_
      | refine LeO.bind ?_ (fun _ => ?_)
set_option maxHeartbeats 8000000 in
set_option maxRecDepth 100000 in
theorem laws_FnExactTimesOf.calls (k : Nat) (A0 : Option Addr) (c0 : Nat) (l0 : List (S80)) (r : Bool) (w : World) (hr0 : Kd.C k80 w A0 l0.length l0) (hc0 : l0.length ≤ c0) (ht : r = true) (h : laws_FnExactTimesOf.f k l0 = some r) :
    Calls Try.prog 10 #[.slice A0 l0.length c0] w fun e w' => e = .returned (.bool r) ∧ Below w.heap.size w w' := by
  have hu58 := Try.underlying58
  have HR0 := Aside0.mk hr0
  have HC0 := Aside0.mk hc0
  clear hr0 hc0
  have HB := Aside0.mk (Below.refl w.heap.size w)
  have H : ((laws_szRecS.f l0 1048576).bind fun t101 => (if t101 < 0 then (some true) else ((laws_toRecS.f k l0).bind fun t102 => ((spec_TimesOf.f t102).bind fun bt105 => ((laws_toRecS.f k l0).bind fun t114 => ((impl_TimesOf.f t114).bind fun bt117 => ((laws_eqTimes.f k bt117.1 bt117.2.1 bt117.2.2.1 bt117.2.2.2.1 bt117.2.2.2.2.1 bt117.2.2.2.2.2 bt105.1 bt105.2.1 bt105.2.2.1 bt105.2.2.2.1 bt105.2.2.2.2.1 bt105.2.2.2.2.2).bind fun t126 => (if t126 = true then ((laws_toRecS.f k l0).bind fun t127 => ((laws_eqRecS.f k t114 t127).bind fun t130 => (if t130 = true then ((laws_markRecS.f k t114 1).bind fun bt131 => (if bt131.1 < 0 then (laws_FnExactTimesOf.j0 k l0 true bt105.1 bt105.2.1 bt105.2.2.1 bt105.2.2.2.1 bt105.2.2.2.2.1 bt105.2.2.2.2.2 bt117.1 bt117.2.1 bt117.2.2.1 bt117.2.2.2.1 bt117.2.2.2.2.1 bt117.2.2.2.2.2) else ((laws_eqTimes.f k bt117.1 bt117.2.1 bt117.2.2.1 bt117.2.2.2.1 bt117.2.2.2.2.1 bt117.2.2.2.2.2 bt105.1 bt105.2.1 bt105.2.2.1 bt105.2.2.2.1 bt105.2.2.2.2.1 bt105.2.2.2.2.2).bind fun t133 => (laws_FnExactTimesOf.j0 k l0 (!t133) bt105.1 bt105.2.1 bt105.2.2.1 bt105.2.2.2.1 bt105.2.2.2.2.1 bt105.2.2.2.2.2 bt117.1 bt117.2.1 bt117.2.2.1 bt117.2.2.2.1 bt117.2.2.2.2.1 bt117.2.2.2.2.2)))) else (some false)))) else (some false))))))))) = some r := h
  clear h
  replace H := Option.bind_eq_some_iff.mp H
  obtain ⟨t101, A20, H⟩ := H
  replace H : (if t101 < 0 then (some true) else ((laws_toRecS.f k l0).bind fun t102 => ((spec_TimesOf.f t102).bind fun bt105 => ((laws_toRecS.f k l0).bind fun t114 => ((impl_TimesOf.f t114).bind fun bt117 => ((laws_eqTimes.f k bt117.1 bt117.2.1 bt117.2.2.1 bt117.2.2.2.1 bt117.2.2.2.2.1 bt117.2.2.2.2.2 bt105.1 bt105.2.1 bt105.2.2.1 bt105.2.2.2.1 bt105.2.2.2.2.1 bt105.2.2.2.2.2).bind fun t126 => (if t126 = true then ((laws_toRecS.f k l0).bind fun t127 => ((laws_eqRecS.f k t114 t127).bind fun t130 => (if t130 = true then ((laws_markRecS.f k t114 1).bind fun bt131 => (if bt131.1 < 0 then (laws_FnExactTimesOf.j0 k l0 true bt105.1 bt105.2.1 bt105.2.2.1 bt105.2.2.2.1 bt105.2.2.2.2.1 bt105.2.2.2.2.2 bt117.1 bt117.2.1 bt117.2.2.1 bt117.2.2.2.1 bt117.2.2.2.2.1 bt117.2.2.2.2.2) else ((laws_eqTimes.f k bt117.1 bt117.2.1 bt117.2.2.1 bt117.2.2.2.1 bt117.2.2.2.2.1 bt117.2.2.2.2.2 bt105.1 bt105.2.1 bt105.2.2.1 bt105.2.2.2.1 bt105.2.2.2.2.1 bt105.2.2.2.2.2).bind fun t133 => (laws_FnExactTimesOf.j0 k l0 (!t133) bt105.1 bt105.2.1 bt105.2.2.1 bt105.2.2.2.1 bt105.2.2.2.2.1 bt105.2.2.2.2.2 bt117.1 bt117.2.1 bt117.2.2.1 bt117.2.2.2.1 bt117.2.2.2.2.1 bt117.2.2.2.2.2)))) else (some false)))) else (some false)))))))) = some r := H
  have A2 := Aside0.mk A20
  clear A20
  by_cases c3 : t101 < 0
  · rw [if_pos c3] at H
    have c3b0 : decide (t101 < 0) = true := decide_eq_true c3
    clear c3
    clear ht
    obtain rfl := Option.some.inj H
    go_enter Try.func10, Try.ntmps10
    go_wp2_with (first | ((with_reducible refine gate_callee (f := 15) rfl ?_); refine goesL_ (some 13) rfl rfl Try.func15 (by kernel_rfl) rfl #[.slice A0 l0.length c0, .int .i64 1048576] rfl (by (try simp only [List.map_toArray, List.map_cons, List.map_nil]); first | done | rfl | (simp only [List.length_drop, List.length_take]; rfl)) ?_; (with_reducible refine (laws_szRecS.calls _ _ l0 1048576 t101 _ ?side1 ?side2 A2.out).mono ?_); (case side1 => repeat (first | exact HR0.out | (with_reducible refine Kd.C_alloc ?_ _) | (with_reducible refine Kd.C_drewN ?_ _) | (with_reducible refine Kd.C_drew ?_))); (case side2 => exact HC0.out); rintro e w' ⟨rfl, ⟨nd, rfl⟩⟩; refine ⟨_, rfl, ?_⟩))
    go_ret
    exact ⟨by first | rfl | (simp [errW_none, errW_some] <;> rfl) | (simp [*, errW_none, errW_some] <;> rfl), by repeat (first | (with_reducible first | exact HB.out | apply below_alloc | apply pw_below_drewN | apply below_drew1) | exact HB.out)⟩
  · rw [if_neg c3] at H
    have c3b0 : decide (t101 < 0) = false := decide_eq_false c3
    clear c3
    replace H := Option.bind_eq_some_iff.mp H
    obtain ⟨t102, A40, H⟩ := H
    replace H : ((spec_TimesOf.f t102).bind fun bt105 => ((laws_toRecS.f k l0).bind fun t114 => ((impl_TimesOf.f t114).bind fun bt117 => ((laws_eqTimes.f k bt117.1 bt117.2.1 bt117.2.2.1 bt117.2.2.2.1 bt117.2.2.2.2.1 bt117.2.2.2.2.2 bt105.1 bt105.2.1 bt105.2.2.1 bt105.2.2.2.1 bt105.2.2.2.2.1 bt105.2.2.2.2.2).bind fun t126 => (if t126 = true then ((laws_toRecS.f k l0).bind fun t127 => ((laws_eqRecS.f k t114 t127).bind fun t130 => (if t130 = true then ((laws_markRecS.f k t114 1).bind fun bt131 => (if bt131.1 < 0 then (laws_FnExactTimesOf.j0 k l0 true bt105.1 bt105.2.1 bt105.2.2.1 bt105.2.2.2.1 bt105.2.2.2.2.1 bt105.2.2.2.2.2 bt117.1 bt117.2.1 bt117.2.2.1 bt117.2.2.2.1 bt117.2.2.2.2.1 bt117.2.2.2.2.2) else ((laws_eqTimes.f k bt117.1 bt117.2.1 bt117.2.2.1 bt117.2.2.2.1 bt117.2.2.2.2.1 bt117.2.2.2.2.2 bt105.1 bt105.2.1 bt105.2.2.1 bt105.2.2.2.1 bt105.2.2.2.2.1 bt105.2.2.2.2.2).bind fun t133 => (laws_FnExactTimesOf.j0 k l0 (!t133) bt105.1 bt105.2.1 bt105.2.2.1 bt105.2.2.2.1 bt105.2.2.2.2.1 bt105.2.2.2.2.2 bt117.1 bt117.2.1 bt117.2.2.1 bt117.2.2.2.1 bt117.2.2.2.2.1 bt117.2.2.2.2.2)))) else (some false)))) else (some false)))))) = some r := H
    have A4 := Aside0.mk A40
    clear A40
    replace H := Option.bind_eq_some_iff.mp H
    obtain ⟨⟨t105, t106, t107, t108, t109, t110⟩, A50, H⟩ := H
    replace H : ((laws_toRecS.f k l0).bind fun t114 => ((impl_TimesOf.f t114).bind fun bt117 => ((laws_eqTimes.f k bt117.1 bt117.2.1 bt117.2.2.1 bt117.2.2.2.1 bt117.2.2.2.2.1 bt117.2.2.2.2.2 t105 t106 t107 t108 t109 t110).bind fun t126 => (if t126 = true then ((laws_toRecS.f k l0).bind fun t127 => ((laws_eqRecS.f k t114 t127).bind fun t130 => (if t130 = true then ((laws_markRecS.f k t114 1).bind fun bt131 => (if bt131.1 < 0 then (laws_FnExactTimesOf.j0 k l0 true t105 t106 t107 t108 t109 t110 bt117.1 bt117.2.1 bt117.2.2.1 bt117.2.2.2.1 bt117.2.2.2.2.1 bt117.2.2.2.2.2) else ((laws_eqTimes.f k bt117.1 bt117.2.1 bt117.2.2.1 bt117.2.2.2.1 bt117.2.2.2.2.1 bt117.2.2.2.2.2 t105 t106 t107 t108 t109 t110).bind fun t133 => (laws_FnExactTimesOf.j0 k l0 (!t133) t105 t106 t107 t108 t109 t110 bt117.1 bt117.2.1 bt117.2.2.1 bt117.2.2.2.1 bt117.2.2.2.2.1 bt117.2.2.2.2.2)))) else (some false)))) else (some false))))) = some r := H
    have A5 := Aside0.mk A50
    clear A50
    replace H := Option.bind_eq_some_iff.mp H
    obtain ⟨t114, A60, H⟩ := H
    replace H : ((impl_TimesOf.f t114).bind fun bt117 => ((laws_eqTimes.f k bt117.1 bt117.2.1 bt117.2.2.1 bt117.2.2.2.1 bt117.2.2.2.2.1 bt117.2.2.2.2.2 t105 t106 t107 t108 t109 t110).bind fun t126 => (if t126 = true then ((laws_toRecS.f k l0).bind fun t127 => ((laws_eqRecS.f k t114 t127).bind fun t130 => (if t130 = true then ((laws_markRecS.f k t114 1).bind fun bt131 => (if bt131.1 < 0 then (laws_FnExactTimesOf.j0 k l0 true t105 t106 t107 t108 t109 t110 bt117.1 bt117.2.1 bt117.2.2.1 bt117.2.2.2.1 bt117.2.2.2.2.1 bt117.2.2.2.2.2) else ((laws_eqTimes.f k bt117.1 bt117.2.1 bt117.2.2.1 bt117.2.2.2.1 bt117.2.2.2.2.1 bt117.2.2.2.2.2 t105 t106 t107 t108 t109 t110).bind fun t133 => (laws_FnExactTimesOf.j0 k l0 (!t133) t105 t106 t107 t108 t109 t110 bt117.1 bt117.2.1 bt117.2.2.1 bt117.2.2.2.1 bt117.2.2.2.2.1 bt117.2.2.2.2.2)))) else (some false)))) else (some false)))) = some r := H
    have A6 := Aside0.mk A60
    clear A60
    replace H := Option.bind_eq_some_iff.mp H
    obtain ⟨⟨t117, t118, t119, t120, t121, t122⟩, A70, H⟩ := H
    replace H : ((laws_eqTimes.f k t117 t118 t119 t120 t121 t122 t105 t106 t107 t108 t109 t110).bind fun t126 => (if t126 = true then ((laws_toRecS.f k l0).bind fun t127 => ((laws_eqRecS.f k t114 t127).bind fun t130 => (if t130 = true then ((laws_markRecS.f k t114 1).bind fun bt131 => (if bt131.1 < 0 then (laws_FnExactTimesOf.j0 k l0 true t105 t106 t107 t108 t109 t110 t117 t118 t119 t120 t121 t122) else ((laws_eqTimes.f k t117 t118 t119 t120 t121 t122 t105 t106 t107 t108 t109 t110).bind fun t133 => (laws_FnExactTimesOf.j0 k l0 (!t133) t105 t106 t107 t108 t109 t110 t117 t118 t119 t120 t121 t122)))) else (some false)))) else (some false))) = some r := H
    have A7 := Aside0.mk A70
    clear A70
    replace H := Option.bind_eq_some_iff.mp H
    obtain ⟨t126, A80, H⟩ := H
    replace H : (if t126 = true then ((laws_toRecS.f k l0).bind fun t127 => ((laws_eqRecS.f k t114 t127).bind fun t130 => (if t130 = true then ((laws_markRecS.f k t114 1).bind fun bt131 => (if bt131.1 < 0 then (laws_FnExactTimesOf.j0 k l0 true t105 t106 t107 t108 t109 t110 t117 t118 t119 t120 t121 t122) else ((laws_eqTimes.f k t117 t118 t119 t120 t121 t122 t105 t106 t107 t108 t109 t110).bind fun t133 => (laws_FnExactTimesOf.j0 k l0 (!t133) t105 t106 t107 t108 t109 t110 t117 t118 t119 t120 t121 t122)))) else (some false)))) else (some false)) = some r := H
    have A8 := Aside0.mk A80
    clear A80
    by_cases c9 : t126 = true
    · subst c9
      have H1 : ((laws_toRecS.f k l0).bind fun t127 => ((laws_eqRecS.f k t114 t127).bind fun t130 => (if t130 = true then ((laws_markRecS.f k t114 1).bind fun bt131 => (if bt131.1 < 0 then (laws_FnExactTimesOf.j0 k l0 true t105 t106 t107 t108 t109 t110 t117 t118 t119 t120 t121 t122) else ((laws_eqTimes.f k t117 t118 t119 t120 t121 t122 t105 t106 t107 t108 t109 t110).bind fun t133 => (laws_FnExactTimesOf.j0 k l0 (!t133) t105 t106 t107 t108 t109 t110 t117 t118 t119 t120 t121 t122)))) else (some false)))) = some r := by rw [if_pos rfl] at H; exact H
      clear H
      have H := H1
      clear H1
      replace H := Option.bind_eq_some_iff.mp H
      obtain ⟨t127, A100, H⟩ := H
      replace H : ((laws_eqRecS.f k t114 t127).bind fun t130 => (if t130 = true then ((laws_markRecS.f k t114 1).bind fun bt131 => (if bt131.1 < 0 then (laws_FnExactTimesOf.j0 k l0 true t105 t106 t107 t108 t109 t110 t117 t118 t119 t120 t121 t122) else ((laws_eqTimes.f k t117 t118 t119 t120 t121 t122 t105 t106 t107 t108 t109 t110).bind fun t133 => (laws_FnExactTimesOf.j0 k l0 (!t133) t105 t106 t107 t108 t109 t110 t117 t118 t119 t120 t121 t122)))) else (some false))) = some r := H
      have A10 := Aside0.mk A100
      clear A100
      replace H := Option.bind_eq_some_iff.mp H
      obtain ⟨t130, A110, H⟩ := H
      replace H : (if t130 = true then ((laws_markRecS.f k t114 1).bind fun bt131 => (if bt131.1 < 0 then (laws_FnExactTimesOf.j0 k l0 true t105 t106 t107 t108 t109 t110 t117 t118 t119 t120 t121 t122) else ((laws_eqTimes.f k t117 t118 t119 t120 t121 t122 t105 t106 t107 t108 t109 t110).bind fun t133 => (laws_FnExactTimesOf.j0 k l0 (!t133) t105 t106 t107 t108 t109 t110 t117 t118 t119 t120 t121 t122)))) else (some false)) = some r := H
      have A11 := Aside0.mk A110
      clear A110
      by_cases c12 : t130 = true
      · subst c12
        have H1 : ((laws_markRecS.f k t114 1).bind fun bt131 => (if bt131.1 < 0 then (laws_FnExactTimesOf.j0 k l0 true t105 t106 t107 t108 t109 t110 t117 t118 t119 t120 t121 t122) else ((laws_eqTimes.f k t117 t118 t119 t120 t121 t122 t105 t106 t107 t108 t109 t110).bind fun t133 => (laws_FnExactTimesOf.j0 k l0 (!t133) t105 t106 t107 t108 t109 t110 t117 t118 t119 t120 t121 t122)))) = some r := by rw [if_pos rfl] at H; exact H
        clear H
        have H := H1
        clear H1
        replace H := Option.bind_eq_some_iff.mp H
        obtain ⟨⟨t131, t132⟩, A130, H⟩ := H
        replace H : (if t131 < 0 then (laws_FnExactTimesOf.j0 k l0 true t105 t106 t107 t108 t109 t110 t117 t118 t119 t120 t121 t122) else ((laws_eqTimes.f k t117 t118 t119 t120 t121 t122 t105 t106 t107 t108 t109 t110).bind fun t133 => (laws_FnExactTimesOf.j0 k l0 (!t133) t105 t106 t107 t108 t109 t110 t117 t118 t119 t120 t121 t122))) = some r := H
        have A13 := Aside0.mk A130
        clear A130
        have HC14 := Aside0.mk H
        clear H
        go_enter Try.func10, Try.ntmps10
        go_upto_region 14 with (first | ((with_reducible refine gate_callee (f := 15) rfl ?_); refine goesL_ (some 13) rfl rfl Try.func15 (by kernel_rfl) rfl #[.slice A0 l0.length c0, .int .i64 1048576] rfl (by (try simp only [List.map_toArray, List.map_cons, List.map_nil]); first | done | rfl | (simp only [List.length_drop, List.length_take]; rfl)) ?_; (with_reducible refine (laws_szRecS.calls _ _ l0 1048576 t101 _ ?side1 ?side2 A2.out).mono ?_); (case side1 => repeat (first | exact HR0.out | (with_reducible refine Kd.C_alloc ?_ _) | (with_reducible refine Kd.C_drewN ?_ _) | (with_reducible refine Kd.C_drew ?_))); (case side2 => exact HC0.out); rintro e w' ⟨rfl, ⟨nd, rfl⟩⟩; refine ⟨_, rfl, ?_⟩) | ((with_reducible refine gate_callee (f := 17) rfl ?_); refine goesL_ (some 17) rfl rfl Try.func17 (by kernel_rfl) rfl #[.slice A0 l0.length c0] rfl (by (try simp only [List.map_toArray, List.map_cons, List.map_nil]); first | done | rfl | (simp only [List.length_drop, List.length_take]; rfl)) ?_; (with_reducible refine (laws_toRecS.calls k _ _ l0 t102 _ ?side1 ?side2 A4.out).mono ?_); (case side1 => repeat (first | exact HR0.out | (with_reducible refine Kd.C_alloc ?_ _) | (with_reducible refine Kd.C_drewN ?_ _) | (with_reducible refine Kd.C_drew ?_))); (case side2 => exact HC0.out); rintro e w15 ⟨v103, rfl, ho0, hb⟩; refine ⟨_, rfl, ?_⟩; have n0_ := Aside0.mk (Kd.R_lower ho0 (below_size (by repeat (first | (with_reducible first | exact HB.out | apply below_alloc | apply pw_below_drewN | apply below_drew1) | exact HB.out)))); have n1_ := Aside0.mk (below_step (by repeat (first | (with_reducible first | exact HB.out | apply below_alloc | apply pw_below_drewN | apply below_drew1) | exact HB.out)) hb); clear HB; have HO104 := n0_; have HB := n1_; clear n0_ n1_; (try clear hb); (try clear hb2); (try clear hk); (try clear hi); (try clear ho0); obtain ⟨Ao16, co16, eo16⟩ := Kd.R_slice HO104.out; subst eo16) | ((with_reducible refine gate_callee (f := 43) rfl ?_); refine goesL_ (some 18) rfl rfl Try.func43 (by kernel_rfl) rfl #[.slice Ao16 t102.length co16] rfl (by (try simp only [List.map_toArray, List.map_cons, List.map_nil]); first | done | rfl | (simp only [List.length_drop, List.length_take]; rfl)) ?_; (with_reducible refine (spec_TimesOf.calls _ _ t102 t105 t106 t107 t108 t109 t110 _ ?side1 ?side2 A5.out).mono ?_); (case side1 => repeat (first | exact (Kd.R_reads' HO104.out).2.2 | (with_reducible refine Kd.C_alloc ?_ _) | (with_reducible refine Kd.C_drewN ?_ _) | (with_reducible refine Kd.C_drew ?_))); (case side2 => exact (Kd.R_reads' HO104.out).2.1); rintro e w17 ⟨v111, rfl, ho0, hb⟩; refine ⟨_, rfl, ?_⟩; have n0_ := Aside0.mk (Kd.R_below (by (with_reducible repeat (first | apply Kd.R_alloc | apply Kd.R_drewN | apply Kd.R_drew)); exact HO104.out) hb); have n1_ := Aside0.mk (Kd.R_lower ho0 (below_size (by repeat (first | (with_reducible first | exact HB.out | apply below_alloc | apply pw_below_drewN | apply below_drew1) | exact HB.out)))); have n2_ := Aside0.mk (below_step (by repeat (first | (with_reducible first | exact HB.out | apply below_alloc | apply pw_below_drewN | apply below_drew1) | exact HB.out)) hb); clear HO104; clear HB; have HO104 := n0_; have HO112 := n1_; have HB := n2_; clear n0_ n1_ n2_; (try clear hb); (try clear hb2); (try clear hk); (try clear hi); (try clear ho0)) | ((with_reducible refine gate_dst (N := 4) rfl ?_); refine box_event ?hg (N := 4) ?hd (cs := #[.int .i64 0, .int .i64 0, .int .i64 0, .int .i64 0, .int .i64 0, .slice none 0 0]) (t := 58) ?hr ?_; (case hd => rfl); (case hg => rfl); (case hr => first | (go_simp; done) | (go_simp; rfl)); intro gb113 hg w18 hbox hb; have n0_ := Aside0.mk (Kd.R_below (by (with_reducible repeat (first | apply Kd.R_alloc | apply Kd.R_drewN | apply Kd.R_drew)); exact HO104.out) hb); have n1_ := Aside0.mk (Kd.R_below (by (with_reducible repeat (first | apply Kd.R_alloc | apply Kd.R_drewN | apply Kd.R_drew)); exact HO112.out) hb); have n2_ := Aside0.mk (below_step (by repeat (first | (with_reducible first | exact HB.out | apply below_alloc | apply pw_below_drewN | apply below_drew1) | exact HB.out)) hb); have n3_ := Aside0.mk (hbox); have n4_ := Aside0.mk ((by rw [hg]; exact (below_size (by repeat (first | (with_reducible first | exact HB.out | apply below_alloc | apply pw_below_drewN | apply below_drew1) | exact HB.out))) : w.heap.size ≤ gb113)); have n5_ := Aside0.mk ((by rw [hg]; exact (below_size (by repeat (first | (with_reducible first | exact HB.out | apply below_alloc | apply pw_below_drewN | apply below_drew1) | exact HB.out))) : w.heap.size ≤ gb113)); clear HO104; clear HO112; clear HB; have HO104 := n0_; have HO112 := n1_; have HB := n2_; have BK113 := n3_; have GW113 := n4_; have GE113 := n5_; clear n0_ n1_ n2_ n3_ n4_ n5_; clear hb hbox hg; have hcz19_0 : w18.cell? ⟨gb113, 0, none⟩ = some (.int .i64 0) := (blk_cell BK113.out 0).trans rfl; have hcz19_1 : w18.cell? ⟨gb113, 1, none⟩ = some (.int .i64 0) := (blk_cell BK113.out 1).trans rfl; have hcz19_2 : w18.cell? ⟨gb113, 2, none⟩ = some (.int .i64 0) := (blk_cell BK113.out 2).trans rfl; have hcz19_3 : w18.cell? ⟨gb113, 3, none⟩ = some (.int .i64 0) := (blk_cell BK113.out 3).trans rfl; have hcz19_4 : w18.cell? ⟨gb113, 4, none⟩ = some (.int .i64 0) := (blk_cell BK113.out 4).trans rfl; have hcz19_5 : w18.cell? ⟨gb113, 5, none⟩ = some (.slice none 0 0) := (blk_cell BK113.out 5).trans rfl; have hfz19_0 := blk_frozen BK113.out 0; have hfz19_1 := blk_frozen BK113.out 1; have hfz19_2 := blk_frozen BK113.out 2; have hfz19_3 := blk_frozen BK113.out 3; have hfz19_4 := blk_frozen BK113.out 4; have hfz19_5 := blk_frozen BK113.out 5; obtain ⟨Ao20, co20, eo20⟩ := Kd.R_slice HO112.out; subst eo20) | ((with_reducible refine gate_callee (f := 17) rfl ?_); refine goesL_ (some 20) rfl rfl Try.func17 (by kernel_rfl) rfl #[.slice A0 l0.length c0] rfl (by (try simp only [List.map_toArray, List.map_cons, List.map_nil]); first | done | rfl | (simp only [List.length_drop, List.length_take]; rfl)) ?_; (with_reducible refine (laws_toRecS.calls k _ _ l0 t114 _ ?side1 ?side2 A6.out).mono ?_); (case side1 => exact Kd.C_below HR0.out (by repeat (first | (with_reducible first | exact HB.out | apply below_alloc | apply pw_below_drewN | apply below_drew1 | refine below_set ?_ GE113.out) | exact HB.out))); (case side2 => exact HC0.out); rintro e w21 ⟨v115, rfl, ho0, hb⟩; refine ⟨_, rfl, ?_⟩; have n0_ := Aside0.mk (Kd.R_elder' (by (with_reducible repeat (first | apply Kd.R_alloc | apply Kd.R_drewN | apply Kd.R_drew)); exact (Kd.R_mono (Kd.R_far (p := ⟨gb113, 5, none⟩) (Kd.R_far (p := ⟨gb113, 4, none⟩) (Kd.R_far (p := ⟨gb113, 3, none⟩) (Kd.R_far (p := ⟨gb113, 2, none⟩) (Kd.R_far (p := ⟨gb113, 1, none⟩) (Kd.R_far (p := ⟨gb113, 0, none⟩) (Kd.R_types HO104.out BK113.out (by decide)) (fun _ hk => hk.2) (.int .i64 t105)) (fun _ hk => hk.2) (.int .i64 t106)) (fun _ hk => hk.2) (.int .i64 t107)) (fun _ hk => hk.2) (.int .i64 t108)) (fun _ hk => hk.2) (.int .i64 t109)) (fun _ hk => hk.2) (.slice Ao20 t110.length co20)) (fun _ h_ => h_.1))) (Kd.R_base ho0) hb); have n1_ := Aside0.mk (Kd.R_below (by (with_reducible repeat (first | apply Kd.R_alloc | apply Kd.R_drewN | apply Kd.R_drew)); exact (Kd.R_mono (Kd.R_far (p := ⟨gb113, 5, none⟩) (Kd.R_far (p := ⟨gb113, 4, none⟩) (Kd.R_far (p := ⟨gb113, 3, none⟩) (Kd.R_far (p := ⟨gb113, 2, none⟩) (Kd.R_far (p := ⟨gb113, 1, none⟩) (Kd.R_far (p := ⟨gb113, 0, none⟩) (Kd.R_types HO112.out BK113.out (by decide)) (fun _ hk => hk.2) (.int .i64 t105)) (fun _ hk => hk.2) (.int .i64 t106)) (fun _ hk => hk.2) (.int .i64 t107)) (fun _ hk => hk.2) (.int .i64 t108)) (fun _ hk => hk.2) (.int .i64 t109)) (fun _ hk => hk.2) (.slice Ao20 t110.length co20)) (fun _ h_ => h_.1))) hb); have n2_ := Aside0.mk (Kd.R_lower (Kd.R_new' ho0 (Kd.R_lt (by (with_reducible repeat (first | apply Kd.R_alloc | apply Kd.R_drewN | apply Kd.R_drew)); exact (Kd.R_mono (Kd.R_far (p := ⟨gb113, 5, none⟩) (Kd.R_far (p := ⟨gb113, 4, none⟩) (Kd.R_far (p := ⟨gb113, 3, none⟩) (Kd.R_far (p := ⟨gb113, 2, none⟩) (Kd.R_far (p := ⟨gb113, 1, none⟩) (Kd.R_far (p := ⟨gb113, 0, none⟩) (Kd.R_types HO104.out BK113.out (by decide)) (fun _ hk => hk.2) (.int .i64 t105)) (fun _ hk => hk.2) (.int .i64 t106)) (fun _ hk => hk.2) (.int .i64 t107)) (fun _ hk => hk.2) (.int .i64 t108)) (fun _ hk => hk.2) (.int .i64 t109)) (fun _ hk => hk.2) (.slice Ao20 t110.length co20)) (fun _ h_ => h_.1))))) (below_size (by repeat (first | (with_reducible first | exact HB.out | apply below_alloc | apply pw_below_drewN | apply below_drew1 | refine below_set ?_ GE113.out) | exact HB.out)))); have n3_ := Aside0.mk (blk_below (g := gb113) (o := .cells #[.int .i64 t105, .int .i64 t106, .int .i64 t107, .int .i64 t108, .int .i64 t109, .slice Ao20 t110.length co20] 58 (0, 0)) (by (with_reducible repeat (first | refine blk_drewN ?_ _ | refine blk_drew ?_ | refine blk_alloc ?_ _)); refine blk_put (cs := #[.int .i64 t105, .int .i64 t106, .int .i64 t107, .int .i64 t108, .int .i64 t109, .slice none 0 0]) ?_ 5 _ rfl; (with_reducible repeat (first | refine blk_drewN ?_ _ | refine blk_drew ?_ | refine blk_alloc ?_ _)); refine blk_put (cs := #[.int .i64 t105, .int .i64 t106, .int .i64 t107, .int .i64 t108, .int .i64 0, .slice none 0 0]) ?_ 4 _ rfl; (with_reducible repeat (first | refine blk_drewN ?_ _ | refine blk_drew ?_ | refine blk_alloc ?_ _)); refine blk_put (cs := #[.int .i64 t105, .int .i64 t106, .int .i64 t107, .int .i64 0, .int .i64 0, .slice none 0 0]) ?_ 3 _ rfl; (with_reducible repeat (first | refine blk_drewN ?_ _ | refine blk_drew ?_ | refine blk_alloc ?_ _)); refine blk_put (cs := #[.int .i64 t105, .int .i64 t106, .int .i64 0, .int .i64 0, .int .i64 0, .slice none 0 0]) ?_ 2 _ rfl; (with_reducible repeat (first | refine blk_drewN ?_ _ | refine blk_drew ?_ | refine blk_alloc ?_ _)); refine blk_put (cs := #[.int .i64 t105, .int .i64 0, .int .i64 0, .int .i64 0, .int .i64 0, .slice none 0 0]) ?_ 1 _ rfl; (with_reducible repeat (first | refine blk_drewN ?_ _ | refine blk_drew ?_ | refine blk_alloc ?_ _)); refine blk_put (cs := #[.int .i64 0, .int .i64 0, .int .i64 0, .int .i64 0, .int .i64 0, .slice none 0 0]) ?_ 0 _ rfl; (with_reducible repeat (first | refine blk_drewN ?_ _ | refine blk_drew ?_ | refine blk_alloc ?_ _)); exact BK113.out) hb); have n4_ := Aside0.mk (below_step (by repeat (first | (with_reducible first | exact HB.out | apply below_alloc | apply pw_below_drewN | apply below_drew1 | refine below_set ?_ GE113.out) | exact HB.out)) hb); clear HO104; clear HO112; clear BK113; clear HB; have HO104 := n0_; have HO112 := n1_; have HO116 := n2_; have BK113 := n3_; have HB := n4_; clear n0_ n1_ n2_ n3_ n4_; (try clear hb); (try clear hb2); (try clear hk); (try clear hi); (try clear ho0); obtain ⟨Ao22, co22, eo22⟩ := Kd.R_slice HO116.out; subst eo22) | ((with_reducible refine gate_callee (f := 44) rfl ?_); refine goesL_ (some 22) rfl rfl Try.func44 (by kernel_rfl) rfl #[.slice Ao22 t114.length co22] rfl (by (try simp only [List.map_toArray, List.map_cons, List.map_nil]); first | done | rfl | (simp only [List.length_drop, List.length_take]; rfl)) ?_; (with_reducible refine (impl_TimesOf.calls _ _ t114 t117 t118 t119 t120 t121 t122 _ ?side1 ?side2 A7.out).mono ?_); (case side1 => repeat (first | exact (Kd.R_reads' HO116.out).2.2 | (with_reducible refine Kd.C_alloc ?_ _) | (with_reducible refine Kd.C_drewN ?_ _) | (with_reducible refine Kd.C_drew ?_))); (case side2 => exact (Kd.R_reads' HO116.out).2.1); rintro e w23 ⟨v123, rfl, ho0, hb⟩; refine ⟨_, rfl, ?_⟩; have n0_ := Aside0.mk (Kd.R_below (by (with_reducible repeat (first | apply Kd.R_alloc | apply Kd.R_drewN | apply Kd.R_drew)); exact HO104.out) hb); have n1_ := Aside0.mk (Kd.R_elder' (by (with_reducible repeat (first | apply Kd.R_alloc | apply Kd.R_drewN | apply Kd.R_drew)); exact HO112.out) (Kd.R_base ho0) hb); have n2_ := Aside0.mk (Kd.R_below (by (with_reducible repeat (first | apply Kd.R_alloc | apply Kd.R_drewN | apply Kd.R_drew)); exact HO116.out) hb); have n3_ := Aside0.mk (Kd.R_lower (Kd.R_new' ho0 (Kd.R_lt (by (with_reducible repeat (first | apply Kd.R_alloc | apply Kd.R_drewN | apply Kd.R_drew)); exact HO112.out))) (below_size (by repeat (first | (with_reducible first | exact HB.out | apply below_alloc | apply pw_below_drewN | apply below_drew1 | refine below_set ?_ GE113.out) | exact HB.out)))); have n4_ := Aside0.mk (blk_below (g := gb113) (o := .cells #[.int .i64 t105, .int .i64 t106, .int .i64 t107, .int .i64 t108, .int .i64 t109, .slice Ao20 t110.length co20] 58 (0, 0)) (by (with_reducible repeat (first | refine blk_drewN ?_ _ | refine blk_drew ?_ | refine blk_alloc ?_ _)); exact BK113.out) hb); have n5_ := Aside0.mk (below_step (by repeat (first | (with_reducible first | exact HB.out | apply below_alloc | apply pw_below_drewN | apply below_drew1 | refine below_set ?_ GE113.out) | exact HB.out)) hb); clear HO104; clear HO112; clear HO116; clear BK113; clear HB; have HO104 := n0_; have HO112 := n1_; have HO116 := n2_; have HO124 := n3_; have BK113 := n4_; have HB := n5_; clear n0_ n1_ n2_ n3_ n4_ n5_; (try clear hb); (try clear hb2); (try clear hk); (try clear hi); (try clear ho0)) | ((with_reducible refine gate_dst (N := 6) rfl ?_); refine box_event ?hg (N := 6) ?hd (cs := #[.int .i64 0, .int .i64 0, .int .i64 0, .int .i64 0, .int .i64 0, .slice none 0 0]) (t := 58) ?hr ?_; (case hd => rfl); (case hg => rfl); (case hr => first | (go_simp; done) | (go_simp; rfl)); intro gb125 hg w24 hbox hb; have n0_ := Aside0.mk (Kd.R_below (by (with_reducible repeat (first | apply Kd.R_alloc | apply Kd.R_drewN | apply Kd.R_drew)); exact HO104.out) hb); have n1_ := Aside0.mk (Kd.R_below (by (with_reducible repeat (first | apply Kd.R_alloc | apply Kd.R_drewN | apply Kd.R_drew)); exact HO112.out) hb); have n2_ := Aside0.mk (Kd.R_below (by (with_reducible repeat (first | apply Kd.R_alloc | apply Kd.R_drewN | apply Kd.R_drew)); exact HO116.out) hb); have n3_ := Aside0.mk (Kd.R_below (by (with_reducible repeat (first | apply Kd.R_alloc | apply Kd.R_drewN | apply Kd.R_drew)); exact HO124.out) hb); have n4_ := Aside0.mk (blk_below (g := gb113) (o := .cells #[.int .i64 t105, .int .i64 t106, .int .i64 t107, .int .i64 t108, .int .i64 t109, .slice Ao20 t110.length co20] 58 (0, 0)) (by (with_reducible repeat (first | refine blk_drewN ?_ _ | refine blk_drew ?_ | refine blk_alloc ?_ _)); exact BK113.out) hb); have n5_ := Aside0.mk (below_step (by repeat (first | (with_reducible first | exact HB.out | apply below_alloc | apply pw_below_drewN | apply below_drew1 | refine below_set ?_ GE113.out) | exact HB.out)) hb); have n6_ := Aside0.mk (hbox); have n7_ := Aside0.mk ((by rw [hg]; exact (below_size (by repeat (first | (with_reducible first | exact HB.out | apply below_alloc | apply pw_below_drewN | apply below_drew1 | refine below_set ?_ GE113.out) | exact HB.out))) : w.heap.size ≤ gb125)); have n8_ := Aside0.mk ((by rw [hg]; exact (below_size (by repeat (first | (with_reducible first | exact HB.out | apply below_alloc | apply pw_below_drewN | apply below_drew1 | refine below_set ?_ GE113.out) | exact HB.out))) : w.heap.size ≤ gb125)); have n9_ := Aside0.mk ((by rw [hg]; exact Nat.ne_of_lt (blk_lt (g := gb113) (o := .cells #[.int .i64 t105, .int .i64 t106, .int .i64 t107, .int .i64 t108, .int .i64 t109, .slice Ao20 t110.length co20] 58 (0, 0)) (by (with_reducible repeat (first | refine blk_drewN ?_ _ | refine blk_drew ?_ | refine blk_alloc ?_ _)); exact BK113.out)) : gb113 ≠ gb125)); have n10_ := Aside0.mk ((by rw [hg]; exact Nat.ne_of_gt (blk_lt (g := gb113) (o := .cells #[.int .i64 t105, .int .i64 t106, .int .i64 t107, .int .i64 t108, .int .i64 t109, .slice Ao20 t110.length co20] 58 (0, 0)) (by (with_reducible repeat (first | refine blk_drewN ?_ _ | refine blk_drew ?_ | refine blk_alloc ?_ _)); exact BK113.out)) : gb125 ≠ gb113)); clear HO104; clear HO112; clear HO116; clear HO124; clear BK113; clear HB; have HO104 := n0_; have HO112 := n1_; have HO116 := n2_; have HO124 := n3_; have BK113 := n4_; have HB := n5_; have BK125 := n6_; have GW125 := n7_; have GE125 := n8_; have NB113_125 := n9_; have NB125_113 := n10_; clear n0_ n1_ n2_ n3_ n4_ n5_ n6_ n7_ n8_ n9_ n10_; clear hb hbox hg; have hnb25 := NB125_113.out; have hnc25 := NB113_125.out; have hcz26_0 : w24.cell? ⟨gb125, 0, none⟩ = some (.int .i64 0) := (blk_cell BK125.out 0).trans rfl; have hcz26_1 : w24.cell? ⟨gb125, 1, none⟩ = some (.int .i64 0) := (blk_cell BK125.out 1).trans rfl; have hcz26_2 : w24.cell? ⟨gb125, 2, none⟩ = some (.int .i64 0) := (blk_cell BK125.out 2).trans rfl; have hcz26_3 : w24.cell? ⟨gb125, 3, none⟩ = some (.int .i64 0) := (blk_cell BK125.out 3).trans rfl; have hcz26_4 : w24.cell? ⟨gb125, 4, none⟩ = some (.int .i64 0) := (blk_cell BK125.out 4).trans rfl; have hcz26_5 : w24.cell? ⟨gb125, 5, none⟩ = some (.slice none 0 0) := (blk_cell BK125.out 5).trans rfl; have hfz26_0 := blk_frozen BK125.out 0; have hfz26_1 := blk_frozen BK125.out 1; have hfz26_2 := blk_frozen BK125.out 2; have hfz26_3 := blk_frozen BK125.out 3; have hfz26_4 := blk_frozen BK125.out 4; have hfz26_5 := blk_frozen BK125.out 5; obtain ⟨Ao27, co27, eo27⟩ := Kd.R_slice HO124.out; subst eo27; have hcz28_0 : w24.cell? ⟨gb113, 0, none⟩ = some (.int .i64 t105) := (blk_cell BK113.out 0).trans rfl; have hcz28_1 : w24.cell? ⟨gb113, 1, none⟩ = some (.int .i64 t106) := (blk_cell BK113.out 1).trans rfl; have hcz28_2 : w24.cell? ⟨gb113, 2, none⟩ = some (.int .i64 t107) := (blk_cell BK113.out 2).trans rfl; have hcz28_3 : w24.cell? ⟨gb113, 3, none⟩ = some (.int .i64 t108) := (blk_cell BK113.out 3).trans rfl; have hcz28_4 : w24.cell? ⟨gb113, 4, none⟩ = some (.int .i64 t109) := (blk_cell BK113.out 4).trans rfl; have hcz28_5 : w24.cell? ⟨gb113, 5, none⟩ = some (.slice Ao20 t110.length co20) := (blk_cell BK113.out 5).trans rfl; have hfz28_0 := blk_frozen BK113.out 0; have hfz28_1 := blk_frozen BK113.out 1; have hfz28_2 := blk_frozen BK113.out 2; have hfz28_3 := blk_frozen BK113.out 3; have hfz28_4 := blk_frozen BK113.out 4; have hfz28_5 := blk_frozen BK113.out 5) | ((with_reducible refine gate_callee (f := 45) rfl ?_); refine goesL_ (some 25) rfl rfl Try.func45 (by kernel_rfl) rfl #[.agg #[.int .i64 t117, .int .i64 t118, .int .i64 t119, .int .i64 t120, .int .i64 t121, .slice Ao27 t122.length co27], .agg #[.int .i64 t105, .int .i64 t106, .int .i64 t107, .int .i64 t108, .int .i64 t109, .slice Ao20 t110.length co20]] rfl (by (try simp only [List.map_toArray, List.map_cons, List.map_nil]); first | done | rfl | (simp only [List.length_drop, List.length_take]; rfl)) ?_; (with_reducible refine (laws_eqTimes.calls k t117 t118 t119 t120 t121 _ _ t122 t105 t106 t107 t108 t109 _ _ t110 true _ ?side1 ?side2 ?side3 ?side4 A8.out).mono ?_); (case side1 => refine (Kd.R_reads' (e := 2) (base := w.heap.size) (ok := fun k_ => (True ∧ some k_ ≠ (.slice Ao20 t110.length co20 : Value).ownBlock)) (n := t122.length) (c := co27) ?_).2.2; exact (by (with_reducible repeat (first | apply Kd.R_alloc | apply Kd.R_drewN | apply Kd.R_drew)); exact (Kd.R_mono (Kd.R_far (p := ⟨gb125, 5, none⟩) (Kd.R_far (p := ⟨gb125, 4, none⟩) (Kd.R_far (p := ⟨gb125, 3, none⟩) (Kd.R_far (p := ⟨gb125, 2, none⟩) (Kd.R_far (p := ⟨gb125, 1, none⟩) (Kd.R_far (p := ⟨gb125, 0, none⟩) (Kd.R_types HO124.out BK125.out (by decide)) (fun _ hk => hk.2) (.int .i64 t117)) (fun _ hk => hk.2) (.int .i64 t118)) (fun _ hk => hk.2) (.int .i64 t119)) (fun _ hk => hk.2) (.int .i64 t120)) (fun _ hk => hk.2) (.int .i64 t121)) (fun _ hk => hk.2) (.slice Ao27 t122.length co27)) (fun _ h_ => h_.1)))); (case side2 => exact (Kd.R_reads' HO124.out).2.1); (case side3 => refine (Kd.R_reads' (e := 2) (base := w.heap.size) (ok := fun k_ => (True ∧ some k_ ≠ (.slice Ao27 t122.length co27 : Value).ownBlock)) (n := t110.length) (c := co20) ?_).2.2; exact (by (with_reducible repeat (first | apply Kd.R_alloc | apply Kd.R_drewN | apply Kd.R_drew)); exact (Kd.R_mono (Kd.R_far (p := ⟨gb125, 5, none⟩) (Kd.R_far (p := ⟨gb125, 4, none⟩) (Kd.R_far (p := ⟨gb125, 3, none⟩) (Kd.R_far (p := ⟨gb125, 2, none⟩) (Kd.R_far (p := ⟨gb125, 1, none⟩) (Kd.R_far (p := ⟨gb125, 0, none⟩) (Kd.R_types HO112.out BK125.out (by decide)) (fun _ hk => hk.2) (.int .i64 t117)) (fun _ hk => hk.2) (.int .i64 t118)) (fun _ hk => hk.2) (.int .i64 t119)) (fun _ hk => hk.2) (.int .i64 t120)) (fun _ hk => hk.2) (.int .i64 t121)) (fun _ hk => hk.2) (.slice Ao27 t122.length co27)) (fun _ h_ => h_.1)))); (case side4 => exact (Kd.R_reads' HO112.out).2.1); rintro e w29 ⟨rfl, hb⟩; refine ⟨_, rfl, ?_⟩; have n0_ := Aside0.mk (Kd.R_below (by (with_reducible repeat (first | apply Kd.R_alloc | apply Kd.R_drewN | apply Kd.R_drew)); exact (Kd.R_mono (Kd.R_far (p := ⟨gb125, 5, none⟩) (Kd.R_far (p := ⟨gb125, 4, none⟩) (Kd.R_far (p := ⟨gb125, 3, none⟩) (Kd.R_far (p := ⟨gb125, 2, none⟩) (Kd.R_far (p := ⟨gb125, 1, none⟩) (Kd.R_far (p := ⟨gb125, 0, none⟩) (Kd.R_types HO104.out BK125.out (by decide)) (fun _ hk => hk.2) (.int .i64 t117)) (fun _ hk => hk.2) (.int .i64 t118)) (fun _ hk => hk.2) (.int .i64 t119)) (fun _ hk => hk.2) (.int .i64 t120)) (fun _ hk => hk.2) (.int .i64 t121)) (fun _ hk => hk.2) (.slice Ao27 t122.length co27)) (fun _ h_ => h_.1))) hb); have n1_ := Aside0.mk (Kd.R_below (by (with_reducible repeat (first | apply Kd.R_alloc | apply Kd.R_drewN | apply Kd.R_drew)); exact (Kd.R_mono (Kd.R_far (p := ⟨gb125, 5, none⟩) (Kd.R_far (p := ⟨gb125, 4, none⟩) (Kd.R_far (p := ⟨gb125, 3, none⟩) (Kd.R_far (p := ⟨gb125, 2, none⟩) (Kd.R_far (p := ⟨gb125, 1, none⟩) (Kd.R_far (p := ⟨gb125, 0, none⟩) (Kd.R_types HO112.out BK125.out (by decide)) (fun _ hk => hk.2) (.int .i64 t117)) (fun _ hk => hk.2) (.int .i64 t118)) (fun _ hk => hk.2) (.int .i64 t119)) (fun _ hk => hk.2) (.int .i64 t120)) (fun _ hk => hk.2) (.int .i64 t121)) (fun _ hk => hk.2) (.slice Ao27 t122.length co27)) (fun _ h_ => h_.1))) hb); have n2_ := Aside0.mk (Kd.R_below (by (with_reducible repeat (first | apply Kd.R_alloc | apply Kd.R_drewN | apply Kd.R_drew)); exact (Kd.R_mono (Kd.R_far (p := ⟨gb125, 5, none⟩) (Kd.R_far (p := ⟨gb125, 4, none⟩) (Kd.R_far (p := ⟨gb125, 3, none⟩) (Kd.R_far (p := ⟨gb125, 2, none⟩) (Kd.R_far (p := ⟨gb125, 1, none⟩) (Kd.R_far (p := ⟨gb125, 0, none⟩) (Kd.R_types HO116.out BK125.out (by decide)) (fun _ hk => hk.2) (.int .i64 t117)) (fun _ hk => hk.2) (.int .i64 t118)) (fun _ hk => hk.2) (.int .i64 t119)) (fun _ hk => hk.2) (.int .i64 t120)) (fun _ hk => hk.2) (.int .i64 t121)) (fun _ hk => hk.2) (.slice Ao27 t122.length co27)) (fun _ h_ => h_.1))) hb); have n3_ := Aside0.mk (Kd.R_below (by (with_reducible repeat (first | apply Kd.R_alloc | apply Kd.R_drewN | apply Kd.R_drew)); exact (Kd.R_mono (Kd.R_far (p := ⟨gb125, 5, none⟩) (Kd.R_far (p := ⟨gb125, 4, none⟩) (Kd.R_far (p := ⟨gb125, 3, none⟩) (Kd.R_far (p := ⟨gb125, 2, none⟩) (Kd.R_far (p := ⟨gb125, 1, none⟩) (Kd.R_far (p := ⟨gb125, 0, none⟩) (Kd.R_types HO124.out BK125.out (by decide)) (fun _ hk => hk.2) (.int .i64 t117)) (fun _ hk => hk.2) (.int .i64 t118)) (fun _ hk => hk.2) (.int .i64 t119)) (fun _ hk => hk.2) (.int .i64 t120)) (fun _ hk => hk.2) (.int .i64 t121)) (fun _ hk => hk.2) (.slice Ao27 t122.length co27)) (fun _ h_ => h_.1))) hb); have n4_ := Aside0.mk (blk_below (g := gb113) (o := .cells #[.int .i64 t105, .int .i64 t106, .int .i64 t107, .int .i64 t108, .int .i64 t109, .slice Ao20 t110.length co20] 58 (0, 0)) (by (with_reducible repeat (first | refine blk_drewN ?_ _ | refine blk_drew ?_ | refine blk_alloc ?_ _)); refine blk_far ?_ NB113_125.out _; (with_reducible repeat (first | refine blk_drewN ?_ _ | refine blk_drew ?_ | refine blk_alloc ?_ _)); refine blk_far ?_ NB113_125.out _; (with_reducible repeat (first | refine blk_drewN ?_ _ | refine blk_drew ?_ | refine blk_alloc ?_ _)); refine blk_far ?_ NB113_125.out _; (with_reducible repeat (first | refine blk_drewN ?_ _ | refine blk_drew ?_ | refine blk_alloc ?_ _)); refine blk_far ?_ NB113_125.out _; (with_reducible repeat (first | refine blk_drewN ?_ _ | refine blk_drew ?_ | refine blk_alloc ?_ _)); refine blk_far ?_ NB113_125.out _; (with_reducible repeat (first | refine blk_drewN ?_ _ | refine blk_drew ?_ | refine blk_alloc ?_ _)); refine blk_far ?_ NB113_125.out _; (with_reducible repeat (first | refine blk_drewN ?_ _ | refine blk_drew ?_ | refine blk_alloc ?_ _)); exact BK113.out) hb); have n5_ := Aside0.mk (blk_below (g := gb125) (o := .cells #[.int .i64 t117, .int .i64 t118, .int .i64 t119, .int .i64 t120, .int .i64 t121, .slice Ao27 t122.length co27] 58 (0, 0)) (by (with_reducible repeat (first | refine blk_drewN ?_ _ | refine blk_drew ?_ | refine blk_alloc ?_ _)); refine blk_put (cs := #[.int .i64 t117, .int .i64 t118, .int .i64 t119, .int .i64 t120, .int .i64 t121, .slice none 0 0]) ?_ 5 _ rfl; (with_reducible repeat (first | refine blk_drewN ?_ _ | refine blk_drew ?_ | refine blk_alloc ?_ _)); refine blk_put (cs := #[.int .i64 t117, .int .i64 t118, .int .i64 t119, .int .i64 t120, .int .i64 0, .slice none 0 0]) ?_ 4 _ rfl; (with_reducible repeat (first | refine blk_drewN ?_ _ | refine blk_drew ?_ | refine blk_alloc ?_ _)); refine blk_put (cs := #[.int .i64 t117, .int .i64 t118, .int .i64 t119, .int .i64 0, .int .i64 0, .slice none 0 0]) ?_ 3 _ rfl; (with_reducible repeat (first | refine blk_drewN ?_ _ | refine blk_drew ?_ | refine blk_alloc ?_ _)); refine blk_put (cs := #[.int .i64 t117, .int .i64 t118, .int .i64 0, .int .i64 0, .int .i64 0, .slice none 0 0]) ?_ 2 _ rfl; (with_reducible repeat (first | refine blk_drewN ?_ _ | refine blk_drew ?_ | refine blk_alloc ?_ _)); refine blk_put (cs := #[.int .i64 t117, .int .i64 0, .int .i64 0, .int .i64 0, .int .i64 0, .slice none 0 0]) ?_ 1 _ rfl; (with_reducible repeat (first | refine blk_drewN ?_ _ | refine blk_drew ?_ | refine blk_alloc ?_ _)); refine blk_put (cs := #[.int .i64 0, .int .i64 0, .int .i64 0, .int .i64 0, .int .i64 0, .slice none 0 0]) ?_ 0 _ rfl; (with_reducible repeat (first | refine blk_drewN ?_ _ | refine blk_drew ?_ | refine blk_alloc ?_ _)); exact BK125.out) hb); have n6_ := Aside0.mk (below_step (by repeat (first | (with_reducible first | exact HB.out | apply below_alloc | apply pw_below_drewN | apply below_drew1 | refine below_set ?_ GE113.out | refine below_set ?_ GE125.out) | exact HB.out)) hb); clear HO104; clear HO112; clear HO116; clear HO124; clear BK113; clear BK125; clear HB; have HO104 := n0_; have HO112 := n1_; have HO116 := n2_; have HO124 := n3_; have BK113 := n4_; have BK125 := n5_; have HB := n6_; clear n0_ n1_ n2_ n3_ n4_ n5_ n6_; (try clear hb); (try clear hb2); (try clear hk); (try clear hi)) | ((with_reducible refine gate_callee (f := 17) rfl ?_); refine goesL_ (some 29) rfl rfl Try.func17 (by kernel_rfl) rfl #[.slice A0 l0.length c0] rfl (by (try simp only [List.map_toArray, List.map_cons, List.map_nil]); first | done | rfl | (simp only [List.length_drop, List.length_take]; rfl)) ?_; (with_reducible refine (laws_toRecS.calls k _ _ l0 t127 _ ?side1 ?side2 A10.out).mono ?_); (case side1 => repeat (first | exact (Kd.C_below HR0.out HB.out) | (with_reducible refine Kd.C_alloc ?_ _) | (with_reducible refine Kd.C_drewN ?_ _) | (with_reducible refine Kd.C_drew ?_))); (case side2 => exact HC0.out); rintro e w30 ⟨v128, rfl, ho0, hb⟩; refine ⟨_, rfl, ?_⟩; have n0_ := Aside0.mk (Kd.R_elder' (by (with_reducible repeat (first | apply Kd.R_alloc | apply Kd.R_drewN | apply Kd.R_drew)); exact HO104.out) (Kd.R_base ho0) hb); have n1_ := Aside0.mk (Kd.R_below (by (with_reducible repeat (first | apply Kd.R_alloc | apply Kd.R_drewN | apply Kd.R_drew)); exact HO112.out) hb); have n2_ := Aside0.mk (Kd.R_elder' (by (with_reducible repeat (first | apply Kd.R_alloc | apply Kd.R_drewN | apply Kd.R_drew)); exact HO116.out) (Kd.R_base ho0) hb); have n3_ := Aside0.mk (Kd.R_below (by (with_reducible repeat (first | apply Kd.R_alloc | apply Kd.R_drewN | apply Kd.R_drew)); exact HO124.out) hb); have n4_ := Aside0.mk (Kd.R_lower (Kd.R_new' (Kd.R_new' ho0 (Kd.R_lt (by (with_reducible repeat (first | apply Kd.R_alloc | apply Kd.R_drewN | apply Kd.R_drew)); exact HO104.out))) (Kd.R_lt (by (with_reducible repeat (first | apply Kd.R_alloc | apply Kd.R_drewN | apply Kd.R_drew)); exact HO116.out))) (below_size (by repeat (first | (with_reducible first | exact HB.out | apply below_alloc | apply pw_below_drewN | apply below_drew1 | refine below_set ?_ GE113.out | refine below_set ?_ GE125.out) | exact HB.out)))); have n5_ := Aside0.mk (blk_below (g := gb113) (o := .cells #[.int .i64 t105, .int .i64 t106, .int .i64 t107, .int .i64 t108, .int .i64 t109, .slice Ao20 t110.length co20] 58 (0, 0)) (by (with_reducible repeat (first | refine blk_drewN ?_ _ | refine blk_drew ?_ | refine blk_alloc ?_ _)); exact BK113.out) hb); have n6_ := Aside0.mk (blk_below (g := gb125) (o := .cells #[.int .i64 t117, .int .i64 t118, .int .i64 t119, .int .i64 t120, .int .i64 t121, .slice Ao27 t122.length co27] 58 (0, 0)) (by (with_reducible repeat (first | refine blk_drewN ?_ _ | refine blk_drew ?_ | refine blk_alloc ?_ _)); exact BK125.out) hb); have n7_ := Aside0.mk (below_step (by repeat (first | (with_reducible first | exact HB.out | apply below_alloc | apply pw_below_drewN | apply below_drew1 | refine below_set ?_ GE113.out | refine below_set ?_ GE125.out) | exact HB.out)) hb); clear HO104; clear HO112; clear HO116; clear HO124; clear BK113; clear BK125; clear HB; have HO104 := n0_; have HO112 := n1_; have HO116 := n2_; have HO124 := n3_; have HO129 := n4_; have BK113 := n5_; have BK125 := n6_; have HB := n7_; clear n0_ n1_ n2_ n3_ n4_ n5_ n6_ n7_; (try clear hb); (try clear hb2); (try clear hk); (try clear hi); (try clear ho0); obtain ⟨Ao31, co31, eo31⟩ := Kd.R_slice HO129.out; subst eo31) | ((with_reducible refine gate_callee (f := 20) rfl ?_); refine goesL_ (some 30) rfl rfl Try.func20 (by kernel_rfl) rfl #[.slice Ao22 t114.length co22, .slice Ao31 t127.length co31] rfl (by (try simp only [List.map_toArray, List.map_cons, List.map_nil]); first | done | rfl | (simp only [List.length_drop, List.length_take]; rfl)) ?_; (with_reducible refine (laws_eqRecS.calls k _ _ t114 _ _ t127 true _ ?side1 ?side2 ?side3 ?side4 A11.out).mono ?_); (case side1 => repeat (first | exact (Kd.R_reads' HO116.out).2.2 | (with_reducible refine Kd.C_alloc ?_ _) | (with_reducible refine Kd.C_drewN ?_ _) | (with_reducible refine Kd.C_drew ?_))); (case side2 => exact (Kd.R_reads' HO116.out).2.1); (case side3 => repeat (first | exact (Kd.R_reads' HO129.out).2.2 | (with_reducible refine Kd.C_alloc ?_ _) | (with_reducible refine Kd.C_drewN ?_ _) | (with_reducible refine Kd.C_drew ?_))); (case side4 => exact (Kd.R_reads' HO129.out).2.1); rintro e w32 ⟨rfl, hb⟩; refine ⟨_, rfl, ?_⟩; have n0_ := Aside0.mk (Kd.R_below (by (with_reducible repeat (first | apply Kd.R_alloc | apply Kd.R_drewN | apply Kd.R_drew)); exact HO104.out) hb); have n1_ := Aside0.mk (Kd.R_below (by (with_reducible repeat (first | apply Kd.R_alloc | apply Kd.R_drewN | apply Kd.R_drew)); exact HO112.out) hb); have n2_ := Aside0.mk (Kd.R_below (by (with_reducible repeat (first | apply Kd.R_alloc | apply Kd.R_drewN | apply Kd.R_drew)); exact HO116.out) hb); have n3_ := Aside0.mk (Kd.R_below (by (with_reducible repeat (first | apply Kd.R_alloc | apply Kd.R_drewN | apply Kd.R_drew)); exact HO124.out) hb); have n4_ := Aside0.mk (Kd.R_below (by (with_reducible repeat (first | apply Kd.R_alloc | apply Kd.R_drewN | apply Kd.R_drew)); exact HO129.out) hb); have n5_ := Aside0.mk (blk_below (g := gb113) (o := .cells #[.int .i64 t105, .int .i64 t106, .int .i64 t107, .int .i64 t108, .int .i64 t109, .slice Ao20 t110.length co20] 58 (0, 0)) (by (with_reducible repeat (first | refine blk_drewN ?_ _ | refine blk_drew ?_ | refine blk_alloc ?_ _)); exact BK113.out) hb); have n6_ := Aside0.mk (blk_below (g := gb125) (o := .cells #[.int .i64 t117, .int .i64 t118, .int .i64 t119, .int .i64 t120, .int .i64 t121, .slice Ao27 t122.length co27] 58 (0, 0)) (by (with_reducible repeat (first | refine blk_drewN ?_ _ | refine blk_drew ?_ | refine blk_alloc ?_ _)); exact BK125.out) hb); have n7_ := Aside0.mk (below_step (by repeat (first | (with_reducible first | exact HB.out | apply below_alloc | apply pw_below_drewN | apply below_drew1 | refine below_set ?_ GE113.out | refine below_set ?_ GE125.out) | exact HB.out)) hb); clear HO104; clear HO112; clear HO116; clear HO124; clear HO129; clear BK113; clear BK125; clear HB; have HO104 := n0_; have HO112 := n1_; have HO116 := n2_; have HO124 := n3_; have HO129 := n4_; have BK113 := n5_; have BK125 := n6_; have HB := n7_; clear n0_ n1_ n2_ n3_ n4_ n5_ n6_ n7_; (try clear hb); (try clear hb2); (try clear hk); (try clear hi)) | ((with_reducible refine gate_callee (f := 30) rfl ?_); refine goesL_ (some 34) rfl rfl Try.func30 (by kernel_rfl) rfl #[.slice Ao22 t114.length co22, .int .i64 1] rfl (by (try simp only [List.map_toArray, List.map_cons, List.map_nil]); first | done | rfl | (simp only [List.length_drop, List.length_take]; rfl)) ?_; (with_reducible refine (laws_markRecS.calls k (fun k_ => some k_ = (.slice Ao22 t114.length co22 : Value).ownBlock) (.slice Ao22 t114.length co22) t114 1 t131 t132 w _ ?side1 ?side2 A13.out).mono ?_); (case side1 => repeat (first | (with_reducible first | exact HB.out | apply below_alloc | apply pw_below_drewN | apply below_drew1 | refine below_set ?_ GE113.out | refine below_set ?_ GE125.out) | exact HB.out)); (case side2 => exact Kd.R_tight rfl HO116.out); rintro e w33 ⟨rfl, hy0, hb, hkp⟩; refine ⟨_, rfl, ?_⟩; have n0_ := Aside0.mk (Kd.R_mono (ok' := fun k_ => some k_ ≠ (.slice Ao22 t114.length co22 : Value).ownBlock ∧ some k_ ≠ (.slice Ao31 t127.length co31 : Value).ownBlock) (Kd.R_keptB (HO104.out) hkp (fun k_ hk_ hs_ => (hk_.1.2) hs_)) (fun k_ hk_ => ⟨hk_.1.1.2, hk_.1.2⟩)); have n1_ := Aside0.mk (Kd.R_mono (ok' := fun k_ => some k_ ≠ (.slice Ao27 t122.length co27 : Value).ownBlock) (Kd.R_keptB ((Kd.R_apart' HO112.out (Kd.R_typed HO116.out) (by decide))) hkp (fun k_ hk_ hs_ => (hk_.2) hs_)) (fun k_ hk_ => hk_.1.1.2)); have n2_ := Aside0.mk (blk_kept (by (with_reducible repeat (first | refine blk_drewN ?_ _ | refine blk_drew ?_ | refine blk_alloc ?_ _)); exact BK113.out) hkp (fun hs_ => (fun e_ => (Kd.R_ne HO116.out BK113.out (by decide)) e_) hs_)); have n3_ := Aside0.mk (Kd.R_reok rfl hy0 (fun k_ e_ => HO116.out.1 k_ e_)); have n4_ := Aside0.mk (Kd.R_mono (ok' := fun k_ => some k_ ≠ (.slice Ao20 t110.length co20 : Value).ownBlock) (Kd.R_keptB ((Kd.R_apart' HO124.out (Kd.R_typed HO116.out) (by decide))) hkp (fun k_ hk_ hs_ => (hk_.2) hs_)) (fun k_ hk_ => hk_.1.1.2)); have n5_ := Aside0.mk (blk_kept (by (with_reducible repeat (first | refine blk_drewN ?_ _ | refine blk_drew ?_ | refine blk_alloc ?_ _)); exact BK125.out) hkp (fun hs_ => (fun e_ => (Kd.R_ne HO116.out BK125.out (by decide)) e_) hs_)); have n6_ := Aside0.mk (Kd.R_mono (ok' := fun k_ => some k_ ≠ (.slice Ao16 t102.length co16 : Value).ownBlock ∧ some k_ ≠ (.slice Ao22 t114.length co22 : Value).ownBlock) (Kd.R_keptB (HO129.out) hkp (fun k_ hk_ hs_ => (hk_.2) hs_)) (fun k_ hk_ => ⟨hk_.1.1.2, hk_.1.2⟩)); have n7_ := Aside0.mk (hb); clear HO104; clear HO112; clear BK113; clear HO116; clear HO124; clear BK125; clear HO129; clear HB; have HO104 := n0_; have HO112 := n1_; have BK113 := n2_; have HO116 := n3_; have HO124 := n4_; have BK125 := n5_; have HO129 := n6_; have HB := n7_; clear n0_ n1_ n2_ n3_ n4_ n5_ n6_ n7_; (try clear hb); (try clear hkp); (try clear hy0)))
        (try simp only [Act.put, List.setIfInBounds_toArray, List.set_cons_zero, List.set_cons_succ])
        go_cut [42] (fun v42 wc => ∃ (kq : Nat) (x42_13 : Bool), v42 = .bool x42_13 ∧ Aside0 (laws_FnExactTimesOf.j0 kq l0 x42_13 t105 t106 t107 t108 t109 t110 t117 t118 t119 t120 t121 t122 = some r) ∧ Aside0 (kq ≤ k) ∧ Aside0 (Kd.R (Kd.int .i64) 2 wc w.heap.size (fun k_ => some k_ ≠ ((.slice Ao27 t122.length co27) : Value).ownBlock) (.slice Ao20 t110.length co20) t110) ∧ Aside0 (Kd.R (Kd.int .i64) 2 wc w.heap.size (fun k_ => some k_ ≠ ((.slice Ao20 t110.length co20) : Value).ownBlock) (.slice Ao27 t122.length co27) t122) ∧ Aside0 (wc.heap[gb113]? = some (.cells #[.int .i64 t105, .int .i64 t106, .int .i64 t107, .int .i64 t108, .int .i64 t109, (.slice Ao20 t110.length co20)] 58 (0, 0))) ∧ Aside0 (wc.heap[gb125]? = some (.cells #[.int .i64 t117, .int .i64 t118, .int .i64 t119, .int .i64 t120, .int .i64 t121, (.slice Ao27 t122.length co27)] 58 (0, 0))) ∧ Aside0 (Below w.heap.size w wc))
        case first =>
          have H := HC14.out
          clear HC14
          by_cases c34 : t131 < 0
          · rw [if_pos c34] at H
            have c34b0 : decide (t131 < 0) = true := decide_eq_true c34
            clear c34
            (first | rw [c34b0] | (simp only [i64_w, i32_w]; rw [c34b0]) | skip)
            have H' := Aside0.mk H
            clear H
            go_wp2
            go_meet
            case rel => exact ⟨_, (true), (by first | rfl | (simp; done) | (simp [*]; done)), H', ⟨by first | omega | exact Nat.le_refl _⟩, ⟨by (with_reducible repeat (first | apply Kd.R_alloc | apply Kd.R_drewN | apply Kd.R_drew)); exact HO112.out⟩, ⟨by (with_reducible repeat (first | apply Kd.R_alloc | apply Kd.R_drewN | apply Kd.R_drew)); exact HO124.out⟩, ⟨by (with_reducible repeat (first | refine blk_drewN ?_ _ | refine blk_drew ?_ | refine blk_alloc ?_ _)); exact BK113.out⟩, ⟨by (with_reducible repeat (first | refine blk_drewN ?_ _ | refine blk_drew ?_ | refine blk_alloc ?_ _)); exact BK125.out⟩, ⟨by repeat (first | (with_reducible first | exact HB.out | apply below_alloc | apply pw_below_drewN | apply below_drew1 | refine below_set ?_ GE113.out | refine below_set ?_ GE125.out) | exact HB.out)⟩⟩
          · rw [if_neg c34] at H
            have c34b0 : decide (t131 < 0) = false := decide_eq_false c34
            clear c34
            (first | rw [c34b0] | (simp only [i64_w, i32_w]; rw [c34b0]) | skip)
            replace H := Option.bind_eq_some_iff.mp H
            obtain ⟨t133, A350, H⟩ := H
            replace H : (laws_FnExactTimesOf.j0 k l0 (!t133) t105 t106 t107 t108 t109 t110 t117 t118 t119 t120 t121 t122) = some r := H
            have A35 := Aside0.mk A350
            clear A350
            have H' := Aside0.mk H
            clear H
            have hnb36 := NB125_113.out
            have hnc36 := NB113_125.out
            have hcz37_0 : w33.cell? ⟨gb125, 0, none⟩ = some (.int .i64 t117) := (blk_cell BK125.out 0).trans rfl
            have hcz37_1 : w33.cell? ⟨gb125, 1, none⟩ = some (.int .i64 t118) := (blk_cell BK125.out 1).trans rfl
            have hcz37_2 : w33.cell? ⟨gb125, 2, none⟩ = some (.int .i64 t119) := (blk_cell BK125.out 2).trans rfl
            have hcz37_3 : w33.cell? ⟨gb125, 3, none⟩ = some (.int .i64 t120) := (blk_cell BK125.out 3).trans rfl
            have hcz37_4 : w33.cell? ⟨gb125, 4, none⟩ = some (.int .i64 t121) := (blk_cell BK125.out 4).trans rfl
            have hcz37_5 : w33.cell? ⟨gb125, 5, none⟩ = some (.slice Ao27 t122.length co27) := (blk_cell BK125.out 5).trans rfl
            have hfz37_0 := blk_frozen BK125.out 0
            have hfz37_1 := blk_frozen BK125.out 1
            have hfz37_2 := blk_frozen BK125.out 2
            have hfz37_3 := blk_frozen BK125.out 3
            have hfz37_4 := blk_frozen BK125.out 4
            have hfz37_5 := blk_frozen BK125.out 5
            have hcz38_0 : w33.cell? ⟨gb113, 0, none⟩ = some (.int .i64 t105) := (blk_cell BK113.out 0).trans rfl
            have hcz38_1 : w33.cell? ⟨gb113, 1, none⟩ = some (.int .i64 t106) := (blk_cell BK113.out 1).trans rfl
            have hcz38_2 : w33.cell? ⟨gb113, 2, none⟩ = some (.int .i64 t107) := (blk_cell BK113.out 2).trans rfl
            have hcz38_3 : w33.cell? ⟨gb113, 3, none⟩ = some (.int .i64 t108) := (blk_cell BK113.out 3).trans rfl
            have hcz38_4 : w33.cell? ⟨gb113, 4, none⟩ = some (.int .i64 t109) := (blk_cell BK113.out 4).trans rfl
            have hcz38_5 : w33.cell? ⟨gb113, 5, none⟩ = some (.slice Ao20 t110.length co20) := (blk_cell BK113.out 5).trans rfl
            have hfz38_0 := blk_frozen BK113.out 0
            have hfz38_1 := blk_frozen BK113.out 1
            have hfz38_2 := blk_frozen BK113.out 2
            have hfz38_3 := blk_frozen BK113.out 3
            have hfz38_4 := blk_frozen BK113.out 4
            have hfz38_5 := blk_frozen BK113.out 5
            go_wp2_with (first | (go_at_call 45; (with_reducible refine (laws_eqTimes.calls k t117 t118 t119 t120 t121 _ _ t122 t105 t106 t107 t108 t109 _ _ t110 t133 _ ?side1 ?side2 ?side3 ?side4 A35.out).mono ?_); (case side1 => repeat (first | exact (Kd.R_reads' HO124.out).2.2 | (with_reducible refine Kd.C_alloc ?_ _) | (with_reducible refine Kd.C_drewN ?_ _) | (with_reducible refine Kd.C_drew ?_))); (case side2 => exact (Kd.R_reads' HO124.out).2.1); (case side3 => repeat (first | exact (Kd.R_reads' HO112.out).2.2 | (with_reducible refine Kd.C_alloc ?_ _) | (with_reducible refine Kd.C_drewN ?_ _) | (with_reducible refine Kd.C_drew ?_))); (case side4 => exact (Kd.R_reads' HO112.out).2.1); rintro e w39 ⟨rfl, hb⟩; have n0_ := Aside0.mk (Kd.R_below (by (with_reducible repeat (first | apply Kd.R_alloc | apply Kd.R_drewN | apply Kd.R_drew)); exact HO104.out) hb); have n1_ := Aside0.mk (Kd.R_below (by (with_reducible repeat (first | apply Kd.R_alloc | apply Kd.R_drewN | apply Kd.R_drew)); exact HO112.out) hb); have n2_ := Aside0.mk (Kd.R_below (by (with_reducible repeat (first | apply Kd.R_alloc | apply Kd.R_drewN | apply Kd.R_drew)); exact HO116.out) hb); have n3_ := Aside0.mk (Kd.R_below (by (with_reducible repeat (first | apply Kd.R_alloc | apply Kd.R_drewN | apply Kd.R_drew)); exact HO124.out) hb); have n4_ := Aside0.mk (Kd.R_below (by (with_reducible repeat (first | apply Kd.R_alloc | apply Kd.R_drewN | apply Kd.R_drew)); exact HO129.out) hb); have n5_ := Aside0.mk (blk_below (g := gb113) (o := .cells #[.int .i64 t105, .int .i64 t106, .int .i64 t107, .int .i64 t108, .int .i64 t109, .slice Ao20 t110.length co20] 58 (0, 0)) (by (with_reducible repeat (first | refine blk_drewN ?_ _ | refine blk_drew ?_ | refine blk_alloc ?_ _)); exact BK113.out) hb); have n6_ := Aside0.mk (blk_below (g := gb125) (o := .cells #[.int .i64 t117, .int .i64 t118, .int .i64 t119, .int .i64 t120, .int .i64 t121, .slice Ao27 t122.length co27] 58 (0, 0)) (by (with_reducible repeat (first | refine blk_drewN ?_ _ | refine blk_drew ?_ | refine blk_alloc ?_ _)); exact BK125.out) hb); have n7_ := Aside0.mk (below_step (by repeat (first | (with_reducible first | exact HB.out | apply below_alloc | apply pw_below_drewN | apply below_drew1 | refine below_set ?_ GE113.out | refine below_set ?_ GE125.out) | exact HB.out)) hb); clear HO104; clear HO112; clear HO116; clear HO124; clear HO129; clear BK113; clear BK125; clear HB; have HO104 := n0_; have HO112 := n1_; have HO116 := n2_; have HO124 := n3_; have HO129 := n4_; have BK113 := n5_; have BK125 := n6_; have HB := n7_; clear n0_ n1_ n2_ n3_ n4_ n5_ n6_ n7_; (try clear hb); (try clear hb2); (try clear hk); (try clear hi)))
            go_meet
            case rel => exact ⟨_, (!t133), (by first | rfl | (simp; done) | (simp [*]; done)), H', ⟨by first | omega | exact Nat.le_refl _⟩, ⟨by (with_reducible repeat (first | apply Kd.R_alloc | apply Kd.R_drewN | apply Kd.R_drew)); exact HO112.out⟩, ⟨by (with_reducible repeat (first | apply Kd.R_alloc | apply Kd.R_drewN | apply Kd.R_drew)); exact HO124.out⟩, ⟨by (with_reducible repeat (first | refine blk_drewN ?_ _ | refine blk_drew ?_ | refine blk_alloc ?_ _)); exact BK113.out⟩, ⟨by (with_reducible repeat (first | refine blk_drewN ?_ _ | refine blk_drew ?_ | refine blk_alloc ?_ _)); exact BK125.out⟩, ⟨by repeat (first | (with_reducible first | exact HB.out | apply below_alloc | apply pw_below_drewN | apply below_drew1 | refine below_set ?_ GE113.out | refine below_set ?_ GE125.out) | exact HB.out)⟩⟩
        case rest =>
          clear HC14
          try clear c1
          try clear c2
          try clear p2
          try clear c3
          try clear c3b0
          try clear c4
          try clear c9
          try clear c10
          try clear c12
          try clear c15
          try clear c17
          try clear c20
          try clear c25
          try clear c30
          try clear c34
          try clear c34b0
          try clear c36
          try clear hcz19_0
          try clear hcz19_1
          try clear hcz19_2
          try clear hcz19_3
          try clear hcz19_4
          try clear hcz19_5
          try clear hcz26_0
          try clear hcz26_1
          try clear hcz26_2
          try clear hcz26_3
          try clear hcz26_4
          try clear hcz26_5
          try clear hcz28_0
          try clear hcz28_1
          try clear hcz28_2
          try clear hcz28_3
          try clear hcz28_4
          try clear hcz28_5
          try clear hcz37_0
          try clear hcz37_1
          try clear hcz37_2
          try clear hcz37_3
          try clear hcz37_4
          try clear hcz37_5
          try clear hcz38_0
          try clear hcz38_1
          try clear hcz38_2
          try clear hcz38_3
          try clear hcz38_4
          try clear hcz38_5
          try clear hfz19_0
          try clear hfz19_1
          try clear hfz19_2
          try clear hfz19_3
          try clear hfz19_4
          try clear hfz19_5
          try clear hfz26_0
          try clear hfz26_1
          try clear hfz26_2
          try clear hfz26_3
          try clear hfz26_4
          try clear hfz26_5
          try clear hfz28_0
          try clear hfz28_1
          try clear hfz28_2
          try clear hfz28_3
          try clear hfz28_4
          try clear hfz28_5
          try clear hfz37_0
          try clear hfz37_1
          try clear hfz37_2
          try clear hfz37_3
          try clear hfz37_4
          try clear hfz37_5
          try clear hfz38_0
          try clear hfz38_1
          try clear hfz38_2
          try clear hfz38_3
          try clear hfz38_4
          try clear hfz38_5
          obtain ⟨kq, x42_13, rfl, HA, HJ13, HO_114005, HO_126005, BK113, BK125, HB⟩ := hcut
          cases kq with
          | zero => exact absurd HA.out (by simp [laws_FnExactTimesOf.j0])
          | succ kj13 =>
            have H := HA.out
            clear HA
            simp only [laws_FnExactTimesOf.j0] at H
            by_cases c40 : x42_13 = true
            · subst c40
              have H1 : (some false) = some r := by rw [if_pos rfl] at H; exact H
              clear H
              have H := H1
              clear H1
              obtain rfl := Option.some.inj H
              exact absurd ht (by decide)
            · replace c40 := Bool.eq_false_iff.mpr c40
              subst c40
              have H1 : ((laws_markTimes.f kj13 t117 t118 t119 t120 t121 t122 1).bind fun bt134 => ((laws_heldTimes.f kj13 t117 t118 t119 t120 t121 bt134.2 1).bind fun t136 => (if t136 < 0 then (some false) else (if t136 = bt134.1 then ((laws_toRecS.f kj13 l0).bind fun t137 => ((impl_TimesOf.f t137).bind fun bt140 => ((laws_eqTimes.f kj13 bt140.1 bt140.2.1 bt140.2.2.1 bt140.2.2.2.1 bt140.2.2.2.2.1 bt140.2.2.2.2.2 t105 t106 t107 t108 t109 t110).bind fun t149 => (if t149 = true then ((laws_heldTimes.f kj13 t117 t118 t119 t120 t121 bt134.2 1).bind fun t150 => (if t150 < 0 then (some false) else (if t150 = bt134.1 then (some true) else (some false)))) else (some false))))) else (some false))))) = some r := by rw [if_neg (show ¬ (false = true) by decide)] at H; exact H
              clear H
              have H := H1
              clear H1
              replace H := Option.bind_eq_some_iff.mp H
              obtain ⟨⟨t134, t135⟩, A410, H⟩ := H
              replace H : ((laws_heldTimes.f kj13 t117 t118 t119 t120 t121 t135 1).bind fun t136 => (if t136 < 0 then (some false) else (if t136 = t134 then ((laws_toRecS.f kj13 l0).bind fun t137 => ((impl_TimesOf.f t137).bind fun bt140 => ((laws_eqTimes.f kj13 bt140.1 bt140.2.1 bt140.2.2.1 bt140.2.2.2.1 bt140.2.2.2.2.1 bt140.2.2.2.2.2 t105 t106 t107 t108 t109 t110).bind fun t149 => (if t149 = true then ((laws_heldTimes.f kj13 t117 t118 t119 t120 t121 t135 1).bind fun t150 => (if t150 < 0 then (some false) else (if t150 = t134 then (some true) else (some false)))) else (some false))))) else (some false)))) = some r := H
              have A41 := Aside0.mk A410
              clear A410
              replace H := Option.bind_eq_some_iff.mp H
              obtain ⟨t136, A420, H⟩ := H
              replace H : (if t136 < 0 then (some false) else (if t136 = t134 then ((laws_toRecS.f kj13 l0).bind fun t137 => ((impl_TimesOf.f t137).bind fun bt140 => ((laws_eqTimes.f kj13 bt140.1 bt140.2.1 bt140.2.2.1 bt140.2.2.2.1 bt140.2.2.2.2.1 bt140.2.2.2.2.2 t105 t106 t107 t108 t109 t110).bind fun t149 => (if t149 = true then ((laws_heldTimes.f kj13 t117 t118 t119 t120 t121 t135 1).bind fun t150 => (if t150 < 0 then (some false) else (if t150 = t134 then (some true) else (some false)))) else (some false))))) else (some false))) = some r := H
              have A42 := Aside0.mk A420
              clear A420
              by_cases c43 : t136 < 0
              · rw [if_pos c43] at H
                have c43b0 : decide (t136 < 0) = true := decide_eq_true c43
                clear c43
                obtain rfl := Option.some.inj H
                exact absurd ht (by decide)
              · rw [if_neg c43] at H
                have c43b0 : decide (t136 < 0) = false := decide_eq_false c43
                clear c43
                by_cases c44 : t136 = t134
                · rw [if_pos c44] at H
                  have c44b0 : (t136 == t134) = true := beq_iff_eq.mpr c44
                  have c44b1 : (t136 != t134) = false := bne_eq_false_iff_eq.mpr c44
                  clear c44
                  replace H := Option.bind_eq_some_iff.mp H
                  obtain ⟨t137, A450, H⟩ := H
                  replace H : ((impl_TimesOf.f t137).bind fun bt140 => ((laws_eqTimes.f kj13 bt140.1 bt140.2.1 bt140.2.2.1 bt140.2.2.2.1 bt140.2.2.2.2.1 bt140.2.2.2.2.2 t105 t106 t107 t108 t109 t110).bind fun t149 => (if t149 = true then ((laws_heldTimes.f kj13 t117 t118 t119 t120 t121 t135 1).bind fun t150 => (if t150 < 0 then (some false) else (if t150 = t134 then (some true) else (some false)))) else (some false)))) = some r := H
                  have A45 := Aside0.mk A450
                  clear A450
                  replace H := Option.bind_eq_some_iff.mp H
                  obtain ⟨⟨t140, t141, t142, t143, t144, t145⟩, A460, H⟩ := H
                  replace H : ((laws_eqTimes.f kj13 t140 t141 t142 t143 t144 t145 t105 t106 t107 t108 t109 t110).bind fun t149 => (if t149 = true then ((laws_heldTimes.f kj13 t117 t118 t119 t120 t121 t135 1).bind fun t150 => (if t150 < 0 then (some false) else (if t150 = t134 then (some true) else (some false)))) else (some false))) = some r := H
                  have A46 := Aside0.mk A460
                  clear A460
                  replace H := Option.bind_eq_some_iff.mp H
                  obtain ⟨t149, A470, H⟩ := H
                  replace H : (if t149 = true then ((laws_heldTimes.f kj13 t117 t118 t119 t120 t121 t135 1).bind fun t150 => (if t150 < 0 then (some false) else (if t150 = t134 then (some true) else (some false)))) else (some false)) = some r := H
                  have A47 := Aside0.mk A470
                  clear A470
                  by_cases c48 : t149 = true
                  · subst c48
                    have H1 : ((laws_heldTimes.f kj13 t117 t118 t119 t120 t121 t135 1).bind fun t150 => (if t150 < 0 then (some false) else (if t150 = t134 then (some true) else (some false)))) = some r := by rw [if_pos rfl] at H; exact H
                    clear H
                    have H := H1
                    clear H1
                    replace H := Option.bind_eq_some_iff.mp H
                    obtain ⟨t150, A490, H⟩ := H
                    replace H : (if t150 < 0 then (some false) else (if t150 = t134 then (some true) else (some false))) = some r := H
                    have A49 := Aside0.mk A490
                    clear A490
                    by_cases c50 : t150 < 0
                    · rw [if_pos c50] at H
                      have c50b0 : decide (t150 < 0) = true := decide_eq_true c50
                      clear c50
                      obtain rfl := Option.some.inj H
                      exact absurd ht (by decide)
                    · rw [if_neg c50] at H
                      have c50b0 : decide (t150 < 0) = false := decide_eq_false c50
                      clear c50
                      by_cases c51 : t150 = t134
                      · rw [if_pos c51] at H
                        have c51b0 : (t150 == t134) = true := beq_iff_eq.mpr c51
                        have c51b1 : (t150 != t134) = false := bne_eq_false_iff_eq.mpr c51
                        clear c51
                        clear ht
                        obtain rfl := Option.some.inj H
                        have hnb52 := NB125_113.out
                        have hnc52 := NB113_125.out
                        have hcz53_0 : wc.cell? ⟨gb125, 0, none⟩ = some (.int .i64 t117) := (blk_cell BK125.out 0).trans rfl
                        have hcz53_1 : wc.cell? ⟨gb125, 1, none⟩ = some (.int .i64 t118) := (blk_cell BK125.out 1).trans rfl
                        have hcz53_2 : wc.cell? ⟨gb125, 2, none⟩ = some (.int .i64 t119) := (blk_cell BK125.out 2).trans rfl
                        have hcz53_3 : wc.cell? ⟨gb125, 3, none⟩ = some (.int .i64 t120) := (blk_cell BK125.out 3).trans rfl
                        have hcz53_4 : wc.cell? ⟨gb125, 4, none⟩ = some (.int .i64 t121) := (blk_cell BK125.out 4).trans rfl
                        have hcz53_5 : wc.cell? ⟨gb125, 5, none⟩ = some (.slice Ao27 t122.length co27) := (blk_cell BK125.out 5).trans rfl
                        have hfz53_0 := blk_frozen BK125.out 0
                        have hfz53_1 := blk_frozen BK125.out 1
                        have hfz53_2 := blk_frozen BK125.out 2
                        have hfz53_3 := blk_frozen BK125.out 3
                        have hfz53_4 := blk_frozen BK125.out 4
                        have hfz53_5 := blk_frozen BK125.out 5
                        go_wp2_with (first | ((with_reducible refine gate_callee (f := 46) rfl ?_); refine goesL_ (some 45) rfl rfl Try.func46 (by kernel_rfl) rfl #[.agg #[.int .i64 t117, .int .i64 t118, .int .i64 t119, .int .i64 t120, .int .i64 t121, .slice Ao27 t122.length co27], .int .i64 1] rfl (by (try simp only [List.map_toArray, List.map_cons, List.map_nil]); first | done | rfl | (simp only [List.length_drop, List.length_take]; rfl)) ?_; (with_reducible refine (laws_markTimes.calls kj13 t117 t118 t119 t120 t121 (fun k_ => some k_ = (.slice Ao27 t122.length co27 : Value).ownBlock) (.slice Ao27 t122.length co27) t122 1 t134 t135 w _ ?side1 ?side2 A41.out).mono ?_); (case side1 => repeat (first | (with_reducible first | exact HB.out | apply below_alloc | apply pw_below_drewN | apply below_drew1 | refine below_set ?_ GE113.out | refine below_set ?_ GE125.out) | exact HB.out)); (case side2 => exact Kd.R_tight rfl HO_126005.out); rintro e w54 ⟨rfl, hy0, hb, hkp⟩; refine ⟨_, rfl, ?_⟩; have n0_ := Aside0.mk (Kd.R_mono (ok' := fun k_ => some k_ ≠ (.slice Ao27 t122.length co27 : Value).ownBlock) (Kd.R_keptB (HO_114005.out) hkp (fun k_ hk_ hs_ => (hk_) hs_)) (fun k_ hk_ => hk_.1)); have n1_ := Aside0.mk (Kd.R_reok rfl hy0 (fun k_ e_ => HO_126005.out.1 k_ e_)); have n2_ := Aside0.mk (blk_kept (by (with_reducible repeat (first | refine blk_drewN ?_ _ | refine blk_drew ?_ | refine blk_alloc ?_ _)); exact BK113.out) hkp (fun hs_ => (fun e_ => (Kd.R_ne HO_126005.out BK113.out (by decide)) e_) hs_)); have n3_ := Aside0.mk (blk_kept (by (with_reducible repeat (first | refine blk_drewN ?_ _ | refine blk_drew ?_ | refine blk_alloc ?_ _)); exact BK125.out) hkp (fun hs_ => (fun e_ => (Kd.R_ne HO_126005.out BK125.out (by decide)) e_) hs_)); have n4_ := Aside0.mk (hb); clear HO_114005; clear HO_126005; clear BK113; clear BK125; clear HB; have HO_114005 := n0_; have HO_126005 := n1_; have BK113 := n2_; have BK125 := n3_; have HB := n4_; clear n0_ n1_ n2_ n3_ n4_; (try clear hb); (try clear hkp); (try clear hy0); have hcz55_0 : w54.cell? ⟨gb125, 0, none⟩ = some (.int .i64 t117) := (blk_cell BK125.out 0).trans rfl; have hcz55_1 : w54.cell? ⟨gb125, 1, none⟩ = some (.int .i64 t118) := (blk_cell BK125.out 1).trans rfl; have hcz55_2 : w54.cell? ⟨gb125, 2, none⟩ = some (.int .i64 t119) := (blk_cell BK125.out 2).trans rfl; have hcz55_3 : w54.cell? ⟨gb125, 3, none⟩ = some (.int .i64 t120) := (blk_cell BK125.out 3).trans rfl; have hcz55_4 : w54.cell? ⟨gb125, 4, none⟩ = some (.int .i64 t121) := (blk_cell BK125.out 4).trans rfl; have hcz55_5 : w54.cell? ⟨gb125, 5, none⟩ = some (.slice Ao27 t122.length co27) := (blk_cell BK125.out 5).trans rfl; have hfz55_0 := blk_frozen BK125.out 0; have hfz55_1 := blk_frozen BK125.out 1; have hfz55_2 := blk_frozen BK125.out 2; have hfz55_3 := blk_frozen BK125.out 3; have hfz55_4 := blk_frozen BK125.out 4; have hfz55_5 := blk_frozen BK125.out 5) | ((with_reducible refine gate_callee (f := 47) rfl ?_); refine goesL_ (some 48) rfl rfl Try.func47 (by kernel_rfl) rfl #[.agg #[.int .i64 t117, .int .i64 t118, .int .i64 t119, .int .i64 t120, .int .i64 t121, .slice Ao27 t135.length co27], .int .i64 1] rfl (by (try simp only [List.map_toArray, List.map_cons, List.map_nil]); first | done | (rw [show t135.length = t122.length from (Kd.R_reads' HO_126005.out).1.symm] <;> rfl) | rfl | (simp only [List.length_drop, List.length_take]; rfl)) ?_; (with_reducible refine (laws_heldTimes.calls kj13 t117 t118 t119 t120 t121 _ _ t135 1 t136 _ ?side1 ?side2 A42.out).mono ?_); (case side1 => repeat (first | exact (Kd.R_reads' HO_126005.out).2.2 | (with_reducible refine Kd.C_alloc ?_ _) | (with_reducible refine Kd.C_drewN ?_ _) | (with_reducible refine Kd.C_drew ?_))); (case side2 => rw [show t135.length = t122.length from (Kd.R_reads' HO_126005.out).1.symm]; exact (Kd.R_reads' HO_126005.out).2.1); rintro e w56 ⟨rfl, hb⟩; refine ⟨_, rfl, ?_⟩; have n0_ := Aside0.mk (Kd.R_below (by (with_reducible repeat (first | apply Kd.R_alloc | apply Kd.R_drewN | apply Kd.R_drew)); exact HO_114005.out) hb); have n1_ := Aside0.mk (Kd.R_below (by (with_reducible repeat (first | apply Kd.R_alloc | apply Kd.R_drewN | apply Kd.R_drew)); exact HO_126005.out) hb); have n2_ := Aside0.mk (blk_below (g := gb113) (o := .cells #[.int .i64 t105, .int .i64 t106, .int .i64 t107, .int .i64 t108, .int .i64 t109, .slice Ao20 t110.length co20] 58 (0, 0)) (by (with_reducible repeat (first | refine blk_drewN ?_ _ | refine blk_drew ?_ | refine blk_alloc ?_ _)); exact BK113.out) hb); have n3_ := Aside0.mk (blk_below (g := gb125) (o := .cells #[.int .i64 t117, .int .i64 t118, .int .i64 t119, .int .i64 t120, .int .i64 t121, .slice Ao27 t122.length co27] 58 (0, 0)) (by (with_reducible repeat (first | refine blk_drewN ?_ _ | refine blk_drew ?_ | refine blk_alloc ?_ _)); exact BK125.out) hb); have n4_ := Aside0.mk (below_step (by repeat (first | (with_reducible first | exact HB.out | apply below_alloc | apply pw_below_drewN | apply below_drew1 | refine below_set ?_ GE113.out | refine below_set ?_ GE125.out) | exact HB.out)) hb); clear HO_114005; clear HO_126005; clear BK113; clear BK125; clear HB; have HO_114005 := n0_; have HO_126005 := n1_; have BK113 := n2_; have BK125 := n3_; have HB := n4_; clear n0_ n1_ n2_ n3_ n4_; (try clear hb); (try clear hb2); (try clear hk); (try clear hi)) | ((with_reducible refine gate_callee (f := 17) rfl ?_); refine goesL_ (some 55) rfl rfl Try.func17 (by kernel_rfl) rfl #[.slice A0 l0.length c0] rfl (by (try simp only [List.map_toArray, List.map_cons, List.map_nil]); first | done | rfl | (simp only [List.length_drop, List.length_take]; rfl)) ?_; (with_reducible refine (laws_toRecS.calls kj13 _ _ l0 t137 _ ?side1 ?side2 A45.out).mono ?_); (case side1 => repeat (first | exact (Kd.C_below HR0.out HB.out) | (with_reducible refine Kd.C_alloc ?_ _) | (with_reducible refine Kd.C_drewN ?_ _) | (with_reducible refine Kd.C_drew ?_))); (case side2 => exact HC0.out); rintro e w57 ⟨v138, rfl, ho0, hb⟩; refine ⟨_, rfl, ?_⟩; have n0_ := Aside0.mk (Kd.R_below (by (with_reducible repeat (first | apply Kd.R_alloc | apply Kd.R_drewN | apply Kd.R_drew)); exact HO_114005.out) hb); have n1_ := Aside0.mk (Kd.R_below (by (with_reducible repeat (first | apply Kd.R_alloc | apply Kd.R_drewN | apply Kd.R_drew)); exact HO_126005.out) hb); have n2_ := Aside0.mk (Kd.R_lower ho0 (below_size (by repeat (first | (with_reducible first | exact HB.out | apply below_alloc | apply pw_below_drewN | apply below_drew1 | refine below_set ?_ GE113.out | refine below_set ?_ GE125.out) | exact HB.out)))); have n3_ := Aside0.mk (blk_below (g := gb113) (o := .cells #[.int .i64 t105, .int .i64 t106, .int .i64 t107, .int .i64 t108, .int .i64 t109, .slice Ao20 t110.length co20] 58 (0, 0)) (by (with_reducible repeat (first | refine blk_drewN ?_ _ | refine blk_drew ?_ | refine blk_alloc ?_ _)); exact BK113.out) hb); have n4_ := Aside0.mk (blk_below (g := gb125) (o := .cells #[.int .i64 t117, .int .i64 t118, .int .i64 t119, .int .i64 t120, .int .i64 t121, .slice Ao27 t122.length co27] 58 (0, 0)) (by (with_reducible repeat (first | refine blk_drewN ?_ _ | refine blk_drew ?_ | refine blk_alloc ?_ _)); exact BK125.out) hb); have n5_ := Aside0.mk (below_step (by repeat (first | (with_reducible first | exact HB.out | apply below_alloc | apply pw_below_drewN | apply below_drew1 | refine below_set ?_ GE113.out | refine below_set ?_ GE125.out) | exact HB.out)) hb); clear HO_114005; clear HO_126005; clear BK113; clear BK125; clear HB; have HO_114005 := n0_; have HO_126005 := n1_; have HO139 := n2_; have BK113 := n3_; have BK125 := n4_; have HB := n5_; clear n0_ n1_ n2_ n3_ n4_ n5_; (try clear hb); (try clear hb2); (try clear hk); (try clear hi); (try clear ho0); obtain ⟨Ao58, co58, eo58⟩ := Kd.R_slice HO139.out; subst eo58) | ((with_reducible refine gate_callee (f := 44) rfl ?_); refine goesL_ (some 56) rfl rfl Try.func44 (by kernel_rfl) rfl #[.slice Ao58 t137.length co58] rfl (by (try simp only [List.map_toArray, List.map_cons, List.map_nil]); first | done | rfl | (simp only [List.length_drop, List.length_take]; rfl)) ?_; (with_reducible refine (impl_TimesOf.calls _ _ t137 t140 t141 t142 t143 t144 t145 _ ?side1 ?side2 A46.out).mono ?_); (case side1 => repeat (first | exact (Kd.R_reads' HO139.out).2.2 | (with_reducible refine Kd.C_alloc ?_ _) | (with_reducible refine Kd.C_drewN ?_ _) | (with_reducible refine Kd.C_drew ?_))); (case side2 => exact (Kd.R_reads' HO139.out).2.1); rintro e w59 ⟨v146, rfl, ho0, hb⟩; refine ⟨_, rfl, ?_⟩; have n0_ := Aside0.mk (Kd.R_elder' (by (with_reducible repeat (first | apply Kd.R_alloc | apply Kd.R_drewN | apply Kd.R_drew)); exact HO_114005.out) (Kd.R_base ho0) hb); have n1_ := Aside0.mk (Kd.R_elder' (by (with_reducible repeat (first | apply Kd.R_alloc | apply Kd.R_drewN | apply Kd.R_drew)); exact HO_126005.out) (Kd.R_base ho0) hb); have n2_ := Aside0.mk (Kd.R_below (by (with_reducible repeat (first | apply Kd.R_alloc | apply Kd.R_drewN | apply Kd.R_drew)); exact HO139.out) hb); have n3_ := Aside0.mk (Kd.R_lower (Kd.R_new' (Kd.R_new' ho0 (Kd.R_lt (by (with_reducible repeat (first | apply Kd.R_alloc | apply Kd.R_drewN | apply Kd.R_drew)); exact HO_114005.out))) (Kd.R_lt (by (with_reducible repeat (first | apply Kd.R_alloc | apply Kd.R_drewN | apply Kd.R_drew)); exact HO_126005.out))) (below_size (by repeat (first | (with_reducible first | exact HB.out | apply below_alloc | apply pw_below_drewN | apply below_drew1 | refine below_set ?_ GE113.out | refine below_set ?_ GE125.out) | exact HB.out)))); have n4_ := Aside0.mk (blk_below (g := gb113) (o := .cells #[.int .i64 t105, .int .i64 t106, .int .i64 t107, .int .i64 t108, .int .i64 t109, .slice Ao20 t110.length co20] 58 (0, 0)) (by (with_reducible repeat (first | refine blk_drewN ?_ _ | refine blk_drew ?_ | refine blk_alloc ?_ _)); exact BK113.out) hb); have n5_ := Aside0.mk (blk_below (g := gb125) (o := .cells #[.int .i64 t117, .int .i64 t118, .int .i64 t119, .int .i64 t120, .int .i64 t121, .slice Ao27 t122.length co27] 58 (0, 0)) (by (with_reducible repeat (first | refine blk_drewN ?_ _ | refine blk_drew ?_ | refine blk_alloc ?_ _)); exact BK125.out) hb); have n6_ := Aside0.mk (below_step (by repeat (first | (with_reducible first | exact HB.out | apply below_alloc | apply pw_below_drewN | apply below_drew1 | refine below_set ?_ GE113.out | refine below_set ?_ GE125.out) | exact HB.out)) hb); clear HO_114005; clear HO_126005; clear HO139; clear BK113; clear BK125; clear HB; have HO_114005 := n0_; have HO_126005 := n1_; have HO139 := n2_; have HO147 := n3_; have BK113 := n4_; have BK125 := n5_; have HB := n6_; clear n0_ n1_ n2_ n3_ n4_ n5_ n6_; (try clear hb); (try clear hb2); (try clear hk); (try clear hi); (try clear ho0)) | ((with_reducible refine gate_dst (N := 10) rfl ?_); refine box_event ?hg (N := 10) ?hd (cs := #[.int .i64 0, .int .i64 0, .int .i64 0, .int .i64 0, .int .i64 0, .slice none 0 0]) (t := 58) ?hr ?_; (case hd => rfl); (case hg => rfl); (case hr => first | (go_simp; done) | (go_simp; rfl)); intro gb148 hg w60 hbox hb; have n0_ := Aside0.mk (Kd.R_below (by (with_reducible repeat (first | apply Kd.R_alloc | apply Kd.R_drewN | apply Kd.R_drew)); exact HO_114005.out) hb); have n1_ := Aside0.mk (Kd.R_below (by (with_reducible repeat (first | apply Kd.R_alloc | apply Kd.R_drewN | apply Kd.R_drew)); exact HO_126005.out) hb); have n2_ := Aside0.mk (Kd.R_below (by (with_reducible repeat (first | apply Kd.R_alloc | apply Kd.R_drewN | apply Kd.R_drew)); exact HO139.out) hb); have n3_ := Aside0.mk (Kd.R_below (by (with_reducible repeat (first | apply Kd.R_alloc | apply Kd.R_drewN | apply Kd.R_drew)); exact HO147.out) hb); have n4_ := Aside0.mk (blk_below (g := gb113) (o := .cells #[.int .i64 t105, .int .i64 t106, .int .i64 t107, .int .i64 t108, .int .i64 t109, .slice Ao20 t110.length co20] 58 (0, 0)) (by (with_reducible repeat (first | refine blk_drewN ?_ _ | refine blk_drew ?_ | refine blk_alloc ?_ _)); exact BK113.out) hb); have n5_ := Aside0.mk (blk_below (g := gb125) (o := .cells #[.int .i64 t117, .int .i64 t118, .int .i64 t119, .int .i64 t120, .int .i64 t121, .slice Ao27 t122.length co27] 58 (0, 0)) (by (with_reducible repeat (first | refine blk_drewN ?_ _ | refine blk_drew ?_ | refine blk_alloc ?_ _)); exact BK125.out) hb); have n6_ := Aside0.mk (below_step (by repeat (first | (with_reducible first | exact HB.out | apply below_alloc | apply pw_below_drewN | apply below_drew1 | refine below_set ?_ GE113.out | refine below_set ?_ GE125.out) | exact HB.out)) hb); have n7_ := Aside0.mk (hbox); have n8_ := Aside0.mk ((by rw [hg]; exact (below_size (by repeat (first | (with_reducible first | exact HB.out | apply below_alloc | apply pw_below_drewN | apply below_drew1 | refine below_set ?_ GE113.out | refine below_set ?_ GE125.out) | exact HB.out))) : w.heap.size ≤ gb148)); have n9_ := Aside0.mk ((by rw [hg]; exact (below_size (by repeat (first | (with_reducible first | exact HB.out | apply below_alloc | apply pw_below_drewN | apply below_drew1 | refine below_set ?_ GE113.out | refine below_set ?_ GE125.out) | exact HB.out))) : w.heap.size ≤ gb148)); have n10_ := Aside0.mk ((by rw [hg]; exact Nat.ne_of_lt (blk_lt (g := gb113) (o := .cells #[.int .i64 t105, .int .i64 t106, .int .i64 t107, .int .i64 t108, .int .i64 t109, .slice Ao20 t110.length co20] 58 (0, 0)) (by (with_reducible repeat (first | refine blk_drewN ?_ _ | refine blk_drew ?_ | refine blk_alloc ?_ _)); exact BK113.out)) : gb113 ≠ gb148)); have n11_ := Aside0.mk ((by rw [hg]; exact Nat.ne_of_gt (blk_lt (g := gb113) (o := .cells #[.int .i64 t105, .int .i64 t106, .int .i64 t107, .int .i64 t108, .int .i64 t109, .slice Ao20 t110.length co20] 58 (0, 0)) (by (with_reducible repeat (first | refine blk_drewN ?_ _ | refine blk_drew ?_ | refine blk_alloc ?_ _)); exact BK113.out)) : gb148 ≠ gb113)); have n12_ := Aside0.mk ((by rw [hg]; exact Nat.ne_of_lt (blk_lt (g := gb125) (o := .cells #[.int .i64 t117, .int .i64 t118, .int .i64 t119, .int .i64 t120, .int .i64 t121, .slice Ao27 t122.length co27] 58 (0, 0)) (by (with_reducible repeat (first | refine blk_drewN ?_ _ | refine blk_drew ?_ | refine blk_alloc ?_ _)); exact BK125.out)) : gb125 ≠ gb148)); have n13_ := Aside0.mk ((by rw [hg]; exact Nat.ne_of_gt (blk_lt (g := gb125) (o := .cells #[.int .i64 t117, .int .i64 t118, .int .i64 t119, .int .i64 t120, .int .i64 t121, .slice Ao27 t122.length co27] 58 (0, 0)) (by (with_reducible repeat (first | refine blk_drewN ?_ _ | refine blk_drew ?_ | refine blk_alloc ?_ _)); exact BK125.out)) : gb148 ≠ gb125)); clear HO_114005; clear HO_126005; clear HO139; clear HO147; clear BK113; clear BK125; clear HB; have HO_114005 := n0_; have HO_126005 := n1_; have HO139 := n2_; have HO147 := n3_; have BK113 := n4_; have BK125 := n5_; have HB := n6_; have BK148 := n7_; have GW148 := n8_; have GE148 := n9_; have NB113_148 := n10_; have NB148_113 := n11_; have NB125_148 := n12_; have NB148_125 := n13_; clear n0_ n1_ n2_ n3_ n4_ n5_ n6_ n7_ n8_ n9_ n10_ n11_ n12_ n13_; clear hb hbox hg; have hnb61 := NB148_113.out; have hnc61 := NB113_148.out; have hnb62 := NB148_125.out; have hnc62 := NB125_148.out; have hcz63_0 : w60.cell? ⟨gb148, 0, none⟩ = some (.int .i64 0) := (blk_cell BK148.out 0).trans rfl; have hcz63_1 : w60.cell? ⟨gb148, 1, none⟩ = some (.int .i64 0) := (blk_cell BK148.out 1).trans rfl; have hcz63_2 : w60.cell? ⟨gb148, 2, none⟩ = some (.int .i64 0) := (blk_cell BK148.out 2).trans rfl; have hcz63_3 : w60.cell? ⟨gb148, 3, none⟩ = some (.int .i64 0) := (blk_cell BK148.out 3).trans rfl; have hcz63_4 : w60.cell? ⟨gb148, 4, none⟩ = some (.int .i64 0) := (blk_cell BK148.out 4).trans rfl; have hcz63_5 : w60.cell? ⟨gb148, 5, none⟩ = some (.slice none 0 0) := (blk_cell BK148.out 5).trans rfl; have hfz63_0 := blk_frozen BK148.out 0; have hfz63_1 := blk_frozen BK148.out 1; have hfz63_2 := blk_frozen BK148.out 2; have hfz63_3 := blk_frozen BK148.out 3; have hfz63_4 := blk_frozen BK148.out 4; have hfz63_5 := blk_frozen BK148.out 5; obtain ⟨Ao64, co64, eo64⟩ := Kd.R_slice HO147.out; subst eo64; have hcz65_0 : w60.cell? ⟨gb113, 0, none⟩ = some (.int .i64 t105) := (blk_cell BK113.out 0).trans rfl; have hcz65_1 : w60.cell? ⟨gb113, 1, none⟩ = some (.int .i64 t106) := (blk_cell BK113.out 1).trans rfl; have hcz65_2 : w60.cell? ⟨gb113, 2, none⟩ = some (.int .i64 t107) := (blk_cell BK113.out 2).trans rfl; have hcz65_3 : w60.cell? ⟨gb113, 3, none⟩ = some (.int .i64 t108) := (blk_cell BK113.out 3).trans rfl; have hcz65_4 : w60.cell? ⟨gb113, 4, none⟩ = some (.int .i64 t109) := (blk_cell BK113.out 4).trans rfl; have hcz65_5 : w60.cell? ⟨gb113, 5, none⟩ = some (.slice Ao20 t110.length co20) := (blk_cell BK113.out 5).trans rfl; have hfz65_0 := blk_frozen BK113.out 0; have hfz65_1 := blk_frozen BK113.out 1; have hfz65_2 := blk_frozen BK113.out 2; have hfz65_3 := blk_frozen BK113.out 3; have hfz65_4 := blk_frozen BK113.out 4; have hfz65_5 := blk_frozen BK113.out 5) | ((with_reducible refine gate_callee (f := 45) rfl ?_); refine goesL_ (some 59) rfl rfl Try.func45 (by kernel_rfl) rfl #[.agg #[.int .i64 t140, .int .i64 t141, .int .i64 t142, .int .i64 t143, .int .i64 t144, .slice Ao64 t145.length co64], .agg #[.int .i64 t105, .int .i64 t106, .int .i64 t107, .int .i64 t108, .int .i64 t109, .slice Ao20 t110.length co20]] rfl (by (try simp only [List.map_toArray, List.map_cons, List.map_nil]); first | done | rfl | (simp only [List.length_drop, List.length_take]; rfl)) ?_; (with_reducible refine (laws_eqTimes.calls kj13 t140 t141 t142 t143 t144 _ _ t145 t105 t106 t107 t108 t109 _ _ t110 true _ ?side1 ?side2 ?side3 ?side4 A47.out).mono ?_); (case side1 => refine (Kd.R_reads' (e := 2) (base := w.heap.size) (ok := fun k_ => ((True ∧ some k_ ≠ (.slice Ao20 t110.length co20 : Value).ownBlock) ∧ some k_ ≠ (.slice Ao27 t122.length co27 : Value).ownBlock)) (n := t145.length) (c := co64) ?_).2.2; exact (by (with_reducible repeat (first | apply Kd.R_alloc | apply Kd.R_drewN | apply Kd.R_drew)); exact (Kd.R_mono (Kd.R_far (p := ⟨gb148, 5, none⟩) (Kd.R_far (p := ⟨gb148, 4, none⟩) (Kd.R_far (p := ⟨gb148, 3, none⟩) (Kd.R_far (p := ⟨gb148, 2, none⟩) (Kd.R_far (p := ⟨gb148, 1, none⟩) (Kd.R_far (p := ⟨gb148, 0, none⟩) (Kd.R_types HO147.out BK148.out (by decide)) (fun _ hk => hk.2) (.int .i64 t140)) (fun _ hk => hk.2) (.int .i64 t141)) (fun _ hk => hk.2) (.int .i64 t142)) (fun _ hk => hk.2) (.int .i64 t143)) (fun _ hk => hk.2) (.int .i64 t144)) (fun _ hk => hk.2) (.slice Ao64 t145.length co64)) (fun _ h_ => h_.1)))); (case side2 => exact (Kd.R_reads' HO147.out).2.1); (case side3 => refine (Kd.R_reads' (e := 2) (base := w.heap.size) (ok := fun k_ => (some k_ ≠ (.slice Ao27 t122.length co27 : Value).ownBlock ∧ some k_ ≠ (.slice Ao64 t145.length co64 : Value).ownBlock)) (n := t110.length) (c := co20) ?_).2.2; exact (by (with_reducible repeat (first | apply Kd.R_alloc | apply Kd.R_drewN | apply Kd.R_drew)); exact (Kd.R_mono (Kd.R_far (p := ⟨gb148, 5, none⟩) (Kd.R_far (p := ⟨gb148, 4, none⟩) (Kd.R_far (p := ⟨gb148, 3, none⟩) (Kd.R_far (p := ⟨gb148, 2, none⟩) (Kd.R_far (p := ⟨gb148, 1, none⟩) (Kd.R_far (p := ⟨gb148, 0, none⟩) (Kd.R_types HO_114005.out BK148.out (by decide)) (fun _ hk => hk.2) (.int .i64 t140)) (fun _ hk => hk.2) (.int .i64 t141)) (fun _ hk => hk.2) (.int .i64 t142)) (fun _ hk => hk.2) (.int .i64 t143)) (fun _ hk => hk.2) (.int .i64 t144)) (fun _ hk => hk.2) (.slice Ao64 t145.length co64)) (fun _ h_ => h_.1)))); (case side4 => exact (Kd.R_reads' HO_114005.out).2.1); rintro e w66 ⟨rfl, hb⟩; refine ⟨_, rfl, ?_⟩; have n0_ := Aside0.mk (Kd.R_below (by (with_reducible repeat (first | apply Kd.R_alloc | apply Kd.R_drewN | apply Kd.R_drew)); exact (Kd.R_mono (Kd.R_far (p := ⟨gb148, 5, none⟩) (Kd.R_far (p := ⟨gb148, 4, none⟩) (Kd.R_far (p := ⟨gb148, 3, none⟩) (Kd.R_far (p := ⟨gb148, 2, none⟩) (Kd.R_far (p := ⟨gb148, 1, none⟩) (Kd.R_far (p := ⟨gb148, 0, none⟩) (Kd.R_types HO_114005.out BK148.out (by decide)) (fun _ hk => hk.2) (.int .i64 t140)) (fun _ hk => hk.2) (.int .i64 t141)) (fun _ hk => hk.2) (.int .i64 t142)) (fun _ hk => hk.2) (.int .i64 t143)) (fun _ hk => hk.2) (.int .i64 t144)) (fun _ hk => hk.2) (.slice Ao64 t145.length co64)) (fun _ h_ => h_.1))) hb); have n1_ := Aside0.mk (Kd.R_below (by (with_reducible repeat (first | apply Kd.R_alloc | apply Kd.R_drewN | apply Kd.R_drew)); exact (Kd.R_mono (Kd.R_far (p := ⟨gb148, 5, none⟩) (Kd.R_far (p := ⟨gb148, 4, none⟩) (Kd.R_far (p := ⟨gb148, 3, none⟩) (Kd.R_far (p := ⟨gb148, 2, none⟩) (Kd.R_far (p := ⟨gb148, 1, none⟩) (Kd.R_far (p := ⟨gb148, 0, none⟩) (Kd.R_types HO_126005.out BK148.out (by decide)) (fun _ hk => hk.2) (.int .i64 t140)) (fun _ hk => hk.2) (.int .i64 t141)) (fun _ hk => hk.2) (.int .i64 t142)) (fun _ hk => hk.2) (.int .i64 t143)) (fun _ hk => hk.2) (.int .i64 t144)) (fun _ hk => hk.2) (.slice Ao64 t145.length co64)) (fun _ h_ => h_.1))) hb); have n2_ := Aside0.mk (Kd.R_below (by (with_reducible repeat (first | apply Kd.R_alloc | apply Kd.R_drewN | apply Kd.R_drew)); exact (Kd.R_mono (Kd.R_far (p := ⟨gb148, 5, none⟩) (Kd.R_far (p := ⟨gb148, 4, none⟩) (Kd.R_far (p := ⟨gb148, 3, none⟩) (Kd.R_far (p := ⟨gb148, 2, none⟩) (Kd.R_far (p := ⟨gb148, 1, none⟩) (Kd.R_far (p := ⟨gb148, 0, none⟩) (Kd.R_types HO139.out BK148.out (by decide)) (fun _ hk => hk.2) (.int .i64 t140)) (fun _ hk => hk.2) (.int .i64 t141)) (fun _ hk => hk.2) (.int .i64 t142)) (fun _ hk => hk.2) (.int .i64 t143)) (fun _ hk => hk.2) (.int .i64 t144)) (fun _ hk => hk.2) (.slice Ao64 t145.length co64)) (fun _ h_ => h_.1))) hb); have n3_ := Aside0.mk (Kd.R_below (by (with_reducible repeat (first | apply Kd.R_alloc | apply Kd.R_drewN | apply Kd.R_drew)); exact (Kd.R_mono (Kd.R_far (p := ⟨gb148, 5, none⟩) (Kd.R_far (p := ⟨gb148, 4, none⟩) (Kd.R_far (p := ⟨gb148, 3, none⟩) (Kd.R_far (p := ⟨gb148, 2, none⟩) (Kd.R_far (p := ⟨gb148, 1, none⟩) (Kd.R_far (p := ⟨gb148, 0, none⟩) (Kd.R_types HO147.out BK148.out (by decide)) (fun _ hk => hk.2) (.int .i64 t140)) (fun _ hk => hk.2) (.int .i64 t141)) (fun _ hk => hk.2) (.int .i64 t142)) (fun _ hk => hk.2) (.int .i64 t143)) (fun _ hk => hk.2) (.int .i64 t144)) (fun _ hk => hk.2) (.slice Ao64 t145.length co64)) (fun _ h_ => h_.1))) hb); have n4_ := Aside0.mk (blk_below (g := gb113) (o := .cells #[.int .i64 t105, .int .i64 t106, .int .i64 t107, .int .i64 t108, .int .i64 t109, .slice Ao20 t110.length co20] 58 (0, 0)) (by (with_reducible repeat (first | refine blk_drewN ?_ _ | refine blk_drew ?_ | refine blk_alloc ?_ _)); refine blk_far ?_ NB113_148.out _; (with_reducible repeat (first | refine blk_drewN ?_ _ | refine blk_drew ?_ | refine blk_alloc ?_ _)); refine blk_far ?_ NB113_148.out _; (with_reducible repeat (first | refine blk_drewN ?_ _ | refine blk_drew ?_ | refine blk_alloc ?_ _)); refine blk_far ?_ NB113_148.out _; (with_reducible repeat (first | refine blk_drewN ?_ _ | refine blk_drew ?_ | refine blk_alloc ?_ _)); refine blk_far ?_ NB113_148.out _; (with_reducible repeat (first | refine blk_drewN ?_ _ | refine blk_drew ?_ | refine blk_alloc ?_ _)); refine blk_far ?_ NB113_148.out _; (with_reducible repeat (first | refine blk_drewN ?_ _ | refine blk_drew ?_ | refine blk_alloc ?_ _)); refine blk_far ?_ NB113_148.out _; (with_reducible repeat (first | refine blk_drewN ?_ _ | refine blk_drew ?_ | refine blk_alloc ?_ _)); exact BK113.out) hb); have n5_ := Aside0.mk (blk_below (g := gb125) (o := .cells #[.int .i64 t117, .int .i64 t118, .int .i64 t119, .int .i64 t120, .int .i64 t121, .slice Ao27 t122.length co27] 58 (0, 0)) (by (with_reducible repeat (first | refine blk_drewN ?_ _ | refine blk_drew ?_ | refine blk_alloc ?_ _)); refine blk_far ?_ NB125_148.out _; (with_reducible repeat (first | refine blk_drewN ?_ _ | refine blk_drew ?_ | refine blk_alloc ?_ _)); refine blk_far ?_ NB125_148.out _; (with_reducible repeat (first | refine blk_drewN ?_ _ | refine blk_drew ?_ | refine blk_alloc ?_ _)); refine blk_far ?_ NB125_148.out _; (with_reducible repeat (first | refine blk_drewN ?_ _ | refine blk_drew ?_ | refine blk_alloc ?_ _)); refine blk_far ?_ NB125_148.out _; (with_reducible repeat (first | refine blk_drewN ?_ _ | refine blk_drew ?_ | refine blk_alloc ?_ _)); refine blk_far ?_ NB125_148.out _; (with_reducible repeat (first | refine blk_drewN ?_ _ | refine blk_drew ?_ | refine blk_alloc ?_ _)); refine blk_far ?_ NB125_148.out _; (with_reducible repeat (first | refine blk_drewN ?_ _ | refine blk_drew ?_ | refine blk_alloc ?_ _)); exact BK125.out) hb); have n6_ := Aside0.mk (blk_below (g := gb148) (o := .cells #[.int .i64 t140, .int .i64 t141, .int .i64 t142, .int .i64 t143, .int .i64 t144, .slice Ao64 t145.length co64] 58 (0, 0)) (by (with_reducible repeat (first | refine blk_drewN ?_ _ | refine blk_drew ?_ | refine blk_alloc ?_ _)); refine blk_put (cs := #[.int .i64 t140, .int .i64 t141, .int .i64 t142, .int .i64 t143, .int .i64 t144, .slice none 0 0]) ?_ 5 _ rfl; (with_reducible repeat (first | refine blk_drewN ?_ _ | refine blk_drew ?_ | refine blk_alloc ?_ _)); refine blk_put (cs := #[.int .i64 t140, .int .i64 t141, .int .i64 t142, .int .i64 t143, .int .i64 0, .slice none 0 0]) ?_ 4 _ rfl; (with_reducible repeat (first | refine blk_drewN ?_ _ | refine blk_drew ?_ | refine blk_alloc ?_ _)); refine blk_put (cs := #[.int .i64 t140, .int .i64 t141, .int .i64 t142, .int .i64 0, .int .i64 0, .slice none 0 0]) ?_ 3 _ rfl; (with_reducible repeat (first | refine blk_drewN ?_ _ | refine blk_drew ?_ | refine blk_alloc ?_ _)); refine blk_put (cs := #[.int .i64 t140, .int .i64 t141, .int .i64 0, .int .i64 0, .int .i64 0, .slice none 0 0]) ?_ 2 _ rfl; (with_reducible repeat (first | refine blk_drewN ?_ _ | refine blk_drew ?_ | refine blk_alloc ?_ _)); refine blk_put (cs := #[.int .i64 t140, .int .i64 0, .int .i64 0, .int .i64 0, .int .i64 0, .slice none 0 0]) ?_ 1 _ rfl; (with_reducible repeat (first | refine blk_drewN ?_ _ | refine blk_drew ?_ | refine blk_alloc ?_ _)); refine blk_put (cs := #[.int .i64 0, .int .i64 0, .int .i64 0, .int .i64 0, .int .i64 0, .slice none 0 0]) ?_ 0 _ rfl; (with_reducible repeat (first | refine blk_drewN ?_ _ | refine blk_drew ?_ | refine blk_alloc ?_ _)); exact BK148.out) hb); have n7_ := Aside0.mk (below_step (by repeat (first | (with_reducible first | exact HB.out | apply below_alloc | apply pw_below_drewN | apply below_drew1 | refine below_set ?_ GE113.out | refine below_set ?_ GE125.out | refine below_set ?_ GE148.out) | exact HB.out)) hb); clear HO_114005; clear HO_126005; clear HO139; clear HO147; clear BK113; clear BK125; clear BK148; clear HB; have HO_114005 := n0_; have HO_126005 := n1_; have HO139 := n2_; have HO147 := n3_; have BK113 := n4_; have BK125 := n5_; have BK148 := n6_; have HB := n7_; clear n0_ n1_ n2_ n3_ n4_ n5_ n6_ n7_; (try clear hb); (try clear hb2); (try clear hk); (try clear hi); have hcz67_0 : w66.cell? ⟨gb125, 0, none⟩ = some (.int .i64 t117) := (blk_cell BK125.out 0).trans rfl; have hcz67_1 : w66.cell? ⟨gb125, 1, none⟩ = some (.int .i64 t118) := (blk_cell BK125.out 1).trans rfl; have hcz67_2 : w66.cell? ⟨gb125, 2, none⟩ = some (.int .i64 t119) := (blk_cell BK125.out 2).trans rfl; have hcz67_3 : w66.cell? ⟨gb125, 3, none⟩ = some (.int .i64 t120) := (blk_cell BK125.out 3).trans rfl; have hcz67_4 : w66.cell? ⟨gb125, 4, none⟩ = some (.int .i64 t121) := (blk_cell BK125.out 4).trans rfl; have hcz67_5 : w66.cell? ⟨gb125, 5, none⟩ = some (.slice Ao27 t122.length co27) := (blk_cell BK125.out 5).trans rfl; have hfz67_0 := blk_frozen BK125.out 0; have hfz67_1 := blk_frozen BK125.out 1; have hfz67_2 := blk_frozen BK125.out 2; have hfz67_3 := blk_frozen BK125.out 3; have hfz67_4 := blk_frozen BK125.out 4; have hfz67_5 := blk_frozen BK125.out 5) | ((with_reducible refine gate_callee (f := 47) rfl ?_); refine goesL_ (some 63) rfl rfl Try.func47 (by kernel_rfl) rfl #[.agg #[.int .i64 t117, .int .i64 t118, .int .i64 t119, .int .i64 t120, .int .i64 t121, .slice Ao27 t135.length co27], .int .i64 1] rfl (by (try simp only [List.map_toArray, List.map_cons, List.map_nil]); first | done | (rw [show t135.length = t122.length from (Kd.R_reads' HO_126005.out).1.symm] <;> rfl) | rfl | (simp only [List.length_drop, List.length_take]; rfl)) ?_; (with_reducible refine (laws_heldTimes.calls kj13 t117 t118 t119 t120 t121 _ _ t135 1 t150 _ ?side1 ?side2 A49.out).mono ?_); (case side1 => repeat (first | exact (Kd.R_reads' HO_126005.out).2.2 | (with_reducible refine Kd.C_alloc ?_ _) | (with_reducible refine Kd.C_drewN ?_ _) | (with_reducible refine Kd.C_drew ?_))); (case side2 => rw [show t135.length = t122.length from (Kd.R_reads' HO_126005.out).1.symm]; exact (Kd.R_reads' HO_126005.out).2.1); rintro e w68 ⟨rfl, hb⟩; refine ⟨_, rfl, ?_⟩; have n0_ := Aside0.mk (Kd.R_below (by (with_reducible repeat (first | apply Kd.R_alloc | apply Kd.R_drewN | apply Kd.R_drew)); exact HO_114005.out) hb); have n1_ := Aside0.mk (Kd.R_below (by (with_reducible repeat (first | apply Kd.R_alloc | apply Kd.R_drewN | apply Kd.R_drew)); exact HO_126005.out) hb); have n2_ := Aside0.mk (Kd.R_below (by (with_reducible repeat (first | apply Kd.R_alloc | apply Kd.R_drewN | apply Kd.R_drew)); exact HO139.out) hb); have n3_ := Aside0.mk (Kd.R_below (by (with_reducible repeat (first | apply Kd.R_alloc | apply Kd.R_drewN | apply Kd.R_drew)); exact HO147.out) hb); have n4_ := Aside0.mk (blk_below (g := gb113) (o := .cells #[.int .i64 t105, .int .i64 t106, .int .i64 t107, .int .i64 t108, .int .i64 t109, .slice Ao20 t110.length co20] 58 (0, 0)) (by (with_reducible repeat (first | refine blk_drewN ?_ _ | refine blk_drew ?_ | refine blk_alloc ?_ _)); exact BK113.out) hb); have n5_ := Aside0.mk (blk_below (g := gb125) (o := .cells #[.int .i64 t117, .int .i64 t118, .int .i64 t119, .int .i64 t120, .int .i64 t121, .slice Ao27 t122.length co27] 58 (0, 0)) (by (with_reducible repeat (first | refine blk_drewN ?_ _ | refine blk_drew ?_ | refine blk_alloc ?_ _)); exact BK125.out) hb); have n6_ := Aside0.mk (blk_below (g := gb148) (o := .cells #[.int .i64 t140, .int .i64 t141, .int .i64 t142, .int .i64 t143, .int .i64 t144, .slice Ao64 t145.length co64] 58 (0, 0)) (by (with_reducible repeat (first | refine blk_drewN ?_ _ | refine blk_drew ?_ | refine blk_alloc ?_ _)); exact BK148.out) hb); have n7_ := Aside0.mk (below_step (by repeat (first | (with_reducible first | exact HB.out | apply below_alloc | apply pw_below_drewN | apply below_drew1 | refine below_set ?_ GE113.out | refine below_set ?_ GE125.out | refine below_set ?_ GE148.out) | exact HB.out)) hb); clear HO_114005; clear HO_126005; clear HO139; clear HO147; clear BK113; clear BK125; clear BK148; clear HB; have HO_114005 := n0_; have HO_126005 := n1_; have HO139 := n2_; have HO147 := n3_; have BK113 := n4_; have BK125 := n5_; have BK148 := n6_; have HB := n7_; clear n0_ n1_ n2_ n3_ n4_ n5_ n6_ n7_; (try clear hb); (try clear hb2); (try clear hk); (try clear hi)))
                        go_ret
                        exact ⟨by first | rfl | (simp [errW_none, errW_some] <;> rfl) | (simp [*, errW_none, errW_some] <;> rfl), by repeat (first | (with_reducible first | exact HB.out | apply below_alloc | apply pw_below_drewN | apply below_drew1 | refine below_set ?_ GE113.out | refine below_set ?_ GE125.out | refine below_set ?_ GE148.out) | exact HB.out)⟩
                      · rw [if_neg c51] at H
                        have c51b0 : (t150 == t134) = false := beq_eq_false_iff_ne.mpr c51
                        have c51b1 : (t150 != t134) = true := bne_iff_ne.mpr c51
                        obtain rfl := Option.some.inj H
                        exact absurd ht (by decide)
                  · replace c48 := Bool.eq_false_iff.mpr c48
                    subst c48
                    have H1 : (some false) = some r := by rw [if_neg (show ¬ (false = true) by decide)] at H; exact H
                    clear H
                    have H := H1
                    clear H1
                    obtain rfl := Option.some.inj H
                    exact absurd ht (by decide)
                · rw [if_neg c44] at H
                  have c44b0 : (t136 == t134) = false := beq_eq_false_iff_ne.mpr c44
                  have c44b1 : (t136 != t134) = true := bne_iff_ne.mpr c44
                  obtain rfl := Option.some.inj H
                  exact absurd ht (by decide)
      · replace c12 := Bool.eq_false_iff.mpr c12
        subst c12
        have H1 : (some false) = some r := by rw [if_neg (show ¬ (false = true) by decide)] at H; exact H
        clear H
        have H := H1
        clear H1
        obtain rfl := Option.some.inj H
        exact absurd ht (by decide)
    · replace c9 := Bool.eq_false_iff.mpr c9
      subst c9
      have H1 : (some false) = some r := by rw [if_neg (show ¬ (false = true) by decide)] at H; exact H
      clear H
      have H := H1
      clear H1
      obtain rfl := Option.some.inj H
      exact absurd ht (by decide)

end Go.Proofs.Ytgcgdjldhjajaaa.A
/- Loops over lists, in plain Lean: a copy into a new row, a comparison of a row with itself. Conditions: the rows are no longer than a number of the machine can tell. -/
namespace Go.Proofs.Ytgcgdjldhjajaaa.Lst
open Go.RowKit
set_option linter.unusedVariables false
set_option linter.unusedSimpArgs false

theorem w1 (i : Int) (h0 : 0 ≤ i) (h : i < 4611686018427387904) : wrap64 (i + 1) = i + 1 := by unfold wrap64; omega
theorem w1n (i n : Nat) (hi : i < n) (hn : n ≤ 4611686018427387904) : wrap64 ((i : Int) + 1) = ((i + 1 : Nat) : Int) := by unfold wrap64; omega
theorem wr (i : Int) (h0 : -9223372036854775808 ≤ i) (h : i < 9223372036854775808) : wrap64 i = i := by unfold wrap64; omega
theorem toNat_ofNat (i : Nat) : ((i : Int)).toNat = i := rfl

theorem set_take {β : Type} (l : List β) (i : Nat) (b : β) (h : i < l.length) : (l.set i b).take (i + 1) = l.take i ++ [b] := by
  apply List.ext_getElem?
  intro j
  simp only [List.getElem?_take, List.getElem?_append, List.getElem?_set, List.length_take]
  by_cases h1 : j < i
  · rw [if_pos (by omega), if_neg (by omega), if_pos (by omega), if_pos h1]
  · by_cases h2 : j = i
    · subst h2
      rw [if_pos (by omega), if_pos rfl, if_pos h, if_neg (by omega)]
      simp [Nat.min_eq_left (Nat.le_of_lt h)]
    · rw [if_neg (by omega), if_neg (by omega)]
      rw [List.getElem?_eq_none]
      simp; omega

/-- A copy, element by element, into a row that is there. -/
theorem copy_from {α β : Type} (g : Nat → List α → List β → Int → Option (List β)) (z : α) (h : α → β) (l : List α) (hl : l.length ≤ 4611686018427387904)
    (hstep : ∀ (k : Nat) (x : List β) (i : Nat), i < l.length → i < x.length → g (k + 1) l x (i : Int) = g k l (x.set i (h (l.getD i z))) (wrap64 ((i : Int) + 1)))
    (hend : ∀ (k : Nat) (x : List β), g (k + 1) l x (l.length : Int) = some x) :
    ∀ (d k i : Nat) (x : List β), d + i = l.length → x.length = l.length → x.take i = (l.take i).map h → d < k → g k l x (i : Int) = some (l.map h) := by
  intro d
  induction d with
  | zero =>
    intro k i x hd hx ht hk
    obtain ⟨k, rfl⟩ : ∃ m, k = m + 1 := ⟨k - 1, by omega⟩
    obtain rfl : i = l.length := by omega
    rw [hend]
    rw [List.take_of_length_le (by omega), List.take_of_length_le (Nat.le_refl _)] at ht
    rw [ht]
  | succ d ih =>
    intro k i x hd hx ht hk
    obtain ⟨k, rfl⟩ : ∃ m, k = m + 1 := ⟨k - 1, by omega⟩
    rw [hstep k x i (by omega) (by omega), w1n i l.length (by omega) hl]
    refine ih k (i + 1) _ (by omega) (by simpa using hx) ?_ (by omega)
    rw [set_take x i _ (by omega), ht, List.take_succ_eq_append_getElem (by omega), List.map_append, List.getD_eq_getElem?_getD, List.getElem?_eq_getElem (by omega)]
    simp

theorem copy_all {α β : Type} (g : Nat → List α → List β → Int → Option (List β)) (z : α) (zb : β) (h : α → β) (l : List α) (hl : l.length ≤ 4611686018427387904)
    (hstep : ∀ (k : Nat) (x : List β) (i : Nat), i < l.length → i < x.length → g (k + 1) l x (i : Int) = g k l (x.set i (h (l.getD i z))) (wrap64 ((i : Int) + 1)))
    (hend : ∀ (k : Nat) (x : List β), g (k + 1) l x (l.length : Int) = some x) (k : Nat) (hk : l.length < k) : g k l (List.replicate l.length zb) 0 = some (l.map h) :=
  copy_from g z h l hl hstep hend l.length k 0 _ rfl (by simp) (by simp) hk

/-- A walk along a row that never leaves before the end. -/
theorem along {ρ : Type} (g : Nat → Int → Option ρ) (n : Nat) (hn : n ≤ 4611686018427387904) (r : ρ)
    (hstep : ∀ (k i : Nat), i < n → g (k + 1) (i : Int) = g k (wrap64 ((i : Int) + 1))) (hend : ∀ k : Nat, g (k + 1) (n : Int) = some r) :
    ∀ (d k i : Nat), d + i = n → d < k → g k (i : Int) = some r := by
  intro d
  induction d with
  | zero =>
    intro k i hd hk
    obtain ⟨k, rfl⟩ : ∃ m, k = m + 1 := ⟨k - 1, by omega⟩
    obtain rfl : i = n := by omega
    exact hend k
  | succ d ih =>
    intro k i hd hk
    obtain ⟨k, rfl⟩ : ∃ m, k = m + 1 := ⟨k - 1, by omega⟩
    rw [hstep k i (by omega), w1n i n (by omega) hn]
    exact ih k (i + 1) (by omega) (by omega)

theorem along_all {ρ : Type} (g : Nat → Int → Option ρ) (n : Nat) (hn : n ≤ 4611686018427387904) (r : ρ)
    (hstep : ∀ (k i : Nat), i < n → g (k + 1) (i : Int) = g k (wrap64 ((i : Int) + 1))) (hend : ∀ k : Nat, g (k + 1) (n : Int) = some r) (k : Nat) (hk : n < k) : g k 0 = some r :=
  along g n hn r hstep hend n k 0 (by omega) hk

/-- Element by element, each set to something of its number and of what it was. -/
theorem setting {β : Type} (g : Nat → List β → Int → Int → Option (Int × List β)) (z : β) (F : Int → β → β) (c : Int) (n : Nat) (hn : n ≤ 4611686018427387904)
    (hstep : ∀ (k : Nat) (x : List β) (m : Int) (i : Nat), x.length = n → i < n → 0 ≤ m → m ≤ 1000000000000 → g (k + 1) x m (i : Int) = g k (x.set i (F m (x.getD i z))) (m + c) (wrap64 ((i : Int) + 1)))
    (hend : ∀ (k : Nat) (x : List β) (m : Int), x.length = n → g (k + 1) x m (n : Int) = some (m, x)) (hc : 0 ≤ c) :
    ∀ (d k i : Nat) (x : List β) (m : Int), d + i = n → x.length = n → d < k → 0 ≤ m → m + c * d ≤ 1000000000000 →
      ∃ y, g k x m (i : Int) = some (m + c * d, y) ∧ y.length = n ∧ (∀ j, j < i → y.getD j z = x.getD j z) ∧ ∀ j, i ≤ j → j < n → y.getD j z = F (m + c * (j - i : Nat)) (x.getD j z) := by
  intro d
  induction d with
  | zero =>
    intro k i x m hd hx hk h0 h1
    obtain ⟨k, rfl⟩ : ∃ q, k = q + 1 := ⟨k - 1, by omega⟩
    obtain rfl : i = n := by omega
    exact ⟨x, by rw [hend k x m hx]; simp, hx, fun j _ => rfl, fun j h2 h3 => by omega⟩
  | succ d ih =>
    intro k i x m hd hx hk h0 h1
    obtain ⟨k, rfl⟩ : ∃ q, k = q + 1 := ⟨k - 1, by omega⟩
    have hcd : 0 ≤ c * (d : Int) := Int.mul_nonneg hc (by omega)
    have e1 : c * ((d + 1 : Nat) : Int) = c * (d : Int) + c := by rw [show ((d + 1 : Nat) : Int) = (d : Int) + 1 from rfl, Int.mul_add, Int.mul_one]
    rw [e1] at h1
    rw [hstep k x m i hx (by omega) h0 (by omega), w1n i n (by omega) hn]
    obtain ⟨y, h2, h3, h4, h5⟩ := ih k (i + 1) (x.set i (F m (x.getD i z))) (m + c) (by omega) (by simpa using hx) (by omega) (by omega) (by omega)
    refine ⟨y, by rw [h2, e1]; congr 2; omega, h3, fun j hj => ?_, fun j hj hjn => ?_⟩
    · rw [h4 j (by omega)]
      simp only [List.getD_eq_getElem?_getD, List.getElem?_set]
      rw [if_neg (by omega)]
    · by_cases e : j = i
      · subst e
        rw [h4 j (by omega)]
        simp only [List.getD_eq_getElem?_getD, List.getElem?_set]
        rw [if_pos trivial, if_pos (by omega)]
        simp
      · rw [h5 j (by omega) hjn]
        have e2 : m + c + c * ((j - (i + 1) : Nat) : Int) = m + c * ((j - i : Nat) : Int) := by
          have : ((j - i : Nat) : Int) = ((j - (i + 1) : Nat) : Int) + 1 := by omega
          rw [this, Int.mul_add, Int.mul_one]
          omega
        rw [e2]
        congr 1
        simp only [List.getD_eq_getElem?_getD, List.getElem?_set]
        rw [if_neg (by omega)]
/-- A walk that counts up as it goes. -/
theorem holding {ρ : Type} (g : Nat → Int → Int → Option ρ) (n : Nat) (hn : n ≤ 4611686018427387904) (m c : Int) (r : ρ)
    (hstep : ∀ (k i : Nat), i < n → g (k + 1) (m + c * i) (i : Int) = g k (m + c * ((i + 1 : Nat) : Int)) (wrap64 ((i : Int) + 1))) (hend : ∀ k : Nat, g (k + 1) (m + c * n) (n : Int) = some r) :
    ∀ (d k i : Nat), d + i = n → d < k → g k (m + c * i) (i : Int) = some r := by
  intro d
  induction d with
  | zero =>
    intro k i hd hk
    obtain ⟨k, rfl⟩ : ∃ q, k = q + 1 := ⟨k - 1, by omega⟩
    obtain rfl : i = n := by omega
    exact hend k
  | succ d ih =>
    intro k i hd hk
    obtain ⟨k, rfl⟩ : ∃ q, k = q + 1 := ⟨k - 1, by omega⟩
    rw [hstep k i (by omega), w1n i n (by omega) hn]
    exact ih k (i + 1) (by omega) (by omega)

theorem map_id_of {α : Type} (l : List α) (f : α → α) (h : ∀ x, f x = x) : l.map f = l := by
  induction l with
  | nil => rfl
  | cons a l ih => rw [List.map_cons, h, ih]
end Go.Proofs.Ytgcgdjldhjajaaa.Lst
/- The plain statement that is left of the law FnExactTimesOf, over numbers and lists. -/
namespace Go.Proofs.Ytgcgdjldhjajaaa.A
open Go.RowKit Go.Proofs.YtgcgdjldhjajaaaW.PrintWords Go.Proofs.YtgcgdjldhjajaaaW.PrintLast
def Pure_FnExactTimesOf : Prop := ∀ (l0 : List (S80)), (l0.length ≤ maxLen ∧ ∀ q1 ∈ l0, ((Lit.int .i64 q1.f0).wf = true ∧ ((Lit.int .i64 q1.f1).wf = true ∧ ((Lit.int .i64 q1.f2).wf = true ∧ ((Lit.int .i64 q1.f3).wf = true ∧ ((Lit.int .i64 q1.f4).wf = true ∧ (Lit.int .i64 q1.f5).wf = true)))))) → ∃ k, laws_FnExactTimesOf.f k l0 = some true
end Go.Proofs.Ytgcgdjldhjajaaa.A
/- What is right of records, as the reference tells it and as the program does. -/
namespace Go.Proofs.Ytgcgdjldhjajaaa.A
open Go.RowKit Go.Proofs.Ytgcgdjldhjajaaa Go.Proofs.YtgcgdjldhjajaaaW.PrintWords Go.Proofs.YtgcgdjldhjajaaaW.PrintLast Go.Proofs.YtgcgdjldhjajaaaW.PrintMore
set_option linter.unusedVariables false
set_option linter.unusedSimpArgs false
theorem s_is (n lo hi : Int) : spec_l02Is.f n lo hi = some (decide (lo ≤ n ∧ n ≤ hi)) := by
  unfold spec_l02Is.f; by_cases h : n ≥ lo
  · rw [if_pos h]; congr 1; simp; omega
  · rw [if_neg h]; congr 1; simp; omega
theorem s_time (n : Int) : spec_l03Time.f n = some (timeB n) := by
  unfold spec_l03Time.f; rw [s_is]; rfl
theorem s_node (n : Int) : spec_l04Node.f n = some (nodeB n) := by
  unfold spec_l04Node.f; rw [s_is]; rfl
theorem s_recRight (a b c d e f : Int) : spec_RecRight.f a b c d e f = some (recB a b c d e f) := by
  unfold spec_RecRight.f recB
  simp only [s_node, s_time, s_is, Option.bind_some]
  cases timeB a
  · rfl
  cases nodeB b
  · rfl
  simp only [if_true, Bool.true_and]
  by_cases h1 : c = 1
  · rw [if_pos h1, if_pos h1]
    cases timeB d <;> by_cases h2 : e = 0 <;> simp [h2]
  rw [if_neg h1, if_neg h1]
  by_cases h2 : c = 2
  · rw [if_pos h2, if_pos h2]
    by_cases h3 : d = 0 <;> by_cases h4 : e = 0 <;> simp [h3, h4]
  rw [if_neg h2, if_neg h2]
  by_cases h3 : c = 3
  · rw [if_pos h3, if_pos h3]
    cases timeB d <;> cases nodeB e <;> simp
  rw [if_neg h3, if_neg h3]
  by_cases h4 : c = 4
  · rw [if_pos h4, if_pos h4]
    cases timeB d <;> cases nodeB e <;> simp
  rw [if_neg h4, if_neg h4]
  by_cases h5 : c = 5
  · rw [if_pos h5, if_pos h5]
    unfold factB
    cases nodeB d <;> cases timeB e <;> simp
  rw [if_neg h5, if_neg h5]
  by_cases h6 : c = 6
  · rw [if_pos h6, if_pos h6]
    cases nodeB d <;> by_cases h7 : e = 0 <;> simp [h7]
  rw [if_neg h6, if_neg h6]
/-- Records that are right, and not too many. -/
def okRecs (l : List S78) : Bool := decide (l.length ≤ 400) && l.all recOk
theorem i_recs (l : List S78) : impl_areRecs.f l = some (okRecs l) := rfl
theorem s_recs (l : List S78) (k : Nat) (hk : l.length < k) : spec_l12Recs.f k l = some (okRecs l) := by
  unfold spec_l12Recs.f okRecs
  by_cases h : l.length ≤ 400
  · rw [if_neg (by omega)]
    have key : ∀ (d k i : Nat), d + i = l.length → d < k → spec_l12Recs.l0 k l (i : Int) = some ((l.drop i).all recOk) := by
      intro d
      induction d with
      | zero =>
        intro k i hd hk
        obtain ⟨k, rfl⟩ : ∃ m, k = m + 1 := ⟨k - 1, by omega⟩
        simp only [spec_l12Recs.l0]
        rw [if_neg (by omega), List.drop_of_length_le (by omega)]
        rfl
      | succ d ih =>
        intro k i hd hk
        obtain ⟨k, rfl⟩ : ∃ m, k = m + 1 := ⟨k - 1, by omega⟩
        have hi : i < l.length := by omega
        simp only [spec_l12Recs.l0]
        rw [if_pos (by omega), if_pos (by omega), rd_nat_Rec l i hi, s_recRight]
        simp only [Option.bind_some]
        rw [List.drop_eq_getElem_cons hi, List.all_cons]
        show (if recOk l[i] = true then _ else _) = _
        cases hq : recOk l[i]
        · rfl
        · rw [if_pos rfl, Lst.w1n i l.length hi (by omega), ih k (i + 1) (by omega) (by omega)]
          rfl
    have := key l.length k 0 (by omega) hk
    rw [show ((0 : Nat) : Int) = 0 from rfl] at this
    rw [this]
    simp [h]
  · rw [if_pos (by omega)]
    simp [h]
end Go.Proofs.Ytgcgdjldhjajaaa.A
/- Copies of records, their comparison and their size. -/
namespace Go.Proofs.Ytgcgdjldhjajaaa.A
open Go.RowKit Go.Proofs.Ytgcgdjldhjajaaa Go.Proofs.YtgcgdjldhjajaaaW.PrintWords Go.Proofs.YtgcgdjldhjajaaaW.PrintLast Go.Proofs.YtgcgdjldhjajaaaW.PrintMore
set_option linter.unusedVariables false
set_option linter.unusedSimpArgs false
def cvR (x : S80) : S78 := ⟨x.f0, x.f1, x.f2, x.f3, x.f4, x.f5⟩
theorem toR (l : List S80) (hl : l.length ≤ 1048576) (k : Nat) (hk : l.length < k) : laws_toRecS.f k l = some (l.map cvR) := by
  unfold laws_toRecS.f
  rw [if_pos (by omega), if_pos (by omega)]
  refine Lst.copy_all laws_toRecS.l0 z80 z78 cvR l (by omega) ?_ ?_ k hk
  · intro k x i h1 h2
    simp only [laws_toRecS.l0]
    rw [if_pos (by omega), if_pos (by omega)]
    simp only [laws_toRec.f, Option.bind_some]
    rw [if_pos (by omega)]
    rfl
  · intro k x
    simp only [laws_toRecS.l0]
    rw [if_neg (by omega)]
theorem eqR (l : List S78) (hl : l.length ≤ 1048576) (k : Nat) (hk : l.length < k) : laws_eqRecS.f k l l = some true := by
  unfold laws_eqRecS.f
  rw [if_pos rfl]
  refine Lst.along_all (fun k i => laws_eqRecS.l0 k l l i) l.length (by omega) true ?_ ?_ k hk
  · intro k i h1
    simp only [laws_eqRecS.l0]
    rw [if_pos (by omega), if_pos (by omega), if_pos (by omega)]
    simp [laws_eqRec.f]
  · intro k
    simp only [laws_eqRecS.l0]
    rw [if_neg (by omega)]
theorem szR (l : List S80) (hl : l.length ≤ maxLen) : laws_szRecS.f l 1048576 = some (if l.length ≤ 1048576 then 1048576 - (l.length : Int) else -1) := by
  unfold laws_szRecS.f
  unfold maxLen at hl
  have e' : wrap64 (1048576 - (l.length : Int)) = 1048576 - (l.length : Int) := by unfold wrap64; omega
  rw [e']
  by_cases h : l.length ≤ 1048576
  · rw [if_neg (by omega), if_pos h]
  · rw [if_pos (by omega), if_neg h]
end Go.Proofs.Ytgcgdjldhjajaaa.A
/- What the law's marks come to. -/
namespace Go.Proofs.Ytgcgdjldhjajaaa.A
open Go.RowKit Go.Proofs.Ytgcgdjldhjajaaa Go.Proofs.YtgcgdjldhjajaaaW.PrintWords Go.Proofs.YtgcgdjldhjajaaaW.PrintLast Go.Proofs.YtgcgdjldhjajaaaW.PrintMore
set_option linter.unusedVariables false
set_option linter.unusedSimpArgs false
theorem eqI (l : List Int) (hl : l.length ≤ 1048576) (k : Nat) (hk : l.length < k) : laws_eqInt64S.f k l l = some true := by
  unfold laws_eqInt64S.f
  rw [if_pos rfl]
  refine Lst.along_all (fun k i => laws_eqInt64S.l0 k l l i) l.length (by omega) true ?_ ?_ k hk
  · intro k i h1
    simp only [laws_eqInt64S.l0]
    rw [if_pos (by omega), if_pos (by omega), if_pos (by omega), if_true]
  · intro k
    simp only [laws_eqInt64S.l0]
    rw [if_neg (by omega)]
theorem rd_getD (l : List Int) (i : Nat) : rd l (i : Int) = l.getD i 0 := rfl
/-- What is marked is held. -/
theorem markI (l : List Int) (hl : l.length ≤ 1048576) (k : Nat) (hk : l.length < k) : ∃ y : List Int, laws_markInt64S.f k l 1 = some (1 + (l.length : Int), y) ∧ ∀ k, l.length < k → laws_heldInt64S.f k y 1 = some (1 + (l.length : Int)) := by
  obtain ⟨y, h1, h2, _, h4⟩ := Lst.setting laws_markInt64S.l0 0 (fun m _ => m) 1 l.length (by omega) (by
      intro k x m i hx hi h0 h1
      simp only [laws_markInt64S.l0]
      rw [if_pos (by omega), if_pos (by omega), Lst.wr (m + 1) (by omega) (by omega)]
      rfl) (by
      intro k x m hx
      simp only [laws_markInt64S.l0]
      rw [if_neg (by omega)]) (by omega) l.length k 0 l 1 (by omega) rfl hk (by omega) (by omega)
  refine ⟨y, ?_, fun k hk => ?_⟩
  · unfold laws_markInt64S.f
    rw [show (0 : Int) = ((0 : Nat) : Int) from rfl, h1, Int.one_mul]
  · unfold laws_heldInt64S.f
    have := Lst.holding (fun k m i => laws_heldInt64S.l0 k y m i) l.length (by omega) 1 1 (1 + (l.length : Int)) (by
      intro k i hi
      simp only [laws_heldInt64S.l0]
      rw [if_pos (by omega), if_pos (by omega), rd_getD, h4 i (by omega) hi]
      simp only [Nat.sub_zero, if_true]
      rw [Lst.wr _ (by omega) (by omega)]
      congr 1) (by
      intro k
      simp only [laws_heldInt64S.l0]
      rw [if_neg (by omega), Int.one_mul]) l.length k 0 (by omega) hk
    simpa using this
theorem markR (l : List S78) (hl : l.length ≤ 1048576) (k : Nat) (hk : l.length < k) : ∃ y : List S78, laws_markRecS.f k l 1 = some (1 + 6 * (l.length : Int), y) := by
  obtain ⟨y, h1, _⟩ := Lst.setting laws_markRecS.l0 z78 (fun m _ => ⟨m, m + 1, m + 2, m + 3, m + 4, m + 5⟩) 6 l.length (by omega) (by
      intro k x m i hx hi h0 h1
      have w : ∀ j : Int, 0 ≤ j → j ≤ 10 → wrap64 (m + j + 1) = m + (j + 1) := fun j _ _ => by unfold wrap64; omega
      have w1 : wrap64 (m + 1) = m + 1 := by unfold wrap64; omega
      have w2 : wrap64 (m + 1 + 1) = m + 2 := by unfold wrap64; omega
      have w3 : wrap64 (m + 2 + 1) = m + 3 := by unfold wrap64; omega
      have w4 : wrap64 (m + 3 + 1) = m + 4 := by unfold wrap64; omega
      have w5 : wrap64 (m + 4 + 1) = m + 5 := by unfold wrap64; omega
      have w6 : wrap64 (m + 5 + 1) = m + 6 := by unfold wrap64; omega
      have g : ∀ (x : List S78) (v : S78), i < x.length → rd_T78 (x.set i v) (i : Int) = v := fun x v hx => by
        rw [rd_nat_Rec _ i (by simpa using hx)]
        simp
      simp only [laws_markRecS.l0]
      rw [if_pos (by omega), if_pos (by omega)]
      simp only [Option.bind_some, Int.toNat_natCast, w1, w2, w3, w4, w5, w6]
      rw [g x _ (by omega)]
      simp only [List.set_set]
      rw [g x _ (by omega)]
      simp only [List.set_set]
      rw [g x _ (by omega)]
      simp only [List.set_set]
      rw [g x _ (by omega)]
      simp only [List.set_set]
      try rw [g x _ (by omega)]
      try simp only [List.set_set]) (by
      intro k x m hx
      simp only [laws_markRecS.l0]
      rw [if_neg (by omega)]) (by omega) l.length k 0 l 1 (by omega) rfl hk (by omega) (by omega)
  exact ⟨y, by unfold laws_markRecS.f; rw [show (0 : Int) = ((0 : Nat) : Int) from rfl, h1]⟩
end Go.Proofs.Ytgcgdjldhjajaaa.A
/- TimesOf of the program and of the reference are the same times. -/
namespace Go.Proofs.Ytgcgdjldhjajaaa.A
open Go.RowKit Go.Proofs.Ytgcgdjldhjajaaa Go.Proofs.YtgcgdjldhjajaaaW.PrintWords Go.Proofs.YtgcgdjldhjajaaaW.PrintLast Go.Proofs.YtgcgdjldhjajaaaW.PrintMore
set_option linter.unusedVariables false
set_option linter.unusedSimpArgs false
def timesR (l : List S78) : T6 := if okRecs l = true then timesP l (0, 0, 0, 0, 0, List.replicate 8 0) else (0, 0, 0, 0, 0, [])
theorem step_len (s : S78) (r : List S78) (t : T6) : (stepT s r t).2.2.2.2.2.length = t.2.2.2.2.2.length := by
  unfold stepT
  split
  · split
    · simp [addT]
    · rfl
  · rfl
theorem times_len : ∀ (l : List S78) (t : T6), (timesP l t).2.2.2.2.2.length = t.2.2.2.2.2.length := by
  intro l
  induction l with
  | nil => intro t; rfl
  | cons s r ih => intro t; rw [timesP, ih, step_len]
theorem timesR_len (l : List S78) : (timesR l).2.2.2.2.2.length ≤ 8 := by
  unfold timesR
  split
  · rw [times_len]; simp
  · simp
theorem ok_400 (l : List S78) (h : okRecs l = true) : l.length ≤ 400 := by
  unfold okRecs at h
  rw [Bool.and_eq_true] at h
  exact of_decide_eq_true h.1
theorem times_impl (l : List S78) : impl_TimesOf.f l = some (timesR l) := by
  unfold impl_TimesOf.f timesR
  rw [i_recs, Option.bind_some]
  by_cases h : okRecs l = true
  · rw [if_pos h, if_pos h, if_pos (ok_400 l h)]
  · rw [if_neg h, if_neg h]
theorem times_spec (l : List S78) : spec_TimesOf.f l = some (timesR l) := by
  unfold spec_TimesOf.f timesR
  rw [s_recs l _ (by omega), Option.bind_some]
  by_cases h : okRecs l = true
  · rw [if_pos h, if_pos h, if_pos (ok_400 l h)]
  · rw [if_neg h, if_neg h]
theorem pure_TimesOf : Pure_FnExactTimesOf := by
  intro l h
  by_cases hb : l.length ≤ 1048576
  · obtain ⟨K, hK⟩ : ∃ K : Nat, 3 * l.length + 2000 ≤ K := ⟨_, Nat.le_refl _⟩
    refine ⟨K + 1, ?_⟩
    unfold laws_FnExactTimesOf.f
    rw [szR l h.1]
    simp only [Option.bind_some, hb, if_true]
    rw [if_neg (by omega), toR l hb _ (by omega)]
    have hm : (l.map cvR).length = l.length := by simp
    have ht : ∀ k, l.length < k → laws_toRecS.f k l = some (l.map cvR) := fun k hk => toR l hb k hk
    generalize l.map cvR = m at hm ht
    have e1 := times_spec m
    have e2 := times_impl m
    have hl := timesR_len m
    generalize timesR m = T at e1 e2 hl
    obtain ⟨a, b, c, d, e, cs⟩ := T
    dsimp only at hl
    have eqT : ∀ k, 8 < k → laws_eqTimes.f k a b c d e cs a b c d e cs = some true := fun k hk => by
      unfold laws_eqTimes.f
      rw [if_pos rfl, if_pos rfl, if_pos rfl, if_pos rfl, if_pos rfl, eqI cs (by omega) k (by omega), Option.bind_some, if_pos rfl]
    obtain ⟨y, hy⟩ := markR m (by omega) (K + 1) (by omega)
    obtain ⟨z, hz, hz2⟩ := markI cs (by omega) K (by omega)
    have em : laws_markTimes.f K a b c d e cs 1 = some (1 + (cs.length : Int), z) := by
      unfold laws_markTimes.f
      rw [hz, Option.bind_some]
    have eh : laws_heldTimes.f K a b c d e z 1 = some (1 + (cs.length : Int)) := by
      unfold laws_heldTimes.f
      rw [hz2 K (by omega), Option.bind_some, if_neg (by omega)]
    simp only [Option.bind_some]
    rw [e1]
    simp only [Option.bind_some]
    rw [e2]
    simp only [Option.bind_some]
    rw [eqT _ (by omega)]
    simp only [Option.bind_some, if_true]
    rw [eqR m (by omega) _ (by omega)]
    simp only [Option.bind_some, if_true]
    rw [hy]
    simp only [Option.bind_some]
    rw [if_neg (by omega)]
    simp only [laws_FnExactTimesOf.j0]
    rw [em]
    simp only [Option.bind_some, Bool.not_true, if_false, Bool.false_eq_true]
    rw [eh]
    simp only [Option.bind_some, if_true]
    rw [if_neg (by omega), ht _ (by omega)]
    simp only [Option.bind_some]
    rw [e2]
    simp only [Option.bind_some]
    rw [eqT _ (by omega)]
    simp only [Option.bind_some, if_true]
    rw [if_neg (by omega)]
  · refine ⟨1, ?_⟩
    unfold laws_FnExactTimesOf.f
    rw [szR l h.1]
    simp [hb]
end Go.Proofs.Ytgcgdjldhjajaaa.A
namespace Go.Proofs.Ytgcgdjldhjajaaa.Pure
theorem FnExactTimesOf : A.Pure_FnExactTimesOf := A.pure_TimesOf
end Go.Proofs.Ytgcgdjldhjajaaa.Pure
