-- Merged by bundle.py out of 6 printed and hand-written texts of this claim.
import Derived.Test.YtgcgdjldhjajaaaZFnExactFirstOfa
import Derived.Test.YtgcgdjldhjajaaaZFnExactFirstOfb
import Derived.RowKit
namespace Go.Proofs.Ytgcgdjldhjajaaa.A
open Go.RowKit Go.Proofs.YtgcgdjldhjajaaaW.PrintWords Go.Proofs.YtgcgdjldhjajaaaW.PrintLast Go.Proofs.YtgcgdjldhjajaaaW.PrintMore
attribute [local go_sem] max2_int min2_int max_two min_two max_three min_three max_four min_four   -- for this text's walks alone
set_option linter.unusedVariables false
set_option linter.unusedSimpArgs false

/-! ### laws_FnExactFirstOf: function 3 -/
def laws_FnExactFirstOf.f (k : Nat) (l0 : List (S80)) (a1_0 : Int) (a1_1 : Int) (a1_2 : Int) : Option (Bool) := (laws_szRecS.f l0 1048576).bind fun t349 => (if t349 < 0 then (some true) else ((laws_toRecS.f k l0).bind fun t350 => ((laws_toFact.f a1_0 a1_1 a1_2).bind fun bt353 => ((spec_FirstOf.f k t350 bt353.1 bt353.2.1 bt353.2.2).bind fun t356 => ((laws_toRecS.f k l0).bind fun t357 => ((laws_toFact.f a1_0 a1_1 a1_2).bind fun bt360 => ((impl_FirstOf.f t357 bt360.1 bt360.2.1 bt360.2.2).bind fun t363 => (if t363 = t356 then ((laws_toRecS.f k l0).bind fun t364 => ((laws_eqRecS.f k t357 t364).bind fun t367 => (if t367 = true then (some true) else (some false)))) else (some false)))))))))
theorem laws_FnExactFirstOf.mono : ∀ a0 a1 a2 a3 k, LeO (laws_FnExactFirstOf.f k a0 a1 a2 a3) (laws_FnExactFirstOf.f (k + 1) a0 a1 a2 a3) := by
  intro a0 a1 a2 a3 k
  unfold laws_FnExactFirstOf.f
  repeat' first
      | (with_reducible exact laws_eqRecS.mono _ _ _)
      | (with_reducible exact laws_toRecS.mono _ _)
      | (with_reducible exact spec_FirstOf.mono _ _ _ _ _)
      | (with_reducible exact LeO.refl _)
      | (with_reducible exact LeO.none _)
      | (with_reducible refine LeO.ite ?_ ?_)
      | (with_reducible refine LeO.bind ?_ (fun _ => ?_))
      | exact laws_eqRecS.mono _ _ _
      | exact laws_toRecS.mono _ _
      | exact spec_FirstOf.mono _ _ _ _ _
      | exact LeO.none _
      | refine LeO.ite ?_ ?_
      | refine LeO.bind ?_ (fun _ => ?_)
set_option maxHeartbeats 8000000 in
set_option maxRecDepth 100000 in
theorem laws_FnExactFirstOf.calls (k : Nat) (A0 : Option Addr) (c0 : Nat) (l0 : List (S80)) (a1_0 : Int) (a1_1 : Int) (a1_2 : Int) (r : Bool) (w : World) (hr0 : Kd.C k80 w A0 l0.length l0) (hc0 : l0.length ≤ c0) (ht : r = true) (h : laws_FnExactFirstOf.f k l0 a1_0 a1_1 a1_2 = some r) :
    Calls Try.prog 3 #[.slice A0 l0.length c0, .agg #[.int .i64 a1_0, .int .i64 a1_1, .int .i64 a1_2]] w fun e w' => e = .returned (.bool r) ∧ Below w.heap.size w w' := by
  have hu24 := Try.underlying24
  have HR0 := Aside0.mk hr0
  have HC0 := Aside0.mk hc0
  clear hr0 hc0
  have HB := Aside0.mk (Below.refl w.heap.size w)
  have H : ((laws_szRecS.f l0 1048576).bind fun t349 => (if t349 < 0 then (some true) else ((laws_toRecS.f k l0).bind fun t350 => ((laws_toFact.f a1_0 a1_1 a1_2).bind fun bt353 => ((spec_FirstOf.f k t350 bt353.1 bt353.2.1 bt353.2.2).bind fun t356 => ((laws_toRecS.f k l0).bind fun t357 => ((laws_toFact.f a1_0 a1_1 a1_2).bind fun bt360 => ((impl_FirstOf.f t357 bt360.1 bt360.2.1 bt360.2.2).bind fun t363 => (if t363 = t356 then ((laws_toRecS.f k l0).bind fun t364 => ((laws_eqRecS.f k t357 t364).bind fun t367 => (if t367 = true then (some true) else (some false)))) else (some false)))))))))) = some r := h
  clear h
  replace H := Option.bind_eq_some_iff.mp H
  obtain ⟨t349, A30, H⟩ := H
  replace H : (if t349 < 0 then (some true) else ((laws_toRecS.f k l0).bind fun t350 => ((laws_toFact.f a1_0 a1_1 a1_2).bind fun bt353 => ((spec_FirstOf.f k t350 bt353.1 bt353.2.1 bt353.2.2).bind fun t356 => ((laws_toRecS.f k l0).bind fun t357 => ((laws_toFact.f a1_0 a1_1 a1_2).bind fun bt360 => ((impl_FirstOf.f t357 bt360.1 bt360.2.1 bt360.2.2).bind fun t363 => (if t363 = t356 then ((laws_toRecS.f k l0).bind fun t364 => ((laws_eqRecS.f k t357 t364).bind fun t367 => (if t367 = true then (some true) else (some false)))) else (some false))))))))) = some r := H
  have A3 := Aside0.mk A30
  clear A30
  by_cases c4 : t349 < 0
  · rw [if_pos c4] at H
    have c4b0 : decide (t349 < 0) = true := decide_eq_true c4
    clear c4
    clear ht
    obtain rfl := Option.some.inj H
    go_enter Try.func3, Try.ntmps3
    go_wp2_with (first | ((with_reducible refine gate_dst (N := 3) rfl ?_); refine box_event ?hg (N := 3) ?hd (cs := #[.int .i64 a1_0, .int .i64 a1_1, .int .i64 a1_2]) (t := 24) ?hr ?_; (case hd => rfl); (case hg => rfl); (case hr => first | (go_simp; done) | (go_simp; rfl)); intro gb348 hg w5 hbox hb; have n0_ := Aside0.mk (below_step (by repeat (first | (with_reducible first | exact HB.out | apply below_alloc | apply pw_below_drewN | apply below_drew1) | exact HB.out)) hb); have n1_ := Aside0.mk (hbox); have n2_ := Aside0.mk ((by rw [hg]; exact (below_size (by repeat (first | (with_reducible first | exact HB.out | apply below_alloc | apply pw_below_drewN | apply below_drew1) | exact HB.out))) : w.heap.size ≤ gb348)); have n3_ := Aside0.mk ((by rw [hg]; exact (below_size (by repeat (first | (with_reducible first | exact HB.out | apply below_alloc | apply pw_below_drewN | apply below_drew1) | exact HB.out))) : w.heap.size ≤ gb348)); clear HB; have HB := n0_; have BK348 := n1_; have GW348 := n2_; have GE348 := n3_; clear n0_ n1_ n2_ n3_; clear hb hbox hg) | ((with_reducible refine gate_callee (f := 15) rfl ?_); refine goesL_ (some 11) rfl rfl Try.func15 (by kernel_rfl) rfl #[.slice A0 l0.length c0, .int .i64 1048576] rfl (by (try simp only [List.map_toArray, List.map_cons, List.map_nil]); first | done | rfl | (simp only [List.length_drop, List.length_take]; rfl)) ?_; (with_reducible refine (laws_szRecS.calls _ _ l0 1048576 t349 _ ?side1 ?side2 A3.out).mono ?_); (case side1 => repeat (first | exact (Kd.C_below HR0.out HB.out) | (with_reducible refine Kd.C_alloc ?_ _) | (with_reducible refine Kd.C_drewN ?_ _) | (with_reducible refine Kd.C_drew ?_))); (case side2 => exact HC0.out); rintro e w' ⟨rfl, ⟨nd, rfl⟩⟩; refine ⟨_, rfl, ?_⟩))
    go_ret
    exact ⟨by first | rfl | (simp [errW_none, errW_some] <;> rfl) | (simp [*, errW_none, errW_some] <;> rfl), by repeat (first | (with_reducible first | exact HB.out | apply below_alloc | apply pw_below_drewN | apply below_drew1 | refine below_set ?_ GE348.out) | exact HB.out)⟩
  · rw [if_neg c4] at H
    have c4b0 : decide (t349 < 0) = false := decide_eq_false c4
    clear c4
    replace H := Option.bind_eq_some_iff.mp H
    obtain ⟨t350, A60, H⟩ := H
    replace H : ((laws_toFact.f a1_0 a1_1 a1_2).bind fun bt353 => ((spec_FirstOf.f k t350 bt353.1 bt353.2.1 bt353.2.2).bind fun t356 => ((laws_toRecS.f k l0).bind fun t357 => ((laws_toFact.f a1_0 a1_1 a1_2).bind fun bt360 => ((impl_FirstOf.f t357 bt360.1 bt360.2.1 bt360.2.2).bind fun t363 => (if t363 = t356 then ((laws_toRecS.f k l0).bind fun t364 => ((laws_eqRecS.f k t357 t364).bind fun t367 => (if t367 = true then (some true) else (some false)))) else (some false))))))) = some r := H
    have A6 := Aside0.mk A60
    clear A60
    replace H := Option.bind_eq_some_iff.mp H
    obtain ⟨⟨t353, t354, t355⟩, A70, H⟩ := H
    replace H : ((spec_FirstOf.f k t350 t353 t354 t355).bind fun t356 => ((laws_toRecS.f k l0).bind fun t357 => ((laws_toFact.f a1_0 a1_1 a1_2).bind fun bt360 => ((impl_FirstOf.f t357 bt360.1 bt360.2.1 bt360.2.2).bind fun t363 => (if t363 = t356 then ((laws_toRecS.f k l0).bind fun t364 => ((laws_eqRecS.f k t357 t364).bind fun t367 => (if t367 = true then (some true) else (some false)))) else (some false)))))) = some r := H
    have A7 := Aside0.mk A70
    clear A70
    replace H := Option.bind_eq_some_iff.mp H
    obtain ⟨t356, A80, H⟩ := H
    replace H : ((laws_toRecS.f k l0).bind fun t357 => ((laws_toFact.f a1_0 a1_1 a1_2).bind fun bt360 => ((impl_FirstOf.f t357 bt360.1 bt360.2.1 bt360.2.2).bind fun t363 => (if t363 = t356 then ((laws_toRecS.f k l0).bind fun t364 => ((laws_eqRecS.f k t357 t364).bind fun t367 => (if t367 = true then (some true) else (some false)))) else (some false))))) = some r := H
    have A8 := Aside0.mk A80
    clear A80
    replace H := Option.bind_eq_some_iff.mp H
    obtain ⟨t357, A90, H⟩ := H
    replace H : ((laws_toFact.f a1_0 a1_1 a1_2).bind fun bt360 => ((impl_FirstOf.f t357 bt360.1 bt360.2.1 bt360.2.2).bind fun t363 => (if t363 = t356 then ((laws_toRecS.f k l0).bind fun t364 => ((laws_eqRecS.f k t357 t364).bind fun t367 => (if t367 = true then (some true) else (some false)))) else (some false)))) = some r := H
    have A9 := Aside0.mk A90
    clear A90
    replace H := Option.bind_eq_some_iff.mp H
    obtain ⟨⟨t360, t361, t362⟩, A100, H⟩ := H
    replace H : ((impl_FirstOf.f t357 t360 t361 t362).bind fun t363 => (if t363 = t356 then ((laws_toRecS.f k l0).bind fun t364 => ((laws_eqRecS.f k t357 t364).bind fun t367 => (if t367 = true then (some true) else (some false)))) else (some false))) = some r := H
    have A10 := Aside0.mk A100
    clear A100
    replace H := Option.bind_eq_some_iff.mp H
    obtain ⟨t363, A110, H⟩ := H
    replace H : (if t363 = t356 then ((laws_toRecS.f k l0).bind fun t364 => ((laws_eqRecS.f k t357 t364).bind fun t367 => (if t367 = true then (some true) else (some false)))) else (some false)) = some r := H
    have A11 := Aside0.mk A110
    clear A110
    by_cases c12 : t363 = t356
    · rw [if_pos c12] at H
      have c12b0 : (t363 == t356) = true := beq_iff_eq.mpr c12
      have c12b1 : (t363 != t356) = false := bne_eq_false_iff_eq.mpr c12
      clear c12
      replace H := Option.bind_eq_some_iff.mp H
      obtain ⟨t364, A130, H⟩ := H
      replace H : ((laws_eqRecS.f k t357 t364).bind fun t367 => (if t367 = true then (some true) else (some false))) = some r := H
      have A13 := Aside0.mk A130
      clear A130
      replace H := Option.bind_eq_some_iff.mp H
      obtain ⟨t367, A140, H⟩ := H
      replace H : (if t367 = true then (some true) else (some false)) = some r := H
      have A14 := Aside0.mk A140
      clear A140
      by_cases c15 : t367 = true
      · subst c15
        have H1 : (some true) = some r := by rw [if_pos rfl] at H; exact H
        clear H
        have H := H1
        clear H1
        clear ht
        obtain rfl := Option.some.inj H
        go_enter Try.func3, Try.ntmps3
        try go_wp2_with (first | ((with_reducible refine gate_dst (N := 3) rfl ?_); refine box_event ?hg (N := 3) ?hd (cs := #[.int .i64 a1_0, .int .i64 a1_1, .int .i64 a1_2]) (t := 24) ?hr ?_; (case hd => rfl); (case hg => rfl); (case hr => first | (go_simp; done) | (go_simp; rfl)); intro gb348 hg w16 hbox hb; have n0_ := Aside0.mk (below_step (by repeat (first | (with_reducible first | exact HB.out | apply below_alloc | apply pw_below_drewN | apply below_drew1) | exact HB.out)) hb); have n1_ := Aside0.mk (hbox); have n2_ := Aside0.mk ((by rw [hg]; exact (below_size (by repeat (first | (with_reducible first | exact HB.out | apply below_alloc | apply pw_below_drewN | apply below_drew1) | exact HB.out))) : w.heap.size ≤ gb348)); have n3_ := Aside0.mk ((by rw [hg]; exact (below_size (by repeat (first | (with_reducible first | exact HB.out | apply below_alloc | apply pw_below_drewN | apply below_drew1) | exact HB.out))) : w.heap.size ≤ gb348)); clear HB; have HB := n0_; have BK348 := n1_; have GW348 := n2_; have GE348 := n3_; clear n0_ n1_ n2_ n3_; clear hb hbox hg) | ((with_reducible refine gate_callee (f := 15) rfl ?_); refine goesL_ (some 11) rfl rfl Try.func15 (by kernel_rfl) rfl #[.slice A0 l0.length c0, .int .i64 1048576] rfl (by (try simp only [List.map_toArray, List.map_cons, List.map_nil]); first | done | rfl | (simp only [List.length_drop, List.length_take]; rfl)) ?_; (with_reducible refine (laws_szRecS.calls _ _ l0 1048576 t349 _ ?side1 ?side2 A3.out).mono ?_); (case side1 => repeat (first | exact (Kd.C_below HR0.out HB.out) | (with_reducible refine Kd.C_alloc ?_ _) | (with_reducible refine Kd.C_drewN ?_ _) | (with_reducible refine Kd.C_drew ?_))); (case side2 => exact HC0.out); rintro e w' ⟨rfl, ⟨nd, rfl⟩⟩; refine ⟨_, rfl, ?_⟩))
        (try (rw [drewN_self w16]; generalize hq_ : World.drewN w16 _ = w16; have n0_ : Aside0 (w16.heap[gb348]? = some (.cells #[.int .i64 a1_0, .int .i64 a1_1, .int .i64 a1_2] 24 (0, 0))) := ⟨by rw [← hq_]; exact (by (with_reducible repeat (first | refine blk_drewN ?_ _ | refine blk_drew ?_ | refine blk_alloc ?_ _)); exact BK348.out)⟩; have n1_ : Aside0 (Below w.heap.size w w16) := ⟨by rw [← hq_]; exact (by repeat (first | (with_reducible first | exact HB.out | apply below_alloc | apply pw_below_drewN | apply below_drew1 | refine below_set ?_ GE348.out) | exact HB.out))⟩; clear BK348 HB hq_; have BK348 := n0_; have HB := n1_; clear n0_ n1_))
        have n0_ := Aside0.mk (blk_drew BK348.out)
        have n1_ := Aside0.mk (below_drew1 HB.out)
        clear BK348
        clear HB
        have BK348 := n0_
        have HB := n1_
        clear n0_ n1_
        refine start_ (n := 6) (S := fun w' => w'.cell? ⟨gb348, 0, none⟩ = some (.int .i64 a1_0) ∧ w'.cell? ⟨gb348, 1, none⟩ = some (.int .i64 a1_1) ∧ w'.cell? ⟨gb348, 2, none⟩ = some (.int .i64 a1_2)) (ds := []) (tf 0 6) (by kernel_rfl) rfl rfl ⟨(blk_cell BK348.out 0).trans rfl, (blk_cell BK348.out 1).trans rfl, (blk_cell BK348.out 2).trans rfl⟩ (fun hHeld => ?_)
        generalize w16.drew = w17 at BK348 HB hHeld ⊢
        refine pure_ (i := 0) (N := some 14) (v := ?_) (a' := ?_) (tf 1 5) rfl rfl (by kernel_rfl) (fun _ _ _ h => h) (Or.inl ⟨by rfl, ?_⟩) ?_ ?_
        rotate_left; (focus intro w'; go_simp; with_reducible rfl)
        rotate_left; (focus simp only [Act.put, List.setIfInBounds_toArray, List.set_cons_zero, List.set_cons_succ, i64_w, i32_w]; rfl)
        refine take_ (i := 2) (N := some 16) (v := ?_) (a' := ?_) #[true, false, true, false, false, false] rfl rfl (by kernel_rfl) (fun _ _ _ h => h) (Or.inl ⟨by rfl, ?_⟩) hHeld ?_ ?_
        rotate_left
        · rintro w' ⟨s0, s1, s2⟩
          go_simp
          with_reducible rfl
        rotate_left; (focus simp only [Act.put, List.setIfInBounds_toArray, List.set_cons_zero, List.set_cons_succ, i64_w, i32_w]; rfl)
        refine one_ (i := 1) (N := some 15) (tf 3 3) rfl rfl (by kernel_rfl) (by decide) (fun K hK => ?_)
        refine goes_ Try.func17 (by kernel_rfl) rfl #[.slice A0 l0.length c0] (by rfl) rfl rfl (by (try simp only [List.map_toArray, List.map_cons, List.map_nil]); first | done | rfl | (simp only [List.length_drop, List.length_take]; rfl)) ?_
        with_reducible refine (laws_toRecS.calls k _ _ l0 t350 _ ?side1 ?side2 A6.out).mono ?_
        (case side1 => repeat (first | exact (Kd.C_below HR0.out HB.out) | (with_reducible refine Kd.C_alloc ?_ _) | (with_reducible refine Kd.C_drewN ?_ _) | (with_reducible refine Kd.C_drew ?_)))
        (case side2 => exact HC0.out)
        rintro e w18 ⟨v351, rfl, ho0, hb⟩
        refine ⟨_, rfl, ?_⟩
        have n0_ := Aside0.mk (Kd.R_lower ho0 (below_size (by repeat (first | (with_reducible first | exact HB.out | apply below_alloc | apply pw_below_drewN | apply below_drew1 | refine below_set ?_ GE348.out) | exact HB.out))))
        have n1_ := Aside0.mk (blk_below (g := gb348) (o := .cells #[.int .i64 a1_0, .int .i64 a1_1, .int .i64 a1_2] 24 (0, 0)) (by (with_reducible repeat (first | refine blk_drewN ?_ _ | refine blk_drew ?_ | refine blk_alloc ?_ _)); exact BK348.out) hb)
        have n2_ := Aside0.mk (below_step (by repeat (first | (with_reducible first | exact HB.out | apply below_alloc | apply pw_below_drewN | apply below_drew1 | refine below_set ?_ GE348.out) | exact HB.out)) hb)
        clear BK348
        clear HB
        have HO352 := n0_
        have BK348 := n1_
        have HB := n2_
        clear n0_ n1_ n2_
        (try clear hb)
        (try clear hb2)
        (try clear hk)
        (try clear hi)
        (try clear ho0)
        refine hK.out _ _ ⟨(blk_cell BK348.out 0).trans rfl, (blk_cell BK348.out 1).trans rfl, (blk_cell BK348.out 2).trans rfl⟩ (fun hHeld => ?_)
        clear hK K
        refine norm_ (a' := ?_) ?_ ?_
        rotate_left
        · show Act.put _ (some 15) _ = _
          simp only [Act.put, List.setIfInBounds_toArray, List.set_cons_zero, List.set_cons_succ, i64_w, i32_w]
          rfl
        refine one_ (i := 3) (N := some 17) (tf 4 2) rfl rfl (by kernel_rfl) (by decide) (fun K hK => ?_)
        refine goes_ Try.func18 (by kernel_rfl) rfl #[.agg #[.int .i64 a1_0, .int .i64 a1_1, .int .i64 a1_2]] (by rfl) rfl rfl (by (try simp only [List.map_toArray, List.map_cons, List.map_nil]); first | done | rfl | (simp only [List.length_drop, List.length_take]; rfl)) ?_
        with_reducible refine (laws_toFact.calls a1_0 a1_1 a1_2 t353 t354 t355 _ A7.out).mono ?_
        rintro e w19 ⟨rfl, hb⟩
        refine ⟨_, rfl, ?_⟩
        have n0_ := Aside0.mk (Kd.R_below (by (with_reducible repeat (first | apply Kd.R_alloc | apply Kd.R_drewN | apply Kd.R_drew)); exact HO352.out) hb)
        have n1_ := Aside0.mk (blk_below (g := gb348) (o := .cells #[.int .i64 a1_0, .int .i64 a1_1, .int .i64 a1_2] 24 (0, 0)) (by (with_reducible repeat (first | refine blk_drewN ?_ _ | refine blk_drew ?_ | refine blk_alloc ?_ _)); exact BK348.out) hb)
        have n2_ := Aside0.mk (below_step (by repeat (first | (with_reducible first | exact HB.out | apply below_alloc | apply pw_below_drewN | apply below_drew1 | refine below_set ?_ GE348.out) | exact HB.out)) hb)
        clear HO352
        clear BK348
        clear HB
        have HO352 := n0_
        have BK348 := n1_
        have HB := n2_
        clear n0_ n1_ n2_
        (try clear hb)
        (try clear hb2)
        (try clear hk)
        (try clear hi)
        obtain ⟨Ao20, co20, eo20⟩ := Kd.R_slice HO352.out
        (first | subst eo20 | (injection eo20 with f1_ f2_ f3_; have f4_ := f1_.symm; have f5_ := f3_.symm; clear f1_ f2_ f3_; subst f4_; subst f5_))
        refine hK.out _ _ ⟨(blk_cell BK348.out 0).trans rfl, (blk_cell BK348.out 1).trans rfl, (blk_cell BK348.out 2).trans rfl⟩ (fun hHeld => ?_)
        clear hK K
        refine norm_ (a' := ?_) ?_ ?_
        rotate_left
        · show Act.put _ (some 17) _ = _
          simp only [Act.put, List.setIfInBounds_toArray, List.set_cons_zero, List.set_cons_succ, i64_w, i32_w]
          rfl
        refine one_ (i := 4) (N := some 18) (tf 5 1) rfl rfl (by kernel_rfl) (by decide) (fun K hK => ?_)
        refine goes_ Try.func16 (by kernel_rfl) rfl #[.slice Ao20 t350.length co20, .agg #[.int .i64 t353, .int .i64 t354, .int .i64 t355]] (by rfl) rfl rfl (by (try simp only [List.map_toArray, List.map_cons, List.map_nil]); first | done | rfl | (simp only [List.length_drop, List.length_take]; rfl)) ?_
        with_reducible refine (spec_FirstOf.calls k _ _ t350 t353 t354 t355 t356 _ ?side1 ?side2 A8.out).mono ?_
        (case side1 => repeat (first | exact (Kd.R_reads' HO352.out).2.2 | (with_reducible refine Kd.C_alloc ?_ _) | (with_reducible refine Kd.C_drewN ?_ _) | (with_reducible refine Kd.C_drew ?_)))
        (case side2 => exact (Kd.R_reads' HO352.out).2.1)
        rintro e w21 ⟨rfl, hb⟩
        refine ⟨_, rfl, ?_⟩
        have n0_ := Aside0.mk (Kd.R_below (by (with_reducible repeat (first | apply Kd.R_alloc | apply Kd.R_drewN | apply Kd.R_drew)); exact HO352.out) hb)
        have n1_ := Aside0.mk (blk_below (g := gb348) (o := .cells #[.int .i64 a1_0, .int .i64 a1_1, .int .i64 a1_2] 24 (0, 0)) (by (with_reducible repeat (first | refine blk_drewN ?_ _ | refine blk_drew ?_ | refine blk_alloc ?_ _)); exact BK348.out) hb)
        have n2_ := Aside0.mk (below_step (by repeat (first | (with_reducible first | exact HB.out | apply below_alloc | apply pw_below_drewN | apply below_drew1 | refine below_set ?_ GE348.out) | exact HB.out)) hb)
        clear HO352
        clear BK348
        clear HB
        have HO352 := n0_
        have BK348 := n1_
        have HB := n2_
        clear n0_ n1_ n2_
        (try clear hb)
        (try clear hb2)
        (try clear hk)
        (try clear hi)
        refine hK.out _ _ ⟨(blk_cell BK348.out 0).trans rfl, (blk_cell BK348.out 1).trans rfl, (blk_cell BK348.out 2).trans rfl⟩ (fun hHeld => ?_)
        clear hK K
        refine norm_ (a' := ?_) ?_ ?_
        rotate_left
        · show Act.put _ (some 18) _ = _
          simp only [Act.put, List.setIfInBounds_toArray, List.set_cons_zero, List.set_cons_succ, i64_w, i32_w]
          rfl
        refine pure_ (i := 5) (N := some 6) (v := ?_) (a' := ?_) (tf 6 0) rfl rfl (by kernel_rfl) (fun _ _ _ h => h) (Or.inl ⟨by rfl, ?_⟩) ?_ ?_
        rotate_left; (focus intro w'; go_simp; with_reducible rfl)
        rotate_left; (focus simp only [Act.put, List.setIfInBounds_toArray, List.set_cons_zero, List.set_cons_succ, i64_w, i32_w]; rfl)
        refine done_ (by kernel_rfl) ?_
        try go_wp2_with (first | ((with_reducible refine gate_callee (f := 17) rfl ?_); refine goesL_ (some 20) rfl rfl Try.func17 (by kernel_rfl) rfl #[.slice A0 l0.length c0] rfl (by (try simp only [List.map_toArray, List.map_cons, List.map_nil]); first | done | rfl | (simp only [List.length_drop, List.length_take]; rfl)) ?_; (with_reducible refine (laws_toRecS.calls k _ _ l0 t357 _ ?side1 ?side2 A9.out).mono ?_); (case side1 => repeat (first | exact (Kd.C_below HR0.out HB.out) | (with_reducible refine Kd.C_alloc ?_ _) | (with_reducible refine Kd.C_drewN ?_ _) | (with_reducible refine Kd.C_drew ?_))); (case side2 => exact HC0.out); rintro e w22 ⟨v358, rfl, ho0, hb⟩; refine ⟨_, rfl, ?_⟩; have n0_ := Aside0.mk (Kd.R_elder' (by (with_reducible repeat (first | apply Kd.R_alloc | apply Kd.R_drewN | apply Kd.R_drew)); exact HO352.out) (Kd.R_base ho0) hb); have n1_ := Aside0.mk (Kd.R_lower (Kd.R_new' ho0 (Kd.R_lt (by (with_reducible repeat (first | apply Kd.R_alloc | apply Kd.R_drewN | apply Kd.R_drew)); exact HO352.out))) (below_size (by repeat (first | (with_reducible first | exact HB.out | apply below_alloc | apply pw_below_drewN | apply below_drew1 | refine below_set ?_ GE348.out) | exact HB.out)))); have n2_ := Aside0.mk (blk_below (g := gb348) (o := .cells #[.int .i64 a1_0, .int .i64 a1_1, .int .i64 a1_2] 24 (0, 0)) (by (with_reducible repeat (first | refine blk_drewN ?_ _ | refine blk_drew ?_ | refine blk_alloc ?_ _)); exact BK348.out) hb); have n3_ := Aside0.mk (below_step (by repeat (first | (with_reducible first | exact HB.out | apply below_alloc | apply pw_below_drewN | apply below_drew1 | refine below_set ?_ GE348.out) | exact HB.out)) hb); clear HO352; clear BK348; clear HB; have HO352 := n0_; have HO359 := n1_; have BK348 := n2_; have HB := n3_; clear n0_ n1_ n2_ n3_; (try clear hb); (try clear hb2); (try clear hk); (try clear hi); (try clear ho0); have hcz23_0 : w22.cell? ⟨gb348, 0, none⟩ = some (.int .i64 a1_0) := (blk_cell BK348.out 0).trans rfl; have hcz23_1 : w22.cell? ⟨gb348, 1, none⟩ = some (.int .i64 a1_1) := (blk_cell BK348.out 1).trans rfl; have hcz23_2 : w22.cell? ⟨gb348, 2, none⟩ = some (.int .i64 a1_2) := (blk_cell BK348.out 2).trans rfl; have hfz23_0 := blk_frozen BK348.out 0; have hfz23_1 := blk_frozen BK348.out 1; have hfz23_2 := blk_frozen BK348.out 2) | ((with_reducible refine gate_callee (f := 18) rfl ?_); refine goesL_ (some 23) rfl rfl Try.func18 (by kernel_rfl) rfl #[.agg #[.int .i64 a1_0, .int .i64 a1_1, .int .i64 a1_2]] rfl (by (try simp only [List.map_toArray, List.map_cons, List.map_nil]); first | done | rfl | (simp only [List.length_drop, List.length_take]; rfl)) ?_; (with_reducible refine (laws_toFact.calls a1_0 a1_1 a1_2 t360 t361 t362 _ A10.out).mono ?_); rintro e w24 ⟨rfl, hb⟩; refine ⟨_, rfl, ?_⟩; have n0_ := Aside0.mk (Kd.R_below (by (with_reducible repeat (first | apply Kd.R_alloc | apply Kd.R_drewN | apply Kd.R_drew)); exact HO352.out) hb); have n1_ := Aside0.mk (Kd.R_below (by (with_reducible repeat (first | apply Kd.R_alloc | apply Kd.R_drewN | apply Kd.R_drew)); exact HO359.out) hb); have n2_ := Aside0.mk (blk_below (g := gb348) (o := .cells #[.int .i64 a1_0, .int .i64 a1_1, .int .i64 a1_2] 24 (0, 0)) (by (with_reducible repeat (first | refine blk_drewN ?_ _ | refine blk_drew ?_ | refine blk_alloc ?_ _)); exact BK348.out) hb); have n3_ := Aside0.mk (below_step (by repeat (first | (with_reducible first | exact HB.out | apply below_alloc | apply pw_below_drewN | apply below_drew1 | refine below_set ?_ GE348.out) | exact HB.out)) hb); clear HO352; clear HO359; clear BK348; clear HB; have HO352 := n0_; have HO359 := n1_; have BK348 := n2_; have HB := n3_; clear n0_ n1_ n2_ n3_; (try clear hb); (try clear hb2); (try clear hk); (try clear hi); obtain ⟨Ao25, co25, eo25⟩ := Kd.R_slice HO359.out; subst eo25) | ((with_reducible refine gate_callee (f := 19) rfl ?_); refine goesL_ (some 24) rfl rfl Try.func19 (by kernel_rfl) rfl #[.slice Ao25 t357.length co25, .agg #[.int .i64 t360, .int .i64 t361, .int .i64 t362]] rfl (by (try simp only [List.map_toArray, List.map_cons, List.map_nil]); first | done | rfl | (simp only [List.length_drop, List.length_take]; rfl)) ?_; (with_reducible refine (impl_FirstOf.calls _ _ t357 t360 t361 t362 t363 _ ?side1 ?side2 A11.out).mono ?_); (case side1 => repeat (first | exact (Kd.R_reads' HO359.out).2.2 | (with_reducible refine Kd.C_alloc ?_ _) | (with_reducible refine Kd.C_drewN ?_ _) | (with_reducible refine Kd.C_drew ?_))); (case side2 => exact (Kd.R_reads' HO359.out).2.1); rintro e w26 ⟨rfl, hb⟩; refine ⟨_, rfl, ?_⟩; have n0_ := Aside0.mk (Kd.R_below (by (with_reducible repeat (first | apply Kd.R_alloc | apply Kd.R_drewN | apply Kd.R_drew)); exact HO352.out) hb); have n1_ := Aside0.mk (Kd.R_below (by (with_reducible repeat (first | apply Kd.R_alloc | apply Kd.R_drewN | apply Kd.R_drew)); exact HO359.out) hb); have n2_ := Aside0.mk (blk_below (g := gb348) (o := .cells #[.int .i64 a1_0, .int .i64 a1_1, .int .i64 a1_2] 24 (0, 0)) (by (with_reducible repeat (first | refine blk_drewN ?_ _ | refine blk_drew ?_ | refine blk_alloc ?_ _)); exact BK348.out) hb); have n3_ := Aside0.mk (below_step (by repeat (first | (with_reducible first | exact HB.out | apply below_alloc | apply pw_below_drewN | apply below_drew1 | refine below_set ?_ GE348.out) | exact HB.out)) hb); clear HO352; clear HO359; clear BK348; clear HB; have HO352 := n0_; have HO359 := n1_; have BK348 := n2_; have HB := n3_; clear n0_ n1_ n2_ n3_; (try clear hb); (try clear hb2); (try clear hk); (try clear hi)) | ((with_reducible refine gate_callee (f := 17) rfl ?_); refine goesL_ (some 30) rfl rfl Try.func17 (by kernel_rfl) rfl #[.slice A0 l0.length c0] rfl (by (try simp only [List.map_toArray, List.map_cons, List.map_nil]); first | done | rfl | (simp only [List.length_drop, List.length_take]; rfl)) ?_; (with_reducible refine (laws_toRecS.calls k _ _ l0 t364 _ ?side1 ?side2 A13.out).mono ?_); (case side1 => repeat (first | exact (Kd.C_below HR0.out HB.out) | (with_reducible refine Kd.C_alloc ?_ _) | (with_reducible refine Kd.C_drewN ?_ _) | (with_reducible refine Kd.C_drew ?_))); (case side2 => exact HC0.out); rintro e w27 ⟨v365, rfl, ho0, hb⟩; refine ⟨_, rfl, ?_⟩; have n0_ := Aside0.mk (Kd.R_elder' (by (with_reducible repeat (first | apply Kd.R_alloc | apply Kd.R_drewN | apply Kd.R_drew)); exact HO352.out) (Kd.R_base ho0) hb); have n1_ := Aside0.mk (Kd.R_elder' (by (with_reducible repeat (first | apply Kd.R_alloc | apply Kd.R_drewN | apply Kd.R_drew)); exact HO359.out) (Kd.R_base ho0) hb); have n2_ := Aside0.mk (Kd.R_lower (Kd.R_new' (Kd.R_new' ho0 (Kd.R_lt (by (with_reducible repeat (first | apply Kd.R_alloc | apply Kd.R_drewN | apply Kd.R_drew)); exact HO352.out))) (Kd.R_lt (by (with_reducible repeat (first | apply Kd.R_alloc | apply Kd.R_drewN | apply Kd.R_drew)); exact HO359.out))) (below_size (by repeat (first | (with_reducible first | exact HB.out | apply below_alloc | apply pw_below_drewN | apply below_drew1 | refine below_set ?_ GE348.out) | exact HB.out)))); have n3_ := Aside0.mk (blk_below (g := gb348) (o := .cells #[.int .i64 a1_0, .int .i64 a1_1, .int .i64 a1_2] 24 (0, 0)) (by (with_reducible repeat (first | refine blk_drewN ?_ _ | refine blk_drew ?_ | refine blk_alloc ?_ _)); exact BK348.out) hb); have n4_ := Aside0.mk (below_step (by repeat (first | (with_reducible first | exact HB.out | apply below_alloc | apply pw_below_drewN | apply below_drew1 | refine below_set ?_ GE348.out) | exact HB.out)) hb); clear HO352; clear HO359; clear BK348; clear HB; have HO352 := n0_; have HO359 := n1_; have HO366 := n2_; have BK348 := n3_; have HB := n4_; clear n0_ n1_ n2_ n3_ n4_; (try clear hb); (try clear hb2); (try clear hk); (try clear hi); (try clear ho0); obtain ⟨Ao28, co28, eo28⟩ := Kd.R_slice HO366.out; subst eo28) | ((with_reducible refine gate_callee (f := 20) rfl ?_); refine goesL_ (some 31) rfl rfl Try.func20 (by kernel_rfl) rfl #[.slice Ao25 t357.length co25, .slice Ao28 t364.length co28] rfl (by (try simp only [List.map_toArray, List.map_cons, List.map_nil]); first | done | rfl | (simp only [List.length_drop, List.length_take]; rfl)) ?_; (with_reducible refine (laws_eqRecS.calls k _ _ t357 _ _ t364 true _ ?side1 ?side2 ?side3 ?side4 A14.out).mono ?_); (case side1 => repeat (first | exact (Kd.R_reads' HO359.out).2.2 | (with_reducible refine Kd.C_alloc ?_ _) | (with_reducible refine Kd.C_drewN ?_ _) | (with_reducible refine Kd.C_drew ?_))); (case side2 => exact (Kd.R_reads' HO359.out).2.1); (case side3 => repeat (first | exact (Kd.R_reads' HO366.out).2.2 | (with_reducible refine Kd.C_alloc ?_ _) | (with_reducible refine Kd.C_drewN ?_ _) | (with_reducible refine Kd.C_drew ?_))); (case side4 => exact (Kd.R_reads' HO366.out).2.1); rintro e w29 ⟨rfl, hb⟩; refine ⟨_, rfl, ?_⟩; have n0_ := Aside0.mk (Kd.R_below (by (with_reducible repeat (first | apply Kd.R_alloc | apply Kd.R_drewN | apply Kd.R_drew)); exact HO352.out) hb); have n1_ := Aside0.mk (Kd.R_below (by (with_reducible repeat (first | apply Kd.R_alloc | apply Kd.R_drewN | apply Kd.R_drew)); exact HO359.out) hb); have n2_ := Aside0.mk (Kd.R_below (by (with_reducible repeat (first | apply Kd.R_alloc | apply Kd.R_drewN | apply Kd.R_drew)); exact HO366.out) hb); have n3_ := Aside0.mk (blk_below (g := gb348) (o := .cells #[.int .i64 a1_0, .int .i64 a1_1, .int .i64 a1_2] 24 (0, 0)) (by (with_reducible repeat (first | refine blk_drewN ?_ _ | refine blk_drew ?_ | refine blk_alloc ?_ _)); exact BK348.out) hb); have n4_ := Aside0.mk (below_step (by repeat (first | (with_reducible first | exact HB.out | apply below_alloc | apply pw_below_drewN | apply below_drew1 | refine below_set ?_ GE348.out) | exact HB.out)) hb); clear HO352; clear HO359; clear HO366; clear BK348; clear HB; have HO352 := n0_; have HO359 := n1_; have HO366 := n2_; have BK348 := n3_; have HB := n4_; clear n0_ n1_ n2_ n3_ n4_; (try clear hb); (try clear hb2); (try clear hk); (try clear hi)))
        go_ret
        exact ⟨by first | rfl | (simp [errW_none, errW_some] <;> rfl) | (simp [*, errW_none, errW_some] <;> rfl), by repeat (first | (with_reducible first | exact HB.out | apply below_alloc | apply pw_below_drewN | apply below_drew1 | refine below_set ?_ GE348.out) | exact HB.out)⟩
      · replace c15 := Bool.eq_false_iff.mpr c15
        subst c15
        have H1 : (some false) = some r := by rw [if_neg (show ¬ (false = true) by decide)] at H; exact H
        clear H
        have H := H1
        clear H1
        obtain rfl := Option.some.inj H
        exact absurd ht (by decide)
    · rw [if_neg c12] at H
      have c12b0 : (t363 == t356) = false := beq_eq_false_iff_ne.mpr c12
      have c12b1 : (t363 != t356) = true := bne_iff_ne.mpr c12
      obtain rfl := Option.some.inj H
      exact absurd ht (by decide)

end Go.Proofs.Ytgcgdjldhjajaaa.A
/- Loops over lists, in plain Lean: a copy into a new row, a comparison of a row with itself. Conditions: the rows are no longer than a number of the machine can tell. -/
namespace Go.Proofs.Ytgcgdjldhjajaaa.Lst
open Go.RowKit
set_option linter.unusedVariables false
set_option linter.unusedSimpArgs false

theorem w1 (i : Int) (h0 : 0 ≤ i) (h : i < 4611686018427387904) : wrap64 (i + 1) = i + 1 := by unfold wrap64; omega
theorem w1n (i n : Nat) (hi : i < n) (hn : n ≤ 4611686018427387904) : wrap64 ((i : Int) + 1) = ((i + 1 : Nat) : Int) := by unfold wrap64; omega
theorem wr (i : Int) (h0 : -9223372036854775808 ≤ i) (h : i < 9223372036854775808) : wrap64 i = i := by unfold wrap64; omega
theorem toNat_ofNat (i : Nat) : ((i : Int)).toNat = i := rfl

theorem set_take {β : Type} (l : List β) (i : Nat) (b : β) (h : i < l.length) : (l.set i b).take (i + 1) = l.take i ++ [b] := by
  apply List.ext_getElem?
  intro j
  simp only [List.getElem?_take, List.getElem?_append, List.getElem?_set, List.length_take]
  by_cases h1 : j < i
  · rw [if_pos (by omega), if_neg (by omega), if_pos (by omega), if_pos h1]
  · by_cases h2 : j = i
    · subst h2
      rw [if_pos (by omega), if_pos rfl, if_pos h, if_neg (by omega)]
      simp [Nat.min_eq_left (Nat.le_of_lt h)]
    · rw [if_neg (by omega), if_neg (by omega)]
      rw [List.getElem?_eq_none]
      simp; omega

/-- A copy, element by element, into a row that is there. -/
theorem copy_from {α β : Type} (g : Nat → List α → List β → Int → Option (List β)) (z : α) (h : α → β) (l : List α) (hl : l.length ≤ 4611686018427387904)
    (hstep : ∀ (k : Nat) (x : List β) (i : Nat), i < l.length → i < x.length → g (k + 1) l x (i : Int) = g k l (x.set i (h (l.getD i z))) (wrap64 ((i : Int) + 1)))
    (hend : ∀ (k : Nat) (x : List β), g (k + 1) l x (l.length : Int) = some x) :
    ∀ (d k i : Nat) (x : List β), d + i = l.length → x.length = l.length → x.take i = (l.take i).map h → d < k → g k l x (i : Int) = some (l.map h) := by
  intro d
  induction d with
  | zero =>
    intro k i x hd hx ht hk
    obtain ⟨k, rfl⟩ : ∃ m, k = m + 1 := ⟨k - 1, by omega⟩
    obtain rfl : i = l.length := by omega
    rw [hend]
    rw [List.take_of_length_le (by omega), List.take_of_length_le (Nat.le_refl _)] at ht
    rw [ht]
  | succ d ih =>
    intro k i x hd hx ht hk
    obtain ⟨k, rfl⟩ : ∃ m, k = m + 1 := ⟨k - 1, by omega⟩
    rw [hstep k x i (by omega) (by omega), w1n i l.length (by omega) hl]
    refine ih k (i + 1) _ (by omega) (by simpa using hx) ?_ (by omega)
    rw [set_take x i _ (by omega), ht, List.take_succ_eq_append_getElem (by omega), List.map_append, List.getD_eq_getElem?_getD, List.getElem?_eq_getElem (by omega)]
    simp

theorem copy_all {α β : Type} (g : Nat → List α → List β → Int → Option (List β)) (z : α) (zb : β) (h : α → β) (l : List α) (hl : l.length ≤ 4611686018427387904)
    (hstep : ∀ (k : Nat) (x : List β) (i : Nat), i < l.length → i < x.length → g (k + 1) l x (i : Int) = g k l (x.set i (h (l.getD i z))) (wrap64 ((i : Int) + 1)))
    (hend : ∀ (k : Nat) (x : List β), g (k + 1) l x (l.length : Int) = some x) (k : Nat) (hk : l.length < k) : g k l (List.replicate l.length zb) 0 = some (l.map h) :=
  copy_from g z h l hl hstep hend l.length k 0 _ rfl (by simp) (by simp) hk

/-- A walk along a row that never leaves before the end. -/
theorem along {ρ : Type} (g : Nat → Int → Option ρ) (n : Nat) (hn : n ≤ 4611686018427387904) (r : ρ)
    (hstep : ∀ (k i : Nat), i < n → g (k + 1) (i : Int) = g k (wrap64 ((i : Int) + 1))) (hend : ∀ k : Nat, g (k + 1) (n : Int) = some r) :
    ∀ (d k i : Nat), d + i = n → d < k → g k (i : Int) = some r := by
  intro d
  induction d with
  | zero =>
    intro k i hd hk
    obtain ⟨k, rfl⟩ : ∃ m, k = m + 1 := ⟨k - 1, by omega⟩
    obtain rfl : i = n := by omega
    exact hend k
  | succ d ih =>
    intro k i hd hk
    obtain ⟨k, rfl⟩ : ∃ m, k = m + 1 := ⟨k - 1, by omega⟩
    rw [hstep k i (by omega), w1n i n (by omega) hn]
    exact ih k (i + 1) (by omega) (by omega)

theorem along_all {ρ : Type} (g : Nat → Int → Option ρ) (n : Nat) (hn : n ≤ 4611686018427387904) (r : ρ)
    (hstep : ∀ (k i : Nat), i < n → g (k + 1) (i : Int) = g k (wrap64 ((i : Int) + 1))) (hend : ∀ k : Nat, g (k + 1) (n : Int) = some r) (k : Nat) (hk : n < k) : g k 0 = some r :=
  along g n hn r hstep hend n k 0 (by omega) hk

/-- Element by element, each set to something of its number and of what it was. -/
theorem setting {β : Type} (g : Nat → List β → Int → Int → Option (Int × List β)) (z : β) (F : Int → β → β) (c : Int) (n : Nat) (hn : n ≤ 4611686018427387904)
    (hstep : ∀ (k : Nat) (x : List β) (m : Int) (i : Nat), x.length = n → i < n → 0 ≤ m → m ≤ 1000000000000 → g (k + 1) x m (i : Int) = g k (x.set i (F m (x.getD i z))) (m + c) (wrap64 ((i : Int) + 1)))
    (hend : ∀ (k : Nat) (x : List β) (m : Int), x.length = n → g (k + 1) x m (n : Int) = some (m, x)) (hc : 0 ≤ c) :
    ∀ (d k i : Nat) (x : List β) (m : Int), d + i = n → x.length = n → d < k → 0 ≤ m → m + c * d ≤ 1000000000000 →
      ∃ y, g k x m (i : Int) = some (m + c * d, y) ∧ y.length = n ∧ (∀ j, j < i → y.getD j z = x.getD j z) ∧ ∀ j, i ≤ j → j < n → y.getD j z = F (m + c * (j - i : Nat)) (x.getD j z) := by
  intro d
  induction d with
  | zero =>
    intro k i x m hd hx hk h0 h1
    obtain ⟨k, rfl⟩ : ∃ q, k = q + 1 := ⟨k - 1, by omega⟩
    obtain rfl : i = n := by omega
    exact ⟨x, by rw [hend k x m hx]; simp, hx, fun j _ => rfl, fun j h2 h3 => by omega⟩
  | succ d ih =>
    intro k i x m hd hx hk h0 h1
    obtain ⟨k, rfl⟩ : ∃ q, k = q + 1 := ⟨k - 1, by omega⟩
    have hcd : 0 ≤ c * (d : Int) := Int.mul_nonneg hc (by omega)
    have e1 : c * ((d + 1 : Nat) : Int) = c * (d : Int) + c := by rw [show ((d + 1 : Nat) : Int) = (d : Int) + 1 from rfl, Int.mul_add, Int.mul_one]
    rw [e1] at h1
    rw [hstep k x m i hx (by omega) h0 (by omega), w1n i n (by omega) hn]
    obtain ⟨y, h2, h3, h4, h5⟩ := ih k (i + 1) (x.set i (F m (x.getD i z))) (m + c) (by omega) (by simpa using hx) (by omega) (by omega) (by omega)
    refine ⟨y, by rw [h2, e1]; congr 2; omega, h3, fun j hj => ?_, fun j hj hjn => ?_⟩
    · rw [h4 j (by omega)]
      simp only [List.getD_eq_getElem?_getD, List.getElem?_set]
      rw [if_neg (by omega)]
    · by_cases e : j = i
      · subst e
        rw [h4 j (by omega)]
        simp only [List.getD_eq_getElem?_getD, List.getElem?_set]
        rw [if_pos trivial, if_pos (by omega)]
        simp
      · rw [h5 j (by omega) hjn]
        have e2 : m + c + c * ((j - (i + 1) : Nat) : Int) = m + c * ((j - i : Nat) : Int) := by
          have : ((j - i : Nat) : Int) = ((j - (i + 1) : Nat) : Int) + 1 := by omega
          rw [this, Int.mul_add, Int.mul_one]
          omega
        rw [e2]
        congr 1
        simp only [List.getD_eq_getElem?_getD, List.getElem?_set]
        rw [if_neg (by omega)]
/-- A walk that counts up as it goes. -/
theorem holding {ρ : Type} (g : Nat → Int → Int → Option ρ) (n : Nat) (hn : n ≤ 4611686018427387904) (m c : Int) (r : ρ)
    (hstep : ∀ (k i : Nat), i < n → g (k + 1) (m + c * i) (i : Int) = g k (m + c * ((i + 1 : Nat) : Int)) (wrap64 ((i : Int) + 1))) (hend : ∀ k : Nat, g (k + 1) (m + c * n) (n : Int) = some r) :
    ∀ (d k i : Nat), d + i = n → d < k → g k (m + c * i) (i : Int) = some r := by
  intro d
  induction d with
  | zero =>
    intro k i hd hk
    obtain ⟨k, rfl⟩ : ∃ q, k = q + 1 := ⟨k - 1, by omega⟩
    obtain rfl : i = n := by omega
    exact hend k
  | succ d ih =>
    intro k i hd hk
    obtain ⟨k, rfl⟩ : ∃ q, k = q + 1 := ⟨k - 1, by omega⟩
    rw [hstep k i (by omega), w1n i n (by omega) hn]
    exact ih k (i + 1) (by omega) (by omega)

theorem map_id_of {α : Type} (l : List α) (f : α → α) (h : ∀ x, f x = x) : l.map f = l := by
  induction l with
  | nil => rfl
  | cons a l ih => rw [List.map_cons, h, ih]
end Go.Proofs.Ytgcgdjldhjajaaa.Lst
/- The plain statement that is left of the law FnExactFirstOf, over numbers and lists. -/
namespace Go.Proofs.Ytgcgdjldhjajaaa.A
open Go.RowKit Go.Proofs.YtgcgdjldhjajaaaW.PrintWords Go.Proofs.YtgcgdjldhjajaaaW.PrintLast
def Pure_FnExactFirstOf : Prop := ∀ (l0 : List (S80)) (a1_0 : Int) (a1_1 : Int) (a1_2 : Int), (l0.length ≤ maxLen ∧ ∀ q1 ∈ l0, ((Lit.int .i64 q1.f0).wf = true ∧ ((Lit.int .i64 q1.f1).wf = true ∧ ((Lit.int .i64 q1.f2).wf = true ∧ ((Lit.int .i64 q1.f3).wf = true ∧ ((Lit.int .i64 q1.f4).wf = true ∧ (Lit.int .i64 q1.f5).wf = true)))))) → ((Lit.int .i64 a1_0).wf = true ∧ ((Lit.int .i64 a1_1).wf = true ∧ (Lit.int .i64 a1_2).wf = true)) → ∃ k, laws_FnExactFirstOf.f k l0 a1_0 a1_1 a1_2 = some true
end Go.Proofs.Ytgcgdjldhjajaaa.A
/- What is right of records, as the reference tells it and as the program does. -/
namespace Go.Proofs.Ytgcgdjldhjajaaa.A
open Go.RowKit Go.Proofs.Ytgcgdjldhjajaaa Go.Proofs.YtgcgdjldhjajaaaW.PrintWords Go.Proofs.YtgcgdjldhjajaaaW.PrintLast Go.Proofs.YtgcgdjldhjajaaaW.PrintMore
set_option linter.unusedVariables false
set_option linter.unusedSimpArgs false
theorem s_is (n lo hi : Int) : spec_l02Is.f n lo hi = some (decide (lo ≤ n ∧ n ≤ hi)) := by
  unfold spec_l02Is.f; by_cases h : n ≥ lo
  · rw [if_pos h]; congr 1; simp; omega
  · rw [if_neg h]; congr 1; simp; omega
theorem s_time (n : Int) : spec_l03Time.f n = some (timeB n) := by
  unfold spec_l03Time.f; rw [s_is]; rfl
theorem s_node (n : Int) : spec_l04Node.f n = some (nodeB n) := by
  unfold spec_l04Node.f; rw [s_is]; rfl
theorem s_recRight (a b c d e f : Int) : spec_RecRight.f a b c d e f = some (recB a b c d e f) := by
  unfold spec_RecRight.f recB
  simp only [s_node, s_time, s_is, Option.bind_some]
  cases timeB a
  · rfl
  cases nodeB b
  · rfl
  simp only [if_true, Bool.true_and]
  by_cases h1 : c = 1
  · rw [if_pos h1, if_pos h1]
    cases timeB d <;> by_cases h2 : e = 0 <;> simp [h2]
  rw [if_neg h1, if_neg h1]
  by_cases h2 : c = 2
  · rw [if_pos h2, if_pos h2]
    by_cases h3 : d = 0 <;> by_cases h4 : e = 0 <;> simp [h3, h4]
  rw [if_neg h2, if_neg h2]
  by_cases h3 : c = 3
  · rw [if_pos h3, if_pos h3]
    cases timeB d <;> cases nodeB e <;> simp
  rw [if_neg h3, if_neg h3]
  by_cases h4 : c = 4
  · rw [if_pos h4, if_pos h4]
    cases timeB d <;> cases nodeB e <;> simp
  rw [if_neg h4, if_neg h4]
  by_cases h5 : c = 5
  · rw [if_pos h5, if_pos h5]
    unfold factB
    cases nodeB d <;> cases timeB e <;> simp
  rw [if_neg h5, if_neg h5]
  by_cases h6 : c = 6
  · rw [if_pos h6, if_pos h6]
    cases nodeB d <;> by_cases h7 : e = 0 <;> simp [h7]
  rw [if_neg h6, if_neg h6]
/-- Records that are right, and not too many. -/
def okRecs (l : List S78) : Bool := decide (l.length ≤ 400) && l.all recOk
theorem i_recs (l : List S78) : impl_areRecs.f l = some (okRecs l) := rfl
theorem s_recs (l : List S78) (k : Nat) (hk : l.length < k) : spec_l12Recs.f k l = some (okRecs l) := by
  unfold spec_l12Recs.f okRecs
  by_cases h : l.length ≤ 400
  · rw [if_neg (by omega)]
    have key : ∀ (d k i : Nat), d + i = l.length → d < k → spec_l12Recs.l0 k l (i : Int) = some ((l.drop i).all recOk) := by
      intro d
      induction d with
      | zero =>
        intro k i hd hk
        obtain ⟨k, rfl⟩ : ∃ m, k = m + 1 := ⟨k - 1, by omega⟩
        simp only [spec_l12Recs.l0]
        rw [if_neg (by omega), List.drop_of_length_le (by omega)]
        rfl
      | succ d ih =>
        intro k i hd hk
        obtain ⟨k, rfl⟩ : ∃ m, k = m + 1 := ⟨k - 1, by omega⟩
        have hi : i < l.length := by omega
        simp only [spec_l12Recs.l0]
        rw [if_pos (by omega), if_pos (by omega), rd_nat_Rec l i hi, s_recRight]
        simp only [Option.bind_some]
        rw [List.drop_eq_getElem_cons hi, List.all_cons]
        show (if recOk l[i] = true then _ else _) = _
        cases hq : recOk l[i]
        · rfl
        · rw [if_pos rfl, Lst.w1n i l.length hi (by omega), ih k (i + 1) (by omega) (by omega)]
          rfl
    have := key l.length k 0 (by omega) hk
    rw [show ((0 : Nat) : Int) = 0 from rfl] at this
    rw [this]
    simp [h]
  · rw [if_pos (by omega)]
    simp [h]
end Go.Proofs.Ytgcgdjldhjajaaa.A
/- Copies of records, their comparison and their size. -/
namespace Go.Proofs.Ytgcgdjldhjajaaa.A
open Go.RowKit Go.Proofs.Ytgcgdjldhjajaaa Go.Proofs.YtgcgdjldhjajaaaW.PrintWords Go.Proofs.YtgcgdjldhjajaaaW.PrintLast Go.Proofs.YtgcgdjldhjajaaaW.PrintMore
set_option linter.unusedVariables false
set_option linter.unusedSimpArgs false
def cvR (x : S80) : S78 := ⟨x.f0, x.f1, x.f2, x.f3, x.f4, x.f5⟩
theorem toR (l : List S80) (hl : l.length ≤ 1048576) (k : Nat) (hk : l.length < k) : laws_toRecS.f k l = some (l.map cvR) := by
  unfold laws_toRecS.f
  rw [if_pos (by omega), if_pos (by omega)]
  refine Lst.copy_all laws_toRecS.l0 z80 z78 cvR l (by omega) ?_ ?_ k hk
  · intro k x i h1 h2
    simp only [laws_toRecS.l0]
    rw [if_pos (by omega), if_pos (by omega)]
    simp only [laws_toRec.f, Option.bind_some]
    rw [if_pos (by omega)]
    rfl
  · intro k x
    simp only [laws_toRecS.l0]
    rw [if_neg (by omega)]
theorem eqR (l : List S78) (hl : l.length ≤ 1048576) (k : Nat) (hk : l.length < k) : laws_eqRecS.f k l l = some true := by
  unfold laws_eqRecS.f
  rw [if_pos rfl]
  refine Lst.along_all (fun k i => laws_eqRecS.l0 k l l i) l.length (by omega) true ?_ ?_ k hk
  · intro k i h1
    simp only [laws_eqRecS.l0]
    rw [if_pos (by omega), if_pos (by omega), if_pos (by omega)]
    simp [laws_eqRec.f]
  · intro k
    simp only [laws_eqRecS.l0]
    rw [if_neg (by omega)]
theorem szR (l : List S80) (hl : l.length ≤ maxLen) : laws_szRecS.f l 1048576 = some (if l.length ≤ 1048576 then 1048576 - (l.length : Int) else -1) := by
  unfold laws_szRecS.f
  unfold maxLen at hl
  have e' : wrap64 (1048576 - (l.length : Int)) = 1048576 - (l.length : Int) := by unfold wrap64; omega
  rw [e']
  by_cases h : l.length ≤ 1048576
  · rw [if_neg (by omega), if_pos h]
  · rw [if_pos (by omega), if_neg h]
end Go.Proofs.Ytgcgdjldhjajaaa.A
/- FirstOf of the program and of the reference find the same place. -/
namespace Go.Proofs.Ytgcgdjldhjajaaa.A
open Go.RowKit Go.Proofs.Ytgcgdjldhjajaaa Go.Proofs.YtgcgdjldhjajaaaW.PrintWords Go.Proofs.YtgcgdjldhjajaaaW.PrintLast Go.Proofs.YtgcgdjldhjajaaaW.PrintMore
set_option linter.unusedVariables false
set_option linter.unusedSimpArgs false
theorem s_fact (n i s : Int) : spec_FactRight.f n i s = some (factB n i s) := by
  unfold spec_FactRight.f factB
  simp only [s_node, s_time, s_is, Option.bind_some]
  cases nodeB n <;> cases timeB i <;> rfl
theorem s_says (n i s : Int) (x : S78) : spec_l18Says.f x.f0 x.f1 x.f2 x.f3 x.f4 x.f5 n i s = some (sayB n i s x) := by
  unfold spec_l18Says.f sayB
  by_cases h1 : x.f2 = 1
  · have h5 : ¬ x.f2 = 5 := by omega
    rw [if_pos h1, if_neg h5, if_pos h1]
    simp [Bool.decide_and]
    rfl
  · rw [if_neg h1, if_neg h1]
    by_cases h5 : x.f2 = 5
    · rw [if_pos h5, if_pos h5]
      congr 1
      rw [Bool.eq_iff_iff]
      simp
      omega
    · rw [if_neg h5, if_neg h5]
theorem first_loop (l : List S78) (n i s : Int) (hl : l.length ≤ 400) (hr : okRecs l = true) (hf : factB n i s = true) : ∀ (d k j : Nat), j + d = l.length → l.length + 2 * d + 2 < k → (∀ q (hq : q < l.length), q < j → sayB n i s l[q] = false) → spec_FirstOf.l0 k l (j : Int) n i s = some (idxOf (sayB n i s) l) := by
  intro d
  induction d with
  | zero =>
    intro k j hj hk hn
    obtain ⟨m, rfl⟩ : ∃ m, k = m + 1 + 1 := ⟨k - 2, by omega⟩
    simp only [spec_FirstOf.l0]
    rw [if_neg (by omega)]
    simp only [spec_FirstOf.j1]
    rw [idxOf_miss _ l (fun q hq => hn q hq (by omega))]
    rfl
  | succ d ih =>
    intro k j hj hk hn
    obtain ⟨m, rfl⟩ : ∃ m, k = m + 1 + 1 := ⟨k - 2, by omega⟩
    have hlt : j < l.length := by omega
    simp only [spec_FirstOf.l0]
    rw [if_pos (by omega), s_recs l _ (by omega), hr]
    simp only [Option.bind_some, if_true]
    rw [s_fact, hf]
    simp only [Option.bind_some, spec_FirstOf.j1, if_true]
    rw [if_pos (by omega), if_pos (by omega), s_says, rd_nat_Rec l j hlt]
    simp only [Option.bind_some]
    by_cases hc : sayB n i s l[j] = true
    · rw [if_pos hc, idxOf_hit _ l j hlt hc hn]
    · rw [if_neg hc, Lst.w1n j l.length hlt (by omega)]
      refine ih m (j + 1) (by omega) (by omega) (fun q hq hqj => ?_)
      by_cases e : q = j
      · subst e; simpa using hc
      · exact hn q hq (by omega)
theorem first_spec (l : List S78) (n i s : Int) (k : Nat) (hk : 3 * l.length + 10 < k) : spec_FirstOf.f k l n i s = some (if okRecs l = true then (if factB n i s = true then idxOf (sayB n i s) l else -1) else -1) := by
  unfold spec_FirstOf.f
  by_cases hr : okRecs l = true
  · have hl : l.length ≤ 400 := by
      have h := hr
      unfold okRecs at h
      rw [Bool.and_eq_true] at h
      exact of_decide_eq_true h.1
    rw [if_pos hr]
    by_cases hf : factB n i s = true
    · rw [if_pos hf]
      exact first_loop l n i s hl hr hf l.length k 0 (by omega) (by omega) (fun q _ hq => absurd hq (Nat.not_lt_zero _))
    · rw [if_neg hf]
      obtain ⟨m, rfl⟩ : ∃ m, k = m + 1 + 1 := ⟨k - 2, by omega⟩
      simp only [spec_FirstOf.l0]
      by_cases h0 : (0 : Int) < (l.length : Int)
      · rw [if_pos h0, s_recs l _ (by omega), hr]
        simp only [Option.bind_some, if_true]
        rw [s_fact]
        simp only [Option.bind_some, spec_FirstOf.j1]
        rw [if_neg hf]
      · rw [if_neg h0]
        simp only [spec_FirstOf.j1]
        rfl
  · rw [if_neg hr]
    obtain ⟨m, rfl⟩ : ∃ m, k = m + 1 + 1 := ⟨k - 2, by omega⟩
    simp only [spec_FirstOf.l0]
    by_cases h0 : (0 : Int) < (l.length : Int)
    · rw [if_pos h0, s_recs l _ (by omega)]
      simp only [Option.bind_some]
      rw [if_neg hr]
      simp only [spec_FirstOf.j1]
      rfl
    · rw [if_neg h0]
      simp only [spec_FirstOf.j1]
      rfl
theorem pure_FirstOf : Pure_FnExactFirstOf := by
  intro l n i s h _
  by_cases hb : l.length ≤ 1048576
  · refine ⟨3 * l.length + 1000, ?_⟩
    unfold laws_FnExactFirstOf.f
    rw [szR l h.1]
    simp only [Option.bind_some, hb, if_true]
    rw [if_neg (by omega), toR l hb _ (by omega)]
    have hm : (l.map cvR).length = l.length := by simp
    generalize l.map cvR = m at hm
    have e0 : laws_toFact.f n i s = some (n, i, s) := rfl
    simp only [Option.bind_some, e0]
    rw [first_spec m n i s _ (by omega)]
    simp only [Option.bind_some, impl_FirstOf.f]
    rw [if_pos (by rfl), eqR m (by omega) _ (by omega)]
    rfl
  · refine ⟨1, ?_⟩
    unfold laws_FnExactFirstOf.f
    rw [szR l h.1]
    simp [hb]
end Go.Proofs.Ytgcgdjldhjajaaa.A
namespace Go.Proofs.Ytgcgdjldhjajaaa.Pure
theorem FnExactFirstOf : A.Pure_FnExactFirstOf := A.pure_FirstOf
end Go.Proofs.Ytgcgdjldhjajaaa.Pure
