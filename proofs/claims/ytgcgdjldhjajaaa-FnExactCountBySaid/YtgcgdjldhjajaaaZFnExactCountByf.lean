-- Merged by bundle.py out of 10 printed and hand-written texts of this claim.
import Derived.Test.YtgcgdjldhjajaaaZFnExactCountBya
import Derived.Test.YtgcgdjldhjajaaaZFnExactCountByd
import Derived.Test.YtgcgdjldhjajaaaZFnExactCountBye
import Derived.RowKit
import Derived.Test.YtgcgdjldhjajaaaZFnExactCountByb
namespace Go.Proofs.Ytgcgdjldhjajaaa.A
open Go.RowKit Go.Proofs.YtgcgdjldhjajaaaW.PrintWords Go.Proofs.YtgcgdjldhjajaaaW.PrintLast Go.Proofs.YtgcgdjldhjajaaaW.PrintMore
attribute [local go_sem] max2_int min2_int max_two min_two max_three min_three max_four min_four   -- for this text's walks alone
set_option linter.unusedVariables false
set_option linter.unusedSimpArgs false

/-! ### laws_FnExactCountBy: function 7 -/
def laws_FnExactCountBy.j0 : Nat → List (S80) → List Int → List Int → Bool → Int → Int → Int → Int → Int → Option (Bool)
  | 0, _, _, _, _, _, _, _, _, _ => none
  | k + 1, x0, x6, x8, x48, x244000, x244001, x244002, x244003, x244004 => if x48 = true then (some false) else ((laws_markInt64S.f k x8 1).bind fun bt275 => ((laws_heldInt64S.f k bt275.2 1).bind fun t277 => (if t277 < 0 then (some false) else (if t277 = bt275.1 then ((laws_toRecS.f k x0).bind fun t278 => ((laws_toQuery.f x244000 x244001 x244002 x244003 x244004).bind fun bt281 => ((impl_CountBy.f k t278 bt281.1 bt281.2.1 bt281.2.2.1 bt281.2.2.2.1 bt281.2.2.2.2).bind fun t286 => ((laws_eqInt64S.f k t286 x6).bind fun t289 => (if t289 = true then ((laws_heldInt64S.f k bt275.2 1).bind fun t290 => (if t290 < 0 then (some false) else (if t290 = bt275.1 then (some true) else (some false)))) else (some false)))))) else (some false)))))
def laws_FnExactCountBy.f (k : Nat) (l0 : List (S80)) (a1_0 : Int) (a1_1 : Int) (a1_2 : Int) (a1_3 : Int) (a1_4 : Int) : Option (Bool) := (laws_szRecS.f l0 1048576).bind fun t244 => (if t244 < 0 then (some true) else ((laws_toRecS.f k l0).bind fun t245 => ((laws_toQuery.f a1_0 a1_1 a1_2 a1_3 a1_4).bind fun bt248 => ((spec_CountBy.f k t245 bt248.1 bt248.2.1 bt248.2.2.1 bt248.2.2.2.1 bt248.2.2.2.2).bind fun t253 => ((laws_toRecS.f k l0).bind fun t256 => ((laws_toQuery.f a1_0 a1_1 a1_2 a1_3 a1_4).bind fun bt259 => ((impl_CountBy.f k t256 bt259.1 bt259.2.1 bt259.2.2.1 bt259.2.2.2.1 bt259.2.2.2.2).bind fun t264 => ((laws_eqInt64S.f k t264 t253).bind fun t267 => (if t267 = true then ((laws_toRecS.f k l0).bind fun t268 => ((laws_eqRecS.f k t256 t268).bind fun t271 => (if t271 = true then ((laws_markRecS.f k t256 1).bind fun bt272 => (if bt272.1 < 0 then (laws_FnExactCountBy.j0 k l0 t253 t264 true a1_0 a1_1 a1_2 a1_3 a1_4) else ((laws_eqInt64S.f k t264 t253).bind fun t274 => (laws_FnExactCountBy.j0 k l0 t253 t264 (!t274) a1_0 a1_1 a1_2 a1_3 a1_4)))) else (some false)))) else (some false))))))))))
theorem laws_FnExactCountBy.mono_l : ∀ k, (∀ y0 y1 y2 y3 y4 y5 y6 y7 y8, LeO (laws_FnExactCountBy.j0 k y0 y1 y2 y3 y4 y5 y6 y7 y8) (laws_FnExactCountBy.j0 (k + 1) y0 y1 y2 y3 y4 y5 y6 y7 y8))
  | 0 => fun _ _ _ _ _ _ _ _ _ r h => by simp [laws_FnExactCountBy.j0] at h
  | k + 1 => by
    have ih0 := laws_FnExactCountBy.mono_l k
    · intro y0 y1 y2 y3 y4 y5 y6 y7 y8
      unfold laws_FnExactCountBy.j0
      repeat' first
      | (with_reducible exact ih0 _ _ _ _ _ _ _ _ _)
      | (with_reducible exact impl_CountBy.mono _ _ _ _ _ _ _)
      | (with_reducible exact laws_eqInt64S.mono _ _ _)
      | (with_reducible exact laws_eqRecS.mono _ _ _)
      | (with_reducible exact laws_heldInt64S.mono _ _ _)
      | (with_reducible exact laws_markInt64S.mono _ _ _)
      | (with_reducible exact laws_markRecS.mono _ _ _)
      | (with_reducible exact laws_toRecS.mono _ _)
      | (with_reducible exact spec_CountBy.mono _ _ _ _ _ _ _)
      | (with_reducible exact LeO.refl _)
      | (with_reducible exact LeO.none _)
      | (with_reducible refine LeO.ite ?_ ?_)
      | (with_reducible refine LeO.bind ?_ (fun _ => ?_))
      | exact ih0 _ _ _ _ _ _ _ _ _
      | exact impl_CountBy.mono _ _ _ _ _ _ _
      | exact laws_eqInt64S.mono _ _ _
      | exact laws_eqRecS.mono _ _ _
      | exact laws_heldInt64S.mono _ _ _
      | exact laws_markInt64S.mono _ _ _
      | exact laws_markRecS.mono _ _ _
      | exact laws_toRecS.mono _ _
      | exact spec_CountBy.mono _ _ _ _ _ _ _
      | exact LeO.none _
      | refine LeO.ite ?_ ?_
      | refine LeO.bind ?_ (fun _ => ?_)
theorem laws_FnExactCountBy.mono : ∀ a0 a1 a2 a3 a4 a5 k, LeO (laws_FnExactCountBy.f k a0 a1 a2 a3 a4 a5) (laws_FnExactCountBy.f (k + 1) a0 a1 a2 a3 a4 a5) := by
  intro a0 a1 a2 a3 a4 a5 k
  have ih0 := laws_FnExactCountBy.mono_l k
  unfold laws_FnExactCountBy.f
  repeat' first
      | (with_reducible exact ih0 _ _ _ _ _ _ _ _ _)
      | (with_reducible exact impl_CountBy.mono _ _ _ _ _ _ _)
      | (with_reducible exact laws_eqInt64S.mono _ _ _)
      | (with_reducible exact laws_eqRecS.mono _ _ _)
      | (with_reducible exact laws_heldInt64S.mono _ _ _)
      | (with_reducible exact laws_markInt64S.mono _ _ _)
      | (with_reducible exact laws_markRecS.mono _ _ _)
      | (with_reducible exact laws_toRecS.mono _ _)
      | (with_reducible exact spec_CountBy.mono _ _ _ _ _ _ _)
      | (with_reducible exact LeO.refl _)
      | (with_reducible exact LeO.none _)
      | (with_reducible refine LeO.ite ?_ ?_)
      | (with_reducible refine LeO.bind ?_ (fun _ => ?_))
      | exact ih0 _ _ _ _ _ _ _ _ _
      | exact impl_CountBy.mono _ _ _ _ _ _ _
      | exact laws_eqInt64S.mono _ _ _
      | exact laws_eqRecS.mono _ _ _
      | exact laws_heldInt64S.mono _ _ _
      | exact laws_markInt64S.mono _ _ _
      | exact laws_markRecS.mono _ _ _
      | exact laws_toRecS.mono _ _
      | exact spec_CountBy.mono _ _ _ _ _ _ _
      | exact LeO.none _
      | refine LeO.ite ?_ ?_
      | refine LeO.bind ?_ (fun _ => ?_)
set_option maxHeartbeats 8000000 in
set_option maxRecDepth 100000 in
theorem laws_FnExactCountBy.calls (k : Nat) (A0 : Option Addr) (c0 : Nat) (l0 : List (S80)) (a1_0 : Int) (a1_1 : Int) (a1_2 : Int) (a1_3 : Int) (a1_4 : Int) (r : Bool) (w : World) (hr0 : Kd.C k80 w A0 l0.length l0) (hc0 : l0.length ≤ c0) (ht : r = true) (h : laws_FnExactCountBy.f k l0 a1_0 a1_1 a1_2 a1_3 a1_4 = some r) :
    Calls Try.prog 7 #[.slice A0 l0.length c0, .agg #[.int .i64 a1_0, .int .i64 a1_1, .int .i64 a1_2, .int .i64 a1_3, .int .i64 a1_4]] w fun e w' => e = .returned (.bool r) ∧ Below w.heap.size w w' := by
  have hu40 := Try.underlying40
  have HR0 := Aside0.mk hr0
  have HC0 := Aside0.mk hc0
  clear hr0 hc0
  have HB := Aside0.mk (Below.refl w.heap.size w)
  have H : ((laws_szRecS.f l0 1048576).bind fun t244 => (if t244 < 0 then (some true) else ((laws_toRecS.f k l0).bind fun t245 => ((laws_toQuery.f a1_0 a1_1 a1_2 a1_3 a1_4).bind fun bt248 => ((spec_CountBy.f k t245 bt248.1 bt248.2.1 bt248.2.2.1 bt248.2.2.2.1 bt248.2.2.2.2).bind fun t253 => ((laws_toRecS.f k l0).bind fun t256 => ((laws_toQuery.f a1_0 a1_1 a1_2 a1_3 a1_4).bind fun bt259 => ((impl_CountBy.f k t256 bt259.1 bt259.2.1 bt259.2.2.1 bt259.2.2.2.1 bt259.2.2.2.2).bind fun t264 => ((laws_eqInt64S.f k t264 t253).bind fun t267 => (if t267 = true then ((laws_toRecS.f k l0).bind fun t268 => ((laws_eqRecS.f k t256 t268).bind fun t271 => (if t271 = true then ((laws_markRecS.f k t256 1).bind fun bt272 => (if bt272.1 < 0 then (laws_FnExactCountBy.j0 k l0 t253 t264 true a1_0 a1_1 a1_2 a1_3 a1_4) else ((laws_eqInt64S.f k t264 t253).bind fun t274 => (laws_FnExactCountBy.j0 k l0 t253 t264 (!t274) a1_0 a1_1 a1_2 a1_3 a1_4)))) else (some false)))) else (some false))))))))))) = some r := h
  clear h
  replace H := Option.bind_eq_some_iff.mp H
  obtain ⟨t244, A30, H⟩ := H
  replace H : (if t244 < 0 then (some true) else ((laws_toRecS.f k l0).bind fun t245 => ((laws_toQuery.f a1_0 a1_1 a1_2 a1_3 a1_4).bind fun bt248 => ((spec_CountBy.f k t245 bt248.1 bt248.2.1 bt248.2.2.1 bt248.2.2.2.1 bt248.2.2.2.2).bind fun t253 => ((laws_toRecS.f k l0).bind fun t256 => ((laws_toQuery.f a1_0 a1_1 a1_2 a1_3 a1_4).bind fun bt259 => ((impl_CountBy.f k t256 bt259.1 bt259.2.1 bt259.2.2.1 bt259.2.2.2.1 bt259.2.2.2.2).bind fun t264 => ((laws_eqInt64S.f k t264 t253).bind fun t267 => (if t267 = true then ((laws_toRecS.f k l0).bind fun t268 => ((laws_eqRecS.f k t256 t268).bind fun t271 => (if t271 = true then ((laws_markRecS.f k t256 1).bind fun bt272 => (if bt272.1 < 0 then (laws_FnExactCountBy.j0 k l0 t253 t264 true a1_0 a1_1 a1_2 a1_3 a1_4) else ((laws_eqInt64S.f k t264 t253).bind fun t274 => (laws_FnExactCountBy.j0 k l0 t253 t264 (!t274) a1_0 a1_1 a1_2 a1_3 a1_4)))) else (some false)))) else (some false)))))))))) = some r := H
  have A3 := Aside0.mk A30
  clear A30
  by_cases c4 : t244 < 0
  · rw [if_pos c4] at H
    have c4b0 : decide (t244 < 0) = true := decide_eq_true c4
    clear c4
    clear ht
    obtain rfl := Option.some.inj H
    go_enter Try.func7, Try.ntmps7
    go_wp2_with (first | ((with_reducible refine gate_dst (N := 3) rfl ?_); refine box_event ?hg (N := 3) ?hd (cs := #[.int .i64 a1_0, .int .i64 a1_1, .int .i64 a1_2, .int .i64 a1_3, .int .i64 a1_4]) (t := 40) ?hr ?_; (case hd => rfl); (case hg => rfl); (case hr => first | (go_simp; done) | (go_simp; rfl)); intro gb243 hg w5 hbox hb; have n0_ := Aside0.mk (below_step (by repeat (first | (with_reducible first | exact HB.out | apply below_alloc | apply pw_below_drewN | apply below_drew1) | exact HB.out)) hb); have n1_ := Aside0.mk (hbox); have n2_ := Aside0.mk ((by rw [hg]; exact (below_size (by repeat (first | (with_reducible first | exact HB.out | apply below_alloc | apply pw_below_drewN | apply below_drew1) | exact HB.out))) : w.heap.size ≤ gb243)); have n3_ := Aside0.mk ((by rw [hg]; exact (below_size (by repeat (first | (with_reducible first | exact HB.out | apply below_alloc | apply pw_below_drewN | apply below_drew1) | exact HB.out))) : w.heap.size ≤ gb243)); clear HB; have HB := n0_; have BK243 := n1_; have GW243 := n2_; have GE243 := n3_; clear n0_ n1_ n2_ n3_; clear hb hbox hg) | ((with_reducible refine gate_callee (f := 15) rfl ?_); refine goesL_ (some 15) rfl rfl Try.func15 (by kernel_rfl) rfl #[.slice A0 l0.length c0, .int .i64 1048576] rfl (by (try simp only [List.map_toArray, List.map_cons, List.map_nil]); first | done | rfl | (simp only [List.length_drop, List.length_take]; rfl)) ?_; (with_reducible refine (laws_szRecS.calls _ _ l0 1048576 t244 _ ?side1 ?side2 A3.out).mono ?_); (case side1 => repeat (first | exact (Kd.C_below HR0.out HB.out) | (with_reducible refine Kd.C_alloc ?_ _) | (with_reducible refine Kd.C_drewN ?_ _) | (with_reducible refine Kd.C_drew ?_))); (case side2 => exact HC0.out); rintro e w' ⟨rfl, ⟨nd, rfl⟩⟩; refine ⟨_, rfl, ?_⟩))
    go_ret
    exact ⟨by first | rfl | (simp [errW_none, errW_some] <;> rfl) | (simp [*, errW_none, errW_some] <;> rfl), by repeat (first | (with_reducible first | exact HB.out | apply below_alloc | apply pw_below_drewN | apply below_drew1 | refine below_set ?_ GE243.out) | exact HB.out)⟩
  · rw [if_neg c4] at H
    have c4b0 : decide (t244 < 0) = false := decide_eq_false c4
    clear c4
    replace H := Option.bind_eq_some_iff.mp H
    obtain ⟨t245, A60, H⟩ := H
    replace H : ((laws_toQuery.f a1_0 a1_1 a1_2 a1_3 a1_4).bind fun bt248 => ((spec_CountBy.f k t245 bt248.1 bt248.2.1 bt248.2.2.1 bt248.2.2.2.1 bt248.2.2.2.2).bind fun t253 => ((laws_toRecS.f k l0).bind fun t256 => ((laws_toQuery.f a1_0 a1_1 a1_2 a1_3 a1_4).bind fun bt259 => ((impl_CountBy.f k t256 bt259.1 bt259.2.1 bt259.2.2.1 bt259.2.2.2.1 bt259.2.2.2.2).bind fun t264 => ((laws_eqInt64S.f k t264 t253).bind fun t267 => (if t267 = true then ((laws_toRecS.f k l0).bind fun t268 => ((laws_eqRecS.f k t256 t268).bind fun t271 => (if t271 = true then ((laws_markRecS.f k t256 1).bind fun bt272 => (if bt272.1 < 0 then (laws_FnExactCountBy.j0 k l0 t253 t264 true a1_0 a1_1 a1_2 a1_3 a1_4) else ((laws_eqInt64S.f k t264 t253).bind fun t274 => (laws_FnExactCountBy.j0 k l0 t253 t264 (!t274) a1_0 a1_1 a1_2 a1_3 a1_4)))) else (some false)))) else (some false)))))))) = some r := H
    have A6 := Aside0.mk A60
    clear A60
    replace H := Option.bind_eq_some_iff.mp H
    obtain ⟨⟨t248, t249, t250, t251, t252⟩, A70, H⟩ := H
    replace H : ((spec_CountBy.f k t245 t248 t249 t250 t251 t252).bind fun t253 => ((laws_toRecS.f k l0).bind fun t256 => ((laws_toQuery.f a1_0 a1_1 a1_2 a1_3 a1_4).bind fun bt259 => ((impl_CountBy.f k t256 bt259.1 bt259.2.1 bt259.2.2.1 bt259.2.2.2.1 bt259.2.2.2.2).bind fun t264 => ((laws_eqInt64S.f k t264 t253).bind fun t267 => (if t267 = true then ((laws_toRecS.f k l0).bind fun t268 => ((laws_eqRecS.f k t256 t268).bind fun t271 => (if t271 = true then ((laws_markRecS.f k t256 1).bind fun bt272 => (if bt272.1 < 0 then (laws_FnExactCountBy.j0 k l0 t253 t264 true a1_0 a1_1 a1_2 a1_3 a1_4) else ((laws_eqInt64S.f k t264 t253).bind fun t274 => (laws_FnExactCountBy.j0 k l0 t253 t264 (!t274) a1_0 a1_1 a1_2 a1_3 a1_4)))) else (some false)))) else (some false))))))) = some r := H
    have A7 := Aside0.mk A70
    clear A70
    replace H := Option.bind_eq_some_iff.mp H
    obtain ⟨t253, A80, H⟩ := H
    replace H : ((laws_toRecS.f k l0).bind fun t256 => ((laws_toQuery.f a1_0 a1_1 a1_2 a1_3 a1_4).bind fun bt259 => ((impl_CountBy.f k t256 bt259.1 bt259.2.1 bt259.2.2.1 bt259.2.2.2.1 bt259.2.2.2.2).bind fun t264 => ((laws_eqInt64S.f k t264 t253).bind fun t267 => (if t267 = true then ((laws_toRecS.f k l0).bind fun t268 => ((laws_eqRecS.f k t256 t268).bind fun t271 => (if t271 = true then ((laws_markRecS.f k t256 1).bind fun bt272 => (if bt272.1 < 0 then (laws_FnExactCountBy.j0 k l0 t253 t264 true a1_0 a1_1 a1_2 a1_3 a1_4) else ((laws_eqInt64S.f k t264 t253).bind fun t274 => (laws_FnExactCountBy.j0 k l0 t253 t264 (!t274) a1_0 a1_1 a1_2 a1_3 a1_4)))) else (some false)))) else (some false)))))) = some r := H
    have A8 := Aside0.mk A80
    clear A80
    replace H := Option.bind_eq_some_iff.mp H
    obtain ⟨t256, A90, H⟩ := H
    replace H : ((laws_toQuery.f a1_0 a1_1 a1_2 a1_3 a1_4).bind fun bt259 => ((impl_CountBy.f k t256 bt259.1 bt259.2.1 bt259.2.2.1 bt259.2.2.2.1 bt259.2.2.2.2).bind fun t264 => ((laws_eqInt64S.f k t264 t253).bind fun t267 => (if t267 = true then ((laws_toRecS.f k l0).bind fun t268 => ((laws_eqRecS.f k t256 t268).bind fun t271 => (if t271 = true then ((laws_markRecS.f k t256 1).bind fun bt272 => (if bt272.1 < 0 then (laws_FnExactCountBy.j0 k l0 t253 t264 true a1_0 a1_1 a1_2 a1_3 a1_4) else ((laws_eqInt64S.f k t264 t253).bind fun t274 => (laws_FnExactCountBy.j0 k l0 t253 t264 (!t274) a1_0 a1_1 a1_2 a1_3 a1_4)))) else (some false)))) else (some false))))) = some r := H
    have A9 := Aside0.mk A90
    clear A90
    replace H := Option.bind_eq_some_iff.mp H
    obtain ⟨⟨t259, t260, t261, t262, t263⟩, A100, H⟩ := H
    replace H : ((impl_CountBy.f k t256 t259 t260 t261 t262 t263).bind fun t264 => ((laws_eqInt64S.f k t264 t253).bind fun t267 => (if t267 = true then ((laws_toRecS.f k l0).bind fun t268 => ((laws_eqRecS.f k t256 t268).bind fun t271 => (if t271 = true then ((laws_markRecS.f k t256 1).bind fun bt272 => (if bt272.1 < 0 then (laws_FnExactCountBy.j0 k l0 t253 t264 true a1_0 a1_1 a1_2 a1_3 a1_4) else ((laws_eqInt64S.f k t264 t253).bind fun t274 => (laws_FnExactCountBy.j0 k l0 t253 t264 (!t274) a1_0 a1_1 a1_2 a1_3 a1_4)))) else (some false)))) else (some false)))) = some r := H
    have A10 := Aside0.mk A100
    clear A100
    replace H := Option.bind_eq_some_iff.mp H
    obtain ⟨t264, A110, H⟩ := H
    replace H : ((laws_eqInt64S.f k t264 t253).bind fun t267 => (if t267 = true then ((laws_toRecS.f k l0).bind fun t268 => ((laws_eqRecS.f k t256 t268).bind fun t271 => (if t271 = true then ((laws_markRecS.f k t256 1).bind fun bt272 => (if bt272.1 < 0 then (laws_FnExactCountBy.j0 k l0 t253 t264 true a1_0 a1_1 a1_2 a1_3 a1_4) else ((laws_eqInt64S.f k t264 t253).bind fun t274 => (laws_FnExactCountBy.j0 k l0 t253 t264 (!t274) a1_0 a1_1 a1_2 a1_3 a1_4)))) else (some false)))) else (some false))) = some r := H
    have A11 := Aside0.mk A110
    clear A110
    replace H := Option.bind_eq_some_iff.mp H
    obtain ⟨t267, A120, H⟩ := H
    replace H : (if t267 = true then ((laws_toRecS.f k l0).bind fun t268 => ((laws_eqRecS.f k t256 t268).bind fun t271 => (if t271 = true then ((laws_markRecS.f k t256 1).bind fun bt272 => (if bt272.1 < 0 then (laws_FnExactCountBy.j0 k l0 t253 t264 true a1_0 a1_1 a1_2 a1_3 a1_4) else ((laws_eqInt64S.f k t264 t253).bind fun t274 => (laws_FnExactCountBy.j0 k l0 t253 t264 (!t274) a1_0 a1_1 a1_2 a1_3 a1_4)))) else (some false)))) else (some false)) = some r := H
    have A12 := Aside0.mk A120
    clear A120
    by_cases c13 : t267 = true
    · subst c13
      have H1 : ((laws_toRecS.f k l0).bind fun t268 => ((laws_eqRecS.f k t256 t268).bind fun t271 => (if t271 = true then ((laws_markRecS.f k t256 1).bind fun bt272 => (if bt272.1 < 0 then (laws_FnExactCountBy.j0 k l0 t253 t264 true a1_0 a1_1 a1_2 a1_3 a1_4) else ((laws_eqInt64S.f k t264 t253).bind fun t274 => (laws_FnExactCountBy.j0 k l0 t253 t264 (!t274) a1_0 a1_1 a1_2 a1_3 a1_4)))) else (some false)))) = some r := by rw [if_pos rfl] at H; exact H
      clear H
      have H := H1
      clear H1
      replace H := Option.bind_eq_some_iff.mp H
      obtain ⟨t268, A140, H⟩ := H
      replace H : ((laws_eqRecS.f k t256 t268).bind fun t271 => (if t271 = true then ((laws_markRecS.f k t256 1).bind fun bt272 => (if bt272.1 < 0 then (laws_FnExactCountBy.j0 k l0 t253 t264 true a1_0 a1_1 a1_2 a1_3 a1_4) else ((laws_eqInt64S.f k t264 t253).bind fun t274 => (laws_FnExactCountBy.j0 k l0 t253 t264 (!t274) a1_0 a1_1 a1_2 a1_3 a1_4)))) else (some false))) = some r := H
      have A14 := Aside0.mk A140
      clear A140
      replace H := Option.bind_eq_some_iff.mp H
      obtain ⟨t271, A150, H⟩ := H
      replace H : (if t271 = true then ((laws_markRecS.f k t256 1).bind fun bt272 => (if bt272.1 < 0 then (laws_FnExactCountBy.j0 k l0 t253 t264 true a1_0 a1_1 a1_2 a1_3 a1_4) else ((laws_eqInt64S.f k t264 t253).bind fun t274 => (laws_FnExactCountBy.j0 k l0 t253 t264 (!t274) a1_0 a1_1 a1_2 a1_3 a1_4)))) else (some false)) = some r := H
      have A15 := Aside0.mk A150
      clear A150
      by_cases c16 : t271 = true
      · subst c16
        have H1 : ((laws_markRecS.f k t256 1).bind fun bt272 => (if bt272.1 < 0 then (laws_FnExactCountBy.j0 k l0 t253 t264 true a1_0 a1_1 a1_2 a1_3 a1_4) else ((laws_eqInt64S.f k t264 t253).bind fun t274 => (laws_FnExactCountBy.j0 k l0 t253 t264 (!t274) a1_0 a1_1 a1_2 a1_3 a1_4)))) = some r := by rw [if_pos rfl] at H; exact H
        clear H
        have H := H1
        clear H1
        replace H := Option.bind_eq_some_iff.mp H
        obtain ⟨⟨t272, t273⟩, A170, H⟩ := H
        replace H : (if t272 < 0 then (laws_FnExactCountBy.j0 k l0 t253 t264 true a1_0 a1_1 a1_2 a1_3 a1_4) else ((laws_eqInt64S.f k t264 t253).bind fun t274 => (laws_FnExactCountBy.j0 k l0 t253 t264 (!t274) a1_0 a1_1 a1_2 a1_3 a1_4))) = some r := H
        have A17 := Aside0.mk A170
        clear A170
        have HC18 := Aside0.mk H
        clear H
        go_enter Try.func7, Try.ntmps7
        try go_wp2_with (first | ((with_reducible refine gate_dst (N := 3) rfl ?_); refine box_event ?hg (N := 3) ?hd (cs := #[.int .i64 a1_0, .int .i64 a1_1, .int .i64 a1_2, .int .i64 a1_3, .int .i64 a1_4]) (t := 40) ?hr ?_; (case hd => rfl); (case hg => rfl); (case hr => first | (go_simp; done) | (go_simp; rfl)); intro gb243 hg w19 hbox hb; have n0_ := Aside0.mk (below_step (by repeat (first | (with_reducible first | exact HB.out | apply below_alloc | apply pw_below_drewN | apply below_drew1) | exact HB.out)) hb); have n1_ := Aside0.mk (hbox); have n2_ := Aside0.mk ((by rw [hg]; exact (below_size (by repeat (first | (with_reducible first | exact HB.out | apply below_alloc | apply pw_below_drewN | apply below_drew1) | exact HB.out))) : w.heap.size ≤ gb243)); have n3_ := Aside0.mk ((by rw [hg]; exact (below_size (by repeat (first | (with_reducible first | exact HB.out | apply below_alloc | apply pw_below_drewN | apply below_drew1) | exact HB.out))) : w.heap.size ≤ gb243)); clear HB; have HB := n0_; have BK243 := n1_; have GW243 := n2_; have GE243 := n3_; clear n0_ n1_ n2_ n3_; clear hb hbox hg) | ((with_reducible refine gate_callee (f := 15) rfl ?_); refine goesL_ (some 15) rfl rfl Try.func15 (by kernel_rfl) rfl #[.slice A0 l0.length c0, .int .i64 1048576] rfl (by (try simp only [List.map_toArray, List.map_cons, List.map_nil]); first | done | rfl | (simp only [List.length_drop, List.length_take]; rfl)) ?_; (with_reducible refine (laws_szRecS.calls _ _ l0 1048576 t244 _ ?side1 ?side2 A3.out).mono ?_); (case side1 => repeat (first | exact (Kd.C_below HR0.out HB.out) | (with_reducible refine Kd.C_alloc ?_ _) | (with_reducible refine Kd.C_drewN ?_ _) | (with_reducible refine Kd.C_drew ?_))); (case side2 => exact HC0.out); rintro e w' ⟨rfl, ⟨nd, rfl⟩⟩; refine ⟨_, rfl, ?_⟩))
        (try (rw [drewN_self w19]; generalize hq_ : World.drewN w19 _ = w19; have n0_ : Aside0 (w19.heap[gb243]? = some (.cells #[.int .i64 a1_0, .int .i64 a1_1, .int .i64 a1_2, .int .i64 a1_3, .int .i64 a1_4] 40 (0, 0))) := ⟨by rw [← hq_]; exact (by (with_reducible repeat (first | refine blk_drewN ?_ _ | refine blk_drew ?_ | refine blk_alloc ?_ _)); exact BK243.out)⟩; have n1_ : Aside0 (Below w.heap.size w w19) := ⟨by rw [← hq_]; exact (by repeat (first | (with_reducible first | exact HB.out | apply below_alloc | apply pw_below_drewN | apply below_drew1 | refine below_set ?_ GE243.out) | exact HB.out))⟩; clear BK243 HB hq_; have BK243 := n0_; have HB := n1_; clear n0_ n1_))
        have n0_ := Aside0.mk (blk_drew BK243.out)
        have n1_ := Aside0.mk (below_drew1 HB.out)
        clear BK243
        clear HB
        have BK243 := n0_
        have HB := n1_
        clear n0_ n1_
        refine start_ (n := 6) (S := fun w' => w'.cell? ⟨gb243, 0, none⟩ = some (.int .i64 a1_0) ∧ w'.cell? ⟨gb243, 1, none⟩ = some (.int .i64 a1_1) ∧ w'.cell? ⟨gb243, 2, none⟩ = some (.int .i64 a1_2) ∧ w'.cell? ⟨gb243, 3, none⟩ = some (.int .i64 a1_3) ∧ w'.cell? ⟨gb243, 4, none⟩ = some (.int .i64 a1_4)) (ds := []) (tf 0 6) (by kernel_rfl) rfl rfl ⟨(blk_cell BK243.out 0).trans rfl, (blk_cell BK243.out 1).trans rfl, (blk_cell BK243.out 2).trans rfl, (blk_cell BK243.out 3).trans rfl, (blk_cell BK243.out 4).trans rfl⟩ (fun hHeld => ?_)
        generalize w19.drew = w20 at BK243 HB hHeld ⊢
        refine pure_ (i := 0) (N := some 18) (v := ?_) (a' := ?_) (tf 1 5) rfl rfl (by kernel_rfl) (fun _ _ _ h => h) (Or.inl ⟨by rfl, ?_⟩) ?_ ?_
        rotate_left; (focus intro w'; go_simp; with_reducible rfl)
        rotate_left; (focus simp only [Act.put, List.setIfInBounds_toArray, List.set_cons_zero, List.set_cons_succ, i64_w, i32_w]; rfl)
        refine take_ (i := 2) (N := some 20) (v := ?_) (a' := ?_) #[true, false, true, false, false, false] rfl rfl (by kernel_rfl) (fun _ _ _ h => h) (Or.inl ⟨by rfl, ?_⟩) hHeld ?_ ?_
        rotate_left
        · rintro w' ⟨s0, s1, s2, s3, s4⟩
          go_simp
          with_reducible rfl
        rotate_left; (focus simp only [Act.put, List.setIfInBounds_toArray, List.set_cons_zero, List.set_cons_succ, i64_w, i32_w]; rfl)
        refine one_ (i := 1) (N := some 19) (tf 3 3) rfl rfl (by kernel_rfl) (by decide) (fun K hK => ?_)
        refine goes_ Try.func17 (by kernel_rfl) rfl #[.slice A0 l0.length c0] (by rfl) rfl rfl (by (try simp only [List.map_toArray, List.map_cons, List.map_nil]); first | done | rfl | (simp only [List.length_drop, List.length_take]; rfl)) ?_
        with_reducible refine (laws_toRecS.calls k _ _ l0 t245 _ ?side1 ?side2 A6.out).mono ?_
        (case side1 => repeat (first | exact (Kd.C_below HR0.out HB.out) | (with_reducible refine Kd.C_alloc ?_ _) | (with_reducible refine Kd.C_drewN ?_ _) | (with_reducible refine Kd.C_drew ?_)))
        (case side2 => exact HC0.out)
        rintro e w21 ⟨v246, rfl, ho0, hb⟩
        refine ⟨_, rfl, ?_⟩
        have n0_ := Aside0.mk (Kd.R_lower ho0 (below_size (by repeat (first | (with_reducible first | exact HB.out | apply below_alloc | apply pw_below_drewN | apply below_drew1 | refine below_set ?_ GE243.out) | exact HB.out))))
        have n1_ := Aside0.mk (blk_below (g := gb243) (o := .cells #[.int .i64 a1_0, .int .i64 a1_1, .int .i64 a1_2, .int .i64 a1_3, .int .i64 a1_4] 40 (0, 0)) (by (with_reducible repeat (first | refine blk_drewN ?_ _ | refine blk_drew ?_ | refine blk_alloc ?_ _)); exact BK243.out) hb)
        have n2_ := Aside0.mk (below_step (by repeat (first | (with_reducible first | exact HB.out | apply below_alloc | apply pw_below_drewN | apply below_drew1 | refine below_set ?_ GE243.out) | exact HB.out)) hb)
        clear BK243
        clear HB
        have HO247 := n0_
        have BK243 := n1_
        have HB := n2_
        clear n0_ n1_ n2_
        (try clear hb)
        (try clear hb2)
        (try clear hk)
        (try clear hi)
        (try clear ho0)
        refine hK.out _ _ ⟨(blk_cell BK243.out 0).trans rfl, (blk_cell BK243.out 1).trans rfl, (blk_cell BK243.out 2).trans rfl, (blk_cell BK243.out 3).trans rfl, (blk_cell BK243.out 4).trans rfl⟩ (fun hHeld => ?_)
        clear hK K
        refine norm_ (a' := ?_) ?_ ?_
        rotate_left
        · show Act.put _ (some 19) _ = _
          simp only [Act.put, List.setIfInBounds_toArray, List.set_cons_zero, List.set_cons_succ, i64_w, i32_w]
          rfl
        refine one_ (i := 3) (N := some 21) (tf 4 2) rfl rfl (by kernel_rfl) (by decide) (fun K hK => ?_)
        refine goes_ Try.func27 (by kernel_rfl) rfl #[.agg #[.int .i64 a1_0, .int .i64 a1_1, .int .i64 a1_2, .int .i64 a1_3, .int .i64 a1_4]] (by rfl) rfl rfl (by (try simp only [List.map_toArray, List.map_cons, List.map_nil]); first | done | rfl | (simp only [List.length_drop, List.length_take]; rfl)) ?_
        with_reducible refine (laws_toQuery.calls a1_0 a1_1 a1_2 a1_3 a1_4 t248 t249 t250 t251 t252 _ A7.out).mono ?_
        rintro e w22 ⟨rfl, hb⟩
        refine ⟨_, rfl, ?_⟩
        have n0_ := Aside0.mk (Kd.R_below (by (with_reducible repeat (first | apply Kd.R_alloc | apply Kd.R_drewN | apply Kd.R_drew)); exact HO247.out) hb)
        have n1_ := Aside0.mk (blk_below (g := gb243) (o := .cells #[.int .i64 a1_0, .int .i64 a1_1, .int .i64 a1_2, .int .i64 a1_3, .int .i64 a1_4] 40 (0, 0)) (by (with_reducible repeat (first | refine blk_drewN ?_ _ | refine blk_drew ?_ | refine blk_alloc ?_ _)); exact BK243.out) hb)
        have n2_ := Aside0.mk (below_step (by repeat (first | (with_reducible first | exact HB.out | apply below_alloc | apply pw_below_drewN | apply below_drew1 | refine below_set ?_ GE243.out) | exact HB.out)) hb)
        clear HO247
        clear BK243
        clear HB
        have HO247 := n0_
        have BK243 := n1_
        have HB := n2_
        clear n0_ n1_ n2_
        (try clear hb)
        (try clear hb2)
        (try clear hk)
        (try clear hi)
        obtain ⟨Ao23, co23, eo23⟩ := Kd.R_slice HO247.out
        (first | subst eo23 | (injection eo23 with f1_ f2_ f3_; have f4_ := f1_.symm; have f5_ := f3_.symm; clear f1_ f2_ f3_; subst f4_; subst f5_))
        refine hK.out _ _ ⟨(blk_cell BK243.out 0).trans rfl, (blk_cell BK243.out 1).trans rfl, (blk_cell BK243.out 2).trans rfl, (blk_cell BK243.out 3).trans rfl, (blk_cell BK243.out 4).trans rfl⟩ (fun hHeld => ?_)
        clear hK K
        refine norm_ (a' := ?_) ?_ ?_
        rotate_left
        · show Act.put _ (some 21) _ = _
          simp only [Act.put, List.setIfInBounds_toArray, List.set_cons_zero, List.set_cons_succ, i64_w, i32_w]
          rfl
        refine one_ (i := 4) (N := some 22) (tf 5 1) rfl rfl (by kernel_rfl) (by decide) (fun K hK => ?_)
        refine goes_ Try.func33 (by kernel_rfl) rfl #[.slice Ao23 t245.length co23, .agg #[.int .i64 t248, .int .i64 t249, .int .i64 t250, .int .i64 t251, .int .i64 t252]] (by rfl) rfl rfl (by (try simp only [List.map_toArray, List.map_cons, List.map_nil]); first | done | rfl | (simp only [List.length_drop, List.length_take]; rfl)) ?_
        with_reducible refine (spec_CountBy.calls k _ _ t245 t248 t249 t250 t251 t252 t253 _ ?side1 ?side2 A8.out).mono ?_
        (case side1 => repeat (first | exact (Kd.R_reads' HO247.out).2.2 | (with_reducible refine Kd.C_alloc ?_ _) | (with_reducible refine Kd.C_drewN ?_ _) | (with_reducible refine Kd.C_drew ?_)))
        (case side2 => exact (Kd.R_reads' HO247.out).2.1)
        rintro e w24 ⟨v254, rfl, ho0, hb⟩
        refine ⟨_, rfl, ?_⟩
        have n0_ := Aside0.mk (Kd.R_below (by (with_reducible repeat (first | apply Kd.R_alloc | apply Kd.R_drewN | apply Kd.R_drew)); exact HO247.out) hb)
        have n1_ := Aside0.mk (Kd.R_lower ho0 (below_size (by repeat (first | (with_reducible first | exact HB.out | apply below_alloc | apply pw_below_drewN | apply below_drew1 | refine below_set ?_ GE243.out) | exact HB.out))))
        have n2_ := Aside0.mk (blk_below (g := gb243) (o := .cells #[.int .i64 a1_0, .int .i64 a1_1, .int .i64 a1_2, .int .i64 a1_3, .int .i64 a1_4] 40 (0, 0)) (by (with_reducible repeat (first | refine blk_drewN ?_ _ | refine blk_drew ?_ | refine blk_alloc ?_ _)); exact BK243.out) hb)
        have n3_ := Aside0.mk (below_step (by repeat (first | (with_reducible first | exact HB.out | apply below_alloc | apply pw_below_drewN | apply below_drew1 | refine below_set ?_ GE243.out) | exact HB.out)) hb)
        clear HO247
        clear BK243
        clear HB
        have HO247 := n0_
        have HO255 := n1_
        have BK243 := n2_
        have HB := n3_
        clear n0_ n1_ n2_ n3_
        (try clear hb)
        (try clear hb2)
        (try clear hk)
        (try clear hi)
        (try clear ho0)
        refine hK.out _ _ ⟨(blk_cell BK243.out 0).trans rfl, (blk_cell BK243.out 1).trans rfl, (blk_cell BK243.out 2).trans rfl, (blk_cell BK243.out 3).trans rfl, (blk_cell BK243.out 4).trans rfl⟩ (fun hHeld => ?_)
        clear hK K
        refine norm_ (a' := ?_) ?_ ?_
        rotate_left
        · show Act.put _ (some 22) _ = _
          simp only [Act.put, List.setIfInBounds_toArray, List.set_cons_zero, List.set_cons_succ, i64_w, i32_w]
          rfl
        refine pure_ (i := 5) (N := some 6) (v := ?_) (a' := ?_) (tf 6 0) rfl rfl (by kernel_rfl) (fun _ _ _ h => h) (Or.inl ⟨by rfl, ?_⟩) ?_ ?_
        rotate_left; (focus intro w'; go_simp; with_reducible rfl)
        rotate_left; (focus simp only [Act.put, List.setIfInBounds_toArray, List.set_cons_zero, List.set_cons_succ, i64_w, i32_w]; rfl)
        refine done_ (by kernel_rfl) ?_
        go_upto_region 14 with (first | ((with_reducible refine gate_callee (f := 17) rfl ?_); refine goesL_ (some 24) rfl rfl Try.func17 (by kernel_rfl) rfl #[.slice A0 l0.length c0] rfl (by (try simp only [List.map_toArray, List.map_cons, List.map_nil]); first | done | rfl | (simp only [List.length_drop, List.length_take]; rfl)) ?_; (with_reducible refine (laws_toRecS.calls k _ _ l0 t256 _ ?side1 ?side2 A9.out).mono ?_); (case side1 => repeat (first | exact (Kd.C_below HR0.out HB.out) | (with_reducible refine Kd.C_alloc ?_ _) | (with_reducible refine Kd.C_drewN ?_ _) | (with_reducible refine Kd.C_drew ?_))); (case side2 => exact HC0.out); rintro e w25 ⟨v257, rfl, ho0, hb⟩; refine ⟨_, rfl, ?_⟩; have n0_ := Aside0.mk (Kd.R_elder' (by (with_reducible repeat (first | apply Kd.R_alloc | apply Kd.R_drewN | apply Kd.R_drew)); exact HO247.out) (Kd.R_base ho0) hb); have n1_ := Aside0.mk (Kd.R_below (by (with_reducible repeat (first | apply Kd.R_alloc | apply Kd.R_drewN | apply Kd.R_drew)); exact HO255.out) hb); have n2_ := Aside0.mk (Kd.R_lower (Kd.R_new' ho0 (Kd.R_lt (by (with_reducible repeat (first | apply Kd.R_alloc | apply Kd.R_drewN | apply Kd.R_drew)); exact HO247.out))) (below_size (by repeat (first | (with_reducible first | exact HB.out | apply below_alloc | apply pw_below_drewN | apply below_drew1 | refine below_set ?_ GE243.out) | exact HB.out)))); have n3_ := Aside0.mk (blk_below (g := gb243) (o := .cells #[.int .i64 a1_0, .int .i64 a1_1, .int .i64 a1_2, .int .i64 a1_3, .int .i64 a1_4] 40 (0, 0)) (by (with_reducible repeat (first | refine blk_drewN ?_ _ | refine blk_drew ?_ | refine blk_alloc ?_ _)); exact BK243.out) hb); have n4_ := Aside0.mk (below_step (by repeat (first | (with_reducible first | exact HB.out | apply below_alloc | apply pw_below_drewN | apply below_drew1 | refine below_set ?_ GE243.out) | exact HB.out)) hb); clear HO247; clear HO255; clear BK243; clear HB; have HO247 := n0_; have HO255 := n1_; have HO258 := n2_; have BK243 := n3_; have HB := n4_; clear n0_ n1_ n2_ n3_ n4_; (try clear hb); (try clear hb2); (try clear hk); (try clear hi); (try clear ho0); have hcz26_0 : w25.cell? ⟨gb243, 0, none⟩ = some (.int .i64 a1_0) := (blk_cell BK243.out 0).trans rfl; have hcz26_1 : w25.cell? ⟨gb243, 1, none⟩ = some (.int .i64 a1_1) := (blk_cell BK243.out 1).trans rfl; have hcz26_2 : w25.cell? ⟨gb243, 2, none⟩ = some (.int .i64 a1_2) := (blk_cell BK243.out 2).trans rfl; have hcz26_3 : w25.cell? ⟨gb243, 3, none⟩ = some (.int .i64 a1_3) := (blk_cell BK243.out 3).trans rfl; have hcz26_4 : w25.cell? ⟨gb243, 4, none⟩ = some (.int .i64 a1_4) := (blk_cell BK243.out 4).trans rfl; have hfz26_0 := blk_frozen BK243.out 0; have hfz26_1 := blk_frozen BK243.out 1; have hfz26_2 := blk_frozen BK243.out 2; have hfz26_3 := blk_frozen BK243.out 3; have hfz26_4 := blk_frozen BK243.out 4) | ((with_reducible refine gate_callee (f := 27) rfl ?_); refine goesL_ (some 27) rfl rfl Try.func27 (by kernel_rfl) rfl #[.agg #[.int .i64 a1_0, .int .i64 a1_1, .int .i64 a1_2, .int .i64 a1_3, .int .i64 a1_4]] rfl (by (try simp only [List.map_toArray, List.map_cons, List.map_nil]); first | done | rfl | (simp only [List.length_drop, List.length_take]; rfl)) ?_; (with_reducible refine (laws_toQuery.calls a1_0 a1_1 a1_2 a1_3 a1_4 t259 t260 t261 t262 t263 _ A10.out).mono ?_); rintro e w27 ⟨rfl, hb⟩; refine ⟨_, rfl, ?_⟩; have n0_ := Aside0.mk (Kd.R_below (by (with_reducible repeat (first | apply Kd.R_alloc | apply Kd.R_drewN | apply Kd.R_drew)); exact HO247.out) hb); have n1_ := Aside0.mk (Kd.R_below (by (with_reducible repeat (first | apply Kd.R_alloc | apply Kd.R_drewN | apply Kd.R_drew)); exact HO255.out) hb); have n2_ := Aside0.mk (Kd.R_below (by (with_reducible repeat (first | apply Kd.R_alloc | apply Kd.R_drewN | apply Kd.R_drew)); exact HO258.out) hb); have n3_ := Aside0.mk (blk_below (g := gb243) (o := .cells #[.int .i64 a1_0, .int .i64 a1_1, .int .i64 a1_2, .int .i64 a1_3, .int .i64 a1_4] 40 (0, 0)) (by (with_reducible repeat (first | refine blk_drewN ?_ _ | refine blk_drew ?_ | refine blk_alloc ?_ _)); exact BK243.out) hb); have n4_ := Aside0.mk (below_step (by repeat (first | (with_reducible first | exact HB.out | apply below_alloc | apply pw_below_drewN | apply below_drew1 | refine below_set ?_ GE243.out) | exact HB.out)) hb); clear HO247; clear HO255; clear HO258; clear BK243; clear HB; have HO247 := n0_; have HO255 := n1_; have HO258 := n2_; have BK243 := n3_; have HB := n4_; clear n0_ n1_ n2_ n3_ n4_; (try clear hb); (try clear hb2); (try clear hk); (try clear hi); obtain ⟨Ao28, co28, eo28⟩ := Kd.R_slice HO258.out; subst eo28) | ((with_reducible refine gate_callee (f := 34) rfl ?_); refine goesL_ (some 28) rfl rfl Try.func34 (by kernel_rfl) rfl #[.slice Ao28 t256.length co28, .agg #[.int .i64 t259, .int .i64 t260, .int .i64 t261, .int .i64 t262, .int .i64 t263]] rfl (by (try simp only [List.map_toArray, List.map_cons, List.map_nil]); first | done | rfl | (simp only [List.length_drop, List.length_take]; rfl)) ?_; (with_reducible refine (impl_CountBy.calls k _ _ t256 t259 t260 t261 t262 t263 t264 _ ?side1 ?side2 A11.out).mono ?_); (case side1 => repeat (first | exact (Kd.R_reads' HO258.out).2.2 | (with_reducible refine Kd.C_alloc ?_ _) | (with_reducible refine Kd.C_drewN ?_ _) | (with_reducible refine Kd.C_drew ?_))); (case side2 => exact (Kd.R_reads' HO258.out).2.1); rintro e w29 ⟨v265, rfl, ho0, hb⟩; refine ⟨_, rfl, ?_⟩; have n0_ := Aside0.mk (Kd.R_below (by (with_reducible repeat (first | apply Kd.R_alloc | apply Kd.R_drewN | apply Kd.R_drew)); exact HO247.out) hb); have n1_ := Aside0.mk (Kd.R_elder' (by (with_reducible repeat (first | apply Kd.R_alloc | apply Kd.R_drewN | apply Kd.R_drew)); exact HO255.out) (Kd.R_base ho0) hb); have n2_ := Aside0.mk (Kd.R_below (by (with_reducible repeat (first | apply Kd.R_alloc | apply Kd.R_drewN | apply Kd.R_drew)); exact HO258.out) hb); have n3_ := Aside0.mk (Kd.R_lower (Kd.R_new' ho0 (Kd.R_lt (by (with_reducible repeat (first | apply Kd.R_alloc | apply Kd.R_drewN | apply Kd.R_drew)); exact HO255.out))) (below_size (by repeat (first | (with_reducible first | exact HB.out | apply below_alloc | apply pw_below_drewN | apply below_drew1 | refine below_set ?_ GE243.out) | exact HB.out)))); have n4_ := Aside0.mk (blk_below (g := gb243) (o := .cells #[.int .i64 a1_0, .int .i64 a1_1, .int .i64 a1_2, .int .i64 a1_3, .int .i64 a1_4] 40 (0, 0)) (by (with_reducible repeat (first | refine blk_drewN ?_ _ | refine blk_drew ?_ | refine blk_alloc ?_ _)); exact BK243.out) hb); have n5_ := Aside0.mk (below_step (by repeat (first | (with_reducible first | exact HB.out | apply below_alloc | apply pw_below_drewN | apply below_drew1 | refine below_set ?_ GE243.out) | exact HB.out)) hb); clear HO247; clear HO255; clear HO258; clear BK243; clear HB; have HO247 := n0_; have HO255 := n1_; have HO258 := n2_; have HO266 := n3_; have BK243 := n4_; have HB := n5_; clear n0_ n1_ n2_ n3_ n4_ n5_; (try clear hb); (try clear hb2); (try clear hk); (try clear hi); (try clear ho0); obtain ⟨Ao30, co30, eo30⟩ := Kd.R_slice HO266.out; subst eo30; obtain ⟨Ao31, co31, eo31⟩ := Kd.R_slice HO255.out; subst eo31) | ((with_reducible refine gate_callee (f := 29) rfl ?_); refine goesL_ (some 31) rfl rfl Try.func29 (by kernel_rfl) rfl #[.slice Ao30 t264.length co30, .slice Ao31 t253.length co31] rfl (by (try simp only [List.map_toArray, List.map_cons, List.map_nil]); first | done | rfl | (simp only [List.length_drop, List.length_take]; rfl)) ?_; (with_reducible refine (laws_eqInt64S.calls k _ _ t264 _ _ t253 true _ ?side1 ?side2 ?side3 ?side4 A12.out).mono ?_); (case side1 => repeat (first | exact (Kd.R_reads' HO266.out).2.2 | (with_reducible refine Kd.C_alloc ?_ _) | (with_reducible refine Kd.C_drewN ?_ _) | (with_reducible refine Kd.C_drew ?_))); (case side2 => exact (Kd.R_reads' HO266.out).2.1); (case side3 => repeat (first | exact (Kd.R_reads' HO255.out).2.2 | (with_reducible refine Kd.C_alloc ?_ _) | (with_reducible refine Kd.C_drewN ?_ _) | (with_reducible refine Kd.C_drew ?_))); (case side4 => exact (Kd.R_reads' HO255.out).2.1); rintro e w' ⟨rfl, ⟨nd, rfl⟩⟩; refine ⟨_, rfl, ?_⟩) | ((with_reducible refine gate_callee (f := 17) rfl ?_); refine goesL_ (some 35) rfl rfl Try.func17 (by kernel_rfl) rfl #[.slice A0 l0.length c0] rfl (by (try simp only [List.map_toArray, List.map_cons, List.map_nil]); first | done | rfl | (simp only [List.length_drop, List.length_take]; rfl)) ?_; (with_reducible refine (laws_toRecS.calls k _ _ l0 t268 _ ?side1 ?side2 A14.out).mono ?_); (case side1 => repeat (first | exact (Kd.C_below HR0.out (by repeat (first | (with_reducible first | exact HB.out | apply below_alloc | apply pw_below_drewN | apply below_drew1 | refine below_set ?_ GE243.out) | exact HB.out))) | (with_reducible refine Kd.C_alloc ?_ _) | (with_reducible refine Kd.C_drewN ?_ _) | (with_reducible refine Kd.C_drew ?_))); (case side2 => exact HC0.out); rintro e w32 ⟨v269, rfl, ho0, hb⟩; refine ⟨_, rfl, ?_⟩; have n0_ := Aside0.mk (Kd.R_elder' (by (with_reducible repeat (first | apply Kd.R_alloc | apply Kd.R_drewN | apply Kd.R_drew)); exact HO247.out) (Kd.R_base ho0) hb); have n1_ := Aside0.mk (Kd.R_below (by (with_reducible repeat (first | apply Kd.R_alloc | apply Kd.R_drewN | apply Kd.R_drew)); exact HO255.out) hb); have n2_ := Aside0.mk (Kd.R_elder' (by (with_reducible repeat (first | apply Kd.R_alloc | apply Kd.R_drewN | apply Kd.R_drew)); exact HO258.out) (Kd.R_base ho0) hb); have n3_ := Aside0.mk (Kd.R_below (by (with_reducible repeat (first | apply Kd.R_alloc | apply Kd.R_drewN | apply Kd.R_drew)); exact HO266.out) hb); have n4_ := Aside0.mk (Kd.R_lower (Kd.R_new' (Kd.R_new' ho0 (Kd.R_lt (by (with_reducible repeat (first | apply Kd.R_alloc | apply Kd.R_drewN | apply Kd.R_drew)); exact HO247.out))) (Kd.R_lt (by (with_reducible repeat (first | apply Kd.R_alloc | apply Kd.R_drewN | apply Kd.R_drew)); exact HO258.out))) (below_size (by repeat (first | (with_reducible first | exact HB.out | apply below_alloc | apply pw_below_drewN | apply below_drew1 | refine below_set ?_ GE243.out) | exact HB.out)))); have n5_ := Aside0.mk (blk_below (g := gb243) (o := .cells #[.int .i64 a1_0, .int .i64 a1_1, .int .i64 a1_2, .int .i64 a1_3, .int .i64 a1_4] 40 (0, 0)) (by (with_reducible repeat (first | refine blk_drewN ?_ _ | refine blk_drew ?_ | refine blk_alloc ?_ _)); exact BK243.out) hb); have n6_ := Aside0.mk (below_step (by repeat (first | (with_reducible first | exact HB.out | apply below_alloc | apply pw_below_drewN | apply below_drew1 | refine below_set ?_ GE243.out) | exact HB.out)) hb); clear HO247; clear HO255; clear HO258; clear HO266; clear BK243; clear HB; have HO247 := n0_; have HO255 := n1_; have HO258 := n2_; have HO266 := n3_; have HO270 := n4_; have BK243 := n5_; have HB := n6_; clear n0_ n1_ n2_ n3_ n4_ n5_ n6_; (try clear hb); (try clear hb2); (try clear hk); (try clear hi); (try clear ho0); obtain ⟨Ao33, co33, eo33⟩ := Kd.R_slice HO270.out; subst eo33) | ((with_reducible refine gate_callee (f := 20) rfl ?_); refine goesL_ (some 36) rfl rfl Try.func20 (by kernel_rfl) rfl #[.slice Ao28 t256.length co28, .slice Ao33 t268.length co33] rfl (by (try simp only [List.map_toArray, List.map_cons, List.map_nil]); first | done | rfl | (simp only [List.length_drop, List.length_take]; rfl)) ?_; (with_reducible refine (laws_eqRecS.calls k _ _ t256 _ _ t268 true _ ?side1 ?side2 ?side3 ?side4 A15.out).mono ?_); (case side1 => repeat (first | exact (Kd.R_reads' HO258.out).2.2 | (with_reducible refine Kd.C_alloc ?_ _) | (with_reducible refine Kd.C_drewN ?_ _) | (with_reducible refine Kd.C_drew ?_))); (case side2 => exact (Kd.R_reads' HO258.out).2.1); (case side3 => repeat (first | exact (Kd.R_reads' HO270.out).2.2 | (with_reducible refine Kd.C_alloc ?_ _) | (with_reducible refine Kd.C_drewN ?_ _) | (with_reducible refine Kd.C_drew ?_))); (case side4 => exact (Kd.R_reads' HO270.out).2.1); rintro e w34 ⟨rfl, hb⟩; refine ⟨_, rfl, ?_⟩; have n0_ := Aside0.mk (Kd.R_below (by (with_reducible repeat (first | apply Kd.R_alloc | apply Kd.R_drewN | apply Kd.R_drew)); exact HO247.out) hb); have n1_ := Aside0.mk (Kd.R_below (by (with_reducible repeat (first | apply Kd.R_alloc | apply Kd.R_drewN | apply Kd.R_drew)); exact HO255.out) hb); have n2_ := Aside0.mk (Kd.R_below (by (with_reducible repeat (first | apply Kd.R_alloc | apply Kd.R_drewN | apply Kd.R_drew)); exact HO258.out) hb); have n3_ := Aside0.mk (Kd.R_below (by (with_reducible repeat (first | apply Kd.R_alloc | apply Kd.R_drewN | apply Kd.R_drew)); exact HO266.out) hb); have n4_ := Aside0.mk (Kd.R_below (by (with_reducible repeat (first | apply Kd.R_alloc | apply Kd.R_drewN | apply Kd.R_drew)); exact HO270.out) hb); have n5_ := Aside0.mk (blk_below (g := gb243) (o := .cells #[.int .i64 a1_0, .int .i64 a1_1, .int .i64 a1_2, .int .i64 a1_3, .int .i64 a1_4] 40 (0, 0)) (by (with_reducible repeat (first | refine blk_drewN ?_ _ | refine blk_drew ?_ | refine blk_alloc ?_ _)); exact BK243.out) hb); have n6_ := Aside0.mk (below_step (by repeat (first | (with_reducible first | exact HB.out | apply below_alloc | apply pw_below_drewN | apply below_drew1 | refine below_set ?_ GE243.out) | exact HB.out)) hb); clear HO247; clear HO255; clear HO258; clear HO266; clear HO270; clear BK243; clear HB; have HO247 := n0_; have HO255 := n1_; have HO258 := n2_; have HO266 := n3_; have HO270 := n4_; have BK243 := n5_; have HB := n6_; clear n0_ n1_ n2_ n3_ n4_ n5_ n6_; (try clear hb); (try clear hb2); (try clear hk); (try clear hi)) | ((with_reducible refine gate_callee (f := 30) rfl ?_); refine goesL_ (some 40) rfl rfl Try.func30 (by kernel_rfl) rfl #[.slice Ao28 t256.length co28, .int .i64 1] rfl (by (try simp only [List.map_toArray, List.map_cons, List.map_nil]); first | done | rfl | (simp only [List.length_drop, List.length_take]; rfl)) ?_; (with_reducible refine (laws_markRecS.calls k (fun k_ => some k_ = (.slice Ao28 t256.length co28 : Value).ownBlock) (.slice Ao28 t256.length co28) t256 1 t272 t273 w _ ?side1 ?side2 A17.out).mono ?_); (case side1 => repeat (first | (with_reducible first | exact HB.out | apply below_alloc | apply pw_below_drewN | apply below_drew1 | refine below_set ?_ GE243.out) | exact HB.out)); (case side2 => exact Kd.R_tight rfl HO258.out); rintro e w35 ⟨rfl, hy0, hb, hkp⟩; refine ⟨_, rfl, ?_⟩; have n0_ := Aside0.mk (blk_kept (by (with_reducible repeat (first | refine blk_drewN ?_ _ | refine blk_drew ?_ | refine blk_alloc ?_ _)); exact BK243.out) hkp (fun hs_ => (fun e_ => (Kd.R_ne HO258.out BK243.out (by decide)) e_) hs_)); have n1_ := Aside0.mk (Kd.R_mono (ok' := fun k_ => some k_ ≠ (.slice Ao28 t256.length co28 : Value).ownBlock ∧ some k_ ≠ (.slice Ao33 t268.length co33 : Value).ownBlock) (Kd.R_keptB (HO247.out) hkp (fun k_ hk_ hs_ => (hk_.1.2) hs_)) (fun k_ hk_ => ⟨hk_.1.1.2, hk_.1.2⟩)); have n2_ := Aside0.mk (Kd.R_mono (ok' := fun k_ => some k_ ≠ (.slice Ao30 t264.length co30 : Value).ownBlock) (Kd.R_keptB ((Kd.R_apart' HO255.out (Kd.R_typed HO258.out) (by decide))) hkp (fun k_ hk_ hs_ => (hk_.2) hs_)) (fun k_ hk_ => hk_.1.1.2)); have n3_ := Aside0.mk (Kd.R_reok rfl hy0 (fun k_ e_ => HO258.out.1 k_ e_)); have n4_ := Aside0.mk (Kd.R_mono (ok' := fun k_ => some k_ ≠ (.slice Ao31 t253.length co31 : Value).ownBlock) (Kd.R_keptB ((Kd.R_apart' HO266.out (Kd.R_typed HO258.out) (by decide))) hkp (fun k_ hk_ hs_ => (hk_.2) hs_)) (fun k_ hk_ => hk_.1.1.2)); have n5_ := Aside0.mk (Kd.R_mono (ok' := fun k_ => some k_ ≠ (.slice Ao23 t245.length co23 : Value).ownBlock ∧ some k_ ≠ (.slice Ao28 t256.length co28 : Value).ownBlock) (Kd.R_keptB (HO270.out) hkp (fun k_ hk_ hs_ => (hk_.2) hs_)) (fun k_ hk_ => ⟨hk_.1.1.2, hk_.1.2⟩)); have n6_ := Aside0.mk (hb); clear BK243; clear HO247; clear HO255; clear HO258; clear HO266; clear HO270; clear HB; have BK243 := n0_; have HO247 := n1_; have HO255 := n2_; have HO258 := n3_; have HO266 := n4_; have HO270 := n5_; have HB := n6_; clear n0_ n1_ n2_ n3_ n4_ n5_ n6_; (try clear hb); (try clear hkp); (try clear hy0)))
        (try simp only [Act.put, List.setIfInBounds_toArray, List.set_cons_zero, List.set_cons_succ])
        go_cut [48] (fun v48 wc => ∃ (kq : Nat) (x48_17 : Bool), v48 = .bool x48_17 ∧ Aside0 (laws_FnExactCountBy.j0 kq l0 t253 t264 x48_17 a1_0 a1_1 a1_2 a1_3 a1_4 = some r) ∧ Aside0 (kq ≤ k) ∧ Aside0 (Kd.R (Kd.int .i64) 2 wc w.heap.size (fun k_ => some k_ ≠ ((.slice Ao30 t264.length co30) : Value).ownBlock) (.slice Ao31 t253.length co31) t253) ∧ Aside0 (Kd.R (Kd.int .i64) 2 wc w.heap.size (fun k_ => some k_ ≠ ((.slice Ao31 t253.length co31) : Value).ownBlock) (.slice Ao30 t264.length co30) t264) ∧ Aside0 (wc.heap[gb243]? = some (.cells #[.int .i64 a1_0, .int .i64 a1_1, .int .i64 a1_2, .int .i64 a1_3, .int .i64 a1_4] 40 (0, 0))) ∧ Aside0 (Below w.heap.size w wc))
        case first =>
          have H := HC18.out
          clear HC18
          by_cases c36 : t272 < 0
          · rw [if_pos c36] at H
            have c36b0 : decide (t272 < 0) = true := decide_eq_true c36
            clear c36
            (first | rw [c36b0] | (simp only [i64_w, i32_w]; rw [c36b0]) | skip)
            have H' := Aside0.mk H
            clear H
            go_wp2
            go_meet
            case rel => exact ⟨_, (true), (by first | rfl | (simp; done) | (simp [*]; done)), H', ⟨by first | omega | exact Nat.le_refl _⟩, ⟨by (with_reducible repeat (first | apply Kd.R_alloc | apply Kd.R_drewN | apply Kd.R_drew)); exact HO255.out⟩, ⟨by (with_reducible repeat (first | apply Kd.R_alloc | apply Kd.R_drewN | apply Kd.R_drew)); exact HO266.out⟩, ⟨by (with_reducible repeat (first | refine blk_drewN ?_ _ | refine blk_drew ?_ | refine blk_alloc ?_ _)); exact BK243.out⟩, ⟨by repeat (first | (with_reducible first | exact HB.out | apply below_alloc | apply pw_below_drewN | apply below_drew1 | refine below_set ?_ GE243.out) | exact HB.out)⟩⟩
          · rw [if_neg c36] at H
            have c36b0 : decide (t272 < 0) = false := decide_eq_false c36
            clear c36
            (first | rw [c36b0] | (simp only [i64_w, i32_w]; rw [c36b0]) | skip)
            replace H := Option.bind_eq_some_iff.mp H
            obtain ⟨t274, A370, H⟩ := H
            replace H : (laws_FnExactCountBy.j0 k l0 t253 t264 (!t274) a1_0 a1_1 a1_2 a1_3 a1_4) = some r := H
            have A37 := Aside0.mk A370
            clear A370
            have H' := Aside0.mk H
            clear H
            go_wp2_with (first | (go_at_call 29; (with_reducible refine (laws_eqInt64S.calls k _ _ t264 _ _ t253 t274 _ ?side1 ?side2 ?side3 ?side4 A37.out).mono ?_); (case side1 => repeat (first | exact (Kd.R_reads' HO266.out).2.2 | (with_reducible refine Kd.C_alloc ?_ _) | (with_reducible refine Kd.C_drewN ?_ _) | (with_reducible refine Kd.C_drew ?_))); (case side2 => exact (Kd.R_reads' HO266.out).2.1); (case side3 => repeat (first | exact (Kd.R_reads' HO255.out).2.2 | (with_reducible refine Kd.C_alloc ?_ _) | (with_reducible refine Kd.C_drewN ?_ _) | (with_reducible refine Kd.C_drew ?_))); (case side4 => exact (Kd.R_reads' HO255.out).2.1); rintro e w' ⟨rfl, ⟨nd, rfl⟩⟩))
            go_meet
            case rel => exact ⟨_, (!t274), (by first | rfl | (simp; done) | (simp [*]; done)), H', ⟨by first | omega | exact Nat.le_refl _⟩, ⟨by (with_reducible repeat (first | apply Kd.R_alloc | apply Kd.R_drewN | apply Kd.R_drew)); exact HO255.out⟩, ⟨by (with_reducible repeat (first | apply Kd.R_alloc | apply Kd.R_drewN | apply Kd.R_drew)); exact HO266.out⟩, ⟨by (with_reducible repeat (first | refine blk_drewN ?_ _ | refine blk_drew ?_ | refine blk_alloc ?_ _)); exact BK243.out⟩, ⟨by repeat (first | (with_reducible first | exact HB.out | apply below_alloc | apply pw_below_drewN | apply below_drew1 | refine below_set ?_ GE243.out) | exact HB.out)⟩⟩
        case rest =>
          clear HC18
          try clear c1
          try clear c2
          try clear p2
          try clear c3
          try clear c4
          try clear c4b0
          try clear c7
          try clear c13
          try clear c15
          try clear c16
          try clear c17
          try clear c20
          try clear c27
          try clear c29
          try clear c30
          try clear c33
          try clear c34
          try clear c36
          try clear c36b0
          try clear hcz26_0
          try clear hcz26_1
          try clear hcz26_2
          try clear hcz26_3
          try clear hcz26_4
          try clear hfz26_0
          try clear hfz26_1
          try clear hfz26_2
          try clear hfz26_3
          try clear hfz26_4
          obtain ⟨kq, x48_17, rfl, HA, HJ17, HO_6, HO_8, BK243, HB⟩ := hcut
          cases kq with
          | zero => exact absurd HA.out (by simp [laws_FnExactCountBy.j0])
          | succ kj17 =>
            have H := HA.out
            clear HA
            simp only [laws_FnExactCountBy.j0] at H
            by_cases c38 : x48_17 = true
            · subst c38
              have H1 : (some false) = some r := by rw [if_pos rfl] at H; exact H
              clear H
              have H := H1
              clear H1
              obtain rfl := Option.some.inj H
              exact absurd ht (by decide)
            · replace c38 := Bool.eq_false_iff.mpr c38
              subst c38
              have H1 : ((laws_markInt64S.f kj17 t264 1).bind fun bt275 => ((laws_heldInt64S.f kj17 bt275.2 1).bind fun t277 => (if t277 < 0 then (some false) else (if t277 = bt275.1 then ((laws_toRecS.f kj17 l0).bind fun t278 => ((laws_toQuery.f a1_0 a1_1 a1_2 a1_3 a1_4).bind fun bt281 => ((impl_CountBy.f kj17 t278 bt281.1 bt281.2.1 bt281.2.2.1 bt281.2.2.2.1 bt281.2.2.2.2).bind fun t286 => ((laws_eqInt64S.f kj17 t286 t253).bind fun t289 => (if t289 = true then ((laws_heldInt64S.f kj17 bt275.2 1).bind fun t290 => (if t290 < 0 then (some false) else (if t290 = bt275.1 then (some true) else (some false)))) else (some false)))))) else (some false))))) = some r := by rw [if_neg (show ¬ (false = true) by decide)] at H; exact H
              clear H
              have H := H1
              clear H1
              replace H := Option.bind_eq_some_iff.mp H
              obtain ⟨⟨t275, t276⟩, A390, H⟩ := H
              replace H : ((laws_heldInt64S.f kj17 t276 1).bind fun t277 => (if t277 < 0 then (some false) else (if t277 = t275 then ((laws_toRecS.f kj17 l0).bind fun t278 => ((laws_toQuery.f a1_0 a1_1 a1_2 a1_3 a1_4).bind fun bt281 => ((impl_CountBy.f kj17 t278 bt281.1 bt281.2.1 bt281.2.2.1 bt281.2.2.2.1 bt281.2.2.2.2).bind fun t286 => ((laws_eqInt64S.f kj17 t286 t253).bind fun t289 => (if t289 = true then ((laws_heldInt64S.f kj17 t276 1).bind fun t290 => (if t290 < 0 then (some false) else (if t290 = t275 then (some true) else (some false)))) else (some false)))))) else (some false)))) = some r := H
              have A39 := Aside0.mk A390
              clear A390
              replace H := Option.bind_eq_some_iff.mp H
              obtain ⟨t277, A400, H⟩ := H
              replace H : (if t277 < 0 then (some false) else (if t277 = t275 then ((laws_toRecS.f kj17 l0).bind fun t278 => ((laws_toQuery.f a1_0 a1_1 a1_2 a1_3 a1_4).bind fun bt281 => ((impl_CountBy.f kj17 t278 bt281.1 bt281.2.1 bt281.2.2.1 bt281.2.2.2.1 bt281.2.2.2.2).bind fun t286 => ((laws_eqInt64S.f kj17 t286 t253).bind fun t289 => (if t289 = true then ((laws_heldInt64S.f kj17 t276 1).bind fun t290 => (if t290 < 0 then (some false) else (if t290 = t275 then (some true) else (some false)))) else (some false)))))) else (some false))) = some r := H
              have A40 := Aside0.mk A400
              clear A400
              by_cases c41 : t277 < 0
              · rw [if_pos c41] at H
                have c41b0 : decide (t277 < 0) = true := decide_eq_true c41
                clear c41
                obtain rfl := Option.some.inj H
                exact absurd ht (by decide)
              · rw [if_neg c41] at H
                have c41b0 : decide (t277 < 0) = false := decide_eq_false c41
                clear c41
                by_cases c42 : t277 = t275
                · rw [if_pos c42] at H
                  have c42b0 : (t277 == t275) = true := beq_iff_eq.mpr c42
                  have c42b1 : (t277 != t275) = false := bne_eq_false_iff_eq.mpr c42
                  clear c42
                  replace H := Option.bind_eq_some_iff.mp H
                  obtain ⟨t278, A430, H⟩ := H
                  replace H : ((laws_toQuery.f a1_0 a1_1 a1_2 a1_3 a1_4).bind fun bt281 => ((impl_CountBy.f kj17 t278 bt281.1 bt281.2.1 bt281.2.2.1 bt281.2.2.2.1 bt281.2.2.2.2).bind fun t286 => ((laws_eqInt64S.f kj17 t286 t253).bind fun t289 => (if t289 = true then ((laws_heldInt64S.f kj17 t276 1).bind fun t290 => (if t290 < 0 then (some false) else (if t290 = t275 then (some true) else (some false)))) else (some false))))) = some r := H
                  have A43 := Aside0.mk A430
                  clear A430
                  replace H := Option.bind_eq_some_iff.mp H
                  obtain ⟨⟨t281, t282, t283, t284, t285⟩, A440, H⟩ := H
                  replace H : ((impl_CountBy.f kj17 t278 t281 t282 t283 t284 t285).bind fun t286 => ((laws_eqInt64S.f kj17 t286 t253).bind fun t289 => (if t289 = true then ((laws_heldInt64S.f kj17 t276 1).bind fun t290 => (if t290 < 0 then (some false) else (if t290 = t275 then (some true) else (some false)))) else (some false)))) = some r := H
                  have A44 := Aside0.mk A440
                  clear A440
                  replace H := Option.bind_eq_some_iff.mp H
                  obtain ⟨t286, A450, H⟩ := H
                  replace H : ((laws_eqInt64S.f kj17 t286 t253).bind fun t289 => (if t289 = true then ((laws_heldInt64S.f kj17 t276 1).bind fun t290 => (if t290 < 0 then (some false) else (if t290 = t275 then (some true) else (some false)))) else (some false))) = some r := H
                  have A45 := Aside0.mk A450
                  clear A450
                  replace H := Option.bind_eq_some_iff.mp H
                  obtain ⟨t289, A460, H⟩ := H
                  replace H : (if t289 = true then ((laws_heldInt64S.f kj17 t276 1).bind fun t290 => (if t290 < 0 then (some false) else (if t290 = t275 then (some true) else (some false)))) else (some false)) = some r := H
                  have A46 := Aside0.mk A460
                  clear A460
                  by_cases c47 : t289 = true
                  · subst c47
                    have H1 : ((laws_heldInt64S.f kj17 t276 1).bind fun t290 => (if t290 < 0 then (some false) else (if t290 = t275 then (some true) else (some false)))) = some r := by rw [if_pos rfl] at H; exact H
                    clear H
                    have H := H1
                    clear H1
                    replace H := Option.bind_eq_some_iff.mp H
                    obtain ⟨t290, A480, H⟩ := H
                    replace H : (if t290 < 0 then (some false) else (if t290 = t275 then (some true) else (some false))) = some r := H
                    have A48 := Aside0.mk A480
                    clear A480
                    by_cases c49 : t290 < 0
                    · rw [if_pos c49] at H
                      have c49b0 : decide (t290 < 0) = true := decide_eq_true c49
                      clear c49
                      obtain rfl := Option.some.inj H
                      exact absurd ht (by decide)
                    · rw [if_neg c49] at H
                      have c49b0 : decide (t290 < 0) = false := decide_eq_false c49
                      clear c49
                      by_cases c50 : t290 = t275
                      · rw [if_pos c50] at H
                        have c50b0 : (t290 == t275) = true := beq_iff_eq.mpr c50
                        have c50b1 : (t290 != t275) = false := bne_eq_false_iff_eq.mpr c50
                        clear c50
                        clear ht
                        obtain rfl := Option.some.inj H
                        try go_wp2_with (first | ((with_reducible refine gate_callee (f := 31) rfl ?_); refine goesL_ (some 51) rfl rfl Try.func31 (by kernel_rfl) rfl #[.slice Ao30 t264.length co30, .int .i64 1] rfl (by (try simp only [List.map_toArray, List.map_cons, List.map_nil]); first | done | rfl | (simp only [List.length_drop, List.length_take]; rfl)) ?_; (with_reducible refine (laws_markInt64S.calls kj17 (fun k_ => some k_ = (.slice Ao30 t264.length co30 : Value).ownBlock) (.slice Ao30 t264.length co30) t264 1 t275 t276 w _ ?side1 ?side2 A39.out).mono ?_); (case side1 => repeat (first | (with_reducible first | exact HB.out | apply below_alloc | apply pw_below_drewN | apply below_drew1 | refine below_set ?_ GE243.out) | exact HB.out)); (case side2 => exact Kd.R_tight rfl HO_8.out); rintro e w51 ⟨rfl, hy0, hb, hkp⟩; refine ⟨_, rfl, ?_⟩; have n0_ := Aside0.mk (Kd.R_mono (ok' := fun k_ => some k_ ≠ (.slice Ao30 t264.length co30 : Value).ownBlock) (Kd.R_keptB (HO_6.out) hkp (fun k_ hk_ hs_ => (hk_) hs_)) (fun k_ hk_ => hk_.1)); have n1_ := Aside0.mk (Kd.R_reok rfl hy0 (fun k_ e_ => HO_8.out.1 k_ e_)); have n2_ := Aside0.mk (blk_kept (by (with_reducible repeat (first | refine blk_drewN ?_ _ | refine blk_drew ?_ | refine blk_alloc ?_ _)); exact BK243.out) hkp (fun hs_ => (fun e_ => (Kd.R_ne HO_8.out BK243.out (by decide)) e_) hs_)); have n3_ := Aside0.mk (hb); clear HO_6; clear HO_8; clear BK243; clear HB; have HO_6 := n0_; have HO_8 := n1_; have BK243 := n2_; have HB := n3_; clear n0_ n1_ n2_ n3_; (try clear hb); (try clear hkp); (try clear hy0)) | ((with_reducible refine gate_callee (f := 32) rfl ?_); refine goesL_ (some 54) rfl rfl Try.func32 (by kernel_rfl) rfl #[.slice Ao30 t276.length co30, .int .i64 1] rfl (by (try simp only [List.map_toArray, List.map_cons, List.map_nil]); first | done | (rw [show t276.length = t264.length from (Kd.R_reads' HO_8.out).1.symm] <;> rfl) | rfl | (simp only [List.length_drop, List.length_take]; rfl)) ?_; (with_reducible refine (laws_heldInt64S.calls kj17 _ _ t276 1 t277 _ ?side1 ?side2 A40.out).mono ?_); (case side1 => repeat (first | exact (Kd.R_reads' HO_8.out).2.2 | (with_reducible refine Kd.C_alloc ?_ _) | (with_reducible refine Kd.C_drewN ?_ _) | (with_reducible refine Kd.C_drew ?_))); (case side2 => rw [show t276.length = t264.length from (Kd.R_reads' HO_8.out).1.symm]; exact (Kd.R_reads' HO_8.out).2.1); rintro e w' ⟨rfl, ⟨nd, rfl⟩⟩; refine ⟨_, rfl, ?_⟩))
                        (try (rw [drewN_self w51]; generalize hq_ : World.drewN w51 _ = w51; have n0_ : Aside0 (Kd.R (Kd.int .i64) 2 w51 w.heap.size (fun k_ => some k_ ≠ (.slice Ao30 t264.length co30 : Value).ownBlock) (.slice Ao31 t253.length co31) t253) := ⟨by rw [← hq_]; exact (by (with_reducible repeat (first | apply Kd.R_alloc | apply Kd.R_drewN | apply Kd.R_drew)); exact HO_6.out)⟩; have n1_ : Aside0 (Kd.R (Kd.int .i64) 2 w51 w.heap.size (fun k_ => some k_ ≠ (.slice Ao31 t253.length co31 : Value).ownBlock) (.slice Ao30 t264.length co30) t276) := ⟨by rw [← hq_]; exact (by (with_reducible repeat (first | apply Kd.R_alloc | apply Kd.R_drewN | apply Kd.R_drew)); exact HO_8.out)⟩; have n2_ : Aside0 (w51.heap[gb243]? = some (.cells #[.int .i64 a1_0, .int .i64 a1_1, .int .i64 a1_2, .int .i64 a1_3, .int .i64 a1_4] 40 (0, 0))) := ⟨by rw [← hq_]; exact (by (with_reducible repeat (first | refine blk_drewN ?_ _ | refine blk_drew ?_ | refine blk_alloc ?_ _)); exact BK243.out)⟩; have n3_ : Aside0 (Below w.heap.size w w51) := ⟨by rw [← hq_]; exact (by repeat (first | (with_reducible first | exact HB.out | apply below_alloc | apply pw_below_drewN | apply below_drew1 | refine below_set ?_ GE243.out) | exact HB.out))⟩; clear HO_6 HO_8 BK243 HB hq_; have HO_6 := n0_; have HO_8 := n1_; have BK243 := n2_; have HB := n3_; clear n0_ n1_ n2_ n3_))
                        have n0_ := Aside0.mk (Kd.R_drew HO_6.out)
                        have n1_ := Aside0.mk (Kd.R_drew HO_8.out)
                        have n2_ := Aside0.mk (blk_drew BK243.out)
                        have n3_ := Aside0.mk (below_drew1 HB.out)
                        clear HO_6
                        clear HO_8
                        clear BK243
                        clear HB
                        have HO_6 := n0_
                        have HO_8 := n1_
                        have BK243 := n2_
                        have HB := n3_
                        clear n0_ n1_ n2_ n3_
                        refine start_ (n := 6) (S := fun w' => w'.cell? ⟨gb243, 0, none⟩ = some (.int .i64 a1_0) ∧ w'.cell? ⟨gb243, 1, none⟩ = some (.int .i64 a1_1) ∧ w'.cell? ⟨gb243, 2, none⟩ = some (.int .i64 a1_2) ∧ w'.cell? ⟨gb243, 3, none⟩ = some (.int .i64 a1_3) ∧ w'.cell? ⟨gb243, 4, none⟩ = some (.int .i64 a1_4)) (ds := []) (tf 0 6) (by kernel_rfl) rfl rfl ⟨(blk_cell BK243.out 0).trans rfl, (blk_cell BK243.out 1).trans rfl, (blk_cell BK243.out 2).trans rfl, (blk_cell BK243.out 3).trans rfl, (blk_cell BK243.out 4).trans rfl⟩ (fun hHeld => ?_)
                        generalize w51.drew = w52 at HO_6 HO_8 BK243 HB hHeld ⊢
                        refine pure_ (i := 0) (N := some 60) (v := ?_) (a' := ?_) (tf 1 5) rfl rfl (by kernel_rfl) (fun _ _ _ h => h) (Or.inl ⟨by rfl, ?_⟩) ?_ ?_
                        rotate_left; (focus intro w'; go_simp; with_reducible rfl)
                        rotate_left; (focus simp only [Act.put, List.setIfInBounds_toArray, List.set_cons_zero, List.set_cons_succ, i64_w, i32_w]; rfl)
                        refine take_ (i := 2) (N := some 62) (v := ?_) (a' := ?_) #[true, false, true, false, false, false] rfl rfl (by kernel_rfl) (fun _ _ _ h => h) (Or.inl ⟨by rfl, ?_⟩) hHeld ?_ ?_
                        rotate_left
                        · rintro w' ⟨s0, s1, s2, s3, s4⟩
                          go_simp
                          with_reducible rfl
                        rotate_left; (focus simp only [Act.put, List.setIfInBounds_toArray, List.set_cons_zero, List.set_cons_succ, i64_w, i32_w]; rfl)
                        refine one_ (i := 1) (N := some 61) (tf 3 3) rfl rfl (by kernel_rfl) (by decide) (fun K hK => ?_)
                        refine goes_ Try.func17 (by kernel_rfl) rfl #[.slice A0 l0.length c0] (by rfl) rfl rfl (by (try simp only [List.map_toArray, List.map_cons, List.map_nil]); first | done | rfl | (simp only [List.length_drop, List.length_take]; rfl)) ?_
                        with_reducible refine (laws_toRecS.calls kj17 _ _ l0 t278 _ ?side1 ?side2 A43.out).mono ?_
                        (case side1 => repeat (first | exact (Kd.C_below HR0.out HB.out) | (with_reducible refine Kd.C_alloc ?_ _) | (with_reducible refine Kd.C_drewN ?_ _) | (with_reducible refine Kd.C_drew ?_)))
                        (case side2 => exact HC0.out)
                        rintro e w53 ⟨v279, rfl, ho0, hb⟩
                        refine ⟨_, rfl, ?_⟩
                        have n0_ := Aside0.mk (Kd.R_below (by (with_reducible repeat (first | apply Kd.R_alloc | apply Kd.R_drewN | apply Kd.R_drew)); exact HO_6.out) hb)
                        have n1_ := Aside0.mk (Kd.R_below (by (with_reducible repeat (first | apply Kd.R_alloc | apply Kd.R_drewN | apply Kd.R_drew)); exact HO_8.out) hb)
                        have n2_ := Aside0.mk (Kd.R_lower ho0 (below_size (by repeat (first | (with_reducible first | exact HB.out | apply below_alloc | apply pw_below_drewN | apply below_drew1 | refine below_set ?_ GE243.out) | exact HB.out))))
                        have n3_ := Aside0.mk (blk_below (g := gb243) (o := .cells #[.int .i64 a1_0, .int .i64 a1_1, .int .i64 a1_2, .int .i64 a1_3, .int .i64 a1_4] 40 (0, 0)) (by (with_reducible repeat (first | refine blk_drewN ?_ _ | refine blk_drew ?_ | refine blk_alloc ?_ _)); exact BK243.out) hb)
                        have n4_ := Aside0.mk (below_step (by repeat (first | (with_reducible first | exact HB.out | apply below_alloc | apply pw_below_drewN | apply below_drew1 | refine below_set ?_ GE243.out) | exact HB.out)) hb)
                        clear HO_6
                        clear HO_8
                        clear BK243
                        clear HB
                        have HO_6 := n0_
                        have HO_8 := n1_
                        have HO280 := n2_
                        have BK243 := n3_
                        have HB := n4_
                        clear n0_ n1_ n2_ n3_ n4_
                        (try clear hb)
                        (try clear hb2)
                        (try clear hk)
                        (try clear hi)
                        (try clear ho0)
                        refine hK.out _ _ ⟨(blk_cell BK243.out 0).trans rfl, (blk_cell BK243.out 1).trans rfl, (blk_cell BK243.out 2).trans rfl, (blk_cell BK243.out 3).trans rfl, (blk_cell BK243.out 4).trans rfl⟩ (fun hHeld => ?_)
                        clear hK K
                        refine norm_ (a' := ?_) ?_ ?_
                        rotate_left
                        · show Act.put _ (some 61) _ = _
                          simp only [Act.put, List.setIfInBounds_toArray, List.set_cons_zero, List.set_cons_succ, i64_w, i32_w]
                          rfl
                        refine one_ (i := 3) (N := some 63) (tf 4 2) rfl rfl (by kernel_rfl) (by decide) (fun K hK => ?_)
                        refine goes_ Try.func27 (by kernel_rfl) rfl #[.agg #[.int .i64 a1_0, .int .i64 a1_1, .int .i64 a1_2, .int .i64 a1_3, .int .i64 a1_4]] (by rfl) rfl rfl (by (try simp only [List.map_toArray, List.map_cons, List.map_nil]); first | done | rfl | (simp only [List.length_drop, List.length_take]; rfl)) ?_
                        with_reducible refine (laws_toQuery.calls a1_0 a1_1 a1_2 a1_3 a1_4 t281 t282 t283 t284 t285 _ A44.out).mono ?_
                        rintro e w54 ⟨rfl, hb⟩
                        refine ⟨_, rfl, ?_⟩
                        have n0_ := Aside0.mk (Kd.R_below (by (with_reducible repeat (first | apply Kd.R_alloc | apply Kd.R_drewN | apply Kd.R_drew)); exact HO_6.out) hb)
                        have n1_ := Aside0.mk (Kd.R_below (by (with_reducible repeat (first | apply Kd.R_alloc | apply Kd.R_drewN | apply Kd.R_drew)); exact HO_8.out) hb)
                        have n2_ := Aside0.mk (Kd.R_below (by (with_reducible repeat (first | apply Kd.R_alloc | apply Kd.R_drewN | apply Kd.R_drew)); exact HO280.out) hb)
                        have n3_ := Aside0.mk (blk_below (g := gb243) (o := .cells #[.int .i64 a1_0, .int .i64 a1_1, .int .i64 a1_2, .int .i64 a1_3, .int .i64 a1_4] 40 (0, 0)) (by (with_reducible repeat (first | refine blk_drewN ?_ _ | refine blk_drew ?_ | refine blk_alloc ?_ _)); exact BK243.out) hb)
                        have n4_ := Aside0.mk (below_step (by repeat (first | (with_reducible first | exact HB.out | apply below_alloc | apply pw_below_drewN | apply below_drew1 | refine below_set ?_ GE243.out) | exact HB.out)) hb)
                        clear HO_6
                        clear HO_8
                        clear HO280
                        clear BK243
                        clear HB
                        have HO_6 := n0_
                        have HO_8 := n1_
                        have HO280 := n2_
                        have BK243 := n3_
                        have HB := n4_
                        clear n0_ n1_ n2_ n3_ n4_
                        (try clear hb)
                        (try clear hb2)
                        (try clear hk)
                        (try clear hi)
                        obtain ⟨Ao55, co55, eo55⟩ := Kd.R_slice HO280.out
                        (first | subst eo55 | (injection eo55 with f1_ f2_ f3_; have f4_ := f1_.symm; have f5_ := f3_.symm; clear f1_ f2_ f3_; subst f4_; subst f5_))
                        refine hK.out _ _ ⟨(blk_cell BK243.out 0).trans rfl, (blk_cell BK243.out 1).trans rfl, (blk_cell BK243.out 2).trans rfl, (blk_cell BK243.out 3).trans rfl, (blk_cell BK243.out 4).trans rfl⟩ (fun hHeld => ?_)
                        clear hK K
                        refine norm_ (a' := ?_) ?_ ?_
                        rotate_left
                        · show Act.put _ (some 63) _ = _
                          simp only [Act.put, List.setIfInBounds_toArray, List.set_cons_zero, List.set_cons_succ, i64_w, i32_w]
                          rfl
                        refine one_ (i := 4) (N := some 64) (tf 5 1) rfl rfl (by kernel_rfl) (by decide) (fun K hK => ?_)
                        refine goes_ Try.func34 (by kernel_rfl) rfl #[.slice Ao55 t278.length co55, .agg #[.int .i64 t281, .int .i64 t282, .int .i64 t283, .int .i64 t284, .int .i64 t285]] (by rfl) rfl rfl (by (try simp only [List.map_toArray, List.map_cons, List.map_nil]); first | done | rfl | (simp only [List.length_drop, List.length_take]; rfl)) ?_
                        with_reducible refine (impl_CountBy.calls kj17 _ _ t278 t281 t282 t283 t284 t285 t286 _ ?side1 ?side2 A45.out).mono ?_
                        (case side1 => repeat (first | exact (Kd.R_reads' HO280.out).2.2 | (with_reducible refine Kd.C_alloc ?_ _) | (with_reducible refine Kd.C_drewN ?_ _) | (with_reducible refine Kd.C_drew ?_)))
                        (case side2 => exact (Kd.R_reads' HO280.out).2.1)
                        rintro e w56 ⟨v287, rfl, ho0, hb⟩
                        refine ⟨_, rfl, ?_⟩
                        have n0_ := Aside0.mk (Kd.R_elder' (by (with_reducible repeat (first | apply Kd.R_alloc | apply Kd.R_drewN | apply Kd.R_drew)); exact HO_6.out) (Kd.R_base ho0) hb)
                        have n1_ := Aside0.mk (Kd.R_elder' (by (with_reducible repeat (first | apply Kd.R_alloc | apply Kd.R_drewN | apply Kd.R_drew)); exact HO_8.out) (Kd.R_base ho0) hb)
                        have n2_ := Aside0.mk (Kd.R_below (by (with_reducible repeat (first | apply Kd.R_alloc | apply Kd.R_drewN | apply Kd.R_drew)); exact HO280.out) hb)
                        have n3_ := Aside0.mk (Kd.R_lower (Kd.R_new' (Kd.R_new' ho0 (Kd.R_lt (by (with_reducible repeat (first | apply Kd.R_alloc | apply Kd.R_drewN | apply Kd.R_drew)); exact HO_6.out))) (Kd.R_lt (by (with_reducible repeat (first | apply Kd.R_alloc | apply Kd.R_drewN | apply Kd.R_drew)); exact HO_8.out))) (below_size (by repeat (first | (with_reducible first | exact HB.out | apply below_alloc | apply pw_below_drewN | apply below_drew1 | refine below_set ?_ GE243.out) | exact HB.out))))
                        have n4_ := Aside0.mk (blk_below (g := gb243) (o := .cells #[.int .i64 a1_0, .int .i64 a1_1, .int .i64 a1_2, .int .i64 a1_3, .int .i64 a1_4] 40 (0, 0)) (by (with_reducible repeat (first | refine blk_drewN ?_ _ | refine blk_drew ?_ | refine blk_alloc ?_ _)); exact BK243.out) hb)
                        have n5_ := Aside0.mk (below_step (by repeat (first | (with_reducible first | exact HB.out | apply below_alloc | apply pw_below_drewN | apply below_drew1 | refine below_set ?_ GE243.out) | exact HB.out)) hb)
                        clear HO_6
                        clear HO_8
                        clear HO280
                        clear BK243
                        clear HB
                        have HO_6 := n0_
                        have HO_8 := n1_
                        have HO280 := n2_
                        have HO288 := n3_
                        have BK243 := n4_
                        have HB := n5_
                        clear n0_ n1_ n2_ n3_ n4_ n5_
                        (try clear hb)
                        (try clear hb2)
                        (try clear hk)
                        (try clear hi)
                        (try clear ho0)
                        refine hK.out _ _ ⟨(blk_cell BK243.out 0).trans rfl, (blk_cell BK243.out 1).trans rfl, (blk_cell BK243.out 2).trans rfl, (blk_cell BK243.out 3).trans rfl, (blk_cell BK243.out 4).trans rfl⟩ (fun hHeld => ?_)
                        clear hK K
                        refine norm_ (a' := ?_) ?_ ?_
                        rotate_left
                        · show Act.put _ (some 64) _ = _
                          simp only [Act.put, List.setIfInBounds_toArray, List.set_cons_zero, List.set_cons_succ, i64_w, i32_w]
                          rfl
                        refine pure_ (i := 5) (N := some 12) (v := ?_) (a' := ?_) (tf 6 0) rfl rfl (by kernel_rfl) (fun _ _ _ h => h) (Or.inl ⟨by rfl, ?_⟩) ?_ ?_
                        rotate_left; (focus intro w'; go_simp; with_reducible rfl)
                        rotate_left; (focus simp only [Act.put, List.setIfInBounds_toArray, List.set_cons_zero, List.set_cons_succ, i64_w, i32_w]; rfl)
                        refine done_ (by kernel_rfl) ?_
                        obtain ⟨Ao57, co57, eo57⟩ := Kd.R_slice HO288.out
                        subst eo57
                        try go_wp2_with (first | ((with_reducible refine gate_callee (f := 29) rfl ?_); refine goesL_ (some 67) rfl rfl Try.func29 (by kernel_rfl) rfl #[.slice Ao57 t286.length co57, .slice Ao31 t253.length co31] rfl (by (try simp only [List.map_toArray, List.map_cons, List.map_nil]); first | done | rfl | (simp only [List.length_drop, List.length_take]; rfl)) ?_; (with_reducible refine (laws_eqInt64S.calls kj17 _ _ t286 _ _ t253 true _ ?side1 ?side2 ?side3 ?side4 A46.out).mono ?_); (case side1 => repeat (first | exact (Kd.R_reads' HO288.out).2.2 | (with_reducible refine Kd.C_alloc ?_ _) | (with_reducible refine Kd.C_drewN ?_ _) | (with_reducible refine Kd.C_drew ?_))); (case side2 => exact (Kd.R_reads' HO288.out).2.1); (case side3 => repeat (first | exact (Kd.R_reads' HO_6.out).2.2 | (with_reducible refine Kd.C_alloc ?_ _) | (with_reducible refine Kd.C_drewN ?_ _) | (with_reducible refine Kd.C_drew ?_))); (case side4 => exact (Kd.R_reads' HO_6.out).2.1); rintro e w' ⟨rfl, ⟨nd, rfl⟩⟩; refine ⟨_, rfl, ?_⟩) | ((with_reducible refine gate_callee (f := 32) rfl ?_); refine goesL_ (some 71) rfl rfl Try.func32 (by kernel_rfl) rfl #[.slice Ao30 t276.length co30, .int .i64 1] rfl (by (try simp only [List.map_toArray, List.map_cons, List.map_nil]); first | done | (rw [show t276.length = t264.length from (Kd.R_reads' HO_8.out).1.symm] <;> rfl) | rfl | (simp only [List.length_drop, List.length_take]; rfl)) ?_; (with_reducible refine (laws_heldInt64S.calls kj17 _ _ t276 1 t290 _ ?side1 ?side2 A48.out).mono ?_); (case side1 => repeat (first | exact (Kd.R_reads' HO_8.out).2.2 | (with_reducible refine Kd.C_alloc ?_ _) | (with_reducible refine Kd.C_drewN ?_ _) | (with_reducible refine Kd.C_drew ?_))); (case side2 => rw [show t276.length = t264.length from (Kd.R_reads' HO_8.out).1.symm]; exact (Kd.R_reads' HO_8.out).2.1); rintro e w' ⟨rfl, ⟨nd, rfl⟩⟩; refine ⟨_, rfl, ?_⟩))
                        go_ret
                        exact ⟨by first | rfl | (simp [errW_none, errW_some] <;> rfl) | (simp [*, errW_none, errW_some] <;> rfl), by repeat (first | (with_reducible first | exact HB.out | apply below_alloc | apply pw_below_drewN | apply below_drew1 | refine below_set ?_ GE243.out) | exact HB.out)⟩
                      · rw [if_neg c50] at H
                        have c50b0 : (t290 == t275) = false := beq_eq_false_iff_ne.mpr c50
                        have c50b1 : (t290 != t275) = true := bne_iff_ne.mpr c50
                        obtain rfl := Option.some.inj H
                        exact absurd ht (by decide)
                  · replace c47 := Bool.eq_false_iff.mpr c47
                    subst c47
                    have H1 : (some false) = some r := by rw [if_neg (show ¬ (false = true) by decide)] at H; exact H
                    clear H
                    have H := H1
                    clear H1
                    obtain rfl := Option.some.inj H
                    exact absurd ht (by decide)
                · rw [if_neg c42] at H
                  have c42b0 : (t277 == t275) = false := beq_eq_false_iff_ne.mpr c42
                  have c42b1 : (t277 != t275) = true := bne_iff_ne.mpr c42
                  obtain rfl := Option.some.inj H
                  exact absurd ht (by decide)
      · replace c16 := Bool.eq_false_iff.mpr c16
        subst c16
        have H1 : (some false) = some r := by rw [if_neg (show ¬ (false = true) by decide)] at H; exact H
        clear H
        have H := H1
        clear H1
        obtain rfl := Option.some.inj H
        exact absurd ht (by decide)
    · replace c13 := Bool.eq_false_iff.mpr c13
      subst c13
      have H1 : (some false) = some r := by rw [if_neg (show ¬ (false = true) by decide)] at H; exact H
      clear H
      have H := H1
      clear H1
      obtain rfl := Option.some.inj H
      exact absurd ht (by decide)

end Go.Proofs.Ytgcgdjldhjajaaa.A
/- Loops over lists, in plain Lean: a copy into a new row, a comparison of a row with itself. Conditions: the rows are no longer than a number of the machine can tell. -/
namespace Go.Proofs.Ytgcgdjldhjajaaa.Lst
open Go.RowKit
set_option linter.unusedVariables false
set_option linter.unusedSimpArgs false

theorem w1 (i : Int) (h0 : 0 ≤ i) (h : i < 4611686018427387904) : wrap64 (i + 1) = i + 1 := by unfold wrap64; omega
theorem w1n (i n : Nat) (hi : i < n) (hn : n ≤ 4611686018427387904) : wrap64 ((i : Int) + 1) = ((i + 1 : Nat) : Int) := by unfold wrap64; omega
theorem wr (i : Int) (h0 : -9223372036854775808 ≤ i) (h : i < 9223372036854775808) : wrap64 i = i := by unfold wrap64; omega
theorem toNat_ofNat (i : Nat) : ((i : Int)).toNat = i := rfl

theorem set_take {β : Type} (l : List β) (i : Nat) (b : β) (h : i < l.length) : (l.set i b).take (i + 1) = l.take i ++ [b] := by
  apply List.ext_getElem?
  intro j
  simp only [List.getElem?_take, List.getElem?_append, List.getElem?_set, List.length_take]
  by_cases h1 : j < i
  · rw [if_pos (by omega), if_neg (by omega), if_pos (by omega), if_pos h1]
  · by_cases h2 : j = i
    · subst h2
      rw [if_pos (by omega), if_pos rfl, if_pos h, if_neg (by omega)]
      simp [Nat.min_eq_left (Nat.le_of_lt h)]
    · rw [if_neg (by omega), if_neg (by omega)]
      rw [List.getElem?_eq_none]
      simp; omega

/-- A copy, element by element, into a row that is there. -/
theorem copy_from {α β : Type} (g : Nat → List α → List β → Int → Option (List β)) (z : α) (h : α → β) (l : List α) (hl : l.length ≤ 4611686018427387904)
    (hstep : ∀ (k : Nat) (x : List β) (i : Nat), i < l.length → i < x.length → g (k + 1) l x (i : Int) = g k l (x.set i (h (l.getD i z))) (wrap64 ((i : Int) + 1)))
    (hend : ∀ (k : Nat) (x : List β), g (k + 1) l x (l.length : Int) = some x) :
    ∀ (d k i : Nat) (x : List β), d + i = l.length → x.length = l.length → x.take i = (l.take i).map h → d < k → g k l x (i : Int) = some (l.map h) := by
  intro d
  induction d with
  | zero =>
    intro k i x hd hx ht hk
    obtain ⟨k, rfl⟩ : ∃ m, k = m + 1 := ⟨k - 1, by omega⟩
    obtain rfl : i = l.length := by omega
    rw [hend]
    rw [List.take_of_length_le (by omega), List.take_of_length_le (Nat.le_refl _)] at ht
    rw [ht]
  | succ d ih =>
    intro k i x hd hx ht hk
    obtain ⟨k, rfl⟩ : ∃ m, k = m + 1 := ⟨k - 1, by omega⟩
    rw [hstep k x i (by omega) (by omega), w1n i l.length (by omega) hl]
    refine ih k (i + 1) _ (by omega) (by simpa using hx) ?_ (by omega)
    rw [set_take x i _ (by omega), ht, List.take_succ_eq_append_getElem (by omega), List.map_append, List.getD_eq_getElem?_getD, List.getElem?_eq_getElem (by omega)]
    simp

theorem copy_all {α β : Type} (g : Nat → List α → List β → Int → Option (List β)) (z : α) (zb : β) (h : α → β) (l : List α) (hl : l.length ≤ 4611686018427387904)
    (hstep : ∀ (k : Nat) (x : List β) (i : Nat), i < l.length → i < x.length → g (k + 1) l x (i : Int) = g k l (x.set i (h (l.getD i z))) (wrap64 ((i : Int) + 1)))
    (hend : ∀ (k : Nat) (x : List β), g (k + 1) l x (l.length : Int) = some x) (k : Nat) (hk : l.length < k) : g k l (List.replicate l.length zb) 0 = some (l.map h) :=
  copy_from g z h l hl hstep hend l.length k 0 _ rfl (by simp) (by simp) hk

/-- A walk along a row that never leaves before the end. -/
theorem along {ρ : Type} (g : Nat → Int → Option ρ) (n : Nat) (hn : n ≤ 4611686018427387904) (r : ρ)
    (hstep : ∀ (k i : Nat), i < n → g (k + 1) (i : Int) = g k (wrap64 ((i : Int) + 1))) (hend : ∀ k : Nat, g (k + 1) (n : Int) = some r) :
    ∀ (d k i : Nat), d + i = n → d < k → g k (i : Int) = some r := by
  intro d
  induction d with
  | zero =>
    intro k i hd hk
    obtain ⟨k, rfl⟩ : ∃ m, k = m + 1 := ⟨k - 1, by omega⟩
    obtain rfl : i = n := by omega
    exact hend k
  | succ d ih =>
    intro k i hd hk
    obtain ⟨k, rfl⟩ : ∃ m, k = m + 1 := ⟨k - 1, by omega⟩
    rw [hstep k i (by omega), w1n i n (by omega) hn]
    exact ih k (i + 1) (by omega) (by omega)

theorem along_all {ρ : Type} (g : Nat → Int → Option ρ) (n : Nat) (hn : n ≤ 4611686018427387904) (r : ρ)
    (hstep : ∀ (k i : Nat), i < n → g (k + 1) (i : Int) = g k (wrap64 ((i : Int) + 1))) (hend : ∀ k : Nat, g (k + 1) (n : Int) = some r) (k : Nat) (hk : n < k) : g k 0 = some r :=
  along g n hn r hstep hend n k 0 (by omega) hk

/-- Element by element, each set to something of its number and of what it was. -/
theorem setting {β : Type} (g : Nat → List β → Int → Int → Option (Int × List β)) (z : β) (F : Int → β → β) (c : Int) (n : Nat) (hn : n ≤ 4611686018427387904)
    (hstep : ∀ (k : Nat) (x : List β) (m : Int) (i : Nat), x.length = n → i < n → 0 ≤ m → m ≤ 1000000000000 → g (k + 1) x m (i : Int) = g k (x.set i (F m (x.getD i z))) (m + c) (wrap64 ((i : Int) + 1)))
    (hend : ∀ (k : Nat) (x : List β) (m : Int), x.length = n → g (k + 1) x m (n : Int) = some (m, x)) (hc : 0 ≤ c) :
    ∀ (d k i : Nat) (x : List β) (m : Int), d + i = n → x.length = n → d < k → 0 ≤ m → m + c * d ≤ 1000000000000 →
      ∃ y, g k x m (i : Int) = some (m + c * d, y) ∧ y.length = n ∧ (∀ j, j < i → y.getD j z = x.getD j z) ∧ ∀ j, i ≤ j → j < n → y.getD j z = F (m + c * (j - i : Nat)) (x.getD j z) := by
  intro d
  induction d with
  | zero =>
    intro k i x m hd hx hk h0 h1
    obtain ⟨k, rfl⟩ : ∃ q, k = q + 1 := ⟨k - 1, by omega⟩
    obtain rfl : i = n := by omega
    exact ⟨x, by rw [hend k x m hx]; simp, hx, fun j _ => rfl, fun j h2 h3 => by omega⟩
  | succ d ih =>
    intro k i x m hd hx hk h0 h1
    obtain ⟨k, rfl⟩ : ∃ q, k = q + 1 := ⟨k - 1, by omega⟩
    have hcd : 0 ≤ c * (d : Int) := Int.mul_nonneg hc (by omega)
    have e1 : c * ((d + 1 : Nat) : Int) = c * (d : Int) + c := by rw [show ((d + 1 : Nat) : Int) = (d : Int) + 1 from rfl, Int.mul_add, Int.mul_one]
    rw [e1] at h1
    rw [hstep k x m i hx (by omega) h0 (by omega), w1n i n (by omega) hn]
    obtain ⟨y, h2, h3, h4, h5⟩ := ih k (i + 1) (x.set i (F m (x.getD i z))) (m + c) (by omega) (by simpa using hx) (by omega) (by omega) (by omega)
    refine ⟨y, by rw [h2, e1]; congr 2; omega, h3, fun j hj => ?_, fun j hj hjn => ?_⟩
    · rw [h4 j (by omega)]
      simp only [List.getD_eq_getElem?_getD, List.getElem?_set]
      rw [if_neg (by omega)]
    · by_cases e : j = i
      · subst e
        rw [h4 j (by omega)]
        simp only [List.getD_eq_getElem?_getD, List.getElem?_set]
        rw [if_pos trivial, if_pos (by omega)]
        simp
      · rw [h5 j (by omega) hjn]
        have e2 : m + c + c * ((j - (i + 1) : Nat) : Int) = m + c * ((j - i : Nat) : Int) := by
          have : ((j - i : Nat) : Int) = ((j - (i + 1) : Nat) : Int) + 1 := by omega
          rw [this, Int.mul_add, Int.mul_one]
          omega
        rw [e2]
        congr 1
        simp only [List.getD_eq_getElem?_getD, List.getElem?_set]
        rw [if_neg (by omega)]
/-- A walk that counts up as it goes. -/
theorem holding {ρ : Type} (g : Nat → Int → Int → Option ρ) (n : Nat) (hn : n ≤ 4611686018427387904) (m c : Int) (r : ρ)
    (hstep : ∀ (k i : Nat), i < n → g (k + 1) (m + c * i) (i : Int) = g k (m + c * ((i + 1 : Nat) : Int)) (wrap64 ((i : Int) + 1))) (hend : ∀ k : Nat, g (k + 1) (m + c * n) (n : Int) = some r) :
    ∀ (d k i : Nat), d + i = n → d < k → g k (m + c * i) (i : Int) = some r := by
  intro d
  induction d with
  | zero =>
    intro k i hd hk
    obtain ⟨k, rfl⟩ : ∃ q, k = q + 1 := ⟨k - 1, by omega⟩
    obtain rfl : i = n := by omega
    exact hend k
  | succ d ih =>
    intro k i hd hk
    obtain ⟨k, rfl⟩ : ∃ q, k = q + 1 := ⟨k - 1, by omega⟩
    rw [hstep k i (by omega), w1n i n (by omega) hn]
    exact ih k (i + 1) (by omega) (by omega)

theorem map_id_of {α : Type} (l : List α) (f : α → α) (h : ∀ x, f x = x) : l.map f = l := by
  induction l with
  | nil => rfl
  | cons a l ih => rw [List.map_cons, h, ih]
end Go.Proofs.Ytgcgdjldhjajaaa.Lst
/- The plain statement that is left of the law FnExactCountBy, over numbers and lists. -/
namespace Go.Proofs.Ytgcgdjldhjajaaa.A
open Go.RowKit Go.Proofs.YtgcgdjldhjajaaaW.PrintWords Go.Proofs.YtgcgdjldhjajaaaW.PrintLast
def Pure_FnExactCountBy : Prop := ∀ (l0 : List (S80)) (a1_0 : Int) (a1_1 : Int) (a1_2 : Int) (a1_3 : Int) (a1_4 : Int), (l0.length ≤ maxLen ∧ ∀ q3 ∈ l0, ((Lit.int .i64 q3.f0).wf = true ∧ ((Lit.int .i64 q3.f1).wf = true ∧ ((Lit.int .i64 q3.f2).wf = true ∧ ((Lit.int .i64 q3.f3).wf = true ∧ ((Lit.int .i64 q3.f4).wf = true ∧ (Lit.int .i64 q3.f5).wf = true)))))) → ((Lit.int .i64 a1_0).wf = true ∧ ((Lit.int .i64 a1_1).wf = true ∧ ((Lit.int .i64 a1_2).wf = true ∧ ((Lit.int .i64 a1_3).wf = true ∧ (Lit.int .i64 a1_4).wf = true)))) → ∃ k, laws_FnExactCountBy.f k l0 a1_0 a1_1 a1_2 a1_3 a1_4 = some true
end Go.Proofs.Ytgcgdjldhjajaaa.A
/- What is right of records, as the reference tells it and as the program does. -/
namespace Go.Proofs.Ytgcgdjldhjajaaa.A
open Go.RowKit Go.Proofs.Ytgcgdjldhjajaaa Go.Proofs.YtgcgdjldhjajaaaW.PrintWords Go.Proofs.YtgcgdjldhjajaaaW.PrintLast Go.Proofs.YtgcgdjldhjajaaaW.PrintMore
set_option linter.unusedVariables false
set_option linter.unusedSimpArgs false
theorem s_is (n lo hi : Int) : spec_l02Is.f n lo hi = some (decide (lo ≤ n ∧ n ≤ hi)) := by
  unfold spec_l02Is.f; by_cases h : n ≥ lo
  · rw [if_pos h]; congr 1; simp; omega
  · rw [if_neg h]; congr 1; simp; omega
theorem s_time (n : Int) : spec_l03Time.f n = some (timeB n) := by
  unfold spec_l03Time.f; rw [s_is]; rfl
theorem s_node (n : Int) : spec_l04Node.f n = some (nodeB n) := by
  unfold spec_l04Node.f; rw [s_is]; rfl
theorem s_recRight (a b c d e f : Int) : spec_RecRight.f a b c d e f = some (recB a b c d e f) := by
  unfold spec_RecRight.f recB
  simp only [s_node, s_time, s_is, Option.bind_some]
  cases timeB a
  · rfl
  cases nodeB b
  · rfl
  simp only [if_true, Bool.true_and]
  by_cases h1 : c = 1
  · rw [if_pos h1, if_pos h1]
    cases timeB d <;> by_cases h2 : e = 0 <;> simp [h2]
  rw [if_neg h1, if_neg h1]
  by_cases h2 : c = 2
  · rw [if_pos h2, if_pos h2]
    by_cases h3 : d = 0 <;> by_cases h4 : e = 0 <;> simp [h3, h4]
  rw [if_neg h2, if_neg h2]
  by_cases h3 : c = 3
  · rw [if_pos h3, if_pos h3]
    cases timeB d <;> cases nodeB e <;> simp
  rw [if_neg h3, if_neg h3]
  by_cases h4 : c = 4
  · rw [if_pos h4, if_pos h4]
    cases timeB d <;> cases nodeB e <;> simp
  rw [if_neg h4, if_neg h4]
  by_cases h5 : c = 5
  · rw [if_pos h5, if_pos h5]
    unfold factB
    cases nodeB d <;> cases timeB e <;> simp
  rw [if_neg h5, if_neg h5]
  by_cases h6 : c = 6
  · rw [if_pos h6, if_pos h6]
    cases nodeB d <;> by_cases h7 : e = 0 <;> simp [h7]
  rw [if_neg h6, if_neg h6]
/-- Records that are right, and not too many. -/
def okRecs (l : List S78) : Bool := decide (l.length ≤ 400) && l.all recOk
theorem i_recs (l : List S78) : impl_areRecs.f l = some (okRecs l) := rfl
theorem s_recs (l : List S78) (k : Nat) (hk : l.length < k) : spec_l12Recs.f k l = some (okRecs l) := by
  unfold spec_l12Recs.f okRecs
  by_cases h : l.length ≤ 400
  · rw [if_neg (by omega)]
    have key : ∀ (d k i : Nat), d + i = l.length → d < k → spec_l12Recs.l0 k l (i : Int) = some ((l.drop i).all recOk) := by
      intro d
      induction d with
      | zero =>
        intro k i hd hk
        obtain ⟨k, rfl⟩ : ∃ m, k = m + 1 := ⟨k - 1, by omega⟩
        simp only [spec_l12Recs.l0]
        rw [if_neg (by omega), List.drop_of_length_le (by omega)]
        rfl
      | succ d ih =>
        intro k i hd hk
        obtain ⟨k, rfl⟩ : ∃ m, k = m + 1 := ⟨k - 1, by omega⟩
        have hi : i < l.length := by omega
        simp only [spec_l12Recs.l0]
        rw [if_pos (by omega), if_pos (by omega), rd_nat_Rec l i hi, s_recRight]
        simp only [Option.bind_some]
        rw [List.drop_eq_getElem_cons hi, List.all_cons]
        show (if recOk l[i] = true then _ else _) = _
        cases hq : recOk l[i]
        · rfl
        · rw [if_pos rfl, Lst.w1n i l.length hi (by omega), ih k (i + 1) (by omega) (by omega)]
          rfl
    have := key l.length k 0 (by omega) hk
    rw [show ((0 : Nat) : Int) = 0 from rfl] at this
    rw [this]
    simp [h]
  · rw [if_pos (by omega)]
    simp [h]
end Go.Proofs.Ytgcgdjldhjajaaa.A
/- Copies of records, their comparison and their size. -/
namespace Go.Proofs.Ytgcgdjldhjajaaa.A
open Go.RowKit Go.Proofs.Ytgcgdjldhjajaaa Go.Proofs.YtgcgdjldhjajaaaW.PrintWords Go.Proofs.YtgcgdjldhjajaaaW.PrintLast Go.Proofs.YtgcgdjldhjajaaaW.PrintMore
set_option linter.unusedVariables false
set_option linter.unusedSimpArgs false
def cvR (x : S80) : S78 := ⟨x.f0, x.f1, x.f2, x.f3, x.f4, x.f5⟩
theorem toR (l : List S80) (hl : l.length ≤ 1048576) (k : Nat) (hk : l.length < k) : laws_toRecS.f k l = some (l.map cvR) := by
  unfold laws_toRecS.f
  rw [if_pos (by omega), if_pos (by omega)]
  refine Lst.copy_all laws_toRecS.l0 z80 z78 cvR l (by omega) ?_ ?_ k hk
  · intro k x i h1 h2
    simp only [laws_toRecS.l0]
    rw [if_pos (by omega), if_pos (by omega)]
    simp only [laws_toRec.f, Option.bind_some]
    rw [if_pos (by omega)]
    rfl
  · intro k x
    simp only [laws_toRecS.l0]
    rw [if_neg (by omega)]
theorem eqR (l : List S78) (hl : l.length ≤ 1048576) (k : Nat) (hk : l.length < k) : laws_eqRecS.f k l l = some true := by
  unfold laws_eqRecS.f
  rw [if_pos rfl]
  refine Lst.along_all (fun k i => laws_eqRecS.l0 k l l i) l.length (by omega) true ?_ ?_ k hk
  · intro k i h1
    simp only [laws_eqRecS.l0]
    rw [if_pos (by omega), if_pos (by omega), if_pos (by omega)]
    simp [laws_eqRec.f]
  · intro k
    simp only [laws_eqRecS.l0]
    rw [if_neg (by omega)]
theorem szR (l : List S80) (hl : l.length ≤ maxLen) : laws_szRecS.f l 1048576 = some (if l.length ≤ 1048576 then 1048576 - (l.length : Int) else -1) := by
  unfold laws_szRecS.f
  unfold maxLen at hl
  have e' : wrap64 (1048576 - (l.length : Int)) = 1048576 - (l.length : Int) := by unfold wrap64; omega
  rw [e']
  by_cases h : l.length ≤ 1048576
  · rw [if_neg (by omega), if_pos h]
  · rw [if_pos (by omega), if_neg h]
end Go.Proofs.Ytgcgdjldhjajaaa.A
/- What the law's marks come to. -/
namespace Go.Proofs.Ytgcgdjldhjajaaa.A
open Go.RowKit Go.Proofs.Ytgcgdjldhjajaaa Go.Proofs.YtgcgdjldhjajaaaW.PrintWords Go.Proofs.YtgcgdjldhjajaaaW.PrintLast Go.Proofs.YtgcgdjldhjajaaaW.PrintMore
set_option linter.unusedVariables false
set_option linter.unusedSimpArgs false
theorem eqI (l : List Int) (hl : l.length ≤ 1048576) (k : Nat) (hk : l.length < k) : laws_eqInt64S.f k l l = some true := by
  unfold laws_eqInt64S.f
  rw [if_pos rfl]
  refine Lst.along_all (fun k i => laws_eqInt64S.l0 k l l i) l.length (by omega) true ?_ ?_ k hk
  · intro k i h1
    simp only [laws_eqInt64S.l0]
    rw [if_pos (by omega), if_pos (by omega), if_pos (by omega), if_true]
  · intro k
    simp only [laws_eqInt64S.l0]
    rw [if_neg (by omega)]
theorem rd_nat (l : List Int) (i : Nat) : rd l (i : Int) = l.getD i 0 := rfl
/-- What is marked is held. -/
theorem markI (l : List Int) (hl : l.length ≤ 1048576) (k : Nat) (hk : l.length < k) : ∃ y : List Int, laws_markInt64S.f k l 1 = some (1 + (l.length : Int), y) ∧ ∀ k, l.length < k → laws_heldInt64S.f k y 1 = some (1 + (l.length : Int)) := by
  obtain ⟨y, h1, h2, _, h4⟩ := Lst.setting laws_markInt64S.l0 0 (fun m _ => m) 1 l.length (by omega) (by
      intro k x m i hx hi h0 h1
      simp only [laws_markInt64S.l0]
      rw [if_pos (by omega), if_pos (by omega), Lst.wr (m + 1) (by omega) (by omega)]
      rfl) (by
      intro k x m hx
      simp only [laws_markInt64S.l0]
      rw [if_neg (by omega)]) (by omega) l.length k 0 l 1 (by omega) rfl hk (by omega) (by omega)
  refine ⟨y, ?_, fun k hk => ?_⟩
  · unfold laws_markInt64S.f
    rw [show (0 : Int) = ((0 : Nat) : Int) from rfl, h1, Int.one_mul]
  · unfold laws_heldInt64S.f
    have := Lst.holding (fun k m i => laws_heldInt64S.l0 k y m i) l.length (by omega) 1 1 (1 + (l.length : Int)) (by
      intro k i hi
      simp only [laws_heldInt64S.l0]
      rw [if_pos (by omega), if_pos (by omega), rd_nat, h4 i (by omega) hi]
      simp only [Nat.sub_zero, if_true]
      rw [Lst.wr _ (by omega) (by omega)]
      congr 1) (by
      intro k
      simp only [laws_heldInt64S.l0]
      rw [if_neg (by omega), Int.one_mul]) l.length k 0 (by omega) hk
    simpa using this
theorem markR (l : List S78) (hl : l.length ≤ 1048576) (k : Nat) (hk : l.length < k) : ∃ y : List S78, laws_markRecS.f k l 1 = some (1 + 6 * (l.length : Int), y) := by
  obtain ⟨y, h1, _⟩ := Lst.setting laws_markRecS.l0 z78 (fun m _ => ⟨m, m + 1, m + 2, m + 3, m + 4, m + 5⟩) 6 l.length (by omega) (by
      intro k x m i hx hi h0 h1
      have w : ∀ j : Int, 0 ≤ j → j ≤ 10 → wrap64 (m + j + 1) = m + (j + 1) := fun j _ _ => by unfold wrap64; omega
      have w1 : wrap64 (m + 1) = m + 1 := by unfold wrap64; omega
      have w2 : wrap64 (m + 1 + 1) = m + 2 := by unfold wrap64; omega
      have w3 : wrap64 (m + 2 + 1) = m + 3 := by unfold wrap64; omega
      have w4 : wrap64 (m + 3 + 1) = m + 4 := by unfold wrap64; omega
      have w5 : wrap64 (m + 4 + 1) = m + 5 := by unfold wrap64; omega
      have w6 : wrap64 (m + 5 + 1) = m + 6 := by unfold wrap64; omega
      have g : ∀ (x : List S78) (v : S78), i < x.length → rd_T78 (x.set i v) (i : Int) = v := fun x v hx => by
        rw [rd_nat_Rec _ i (by simpa using hx)]
        simp
      simp only [laws_markRecS.l0]
      rw [if_pos (by omega), if_pos (by omega)]
      simp only [Option.bind_some, Int.toNat_natCast, w1, w2, w3, w4, w5, w6]
      rw [g x _ (by omega)]
      simp only [List.set_set]
      rw [g x _ (by omega)]
      simp only [List.set_set]
      rw [g x _ (by omega)]
      simp only [List.set_set]
      rw [g x _ (by omega)]
      simp only [List.set_set]
      try rw [g x _ (by omega)]
      try simp only [List.set_set]) (by
      intro k x m hx
      simp only [laws_markRecS.l0]
      rw [if_neg (by omega)]) (by omega) l.length k 0 l 1 (by omega) rfl hk (by omega) (by omega)
  exact ⟨y, by unfold laws_markRecS.f; rw [show (0 : Int) = ((0 : Nat) : Int) from rfl, h1]⟩
end Go.Proofs.Ytgcgdjldhjajaaa.A
/- What is right of queries, and what a query asks for. -/
namespace Go.Proofs.Ytgcgdjldhjajaaa.A
open Go.RowKit Go.Proofs.Ytgcgdjldhjajaaa Go.Proofs.YtgcgdjldhjajaaaW.PrintWords Go.Proofs.YtgcgdjldhjajaaaW.PrintLast Go.Proofs.YtgcgdjldhjajaaaW.PrintMore
set_option linter.unusedVariables false
set_option linter.unusedSimpArgs false
theorem s_about (a b c d e f : Int) : spec_l21About.f a b c d e f = some (aboutJ c d e) := i_about a b c d e f
theorem asks_pull (p q r s : Bool) : (p && q && r && s) = (if p = true then (if q = true then (if r = true then s else false) else false) else false) := by
  cases p <;> cases q <;> cases r <;> cases s <;> rfl
theorem s_asks (n k ab ff tt a0 a1 a2 a3 a4 a5 : Int) : spec_l21Asks.f n k ab ff tt a0 a1 a2 a3 a4 a5 = some (asksJ n k ab ff tt a0 a1 a2 a3 a4) := by
  unfold spec_l21Asks.f asksJ
  simp only [s_is, s_about, Option.bind_some, asks_pull, decide_eq_true_eq]
  by_cases h1 : n = 0
  · rw [if_pos h1, if_pos (Or.inl h1)]
    by_cases h2 : k = 0
    · rw [if_pos h2, if_pos (Or.inl h2)]
      by_cases h3 : ab = 0
      · rw [if_pos h3, if_pos (Or.inl h3)]
      · rw [if_neg h3]
        by_cases h4 : ab = aboutJ a2 a3 a4
        · rw [if_pos h4, if_pos (Or.inr h4)]
        · rw [if_neg h4, if_neg (by rintro (h | h) <;> contradiction)]
    · rw [if_neg h2]
      by_cases h5 : k = a2
      · rw [if_pos h5, if_pos (Or.inr h5)]
        by_cases h3 : ab = 0
        · rw [if_pos h3, if_pos (Or.inl h3)]
        · rw [if_neg h3]
          by_cases h4 : ab = aboutJ a2 a3 a4
          · rw [if_pos h4, if_pos (Or.inr h4)]
          · rw [if_neg h4, if_neg (by rintro (h | h) <;> contradiction)]
      · rw [if_neg h5, if_neg (by rintro (h | h) <;> contradiction)]
  · rw [if_neg h1]
    by_cases h6 : n = a1
    · rw [if_pos h6, if_pos (Or.inr h6)]
      by_cases h2 : k = 0
      · rw [if_pos h2, if_pos (Or.inl h2)]
        by_cases h3 : ab = 0
        · rw [if_pos h3, if_pos (Or.inl h3)]
        · rw [if_neg h3]
          by_cases h4 : ab = aboutJ a2 a3 a4
          · rw [if_pos h4, if_pos (Or.inr h4)]
          · rw [if_neg h4, if_neg (by rintro (h | h) <;> contradiction)]
      · rw [if_neg h2]
        by_cases h5 : k = a2
        · rw [if_pos h5, if_pos (Or.inr h5)]
          by_cases h3 : ab = 0
          · rw [if_pos h3, if_pos (Or.inl h3)]
          · rw [if_neg h3]
            by_cases h4 : ab = aboutJ a2 a3 a4
            · rw [if_pos h4, if_pos (Or.inr h4)]
            · rw [if_neg h4, if_neg (by rintro (h | h) <;> contradiction)]
        · rw [if_neg h5, if_neg (by rintro (h | h) <;> contradiction)]
    · rw [if_neg h6, if_neg (by rintro (h | h) <;> contradiction)]
/-- A query that is right. -/
def queryB (n k ab ff tt : Int) : Bool := decide (0 ≤ n ∧ n ≤ 6) && decide (0 ≤ k ∧ k ≤ 6) && decide (0 ≤ ab ∧ ab ≤ 6) && timeB ff && timeB tt && decide (ff ≤ tt)
theorem i_query (n k ab ff tt : Int) : impl_QueryRight.f n k ab ff tt = some (queryB n k ab ff tt) := by
  unfold impl_QueryRight.f queryB
  simp only [m_within, m_time, Option.bind_some]
  cases decide (0 ≤ n ∧ n ≤ 6) <;> cases decide (0 ≤ k ∧ k ≤ 6) <;> cases decide (0 ≤ ab ∧ ab ≤ 6) <;> cases timeB ff <;> cases timeB tt <;> rfl
theorem s_query (n k ab ff tt : Int) : spec_QueryRight.f n k ab ff tt = some (queryB n k ab ff tt) := by
  unfold spec_QueryRight.f queryB
  simp only [s_is, s_node, s_time, Option.bind_some]
  have hn : (decide (0 ≤ n ∧ n ≤ 6)) = (if n = 0 then true else nodeB n) := by
    unfold nodeB; by_cases h : n = 0
    · simp [h]
    · rw [if_neg h]; congr 1; simp; omega
  have ha : (decide (0 ≤ ab ∧ ab ≤ 6)) = (if ab = 0 then true else nodeB ab) := by
    unfold nodeB; by_cases h : ab = 0
    · simp [h]
    · rw [if_neg h]; congr 1; simp; omega
  rw [hn, ha]
  by_cases h1 : n = 0 <;> by_cases h2 : ab = 0
  · simp only [if_pos h1, if_pos h2]
    cases decide (0 ≤ k ∧ k ≤ 6) <;> cases timeB ff <;> cases timeB tt <;> rfl
  · simp only [if_pos h1, if_neg h2]
    cases decide (0 ≤ k ∧ k ≤ 6) <;> cases nodeB ab <;> cases timeB ff <;> cases timeB tt <;> rfl
  · simp only [if_neg h1, if_pos h2]
    cases nodeB n <;> cases decide (0 ≤ k ∧ k ≤ 6) <;> cases timeB ff <;> cases timeB tt <;> rfl
  · simp only [if_neg h1, if_neg h2]
    cases nodeB n <;> cases decide (0 ≤ k ∧ k ≤ 6) <;> cases nodeB ab <;> cases timeB ff <;> cases timeB tt <;> rfl
end Go.Proofs.Ytgcgdjldhjajaaa.A
namespace Go.Proofs.Ytgcgdjldhjajaaa.A
open Go.RowKit Go.Proofs.YtgcgdjldhjajaaaW.PrintWords Go.Proofs.YtgcgdjldhjajaaaW.PrintLast Go.Proofs.YtgcgdjldhjajaaaW.PrintMore
attribute [local go_sem] max2_int min2_int max_two min_two max_three min_three max_four min_four   -- for this text's walks alone
set_option linter.unusedVariables false
set_option linter.unusedSimpArgs false

/-! ### spec_Select: function 26 -/
mutual
def spec_Select.l0 : Nat → List (S78) → List Int → Int → Int → Int → Int → Int → Int → Option (List Int)
  | 0, _, _, _, _, _, _, _, _ => none
  | k + 1, x0, x5, x6, x644000, x644001, x644002, x644003, x644004 => if x6 < (x0.length : Int) then ((spec_l12Recs.f k x0).bind fun t647 => (if t647 = true then ((spec_QueryRight.f x644000 x644001 x644002 x644003 x644004).bind fun t648 => (spec_Select.j1 k x0 x5 x6 t648 x644000 x644001 x644002 x644003 x644004)) else (spec_Select.j1 k x0 x5 x6 false x644000 x644001 x644002 x644003 x644004))) else (spec_Select.j1 k x0 x5 x6 false x644000 x644001 x644002 x644003 x644004)
def spec_Select.j1 : Nat → List (S78) → List Int → Int → Bool → Int → Int → Int → Int → Int → Option (List Int)
  | 0, _, _, _, _, _, _, _, _, _ => none
  | k + 1, x0, x5, x6, x19, x644000, x644001, x644002, x644003, x644004 => if x19 = true then (if 0 ≤ x6 then (if x6 < (x0.length : Int) then ((spec_l21Asks.f x644000 x644001 x644002 x644003 x644004 ((rd_T78 x0 x6).f0) ((rd_T78 x0 x6).f1) ((rd_T78 x0 x6).f2) ((rd_T78 x0 x6).f3) ((rd_T78 x0 x6).f4) ((rd_T78 x0 x6).f5)).bind fun t650 => (if t650 = true then (if x5.length < 17592186044416 then (spec_Select.l0 k x0 (x5 ++ [x6]) (wrap64 (x6 + 1)) x644000 x644001 x644002 x644003 x644004) else (none)) else (spec_Select.l0 k x0 x5 (wrap64 (x6 + 1)) x644000 x644001 x644002 x644003 x644004))) else (none)) else (none)) else (some x5)
end
def spec_Select.f (k : Nat) (l0 : List (S78)) (a1_0 : Int) (a1_1 : Int) (a1_2 : Int) (a1_3 : Int) (a1_4 : Int) : Option (List Int) := spec_Select.l0 k l0 (([] : List Int)) 0 a1_0 a1_1 a1_2 a1_3 a1_4
theorem spec_Select.mono_l : ∀ k, (∀ y0 y1 y2 y3 y4 y5 y6 y7, LeO (spec_Select.l0 k y0 y1 y2 y3 y4 y5 y6 y7) (spec_Select.l0 (k + 1) y0 y1 y2 y3 y4 y5 y6 y7)) ∧ (∀ y0 y1 y2 y3 y4 y5 y6 y7 y8, LeO (spec_Select.j1 k y0 y1 y2 y3 y4 y5 y6 y7 y8) (spec_Select.j1 (k + 1) y0 y1 y2 y3 y4 y5 y6 y7 y8))
  | 0 => ⟨fun _ _ _ _ _ _ _ _ r h => by simp [spec_Select.l0] at h, fun _ _ _ _ _ _ _ _ _ r h => by simp [spec_Select.j1] at h⟩
  | k + 1 => by
    obtain ⟨ih0, ih1⟩ := spec_Select.mono_l k
    refine ⟨?_, ?_⟩
    · intro y0 y1 y2 y3 y4 y5 y6 y7
      unfold spec_Select.l0
      repeat' first
      | (with_reducible exact ih0 _ _ _ _ _ _ _ _)
      | (with_reducible exact ih1 _ _ _ _ _ _ _ _ _)
      | (with_reducible exact spec_l12Recs.mono _ _)
      | (with_reducible exact LeO.refl _)
      | (with_reducible exact LeO.none _)
      | (with_reducible refine LeO.ite ?_ ?_)
      | (with_reducible refine LeO.bind ?_ (fun _ => ?_))
      | exact ih0 _ _ _ _ _ _ _ _
      | exact ih1 _ _ _ _ _ _ _ _ _
      | exact spec_l12Recs.mono _ _
      | exact LeO.none _
      | refine LeO.ite ?_ ?_
      | refine LeO.bind ?_ (fun _ => ?_)
    · intro y0 y1 y2 y3 y4 y5 y6 y7 y8
      unfold spec_Select.j1
      repeat' first
      | (with_reducible exact ih0 _ _ _ _ _ _ _ _)
      | (with_reducible exact ih1 _ _ _ _ _ _ _ _ _)
      | (with_reducible exact spec_l12Recs.mono _ _)
      | (with_reducible exact LeO.refl _)
      | (with_reducible exact LeO.none _)
      | (with_reducible refine LeO.ite ?_ ?_)
      | (with_reducible refine LeO.bind ?_ (fun _ => ?_))
      | exact ih0 _ _ _ _ _ _ _ _
      | exact ih1 _ _ _ _ _ _ _ _ _
      | exact spec_l12Recs.mono _ _
      | exact LeO.none _
      | refine LeO.ite ?_ ?_
      | refine LeO.bind ?_ (fun _ => ?_)
theorem spec_Select.mono : ∀ a0 a1 a2 a3 a4 a5 k, LeO (spec_Select.f k a0 a1 a2 a3 a4 a5) (spec_Select.f (k + 1) a0 a1 a2 a3 a4 a5) := by
  intro a0 a1 a2 a3 a4 a5 k
  obtain ⟨ih0, ih1⟩ := spec_Select.mono_l k
  unfold spec_Select.f
  repeat' first
      | (with_reducible exact ih0 _ _ _ _ _ _ _ _)
      | (with_reducible exact ih1 _ _ _ _ _ _ _ _ _)
      | (with_reducible exact spec_l12Recs.mono _ _)
      | (with_reducible exact LeO.refl _)
      | (with_reducible exact LeO.none _)
      | (with_reducible refine LeO.ite ?_ ?_)
      | (with_reducible refine LeO.bind ?_ (fun _ => ?_))
      | exact ih0 _ _ _ _ _ _ _ _
      | exact ih1 _ _ _ _ _ _ _ _ _
      | exact spec_l12Recs.mono _ _
      | exact LeO.none _
      | refine LeO.ite ?_ ?_
      | refine LeO.bind ?_ (fun _ => ?_)
set_option maxHeartbeats 8000000 in
set_option maxRecDepth 100000 in
theorem spec_Select.calls (k : Nat) (A0 : Option Addr) (c0 : Nat) (l0 : List (S78)) (a1_0 : Int) (a1_1 : Int) (a1_2 : Int) (a1_3 : Int) (a1_4 : Int) (r : List Int) (w : World) (hr0 : Kd.C k78 w A0 l0.length l0) (hc0 : l0.length ≤ c0) (h : spec_Select.f k l0 a1_0 a1_1 a1_2 a1_3 a1_4 = some r) :
    Calls Try.prog 26 #[.slice A0 l0.length c0, .agg #[.int .i64 a1_0, .int .i64 a1_1, .int .i64 a1_2, .int .i64 a1_3, .int .i64 a1_4]] w fun e w' => ∃ v0_ : Value, e = .returned (v0_) ∧ Kd.R (Kd.int .i64) 2 w' w.heap.size (fun _ => True) v0_ r ∧ Below w.heap.size w w' := by
  have hu43 := Try.underlying43
  have hu78 := Try.underlying78
  have HR0 := Aside0.mk hr0
  have HC0 := Aside0.mk hc0
  clear hr0 hc0
  have HB := Aside0.mk (Below.refl w.heap.size w)
  have H : (spec_Select.l0 k l0 (([] : List Int)) 0 a1_0 a1_1 a1_2 a1_3 a1_4) = some r := h
  clear h
  obtain ⟨y644, hy644⟩ : ∃ y_ : List Int, y_ = (([] : List Int)) := ⟨_, rfl⟩
  replace H : (spec_Select.l0 k l0 y644 0 a1_0 a1_1 a1_2 a1_3 a1_4) = some r := by first | (rw [hy644]; with_reducible exact H) | (have H2_ := (Option.bind_some _ _).symm.trans H; rw [hy644]; with_reducible exact H2_) | (have H2_ := (Option.bind_some _ _).symm.trans H; with_reducible exact H2_) | with_reducible exact H | (rw [hy644]; exact H) | exact H
  have Ny644 := Aside0.mk hy644
  clear hy644
  have H' := Aside0.mk H
  clear H
  go_enter Try.func26, Try.ntmps26
  go_wp2_with (first | ((with_reducible refine gate_dst (N := 3) rfl ?_); refine box_event ?hg (N := 3) ?hd (cs := #[.int .i64 a1_0, .int .i64 a1_1, .int .i64 a1_2, .int .i64 a1_3, .int .i64 a1_4]) (t := 43) ?hr ?_; (case hd => rfl); (case hg => rfl); (case hr => first | (go_simp; done) | (go_simp; rfl)); intro gb643 hg w3 hbox hb; have n0_ := Aside0.mk (below_step (by repeat (first | (with_reducible first | exact HB.out | apply below_alloc | apply pw_below_drewN | apply below_drew1) | exact HB.out)) hb); have n1_ := Aside0.mk (hbox); have n2_ := Aside0.mk ((by rw [hg]; exact (below_size (by repeat (first | (with_reducible first | exact HB.out | apply below_alloc | apply pw_below_drewN | apply below_drew1) | exact HB.out))) : w.heap.size ≤ gb643)); have n3_ := Aside0.mk ((by rw [hg]; exact (below_size (by repeat (first | (with_reducible first | exact HB.out | apply below_alloc | apply pw_below_drewN | apply below_drew1) | exact HB.out))) : w.heap.size ≤ gb643)); clear HB; have HB := n0_; have BK643 := n1_; have GW643 := n2_; have GE643 := n3_; clear n0_ n1_ n2_ n3_; clear hb hbox hg) | ((with_reducible refine gate_dst (N := 7) rfl ?_); refine Kd.R_lit (Kd.int .i64) _ 2 ?hg (N := 7) ?hd (xs := ([] : List Int)) (inner := []) (ok := fun _ => True) (okp := fun _ => True) ?hr ?hp (fun _ hk => hk) trivial (Below.refl _ _) (Nat.le_refl _) (by simp) ?_; (case hd => rfl); (case hg => rfl); (case hr => first | (go_simp; done) | (go_simp; rfl)); (case hp => exact (Reps.none _ _)); intro v645 w4 ho5 hb hg_ hnew_; clear hg_ hnew_; (first | rw [← Ny644.out] at ho5 | (simp only [Int.reduceToNat] at ho5; rw [← Ny644.out] at ho5)); have n0_ := Aside0.mk (Kd.R_lower ho5 (below_size (by repeat (first | (with_reducible first | exact HB.out | apply below_alloc | apply pw_below_drewN | apply below_drew1 | refine below_set ?_ GE643.out) | exact HB.out)))); have n1_ := Aside0.mk (blk_below (g := gb643) (o := .cells #[.int .i64 a1_0, .int .i64 a1_1, .int .i64 a1_2, .int .i64 a1_3, .int .i64 a1_4] 43 (0, 0)) (by (with_reducible repeat (first | refine blk_drewN ?_ _ | refine blk_drew ?_ | refine blk_alloc ?_ _)); exact BK643.out) hb); have n2_ := Aside0.mk (below_step (by repeat (first | (with_reducible first | exact HB.out | apply below_alloc | apply pw_below_drewN | apply below_drew1 | refine below_set ?_ GE643.out) | exact HB.out)) hb); clear BK643; clear HB; have HO646 := n0_; have BK643 := n1_; have HB := n2_; clear n0_ n1_ n2_; clear hb ho5))
  go_loopg [5, 6] k (fun kq v5 v6 w' => ∃ (x5_1 : List Int) (x6_1 : Int), v6 = .int .i64 x6_1 ∧ Aside0 (spec_Select.l0 kq l0 x5_1 x6_1 a1_0 a1_1 a1_2 a1_3 a1_4 = some r) ∧ Aside0 (kq ≤ k) ∧ Aside0 (Kd.R (Kd.int .i64) 2 w' w.heap.size (fun _ => True) v5 x5_1) ∧ Aside0 (w'.heap[gb643]? = some (.cells #[.int .i64 a1_0, .int .i64 a1_1, .int .i64 a1_2, .int .i64 a1_3, .int .i64 a1_4] 43 (0, 0))) ∧ Aside0 (Below w.heap.size w w'))
  case atStart => exact ⟨(y644), (0), (by first | rfl | (simp; done) | (simp [*]; done)), H', ⟨Nat.le_refl _⟩, ⟨by (with_reducible repeat (first | apply Kd.R_alloc | apply Kd.R_drewN | apply Kd.R_drew)); exact HO646.out⟩, ⟨by (with_reducible repeat (first | refine blk_drewN ?_ _ | refine blk_drew ?_ | refine blk_alloc ?_ _)); exact BK643.out⟩, ⟨by repeat (first | (with_reducible first | exact HB.out | apply below_alloc | apply pw_below_drewN | apply below_drew1 | refine below_set ?_ GE643.out) | exact HB.out)⟩⟩
  case round =>
    clear H'
    try clear c2
    try clear p2
    obtain ⟨x5_1, x6_1, rfl, HA, HK1, HO_5, BK643, HB⟩ := hrel
    cases gk with
    | zero => exact absurd HA.out (by simp [spec_Select.l0])
    | succ k1 =>
      have H := HA.out
      clear HA
      simp only [spec_Select.l0] at H
      have HC6 := Aside0.mk H
      clear H
      go_upto_region 3 with (fail)
      go_cut [19] (fun v19 wc => ∃ (kq : Nat) (x19_5 : Bool), v19 = .bool x19_5 ∧ Aside0 (spec_Select.j1 kq l0 x5_1 x6_1 x19_5 a1_0 a1_1 a1_2 a1_3 a1_4 = some r) ∧ Aside0 (kq ≤ k1) ∧ Aside0 (Kd.R (Kd.int .i64) 2 wc w.heap.size (fun _ => True) u5 x5_1) ∧ Aside0 (wc.heap[gb643]? = some (.cells #[.int .i64 a1_0, .int .i64 a1_1, .int .i64 a1_2, .int .i64 a1_3, .int .i64 a1_4] 43 (0, 0))) ∧ Aside0 (Below w.heap.size w wc))
      case first =>
        have H := HC6.out
        clear HC6
        by_cases c7 : x6_1 < (l0.length : Int)
        · rw [if_pos c7] at H
          have c7b0 : decide (x6_1 < (l0.length : Int)) = true := decide_eq_true c7
          clear c7
          (first | rw [c7b0] | (simp only [i64_w, i32_w]; rw [c7b0]) | skip)
          replace H := Option.bind_eq_some_iff.mp H
          obtain ⟨t647, A80, H⟩ := H
          replace H : (if t647 = true then ((spec_QueryRight.f a1_0 a1_1 a1_2 a1_3 a1_4).bind fun t648 => (spec_Select.j1 k1 l0 x5_1 x6_1 t648 a1_0 a1_1 a1_2 a1_3 a1_4)) else (spec_Select.j1 k1 l0 x5_1 x6_1 false a1_0 a1_1 a1_2 a1_3 a1_4)) = some r := H
          have A8 := Aside0.mk A80
          clear A80
          by_cases c9 : t647 = true
          · subst c9
            have H1 : ((spec_QueryRight.f a1_0 a1_1 a1_2 a1_3 a1_4).bind fun t648 => (spec_Select.j1 k1 l0 x5_1 x6_1 t648 a1_0 a1_1 a1_2 a1_3 a1_4)) = some r := by rw [if_pos rfl] at H; exact H
            clear H
            have H := H1
            clear H1
            replace H := Option.bind_eq_some_iff.mp H
            obtain ⟨t648, A100, H⟩ := H
            replace H : (spec_Select.j1 k1 l0 x5_1 x6_1 t648 a1_0 a1_1 a1_2 a1_3 a1_4) = some r := H
            have A10 := Aside0.mk A100
            clear A100
            have H' := Aside0.mk H
            clear H
            go_wp2_with (first | (go_at_call 62; (with_reducible refine (spec_l12Recs.calls k1 _ _ l0 true _ ?side1 ?side2 A8.out).mono ?_); (case side1 => repeat (first | exact (Kd.C_below HR0.out HB.out) | (with_reducible refine Kd.C_alloc ?_ _) | (with_reducible refine Kd.C_drewN ?_ _) | (with_reducible refine Kd.C_drew ?_))); (case side2 => exact HC0.out); rintro e w11 ⟨rfl, hb⟩; have n0_ := Aside0.mk (Kd.R_below (by (with_reducible repeat (first | apply Kd.R_alloc | apply Kd.R_drewN | apply Kd.R_drew)); exact HO_5.out) hb); have n1_ := Aside0.mk (blk_below (g := gb643) (o := .cells #[.int .i64 a1_0, .int .i64 a1_1, .int .i64 a1_2, .int .i64 a1_3, .int .i64 a1_4] 43 (0, 0)) (by (with_reducible repeat (first | refine blk_drewN ?_ _ | refine blk_drew ?_ | refine blk_alloc ?_ _)); exact BK643.out) hb); have n2_ := Aside0.mk (below_step (by repeat (first | (with_reducible first | exact HB.out | apply below_alloc | apply pw_below_drewN | apply below_drew1 | refine below_set ?_ GE643.out) | exact HB.out)) hb); clear HO_5; clear BK643; clear HB; have HO_5 := n0_; have BK643 := n1_; have HB := n2_; clear n0_ n1_ n2_; (try clear hb); (try clear hb2); (try clear hk); (try clear hi); have hcz12_0 : w11.cell? ⟨gb643, 0, none⟩ = some (.int .i64 a1_0) := (blk_cell BK643.out 0).trans rfl; have hcz12_1 : w11.cell? ⟨gb643, 1, none⟩ = some (.int .i64 a1_1) := (blk_cell BK643.out 1).trans rfl; have hcz12_2 : w11.cell? ⟨gb643, 2, none⟩ = some (.int .i64 a1_2) := (blk_cell BK643.out 2).trans rfl; have hcz12_3 : w11.cell? ⟨gb643, 3, none⟩ = some (.int .i64 a1_3) := (blk_cell BK643.out 3).trans rfl; have hcz12_4 : w11.cell? ⟨gb643, 4, none⟩ = some (.int .i64 a1_4) := (blk_cell BK643.out 4).trans rfl; have hfz12_0 := blk_frozen BK643.out 0; have hfz12_1 := blk_frozen BK643.out 1; have hfz12_2 := blk_frozen BK643.out 2; have hfz12_3 := blk_frozen BK643.out 3; have hfz12_4 := blk_frozen BK643.out 4) | (go_at_call 77; (with_reducible refine (spec_QueryRight.calls a1_0 a1_1 a1_2 a1_3 a1_4 t648 _ A10.out).mono ?_); rintro e w13 ⟨rfl, hb⟩; have n0_ := Aside0.mk (Kd.R_below (by (with_reducible repeat (first | apply Kd.R_alloc | apply Kd.R_drewN | apply Kd.R_drew)); exact HO_5.out) hb); have n1_ := Aside0.mk (blk_below (g := gb643) (o := .cells #[.int .i64 a1_0, .int .i64 a1_1, .int .i64 a1_2, .int .i64 a1_3, .int .i64 a1_4] 43 (0, 0)) (by (with_reducible repeat (first | refine blk_drewN ?_ _ | refine blk_drew ?_ | refine blk_alloc ?_ _)); exact BK643.out) hb); have n2_ := Aside0.mk (below_step (by repeat (first | (with_reducible first | exact HB.out | apply below_alloc | apply pw_below_drewN | apply below_drew1 | refine below_set ?_ GE643.out) | exact HB.out)) hb); clear HO_5; clear BK643; clear HB; have HO_5 := n0_; have BK643 := n1_; have HB := n2_; clear n0_ n1_ n2_; (try clear hb); (try clear hb2); (try clear hk); (try clear hi)))
            go_meet
            case rel => exact ⟨_, (t648), (by first | rfl | (simp; done) | (simp [*]; done)), H', ⟨by have := HK1.out; first | omega | exact Nat.le_refl _⟩, ⟨by (with_reducible repeat (first | apply Kd.R_alloc | apply Kd.R_drewN | apply Kd.R_drew)); exact HO_5.out⟩, ⟨by (with_reducible repeat (first | refine blk_drewN ?_ _ | refine blk_drew ?_ | refine blk_alloc ?_ _)); exact BK643.out⟩, ⟨by repeat (first | (with_reducible first | exact HB.out | apply below_alloc | apply pw_below_drewN | apply below_drew1 | refine below_set ?_ GE643.out) | exact HB.out)⟩⟩
          · replace c9 := Bool.eq_false_iff.mpr c9
            subst c9
            have H1 : (spec_Select.j1 k1 l0 x5_1 x6_1 false a1_0 a1_1 a1_2 a1_3 a1_4) = some r := by rw [if_neg (show ¬ (false = true) by decide)] at H; exact H
            clear H
            have H := H1
            clear H1
            have H' := Aside0.mk H
            clear H
            go_wp2_with (first | (go_at_call 62; (with_reducible refine (spec_l12Recs.calls k1 _ _ l0 false _ ?side1 ?side2 A8.out).mono ?_); (case side1 => repeat (first | exact (Kd.C_below HR0.out HB.out) | (with_reducible refine Kd.C_alloc ?_ _) | (with_reducible refine Kd.C_drewN ?_ _) | (with_reducible refine Kd.C_drew ?_))); (case side2 => exact HC0.out); rintro e w14 ⟨rfl, hb⟩; have n0_ := Aside0.mk (Kd.R_below (by (with_reducible repeat (first | apply Kd.R_alloc | apply Kd.R_drewN | apply Kd.R_drew)); exact HO_5.out) hb); have n1_ := Aside0.mk (blk_below (g := gb643) (o := .cells #[.int .i64 a1_0, .int .i64 a1_1, .int .i64 a1_2, .int .i64 a1_3, .int .i64 a1_4] 43 (0, 0)) (by (with_reducible repeat (first | refine blk_drewN ?_ _ | refine blk_drew ?_ | refine blk_alloc ?_ _)); exact BK643.out) hb); have n2_ := Aside0.mk (below_step (by repeat (first | (with_reducible first | exact HB.out | apply below_alloc | apply pw_below_drewN | apply below_drew1 | refine below_set ?_ GE643.out) | exact HB.out)) hb); clear HO_5; clear BK643; clear HB; have HO_5 := n0_; have BK643 := n1_; have HB := n2_; clear n0_ n1_ n2_; (try clear hb); (try clear hb2); (try clear hk); (try clear hi)))
            go_meet
            case rel => exact ⟨_, (false), (by first | rfl | (simp; done) | (simp [*]; done)), H', ⟨by have := HK1.out; first | omega | exact Nat.le_refl _⟩, ⟨by (with_reducible repeat (first | apply Kd.R_alloc | apply Kd.R_drewN | apply Kd.R_drew)); exact HO_5.out⟩, ⟨by (with_reducible repeat (first | refine blk_drewN ?_ _ | refine blk_drew ?_ | refine blk_alloc ?_ _)); exact BK643.out⟩, ⟨by repeat (first | (with_reducible first | exact HB.out | apply below_alloc | apply pw_below_drewN | apply below_drew1 | refine below_set ?_ GE643.out) | exact HB.out)⟩⟩
        · rw [if_neg c7] at H
          have c7b0 : decide (x6_1 < (l0.length : Int)) = false := decide_eq_false c7
          clear c7
          (first | rw [c7b0] | (simp only [i64_w, i32_w]; rw [c7b0]) | skip)
          have H' := Aside0.mk H
          clear H
          go_wp2
          go_meet
          case rel => exact ⟨_, (false), (by first | rfl | (simp; done) | (simp [*]; done)), H', ⟨by have := HK1.out; first | omega | exact Nat.le_refl _⟩, ⟨by (with_reducible repeat (first | apply Kd.R_alloc | apply Kd.R_drewN | apply Kd.R_drew)); exact HO_5.out⟩, ⟨by (with_reducible repeat (first | refine blk_drewN ?_ _ | refine blk_drew ?_ | refine blk_alloc ?_ _)); exact BK643.out⟩, ⟨by repeat (first | (with_reducible first | exact HB.out | apply below_alloc | apply pw_below_drewN | apply below_drew1 | refine below_set ?_ GE643.out) | exact HB.out)⟩⟩
      case rest =>
        clear HC6
        try clear c2
        try clear p2
        try clear c7
        try clear c7b0
        try clear c9
        try clear hcz12_0
        try clear hcz12_1
        try clear hcz12_2
        try clear hcz12_3
        try clear hcz12_4
        try clear hfz12_0
        try clear hfz12_1
        try clear hfz12_2
        try clear hfz12_3
        try clear hfz12_4
        try clear p2
        obtain ⟨kq, x19_5, rfl, HA, HJ5, HO_5, BK643, HB⟩ := hcut
        cases kq with
        | zero => exact absurd HA.out (by simp [spec_Select.j1])
        | succ kj5 =>
          have H := HA.out
          clear HA
          simp only [spec_Select.j1] at H
          by_cases c15 : x19_5 = true
          · subst c15
            have H1 : (if 0 ≤ x6_1 then (if x6_1 < (l0.length : Int) then ((spec_l21Asks.f a1_0 a1_1 a1_2 a1_3 a1_4 ((rd_T78 l0 x6_1).f0) ((rd_T78 l0 x6_1).f1) ((rd_T78 l0 x6_1).f2) ((rd_T78 l0 x6_1).f3) ((rd_T78 l0 x6_1).f4) ((rd_T78 l0 x6_1).f5)).bind fun t650 => (if t650 = true then (if x5_1.length < 17592186044416 then (spec_Select.l0 kj5 l0 (x5_1 ++ [x6_1]) (wrap64 (x6_1 + 1)) a1_0 a1_1 a1_2 a1_3 a1_4) else (none)) else (spec_Select.l0 kj5 l0 x5_1 (wrap64 (x6_1 + 1)) a1_0 a1_1 a1_2 a1_3 a1_4))) else (none)) else (none)) = some r := by rw [if_pos rfl] at H; exact H
            clear H
            have H := H1
            clear H1
            by_cases c16 : 0 ≤ x6_1
            · rw [if_pos c16] at H
              have c16b0 : decide (0 ≤ x6_1) = true := decide_eq_true c16
              clear c16
              by_cases c17 : x6_1 < (l0.length : Int)
              · rw [if_pos c17] at H
                have c17b0 : decide (x6_1 < (l0.length : Int)) = true := decide_eq_true c17
                clear c17
                replace H := Option.bind_eq_some_iff.mp H
                obtain ⟨t650, A180, H⟩ := H
                replace H : (if t650 = true then (if x5_1.length < 17592186044416 then (spec_Select.l0 kj5 l0 (x5_1 ++ [x6_1]) (wrap64 (x6_1 + 1)) a1_0 a1_1 a1_2 a1_3 a1_4) else (none)) else (spec_Select.l0 kj5 l0 x5_1 (wrap64 (x6_1 + 1)) a1_0 a1_1 a1_2 a1_3 a1_4)) = some r := H
                have A18 := Aside0.mk A180
                clear A180
                by_cases c19 : t650 = true
                · subst c19
                  have H1 : (if x5_1.length < 17592186044416 then (spec_Select.l0 kj5 l0 (x5_1 ++ [x6_1]) (wrap64 (x6_1 + 1)) a1_0 a1_1 a1_2 a1_3 a1_4) else (none)) = some r := by rw [if_pos rfl] at H; exact H
                  clear H
                  have H := H1
                  clear H1
                  by_cases c20 : x5_1.length < 17592186044416
                  · rw [if_pos c20] at H
                    have LMc20 := Aside0.mk c20
                    clear c20
                    obtain ⟨y651, hy651⟩ : ∃ y_ : List Int, y_ = (x5_1 ++ [x6_1]) := ⟨_, rfl⟩
                    replace H : (spec_Select.l0 kj5 l0 y651 (wrap64 (x6_1 + 1)) a1_0 a1_1 a1_2 a1_3 a1_4) = some r := by first | (rw [hy651]; with_reducible exact H) | (have H2_ := (Option.bind_some _ _).symm.trans H; rw [hy651]; with_reducible exact H2_) | (have H2_ := (Option.bind_some _ _).symm.trans H; with_reducible exact H2_) | with_reducible exact H | (rw [hy651]; exact H) | exact H
                    have Ny651 := Aside0.mk hy651
                    clear hy651
                    have H' := Aside0.mk H
                    clear H
                    try go_wp2
                    have n0_ := Aside0.mk (Kd.R_drew HO_5.out)
                    have n1_ := Aside0.mk (blk_drew BK643.out)
                    have n2_ := Aside0.mk (below_drew1 HB.out)
                    clear HO_5
                    clear BK643
                    clear HB
                    have HO_5 := n0_
                    have BK643 := n1_
                    have HB := n2_
                    clear n0_ n1_ n2_
                    have p649 : 0 ≤ (x6_1 : Int) := of_decide_eq_true (by first | (with_reducible assumption) | assumption)
                    have q649 : x6_1 < (l0.length : Int) := of_decide_eq_true (by first | (with_reducible assumption) | assumption)
                    obtain ⟨ad649, e649, hx649_0, hx649_1, hx649_2, hx649_3, hx649_4, hx649_5⟩ := at_T78 HR0.out x6_1 p649 q649
                    have hw649_5 := hx649_5
                    have hw649_4 := hx649_4
                    have hw649_3 := hx649_3
                    have hw649_2 := hx649_2
                    have hw649_1 := hx649_1
                    have hw649_0 := hx649_0
                    cases e649
                    replace hx649_0 := (HB.out.cell (World.block_lt_of_cell? w _ hx649_0)).trans hx649_0
                    replace hx649_1 := (HB.out.cell (World.block_lt_of_cell? w _ hx649_1)).trans hx649_1
                    replace hx649_2 := (HB.out.cell (World.block_lt_of_cell? w _ hx649_2)).trans hx649_2
                    replace hx649_3 := (HB.out.cell (World.block_lt_of_cell? w _ hx649_3)).trans hx649_3
                    replace hx649_4 := (HB.out.cell (World.block_lt_of_cell? w _ hx649_4)).trans hx649_4
                    replace hx649_5 := (HB.out.cell (World.block_lt_of_cell? w _ hx649_5)).trans hx649_5
                    replace p649 := eq_true p649
                    replace q649 := eq_true q649
                    refine start_ (n := 6) (S := fun w' => w'.cell? ⟨gb643, 0, none⟩ = some (.int .i64 a1_0) ∧ w'.cell? ⟨gb643, 1, none⟩ = some (.int .i64 a1_1) ∧ w'.cell? ⟨gb643, 2, none⟩ = some (.int .i64 a1_2) ∧ w'.cell? ⟨gb643, 3, none⟩ = some (.int .i64 a1_3) ∧ w'.cell? ⟨gb643, 4, none⟩ = some (.int .i64 a1_4) ∧ w'.cell? (ad649.add ((x6_1).toNat * 6)) = some (.int .i64 ((rd_T78 l0 x6_1).f0)) ∧ w'.cell? ⟨(ad649.add ((x6_1).toNat * 6)).block, (ad649.add ((x6_1).toNat * 6)).off + 1, none⟩ = some (.int .i64 ((rd_T78 l0 x6_1).f1)) ∧ w'.cell? ⟨(ad649.add ((x6_1).toNat * 6)).block, (ad649.add ((x6_1).toNat * 6)).off + 2, none⟩ = some (.int .i64 ((rd_T78 l0 x6_1).f2)) ∧ w'.cell? ⟨(ad649.add ((x6_1).toNat * 6)).block, (ad649.add ((x6_1).toNat * 6)).off + 3, none⟩ = some (.int .i64 ((rd_T78 l0 x6_1).f3)) ∧ w'.cell? ⟨(ad649.add ((x6_1).toNat * 6)).block, (ad649.add ((x6_1).toNat * 6)).off + 4, none⟩ = some (.int .i64 ((rd_T78 l0 x6_1).f4)) ∧ w'.cell? ⟨(ad649.add ((x6_1).toNat * 6)).block, (ad649.add ((x6_1).toNat * 6)).off + 5, none⟩ = some (.int .i64 ((rd_T78 l0 x6_1).f5))) (ds := []) (tf 0 6) (by kernel_rfl) rfl rfl ⟨(blk_cell BK643.out 0).trans rfl, (blk_cell BK643.out 1).trans rfl, (blk_cell BK643.out 2).trans rfl, (blk_cell BK643.out 3).trans rfl, (blk_cell BK643.out 4).trans rfl, ((HB.out.cell (World.block_lt_of_cell? w _ hw649_0)).trans hw649_0), ((HB.out.cell (World.block_lt_of_cell? w _ hw649_1)).trans hw649_1), ((HB.out.cell (World.block_lt_of_cell? w _ hw649_2)).trans hw649_2), ((HB.out.cell (World.block_lt_of_cell? w _ hw649_3)).trans hw649_3), ((HB.out.cell (World.block_lt_of_cell? w _ hw649_4)).trans hw649_4), ((HB.out.cell (World.block_lt_of_cell? w _ hw649_5)).trans hw649_5)⟩ (fun hHeld => ?_)
                    generalize wc.drew = w21 at HO_5 BK643 HB hx649_0 hx649_1 hx649_2 hx649_3 hx649_4 hx649_5 hHeld ⊢
                    refine pure_ (i := 1) (N := some 23) (v := ?_) (a' := ?_) #[false, true, false, false, false, false] rfl rfl (by kernel_rfl) (fun _ _ _ h => h) (Or.inl ⟨by rfl, ?_⟩) ?_ ?_
                    rotate_left; (focus intro w'; go_simp; with_reducible rfl)
                    rotate_left; (focus simp only [Act.put, List.setIfInBounds_toArray, List.set_cons_zero, List.set_cons_succ, i64_w, i32_w]; rfl)
                    refine pure_ (i := 2) (N := some 24) (v := ?_) (a' := ?_) #[false, true, true, false, false, false] rfl rfl (by kernel_rfl) (fun _ _ _ h => h) (Or.inl ⟨by rfl, ?_⟩) ?_ ?_
                    rotate_left; (focus intro w'; go_simp; with_reducible rfl)
                    rotate_left; (focus simp only [Act.put, List.setIfInBounds_toArray, List.set_cons_zero, List.set_cons_succ, i64_w, i32_w]; rfl)
                    refine pure_ (i := 3) (N := some 25) (v := ?_) (a' := ?_) #[false, true, true, true, false, false] rfl rfl (by kernel_rfl) (fun _ _ _ h => h) (Or.inl ⟨by rfl, ?_⟩) ?_ ?_
                    rotate_left; (focus intro w'; go_simp; with_reducible rfl)
                    rotate_left; (focus simp only [Act.put, List.setIfInBounds_toArray, List.set_cons_zero, List.set_cons_succ, i64_w, i32_w]; rfl)
                    refine take_ (i := 0) (N := some 22) (v := ?_) (a' := ?_) (tf 4 2) rfl rfl (by kernel_rfl) (fun _ _ _ h => h) (Or.inl ⟨by rfl, ?_⟩) hHeld ?_ ?_
                    rotate_left
                    · rintro w' ⟨s0, s1, s2, s3, s4, s5, s6, s7, s8, s9, s10⟩
                      go_simp
                      with_reducible rfl
                    rotate_left; (focus simp only [Act.put, List.setIfInBounds_toArray, List.set_cons_zero, List.set_cons_succ, i64_w, i32_w]; rfl)
                    refine take_ (i := 4) (N := some 26) (v := ?_) (a' := ?_) (tf 5 1) rfl rfl (by kernel_rfl) (fun _ _ _ h => h) (Or.inl ⟨by rfl, ?_⟩) hHeld ?_ ?_
                    rotate_left
                    · rintro w' ⟨s0, s1, s2, s3, s4, s5, s6, s7, s8, s9, s10⟩
                      go_simp
                      with_reducible rfl
                    rotate_left; (focus simp only [Act.put, List.setIfInBounds_toArray, List.set_cons_zero, List.set_cons_succ, i64_w, i32_w]; rfl)
                    refine one_ (i := 5) (N := some 27) (tf 6 0) rfl rfl (by kernel_rfl) (by decide) (fun K hK => ?_)
                    refine goes_ Try.func78 (by kernel_rfl) rfl #[.agg #[.int .i64 a1_0, .int .i64 a1_1, .int .i64 a1_2, .int .i64 a1_3, .int .i64 a1_4], .agg #[.int .i64 ((rd_T78 l0 x6_1).f0), .int .i64 ((rd_T78 l0 x6_1).f1), .int .i64 ((rd_T78 l0 x6_1).f2), .int .i64 ((rd_T78 l0 x6_1).f3), .int .i64 ((rd_T78 l0 x6_1).f4), .int .i64 ((rd_T78 l0 x6_1).f5)]] (by rfl) rfl rfl (by (try simp only [List.map_toArray, List.map_cons, List.map_nil]); first | done | rfl | (simp only [List.length_drop, List.length_take]; rfl)) ?_
                    with_reducible refine (spec_l21Asks.calls a1_0 a1_1 a1_2 a1_3 a1_4 ((rd_T78 l0 x6_1).f0) ((rd_T78 l0 x6_1).f1) ((rd_T78 l0 x6_1).f2) ((rd_T78 l0 x6_1).f3) ((rd_T78 l0 x6_1).f4) ((rd_T78 l0 x6_1).f5) true _ A18.out).mono ?_
                    rintro e w22 ⟨rfl, hb⟩
                    refine ⟨_, rfl, ?_⟩
                    have n0_ := Aside0.mk (Kd.R_below (by (with_reducible repeat (first | apply Kd.R_alloc | apply Kd.R_drewN | apply Kd.R_drew)); exact HO_5.out) hb)
                    have n1_ := Aside0.mk (blk_below (g := gb643) (o := .cells #[.int .i64 a1_0, .int .i64 a1_1, .int .i64 a1_2, .int .i64 a1_3, .int .i64 a1_4] 43 (0, 0)) (by (with_reducible repeat (first | refine blk_drewN ?_ _ | refine blk_drew ?_ | refine blk_alloc ?_ _)); exact BK643.out) hb)
                    have n2_ := Aside0.mk (below_step (by repeat (first | (with_reducible first | exact HB.out | apply below_alloc | apply pw_below_drewN | apply below_drew1 | refine below_set ?_ GE643.out) | exact HB.out)) hb)
                    clear HO_5
                    clear BK643
                    clear HB
                    have HO_5 := n0_
                    have BK643 := n1_
                    have HB := n2_
                    clear n0_ n1_ n2_
                    (try clear hb)
                    (try clear hb2)
                    (try clear hk)
                    (try clear hi)
                    refine hK.out _ _ ⟨(blk_cell BK643.out 0).trans rfl, (blk_cell BK643.out 1).trans rfl, (blk_cell BK643.out 2).trans rfl, (blk_cell BK643.out 3).trans rfl, (blk_cell BK643.out 4).trans rfl, ((HB.out.cell (World.block_lt_of_cell? w _ hw649_0)).trans hw649_0), ((HB.out.cell (World.block_lt_of_cell? w _ hw649_1)).trans hw649_1), ((HB.out.cell (World.block_lt_of_cell? w _ hw649_2)).trans hw649_2), ((HB.out.cell (World.block_lt_of_cell? w _ hw649_3)).trans hw649_3), ((HB.out.cell (World.block_lt_of_cell? w _ hw649_4)).trans hw649_4), ((HB.out.cell (World.block_lt_of_cell? w _ hw649_5)).trans hw649_5)⟩ (fun hHeld => ?_)
                    clear hK K
                    refine norm_ (a' := ?_) ?_ ?_
                    rotate_left
                    · show Act.put _ (some 27) _ = _
                      simp only [Act.put, List.setIfInBounds_toArray, List.set_cons_zero, List.set_cons_succ, i64_w, i32_w]
                      rfl
                    refine done_ (by kernel_rfl) ?_
                    try go_wp2_with (first | ((with_reducible refine gate_builtin (b := .append) (xs := #[.tmp 28, .tmp 30]) rfl ?_); at_builtin; refine Kd.R_append (Kd.int .i64) (w0 := w) w.heap.size rfl (.tmp 28) (.tmp 30) 41 2 (.int .i64 0) 8 rfl Try.underlying41 info2 rfl (by decide) (by omega) u5 x5_1 x6_1 [.int .i64 x6_1] (fun _ => True) (fun _ => False) rfl rfl ?aP (fun _ hk => hk.elim) ?aF ?aO ?aB ?aS ?aL ?_; (case aP => exact rfl); (case aB => exact (by repeat (first | (with_reducible first | exact HB.out | apply below_alloc | apply pw_below_drewN | apply below_drew1 | refine below_set ?_ GE643.out) | exact HB.out))); (case aF => exact (fun _ _ => trivial)); (case aO => exact (by (with_reducible repeat (first | apply Kd.R_alloc | apply Kd.R_drewN | apply Kd.R_drew)); exact HO_5.out)); (case aS => exact (below_size (by repeat (first | (with_reducible first | exact HB.out | apply below_alloc | apply pw_below_drewN | apply below_drew1 | refine below_set ?_ GE643.out) | exact HB.out)))); (case aL => have := LMc20.out; omega); intro v652 w23 ho hb hg hat; rw [← Ny651.out] at ho; have n0_ := Aside0.mk (blk_grown (g := gb643) (o := .cells #[.int .i64 a1_0, .int .i64 a1_1, .int .i64 a1_2, .int .i64 a1_3, .int .i64 a1_4] 43 (0, 0)) (by (with_reducible repeat (first | refine blk_drewN ?_ _ | refine blk_drew ?_ | refine blk_alloc ?_ _)); exact BK643.out) hg (Kd.R_ne HO_5.out BK643.out (by decide))); have n1_ := Aside0.mk (hb); have n2_ := Aside0.mk (ho); clear BK643; clear HB; clear HO_5; have BK643 := n0_; have HB := n1_; have HO653 := n2_; clear n0_ n1_ n2_; clear ho hb hg hat))
                    go_roundg kj5
                    case measure => have := HK1.out; have := HJ5.out; omega
                    case rel => exact ⟨(y651), (wrap64 (x6_1 + 1)), (by first | rfl | (simp; done) | (simp [*]; done)), H', ⟨by have := HK1.out; have := HJ5.out; omega⟩, ⟨by (with_reducible repeat (first | apply Kd.R_alloc | apply Kd.R_drewN | apply Kd.R_drew)); exact HO653.out⟩, ⟨by (with_reducible repeat (first | refine blk_drewN ?_ _ | refine blk_drew ?_ | refine blk_alloc ?_ _)); exact BK643.out⟩, ⟨by repeat (first | (with_reducible first | exact HB.out | apply below_alloc | apply pw_below_drewN | apply below_drew1 | refine below_set ?_ GE643.out) | exact HB.out)⟩⟩
                  · rw [if_neg c20] at H
                    exact absurd H (by simp)
                · replace c19 := Bool.eq_false_iff.mpr c19
                  subst c19
                  have H1 : (spec_Select.l0 kj5 l0 x5_1 (wrap64 (x6_1 + 1)) a1_0 a1_1 a1_2 a1_3 a1_4) = some r := by rw [if_neg (show ¬ (false = true) by decide)] at H; exact H
                  clear H
                  have H := H1
                  clear H1
                  have H' := Aside0.mk H
                  clear H
                  try go_wp2
                  have n0_ := Aside0.mk (Kd.R_drew HO_5.out)
                  have n1_ := Aside0.mk (blk_drew BK643.out)
                  have n2_ := Aside0.mk (below_drew1 HB.out)
                  clear HO_5
                  clear BK643
                  clear HB
                  have HO_5 := n0_
                  have BK643 := n1_
                  have HB := n2_
                  clear n0_ n1_ n2_
                  have p649 : 0 ≤ (x6_1 : Int) := of_decide_eq_true (by first | (with_reducible assumption) | assumption)
                  have q649 : x6_1 < (l0.length : Int) := of_decide_eq_true (by first | (with_reducible assumption) | assumption)
                  obtain ⟨ad649, e649, hx649_0, hx649_1, hx649_2, hx649_3, hx649_4, hx649_5⟩ := at_T78 HR0.out x6_1 p649 q649
                  have hw649_5 := hx649_5
                  have hw649_4 := hx649_4
                  have hw649_3 := hx649_3
                  have hw649_2 := hx649_2
                  have hw649_1 := hx649_1
                  have hw649_0 := hx649_0
                  cases e649
                  replace hx649_0 := (HB.out.cell (World.block_lt_of_cell? w _ hx649_0)).trans hx649_0
                  replace hx649_1 := (HB.out.cell (World.block_lt_of_cell? w _ hx649_1)).trans hx649_1
                  replace hx649_2 := (HB.out.cell (World.block_lt_of_cell? w _ hx649_2)).trans hx649_2
                  replace hx649_3 := (HB.out.cell (World.block_lt_of_cell? w _ hx649_3)).trans hx649_3
                  replace hx649_4 := (HB.out.cell (World.block_lt_of_cell? w _ hx649_4)).trans hx649_4
                  replace hx649_5 := (HB.out.cell (World.block_lt_of_cell? w _ hx649_5)).trans hx649_5
                  replace p649 := eq_true p649
                  replace q649 := eq_true q649
                  refine start_ (n := 6) (S := fun w' => w'.cell? ⟨gb643, 0, none⟩ = some (.int .i64 a1_0) ∧ w'.cell? ⟨gb643, 1, none⟩ = some (.int .i64 a1_1) ∧ w'.cell? ⟨gb643, 2, none⟩ = some (.int .i64 a1_2) ∧ w'.cell? ⟨gb643, 3, none⟩ = some (.int .i64 a1_3) ∧ w'.cell? ⟨gb643, 4, none⟩ = some (.int .i64 a1_4) ∧ w'.cell? (ad649.add ((x6_1).toNat * 6)) = some (.int .i64 ((rd_T78 l0 x6_1).f0)) ∧ w'.cell? ⟨(ad649.add ((x6_1).toNat * 6)).block, (ad649.add ((x6_1).toNat * 6)).off + 1, none⟩ = some (.int .i64 ((rd_T78 l0 x6_1).f1)) ∧ w'.cell? ⟨(ad649.add ((x6_1).toNat * 6)).block, (ad649.add ((x6_1).toNat * 6)).off + 2, none⟩ = some (.int .i64 ((rd_T78 l0 x6_1).f2)) ∧ w'.cell? ⟨(ad649.add ((x6_1).toNat * 6)).block, (ad649.add ((x6_1).toNat * 6)).off + 3, none⟩ = some (.int .i64 ((rd_T78 l0 x6_1).f3)) ∧ w'.cell? ⟨(ad649.add ((x6_1).toNat * 6)).block, (ad649.add ((x6_1).toNat * 6)).off + 4, none⟩ = some (.int .i64 ((rd_T78 l0 x6_1).f4)) ∧ w'.cell? ⟨(ad649.add ((x6_1).toNat * 6)).block, (ad649.add ((x6_1).toNat * 6)).off + 5, none⟩ = some (.int .i64 ((rd_T78 l0 x6_1).f5))) (ds := []) (tf 0 6) (by kernel_rfl) rfl rfl ⟨(blk_cell BK643.out 0).trans rfl, (blk_cell BK643.out 1).trans rfl, (blk_cell BK643.out 2).trans rfl, (blk_cell BK643.out 3).trans rfl, (blk_cell BK643.out 4).trans rfl, ((HB.out.cell (World.block_lt_of_cell? w _ hw649_0)).trans hw649_0), ((HB.out.cell (World.block_lt_of_cell? w _ hw649_1)).trans hw649_1), ((HB.out.cell (World.block_lt_of_cell? w _ hw649_2)).trans hw649_2), ((HB.out.cell (World.block_lt_of_cell? w _ hw649_3)).trans hw649_3), ((HB.out.cell (World.block_lt_of_cell? w _ hw649_4)).trans hw649_4), ((HB.out.cell (World.block_lt_of_cell? w _ hw649_5)).trans hw649_5)⟩ (fun hHeld => ?_)
                  generalize wc.drew = w24 at HO_5 BK643 HB hx649_0 hx649_1 hx649_2 hx649_3 hx649_4 hx649_5 hHeld ⊢
                  refine pure_ (i := 1) (N := some 23) (v := ?_) (a' := ?_) #[false, true, false, false, false, false] rfl rfl (by kernel_rfl) (fun _ _ _ h => h) (Or.inl ⟨by rfl, ?_⟩) ?_ ?_
                  rotate_left; (focus intro w'; go_simp; with_reducible rfl)
                  rotate_left; (focus simp only [Act.put, List.setIfInBounds_toArray, List.set_cons_zero, List.set_cons_succ, i64_w, i32_w]; rfl)
                  refine pure_ (i := 2) (N := some 24) (v := ?_) (a' := ?_) #[false, true, true, false, false, false] rfl rfl (by kernel_rfl) (fun _ _ _ h => h) (Or.inl ⟨by rfl, ?_⟩) ?_ ?_
                  rotate_left; (focus intro w'; go_simp; with_reducible rfl)
                  rotate_left; (focus simp only [Act.put, List.setIfInBounds_toArray, List.set_cons_zero, List.set_cons_succ, i64_w, i32_w]; rfl)
                  refine pure_ (i := 3) (N := some 25) (v := ?_) (a' := ?_) #[false, true, true, true, false, false] rfl rfl (by kernel_rfl) (fun _ _ _ h => h) (Or.inl ⟨by rfl, ?_⟩) ?_ ?_
                  rotate_left; (focus intro w'; go_simp; with_reducible rfl)
                  rotate_left; (focus simp only [Act.put, List.setIfInBounds_toArray, List.set_cons_zero, List.set_cons_succ, i64_w, i32_w]; rfl)
                  refine take_ (i := 0) (N := some 22) (v := ?_) (a' := ?_) (tf 4 2) rfl rfl (by kernel_rfl) (fun _ _ _ h => h) (Or.inl ⟨by rfl, ?_⟩) hHeld ?_ ?_
                  rotate_left
                  · rintro w' ⟨s0, s1, s2, s3, s4, s5, s6, s7, s8, s9, s10⟩
                    go_simp
                    with_reducible rfl
                  rotate_left; (focus simp only [Act.put, List.setIfInBounds_toArray, List.set_cons_zero, List.set_cons_succ, i64_w, i32_w]; rfl)
                  refine take_ (i := 4) (N := some 26) (v := ?_) (a' := ?_) (tf 5 1) rfl rfl (by kernel_rfl) (fun _ _ _ h => h) (Or.inl ⟨by rfl, ?_⟩) hHeld ?_ ?_
                  rotate_left
                  · rintro w' ⟨s0, s1, s2, s3, s4, s5, s6, s7, s8, s9, s10⟩
                    go_simp
                    with_reducible rfl
                  rotate_left; (focus simp only [Act.put, List.setIfInBounds_toArray, List.set_cons_zero, List.set_cons_succ, i64_w, i32_w]; rfl)
                  refine one_ (i := 5) (N := some 27) (tf 6 0) rfl rfl (by kernel_rfl) (by decide) (fun K hK => ?_)
                  refine goes_ Try.func78 (by kernel_rfl) rfl #[.agg #[.int .i64 a1_0, .int .i64 a1_1, .int .i64 a1_2, .int .i64 a1_3, .int .i64 a1_4], .agg #[.int .i64 ((rd_T78 l0 x6_1).f0), .int .i64 ((rd_T78 l0 x6_1).f1), .int .i64 ((rd_T78 l0 x6_1).f2), .int .i64 ((rd_T78 l0 x6_1).f3), .int .i64 ((rd_T78 l0 x6_1).f4), .int .i64 ((rd_T78 l0 x6_1).f5)]] (by rfl) rfl rfl (by (try simp only [List.map_toArray, List.map_cons, List.map_nil]); first | done | rfl | (simp only [List.length_drop, List.length_take]; rfl)) ?_
                  with_reducible refine (spec_l21Asks.calls a1_0 a1_1 a1_2 a1_3 a1_4 ((rd_T78 l0 x6_1).f0) ((rd_T78 l0 x6_1).f1) ((rd_T78 l0 x6_1).f2) ((rd_T78 l0 x6_1).f3) ((rd_T78 l0 x6_1).f4) ((rd_T78 l0 x6_1).f5) false _ A18.out).mono ?_
                  rintro e w25 ⟨rfl, hb⟩
                  refine ⟨_, rfl, ?_⟩
                  have n0_ := Aside0.mk (Kd.R_below (by (with_reducible repeat (first | apply Kd.R_alloc | apply Kd.R_drewN | apply Kd.R_drew)); exact HO_5.out) hb)
                  have n1_ := Aside0.mk (blk_below (g := gb643) (o := .cells #[.int .i64 a1_0, .int .i64 a1_1, .int .i64 a1_2, .int .i64 a1_3, .int .i64 a1_4] 43 (0, 0)) (by (with_reducible repeat (first | refine blk_drewN ?_ _ | refine blk_drew ?_ | refine blk_alloc ?_ _)); exact BK643.out) hb)
                  have n2_ := Aside0.mk (below_step (by repeat (first | (with_reducible first | exact HB.out | apply below_alloc | apply pw_below_drewN | apply below_drew1 | refine below_set ?_ GE643.out) | exact HB.out)) hb)
                  clear HO_5
                  clear BK643
                  clear HB
                  have HO_5 := n0_
                  have BK643 := n1_
                  have HB := n2_
                  clear n0_ n1_ n2_
                  (try clear hb)
                  (try clear hb2)
                  (try clear hk)
                  (try clear hi)
                  refine hK.out _ _ ⟨(blk_cell BK643.out 0).trans rfl, (blk_cell BK643.out 1).trans rfl, (blk_cell BK643.out 2).trans rfl, (blk_cell BK643.out 3).trans rfl, (blk_cell BK643.out 4).trans rfl, ((HB.out.cell (World.block_lt_of_cell? w _ hw649_0)).trans hw649_0), ((HB.out.cell (World.block_lt_of_cell? w _ hw649_1)).trans hw649_1), ((HB.out.cell (World.block_lt_of_cell? w _ hw649_2)).trans hw649_2), ((HB.out.cell (World.block_lt_of_cell? w _ hw649_3)).trans hw649_3), ((HB.out.cell (World.block_lt_of_cell? w _ hw649_4)).trans hw649_4), ((HB.out.cell (World.block_lt_of_cell? w _ hw649_5)).trans hw649_5)⟩ (fun hHeld => ?_)
                  clear hK K
                  refine norm_ (a' := ?_) ?_ ?_
                  rotate_left
                  · show Act.put _ (some 27) _ = _
                    simp only [Act.put, List.setIfInBounds_toArray, List.set_cons_zero, List.set_cons_succ, i64_w, i32_w]
                    rfl
                  refine done_ (by kernel_rfl) ?_
                  try go_wp2
                  go_roundg kj5
                  case measure => have := HK1.out; have := HJ5.out; omega
                  case rel => exact ⟨(x5_1), (wrap64 (x6_1 + 1)), (by first | rfl | (simp; done) | (simp [*]; done)), H', ⟨by have := HK1.out; have := HJ5.out; omega⟩, ⟨by (with_reducible repeat (first | apply Kd.R_alloc | apply Kd.R_drewN | apply Kd.R_drew)); exact HO_5.out⟩, ⟨by (with_reducible repeat (first | refine blk_drewN ?_ _ | refine blk_drew ?_ | refine blk_alloc ?_ _)); exact BK643.out⟩, ⟨by repeat (first | (with_reducible first | exact HB.out | apply below_alloc | apply pw_below_drewN | apply below_drew1 | refine below_set ?_ GE643.out) | exact HB.out)⟩⟩
              · rw [if_neg c17] at H
                exact absurd H (by simp)
            · rw [if_neg c16] at H
              exact absurd H (by simp)
          · replace c15 := Bool.eq_false_iff.mpr c15
            subst c15
            have H1 : (some x5_1) = some r := by rw [if_neg (show ¬ (false = true) by decide)] at H; exact H
            clear H
            have H := H1
            clear H1
            obtain rfl := Option.some.inj H
            go_wp2
            go_ret
            exact ⟨_, by first | rfl | (simp [errW_none, errW_some] <;> rfl) | (simp [*, errW_none, errW_some] <;> rfl), by (with_reducible repeat (first | apply Kd.R_alloc | apply Kd.R_drewN | apply Kd.R_drew)); exact HO_5.out, by repeat (first | (with_reducible first | exact HB.out | apply below_alloc | apply pw_below_drewN | apply below_drew1 | refine below_set ?_ GE643.out) | exact HB.out)⟩

end Go.Proofs.Ytgcgdjldhjajaaa.A
/- What Select chooses, in plain words. -/
namespace Go.Proofs.Ytgcgdjldhjajaaa.A
open Go.RowKit Go.Proofs.Ytgcgdjldhjajaaa Go.Proofs.YtgcgdjldhjajaaaW.PrintWords Go.Proofs.YtgcgdjldhjajaaaW.PrintLast Go.Proofs.YtgcgdjldhjajaaaW.PrintMore
set_option linter.unusedVariables false
set_option linter.unusedSimpArgs false
/-- What is asked for of the records from number i on. -/
def askAt (l : List S78) (n kk ab ff tt : Int) (i : Nat) : Bool := asksJ n kk ab ff tt (rd_T78 l (i : Int)).f0 (rd_T78 l (i : Int)).f1 (rd_T78 l (i : Int)).f2 (rd_T78 l (i : Int)).f3 (rd_T78 l (i : Int)).f4
def selL (l : List S78) (n kk ab ff tt : Int) : Nat → Nat → List Int
  | 0, _ => []
  | d + 1, i => if askAt l n kk ab ff tt i = true then (i : Int) :: selL l n kk ab ff tt d (i + 1) else selL l n kk ab ff tt d (i + 1)
theorem selL_len (l : List S78) (n kk ab ff tt : Int) : ∀ d i, (selL l n kk ab ff tt d i).length ≤ d := by
  intro d
  induction d with
  | zero => intro i; simp [selL]
  | succ d ih =>
    intro i
    simp only [selL]
    have := ih (i + 1)
    split
    · simp; omega
    · omega
theorem sel_spec (l : List S78) (n kk ab ff tt : Int) (hl : l.length ≤ 400) (hr : okRecs l = true) (hq : queryB n kk ab ff tt = true) : ∀ (d k i : Nat) (acc : List Int), i + d = l.length → acc.length ≤ i → l.length + 2 * d + 2 < k → spec_Select.l0 k l acc (i : Int) n kk ab ff tt = some (acc ++ selL l n kk ab ff tt d i) := by
  intro d
  induction d with
  | zero =>
    intro k i acc hi ha hk
    obtain ⟨m, rfl⟩ : ∃ m, k = m + 1 + 1 := ⟨k - 2, by omega⟩
    simp only [spec_Select.l0]
    rw [if_neg (by omega)]
    simp only [spec_Select.j1, selL, List.append_nil]
    rfl
  | succ d ih =>
    intro k i acc hi ha hk
    obtain ⟨m, rfl⟩ : ∃ m, k = m + 1 + 1 := ⟨k - 2, by omega⟩
    have hlt : i < l.length := by omega
    have e1 : spec_Select.l0 (m + 1 + 1) l acc (i : Int) n kk ab ff tt = (if askAt l n kk ab ff tt i = true then spec_Select.l0 m l (acc ++ [(i : Int)]) ((i + 1 : Nat) : Int) n kk ab ff tt else spec_Select.l0 m l acc ((i + 1 : Nat) : Int) n kk ab ff tt) := by
      simp only [spec_Select.l0]
      rw [if_pos (by omega), s_recs l _ (by omega), hr]
      simp only [Option.bind_some, if_true]
      rw [s_query, hq]
      simp only [Option.bind_some, spec_Select.j1, if_true]
      rw [if_pos (by omega), if_pos (by omega), s_asks]
      simp only [Option.bind_some]
      rw [if_pos (show acc.length < 17592186044416 by omega), Lst.w1n i l.length hlt (by omega)]
      rfl
    rw [e1]
    simp only [selL]
    by_cases hc : askAt l n kk ab ff tt i = true
    · rw [if_pos hc, if_pos hc, ih m (i + 1) _ (by omega) (by simp; omega) (by omega)]
      simp
    · rw [if_neg hc, if_neg hc, ih m (i + 1) _ (by omega) (by omega) (by omega)]
theorem sel_impl (l : List S78) (n kk ab ff tt : Int) (hl : l.length ≤ 400) : ∀ (d k i : Nat) (acc : List Int), i + d = l.length → acc.length ≤ i → d < k → impl_Select.l0 k acc l (l.length : Int) (i : Int) n kk ab ff tt = some (acc ++ selL l n kk ab ff tt d i) := by
  intro d
  induction d with
  | zero =>
    intro k i acc hi ha hk
    obtain ⟨m, rfl⟩ : ∃ m, k = m + 1 := ⟨k - 1, by omega⟩
    simp only [impl_Select.l0, selL, List.append_nil]
    rw [if_neg (by omega)]
  | succ d ih =>
    intro k i acc hi ha hk
    obtain ⟨m, rfl⟩ : ∃ m, k = m + 1 := ⟨k - 1, by omega⟩
    have hlt : i < l.length := by omega
    have e1 : impl_Select.l0 (m + 1) acc l (l.length : Int) (i : Int) n kk ab ff tt = (if askAt l n kk ab ff tt i = true then impl_Select.l0 m (acc ++ [(i : Int)]) l (l.length : Int) ((i + 1 : Nat) : Int) n kk ab ff tt else impl_Select.l0 m acc l (l.length : Int) ((i + 1 : Nat) : Int) n kk ab ff tt) := by
      simp only [impl_Select.l0]
      rw [if_pos (by omega), if_pos (by omega), if_pos (by omega)]
      simp only [impl_Query_asks.f, Option.bind_some]
      rw [if_pos (show acc.length < 17592186044416 by omega), Lst.w1n i l.length hlt (by omega)]
      rfl
    rw [e1]
    simp only [selL]
    by_cases hc : askAt l n kk ab ff tt i = true
    · rw [if_pos hc, if_pos hc, ih m (i + 1) _ (by omega) (by simp; omega) (by omega)]
      simp
    · rw [if_neg hc, if_neg hc, ih m (i + 1) _ (by omega) (by omega) (by omega)]
def selR (l : List S78) (n kk ab ff tt : Int) : List Int := if okRecs l = true then (if queryB n kk ab ff tt = true then selL l n kk ab ff tt l.length 0 else []) else []
theorem selR_len (l : List S78) (n kk ab ff tt : Int) : (selR l n kk ab ff tt).length ≤ l.length := by
  unfold selR
  have := selL_len l n kk ab ff tt l.length 0
  split
  · split
    · omega
    · simp
  · simp
theorem okRecs_len (l : List S78) (h : okRecs l = true) : l.length ≤ 400 := by
  unfold okRecs at h
  rw [Bool.and_eq_true] at h
  exact of_decide_eq_true h.1
theorem select_spec (l : List S78) (n kk ab ff tt : Int) (k : Nat) (hk : 3 * l.length + 10 < k) : spec_Select.f k l n kk ab ff tt = some (selR l n kk ab ff tt) := by
  unfold spec_Select.f selR
  by_cases hr : okRecs l = true
  · have hl := okRecs_len l hr
    rw [if_pos hr]
    by_cases hq : queryB n kk ab ff tt = true
    · rw [if_pos hq, show (0 : Int) = ((0 : Nat) : Int) from rfl, sel_spec l n kk ab ff tt hl hr hq l.length k 0 [] (by omega) (by simp) (by omega)]
      rfl
    · rw [if_neg hq]
      obtain ⟨m, rfl⟩ : ∃ m, k = m + 1 + 1 := ⟨k - 2, by omega⟩
      simp only [spec_Select.l0]
      by_cases h0 : (0 : Int) < (l.length : Int)
      · rw [if_pos h0, s_recs l _ (by omega), hr]
        simp only [Option.bind_some, if_true]
        rw [s_query]
        simp only [Option.bind_some, spec_Select.j1]
        rw [if_neg hq]
      · rw [if_neg h0]
        simp only [spec_Select.j1]
        rfl
  · rw [if_neg hr]
    obtain ⟨m, rfl⟩ : ∃ m, k = m + 1 + 1 := ⟨k - 2, by omega⟩
    simp only [spec_Select.l0]
    by_cases h0 : (0 : Int) < (l.length : Int)
    · rw [if_pos h0, s_recs l _ (by omega)]
      simp only [Option.bind_some]
      rw [if_neg hr]
      simp only [spec_Select.j1]
      rfl
    · rw [if_neg h0]
      simp only [spec_Select.j1]
      rfl
theorem select_impl (l : List S78) (n kk ab ff tt : Int) (k : Nat) (hk : l.length + 10 < k) : impl_Select.f k l n kk ab ff tt = some (selR l n kk ab ff tt) := by
  unfold impl_Select.f selR
  obtain ⟨m, rfl⟩ : ∃ m, k = m + 1 := ⟨k - 1, by omega⟩
  rw [i_recs]
  simp only [Option.bind_some]
  by_cases hr : okRecs l = true
  · have hl := okRecs_len l hr
    rw [if_pos hr, if_pos hr, i_query]
    simp only [Option.bind_some, impl_Select.j0]
    by_cases hq : queryB n kk ab ff tt = true
    · rw [if_pos hq, hq, show (0 : Int) = ((0 : Nat) : Int) from rfl, sel_impl l n kk ab ff tt hl l.length m 0 [] (by omega) (by simp) (by omega)]
      rfl
    · rw [if_neg hq, if_pos (by simpa using hq)]
  · rw [if_neg hr, if_neg hr]
    simp only [impl_Select.j0]
    rfl
end Go.Proofs.Ytgcgdjldhjajaaa.A
/- CountBy of the program and of the reference count the same. -/
namespace Go.Proofs.Ytgcgdjldhjajaaa.A
open Go.RowKit Go.Proofs.Ytgcgdjldhjajaaa Go.Proofs.YtgcgdjldhjajaaaW.PrintWords Go.Proofs.YtgcgdjldhjajaaaW.PrintLast Go.Proofs.YtgcgdjldhjajaaaW.PrintMore
set_option linter.unusedVariables false
set_option linter.unusedSimpArgs false
/-- The place where the node of record j is counted. -/
def nodeAt (l : List S78) (j : Int) : Int := wrap64 ((rd_T78 l j).f1 - 1)
def cnt (l : List S78) : List Int → List Int → List Int
  | x, [] => x
  | x, j :: js => cnt l (x.set (nodeAt l j).toNat (wrap64 (rd x (nodeAt l j) + 1))) js
theorem cnt_len (l : List S78) : ∀ (js x : List Int), (cnt l x js).length = x.length := by
  intro js
  induction js with
  | nil => intro x; rfl
  | cons j js ih => intro x; simp only [cnt]; rw [ih]; simp
theorem nodes (l : List S78) (hr : okRecs l = true) (i : Int) (h0 : 0 ≤ i) (hi : i < (l.length : Int)) : 0 ≤ nodeAt l i ∧ nodeAt l i < 6 := by
  unfold okRecs at hr
  rw [Bool.and_eq_true] at hr
  obtain ⟨j, rfl⟩ : ∃ j : Nat, i = (j : Int) := ⟨i.toNat, by omega⟩
  have hj : j < l.length := by omega
  unfold nodeAt
  rw [rd_nat_Rec l j hj]
  have := List.all_eq_true.mp hr.2 l[j] (List.getElem_mem hj)
  unfold recOk recB nodeB at this
  simp only [Bool.and_eq_true, decide_eq_true_eq] at this
  have h2 := this.1.2
  unfold wrap64
  omega
theorem cnt_spec (l : List S78) (n kk ab ff tt : Int) (hl : l.length ≤ 400) (hr : okRecs l = true) : ∀ (d k i : Nat) (x : List Int), i + d = l.length → x.length = 6 → d < k → spec_CountBy.l0 k l x (i : Int) n kk ab ff tt = some (cnt l x (selL l n kk ab ff tt d i)) := by
  intro d
  induction d with
  | zero =>
    intro k i x hi hx hk
    obtain ⟨m, rfl⟩ : ∃ m, k = m + 1 := ⟨k - 1, by omega⟩
    simp only [spec_CountBy.l0]
    rw [if_neg (by omega)]
    rfl
  | succ d ih =>
    intro k i x hi hx hk
    obtain ⟨m, rfl⟩ : ∃ m, k = m + 1 := ⟨k - 1, by omega⟩
    have hlt : i < l.length := by omega
    obtain ⟨h1, h2⟩ := nodes l hr (i : Int) (by omega) (by omega)
    have e1 : spec_CountBy.l0 (m + 1) l x (i : Int) n kk ab ff tt = (if askAt l n kk ab ff tt i = true then spec_CountBy.l0 m l (x.set (nodeAt l (i : Int)).toNat (wrap64 (rd x (nodeAt l (i : Int)) + 1))) ((i + 1 : Nat) : Int) n kk ab ff tt else spec_CountBy.l0 m l x ((i + 1 : Nat) : Int) n kk ab ff tt) := by
      simp only [spec_CountBy.l0]
      rw [if_pos (by omega), if_pos (by omega), s_asks]
      simp only [Option.bind_some]
      rw [if_pos (show 0 ≤ wrap64 ((rd_T78 l (i : Int)).f1 - 1) from h1), if_pos (show wrap64 ((rd_T78 l (i : Int)).f1 - 1) < (x.length : Int) from by unfold nodeAt at h2; omega), Lst.w1n i l.length hlt (by omega)]
      rfl
    rw [e1]
    simp only [selL]
    by_cases hc : askAt l n kk ab ff tt i = true
    · rw [if_pos hc, if_pos hc, ih m (i + 1) _ (by omega) (by simpa using hx) (by omega)]
      rfl
    · rw [if_neg hc, if_neg hc, ih m (i + 1) _ (by omega) hx (by omega)]
theorem selL_in (l : List S78) (n kk ab ff tt : Int) : ∀ d i, i + d = l.length → ∀ j ∈ selL l n kk ab ff tt d i, 0 ≤ j ∧ j < (l.length : Int) := by
  intro d
  induction d with
  | zero => intro i _ j hj; simp [selL] at hj
  | succ d ih =>
    intro i hi j hj
    simp only [selL] at hj
    split at hj
    · rcases List.mem_cons.mp hj with rfl | h
      · omega
      · exact ih (i + 1) (by omega) j h
    · exact ih (i + 1) (by omega) j hj
theorem cnt_impl (l : List S78) (hl : l.length ≤ 400) (hr : okRecs l = true) (t : List Int) (ht : t.length ≤ 400) (hin : ∀ j ∈ t, 0 ≤ j ∧ j < (l.length : Int)) : ∀ (d k i : Nat) (x : List Int), i + d = t.length → x.length = 6 → d < k → impl_CountBy.l0 k l x t (t.length : Int) (i : Int) = some (cnt l x (t.drop i)) := by
  intro d
  induction d with
  | zero =>
    intro k i x hi hx hk
    obtain ⟨m, rfl⟩ : ∃ m, k = m + 1 := ⟨k - 1, by omega⟩
    simp only [impl_CountBy.l0]
    rw [if_neg (by omega), List.drop_of_length_le (by omega)]
    rfl
  | succ d ih =>
    intro k i x hi hx hk
    obtain ⟨m, rfl⟩ : ∃ m, k = m + 1 := ⟨k - 1, by omega⟩
    have hlt : i < t.length := by omega
    have hj : rd t (i : Int) = t[i] := by rw [rd_nat, List.getD_eq_getElem?_getD, List.getElem?_eq_getElem hlt]; rfl
    obtain ⟨g1, g2⟩ := hin t[i] (List.getElem_mem hlt)
    obtain ⟨h1, h2⟩ := nodes l hr t[i] g1 g2
    simp only [impl_CountBy.l0]
    rw [if_pos (by omega), if_pos (by omega), if_pos (by omega), hj, if_pos g1, if_pos g2, if_pos (show 0 ≤ wrap64 ((rd_T78 l t[i]).f1 - 1) from h1), if_pos (show wrap64 ((rd_T78 l t[i]).f1 - 1) < (x.length : Int) from by unfold nodeAt at h2; omega), Lst.w1n i t.length hlt (by omega), ih m (i + 1) _ (by omega) (by simpa using hx) (by omega), List.drop_eq_getElem_cons hlt]
    rfl
def cntR (l : List S78) (n kk ab ff tt : Int) : List Int := if okRecs l = true then (if queryB n kk ab ff tt = true then cnt l (List.replicate 6 0) (selL l n kk ab ff tt l.length 0) else []) else []
theorem cntR_len (l : List S78) (n kk ab ff tt : Int) : (cntR l n kk ab ff tt).length ≤ 6 := by
  unfold cntR
  split
  · split
    · rw [cnt_len]; simp
    · simp
  · simp
theorem countBy_spec (l : List S78) (n kk ab ff tt : Int) (k : Nat) (hk : 3 * l.length + 10 < k) : spec_CountBy.f k l n kk ab ff tt = some (cntR l n kk ab ff tt) := by
  unfold spec_CountBy.f cntR
  obtain ⟨m, rfl⟩ : ∃ m, k = m + 1 := ⟨k - 1, by omega⟩
  rw [s_recs l _ (by omega)]
  simp only [Option.bind_some]
  by_cases hr : okRecs l = true
  · have hl := okRecs_len l hr
    rw [if_pos hr, if_pos hr, s_query]
    simp only [Option.bind_some, spec_CountBy.j0]
    by_cases hq : queryB n kk ab ff tt = true
    · rw [if_pos hq, hq]
      simp only [Bool.not_true, Bool.false_eq_true, if_false]
      rw [if_pos (by omega), show (0 : Int) = ((0 : Nat) : Int) from rfl]
      exact cnt_spec l n kk ab ff tt hl hr l.length m 0 _ (by omega) (by simp) (by omega)
    · rw [if_neg hq, if_pos (by simpa using hq)]
  · rw [if_neg hr, if_neg hr]
    simp only [spec_CountBy.j0]
    rfl
theorem countBy_impl (l : List S78) (n kk ab ff tt : Int) (k : Nat) (hk : 3 * l.length + 20 < k) : impl_CountBy.f k l n kk ab ff tt = some (cntR l n kk ab ff tt) := by
  unfold impl_CountBy.f cntR
  obtain ⟨m, rfl⟩ : ∃ m, k = m + 1 := ⟨k - 1, by omega⟩
  rw [i_recs]
  simp only [Option.bind_some]
  by_cases hr : okRecs l = true
  · have hl := okRecs_len l hr
    rw [if_pos hr, if_pos hr, i_query]
    simp only [Option.bind_some, impl_CountBy.j0]
    by_cases hq : queryB n kk ab ff tt = true
    · rw [if_pos hq, hq]
      simp only [Bool.not_true, Bool.false_eq_true, if_false]
      rw [if_pos (by omega), select_impl l n kk ab ff tt m (by omega)]
      simp only [Option.bind_some]
      have hs : selR l n kk ab ff tt = selL l n kk ab ff tt l.length 0 := by unfold selR; rw [if_pos hr, if_pos hq]
      have hz := selL_len l n kk ab ff tt l.length 0
      rw [hs, show (0 : Int) = ((0 : Nat) : Int) from rfl, cnt_impl l hl hr _ (by omega) (selL_in l n kk ab ff tt l.length 0 (by omega)) (selL l n kk ab ff tt l.length 0).length m 0 _ (by omega) (by simp) (by omega)]
      rfl
    · rw [if_neg hq, if_pos (by simpa using hq)]
  · rw [if_neg hr, if_neg hr]
    simp only [impl_CountBy.j0]
    rfl
theorem pure_CountBy : Pure_FnExactCountBy := by
  intro l n kk ab ff tt h _
  by_cases hb : l.length ≤ 1048576
  · refine ⟨3 * l.length + 1000 + 1, ?_⟩
    unfold laws_FnExactCountBy.f
    rw [szR l h.1]
    simp only [Option.bind_some, hb, if_true]
    rw [if_neg (by omega), toR l hb _ (by omega)]
    have hm : (l.map cvR).length = l.length := by simp
    have ht : ∀ k, l.length < k → laws_toRecS.f k l = some (l.map cvR) := fun k hk => toR l hb k hk
    generalize l.map cvR = m at hm ht
    have hs := cntR_len m n kk ab ff tt
    have e0 : laws_toQuery.f n kk ab ff tt = some (n, kk, ab, ff, tt) := rfl
    obtain ⟨y, hy⟩ := markR m (by omega) (3 * l.length + 1000 + 1) (by omega)
    obtain ⟨z, hz, hz2⟩ := markI (cntR m n kk ab ff tt) (by omega) (3 * l.length + 1000) (by omega)
    simp only [Option.bind_some, e0]
    rw [countBy_spec m n kk ab ff tt _ (by omega)]
    simp only [Option.bind_some]
    rw [countBy_impl m n kk ab ff tt _ (by omega)]
    simp only [Option.bind_some]
    rw [eqI _ (by omega) _ (by omega)]
    simp only [Option.bind_some, if_true]
    rw [eqR m (by omega) _ (by omega)]
    simp only [Option.bind_some, if_true]
    rw [hy]
    simp only [Option.bind_some]
    rw [if_neg (by omega)]
    simp only [laws_FnExactCountBy.j0]
    rw [hz]
    simp only [Option.bind_some, Bool.not_true, if_false, Bool.false_eq_true]
    rw [hz2 _ (by omega)]
    simp only [Option.bind_some, if_true]
    rw [if_neg (by omega), ht _ (by omega)]
    simp only [Option.bind_some, e0]
    rw [countBy_impl m n kk ab ff tt _ (by omega)]
    simp only [Option.bind_some]
    rw [eqI _ (by omega) _ (by omega)]
    simp only [Option.bind_some, if_true]
    rw [if_neg (by omega)]
  · refine ⟨1, ?_⟩
    unfold laws_FnExactCountBy.f
    rw [szR l h.1]
    simp [hb]
end Go.Proofs.Ytgcgdjldhjajaaa.A
namespace Go.Proofs.Ytgcgdjldhjajaaa.Pure
theorem FnExactCountBy : A.Pure_FnExactCountBy := A.pure_CountBy
end Go.Proofs.Ytgcgdjldhjajaaa.Pure
