-- Merged by bundle.py out of 1 printed and hand-written texts of this claim.
import Derived.Test.YtfjdlggdnnghhaaZFnExactTimesJoina
import Derived.Test.YtfjdlggdnnghhaaZFnExactTimesJoinb
import Derived.Test.YtfjdlggdnnghhaaZFnExactTimesJoinc
namespace Go.Proofs.Ytfjdlggdnnghhaa.D1
open Go.RowKit Go.Proofs.YtfjdlggdnnghhaaW.PrintWords Go.Proofs.YtfjdlggdnnghhaaW.PrintLast Go.Proofs.YtfjdlggdnnghhaaW.PrintMore
attribute [local go_sem] max2_int min2_int max_two min_two max_three min_three max_four min_four   -- for this text's walks alone
set_option linter.unusedVariables false
set_option linter.unusedSimpArgs false

/-! ### laws_FnExactTimesJoin: function 3 -/
def laws_FnExactTimesJoin.j0 : Nat → Bool → Int → Int → Int → Int → Int → List Int → Int → Int → Int → Int → Int → List Int → Int → Int → Int → Int → Int → List Int → Int → Int → Int → Int → Int → List Int → Option (Bool)
 | 0, _, _, _, _, _, _, _, _, _, _, _, _, _, _, _, _, _, _, _, _, _, _, _, _, _ => none
 | k + 1, x63, x171000, x171001, x171002, x171003, x171004, x171005, x172000, x172001, x172002, x172003, x172004, x172005, x199000, x199001, x199002, x199003, x199004, x199005, x226000, x226001, x226002, x226003, x226004, x226005 => if x63 = true then (some false) else ((laws_markTimes.f k x226000 x226001 x226002 x226003 x226004 x226005 1).bind fun bt250 => ((laws_heldTimes.f k x226000 x226001 x226002 x226003 x226004 bt250.2 1).bind fun t252 => (if t252 < 0 then (some false) else (if t252 = bt250.1 then ((laws_toTimes.f k x171000 x171001 x171002 x171003 x171004 x171005).bind fun bt253 => ((laws_toTimes.f k x172000 x172001 x172002 x172003 x172004 x172005).bind fun bt261 => ((impl_TimesJoin.f k bt253.1 bt253.2.1 bt253.2.2.1 bt253.2.2.2.1 bt253.2.2.2.2.1 bt253.2.2.2.2.2 bt261.1 bt261.2.1 bt261.2.2.1 bt261.2.2.2.1 bt261.2.2.2.2.1 bt261.2.2.2.2.2).bind fun bt269 => ((laws_eqTimes.f k bt269.1 bt269.2.1 bt269.2.2.1 bt269.2.2.2.1 bt269.2.2.2.2.1 bt269.2.2.2.2.2 x199000 x199001 x199002 x199003 x199004 x199005).bind fun t278 => (if t278 = true then ((laws_heldTimes.f k x226000 x226001 x226002 x226003 x226004 bt250.2 1).bind fun t279 => (if t279 < 0 then (some false) else (if t279 = bt250.1 then (some true) else (some false)))) else (some false)))))) else (some false)))))
def laws_FnExactTimesJoin.f (k : Nat) (a0_0 : Int) (a0_1 : Int) (a0_2 : Int) (a0_3 : Int) (a0_4 : Int) (l0_5 : List Int) (a1_0 : Int) (a1_1 : Int) (a1_2 : Int) (a1_3 : Int) (a1_4 : Int) (l1_5 : List Int) : Option (Bool) := (laws_szTimes.f a0_0 a0_1 a0_2 a0_3 a0_4 l0_5 1048576).bind fun t172 => (if t172 < 0 then (some true) else ((laws_szTimes.f a1_0 a1_1 a1_2 a1_3 a1_4 l1_5 t172).bind fun t173 => (if t173 < 0 then (some true) else ((laws_toTimes.f k a0_0 a0_1 a0_2 a0_3 a0_4 l0_5).bind fun bt174 => ((laws_toTimes.f k a1_0 a1_1 a1_2 a1_3 a1_4 l1_5).bind fun bt182 => ((spec_TimesJoin.f k bt174.1 bt174.2.1 bt174.2.2.1 bt174.2.2.2.1 bt174.2.2.2.2.1 bt174.2.2.2.2.2 bt182.1 bt182.2.1 bt182.2.2.1 bt182.2.2.2.1 bt182.2.2.2.2.1 bt182.2.2.2.2.2).bind fun bt190 => ((laws_toTimes.f k a0_0 a0_1 a0_2 a0_3 a0_4 l0_5).bind fun bt199 => ((laws_toTimes.f k a1_0 a1_1 a1_2 a1_3 a1_4 l1_5).bind fun bt208 => ((impl_TimesJoin.f k bt199.1 bt199.2.1 bt199.2.2.1 bt199.2.2.2.1 bt199.2.2.2.2.1 bt199.2.2.2.2.2 bt208.1 bt208.2.1 bt208.2.2.1 bt208.2.2.2.1 bt208.2.2.2.2.1 bt208.2.2.2.2.2).bind fun bt217 => ((laws_eqTimes.f k bt217.1 bt217.2.1 bt217.2.2.1 bt217.2.2.2.1 bt217.2.2.2.2.1 bt217.2.2.2.2.2 bt190.1 bt190.2.1 bt190.2.2.1 bt190.2.2.2.1 bt190.2.2.2.2.1 bt190.2.2.2.2.2).bind fun t226 => (if t226 = true then ((laws_toTimes.f k a0_0 a0_1 a0_2 a0_3 a0_4 l0_5).bind fun bt227 => ((laws_eqTimes.f k bt199.1 bt199.2.1 bt199.2.2.1 bt199.2.2.2.1 bt199.2.2.2.2.1 bt199.2.2.2.2.2 bt227.1 bt227.2.1 bt227.2.2.1 bt227.2.2.2.1 bt227.2.2.2.2.1 bt227.2.2.2.2.2).bind fun t235 => (if t235 = true then ((laws_toTimes.f k a1_0 a1_1 a1_2 a1_3 a1_4 l1_5).bind fun bt236 => ((laws_eqTimes.f k bt208.1 bt208.2.1 bt208.2.2.1 bt208.2.2.2.1 bt208.2.2.2.2.1 bt208.2.2.2.2.2 bt236.1 bt236.2.1 bt236.2.2.1 bt236.2.2.2.1 bt236.2.2.2.2.1 bt236.2.2.2.2.2).bind fun t244 => (if t244 = true then ((laws_markTimes.f k bt199.1 bt199.2.1 bt199.2.2.1 bt199.2.2.2.1 bt199.2.2.2.2.1 bt199.2.2.2.2.2 1).bind fun bt245 => ((laws_markTimes.f k bt208.1 bt208.2.1 bt208.2.2.1 bt208.2.2.2.1 bt208.2.2.2.2.1 bt208.2.2.2.2.2 bt245.1).bind fun bt247 => (if bt247.1 < 0 then (laws_FnExactTimesJoin.j0 k true a0_0 a0_1 a0_2 a0_3 a0_4 l0_5 a1_0 a1_1 a1_2 a1_3 a1_4 l1_5 bt190.1 bt190.2.1 bt190.2.2.1 bt190.2.2.2.1 bt190.2.2.2.2.1 bt190.2.2.2.2.2 bt217.1 bt217.2.1 bt217.2.2.1 bt217.2.2.2.1 bt217.2.2.2.2.1 bt217.2.2.2.2.2) else ((laws_eqTimes.f k bt217.1 bt217.2.1 bt217.2.2.1 bt217.2.2.2.1 bt217.2.2.2.2.1 bt217.2.2.2.2.2 bt190.1 bt190.2.1 bt190.2.2.1 bt190.2.2.2.1 bt190.2.2.2.2.1 bt190.2.2.2.2.2).bind fun t249 => (laws_FnExactTimesJoin.j0 k (!t249) a0_0 a0_1 a0_2 a0_3 a0_4 l0_5 a1_0 a1_1 a1_2 a1_3 a1_4 l1_5 bt190.1 bt190.2.1 bt190.2.2.1 bt190.2.2.2.1 bt190.2.2.2.2.1 bt190.2.2.2.2.2 bt217.1 bt217.2.1 bt217.2.2.1 bt217.2.2.2.1 bt217.2.2.2.2.1 bt217.2.2.2.2.2))))) else (some false)))) else (some false)))) else (some false))))))))))))
theorem laws_FnExactTimesJoin.mono_l : ∀ k, (∀ y0 y1 y2 y3 y4 y5 y6 y7 y8 y9 y10 y11 y12 y13 y14 y15 y16 y17 y18 y19 y20 y21 y22 y23 y24, LeO (laws_FnExactTimesJoin.j0 k y0 y1 y2 y3 y4 y5 y6 y7 y8 y9 y10 y11 y12 y13 y14 y15 y16 y17 y18 y19 y20 y21 y22 y23 y24) (laws_FnExactTimesJoin.j0 (k + 1) y0 y1 y2 y3 y4 y5 y6 y7 y8 y9 y10 y11 y12 y13 y14 y15 y16 y17 y18 y19 y20 y21 y22 y23 y24))
 | 0 => fun _ _ _ _ _ _ _ _ _ _ _ _ _ _ _ _ _ _ _ _ _ _ _ _ _ r h => by simp [laws_FnExactTimesJoin.j0] at h
 | k + 1 => by
  have ih0 := laws_FnExactTimesJoin.mono_l k
  ·intro y0 y1 y2 y3 y4 y5 y6 y7 y8 y9 y10 y11 y12 y13 y14 y15 y16 y17 y18 y19 y20 y21 y22 y23 y24
   unfold laws_FnExactTimesJoin.j0
   repeat' first
   | (with_reducible exact ih0 _ _ _ _ _ _ _ _ _ _ _ _ _ _ _ _ _ _ _ _ _ _ _ _ _)
   | (with_reducible exact impl_TimesJoin.mono _ _ _ _ _ _ _ _ _ _ _ _ _)
   | (with_reducible exact laws_eqTimes.mono _ _ _ _ _ _ _ _ _ _ _ _ _)
   | (with_reducible exact laws_heldTimes.mono _ _ _ _ _ _ _ _)
   | (with_reducible exact laws_markTimes.mono _ _ _ _ _ _ _ _)
   | (with_reducible exact laws_toTimes.mono _ _ _ _ _ _ _)
   | (with_reducible exact spec_TimesJoin.mono _ _ _ _ _ _ _ _ _ _ _ _ _)
   | (with_reducible exact LeO.refl _)
   | (with_reducible exact LeO.none _)
   | (with_reducible refine LeO.ite ?_ ?_)
   | (with_reducible refine LeO.bind ?_ (fun _ => ?_))
   | exact ih0 _ _ _ _ _ _ _ _ _ _ _ _ _ _ _ _ _ _ _ _ _ _ _ _ _
   | exact impl_TimesJoin.mono _ _ _ _ _ _ _ _ _ _ _ _ _
   | exact laws_eqTimes.mono _ _ _ _ _ _ _ _ _ _ _ _ _
   | exact laws_heldTimes.mono _ _ _ _ _ _ _ _
   | exact laws_markTimes.mono _ _ _ _ _ _ _ _
   | exact laws_toTimes.mono _ _ _ _ _ _ _
   | exact spec_TimesJoin.mono _ _ _ _ _ _ _ _ _ _ _ _ _
   | exact LeO.none _
   | refine LeO.ite ?_ ?_
   | refine LeO.bind ?_ (fun _ => ?_)
theorem laws_FnExactTimesJoin.mono : ∀ a0 a1 a2 a3 a4 a5 a6 a7 a8 a9 a10 a11 k, LeO (laws_FnExactTimesJoin.f k a0 a1 a2 a3 a4 a5 a6 a7 a8 a9 a10 a11) (laws_FnExactTimesJoin.f (k + 1) a0 a1 a2 a3 a4 a5 a6 a7 a8 a9 a10 a11) := by
 intro a0 a1 a2 a3 a4 a5 a6 a7 a8 a9 a10 a11 k
 have ih0 := laws_FnExactTimesJoin.mono_l k
 unfold laws_FnExactTimesJoin.f
 repeat' first
   | (with_reducible exact ih0 _ _ _ _ _ _ _ _ _ _ _ _ _ _ _ _ _ _ _ _ _ _ _ _ _)
   | (with_reducible exact impl_TimesJoin.mono _ _ _ _ _ _ _ _ _ _ _ _ _)
   | (with_reducible exact laws_eqTimes.mono _ _ _ _ _ _ _ _ _ _ _ _ _)
   | (with_reducible exact laws_heldTimes.mono _ _ _ _ _ _ _ _)
   | (with_reducible exact laws_markTimes.mono _ _ _ _ _ _ _ _)
   | (with_reducible exact laws_toTimes.mono _ _ _ _ _ _ _)
   | (with_reducible exact spec_TimesJoin.mono _ _ _ _ _ _ _ _ _ _ _ _ _)
   | (with_reducible exact LeO.refl _)
   | (with_reducible exact LeO.none _)
   | (with_reducible refine LeO.ite ?_ ?_)
   | (with_reducible refine LeO.bind ?_ (fun _ => ?_))
   | exact ih0 _ _ _ _ _ _ _ _ _ _ _ _ _ _ _ _ _ _ _ _ _ _ _ _ _
   | exact impl_TimesJoin.mono _ _ _ _ _ _ _ _ _ _ _ _ _
   | exact laws_eqTimes.mono _ _ _ _ _ _ _ _ _ _ _ _ _
   | exact laws_heldTimes.mono _ _ _ _ _ _ _ _
   | exact laws_markTimes.mono _ _ _ _ _ _ _ _
   | exact laws_toTimes.mono _ _ _ _ _ _ _
   | exact spec_TimesJoin.mono _ _ _ _ _ _ _ _ _ _ _ _ _
   | exact LeO.none _
   | refine LeO.ite ?_ ?_
   | refine LeO.bind ?_ (fun _ => ?_)
set_option maxHeartbeats 8000000 in
set_option maxRecDepth 100000 in
theorem laws_FnExactTimesJoin.calls (k : Nat) (a0_0 : Int) (a0_1 : Int) (a0_2 : Int) (a0_3 : Int) (a0_4 : Int) (A0_5 : Option Addr) (c0_5 : Nat) (l0_5 : List Int) (a1_0 : Int) (a1_1 : Int) (a1_2 : Int) (a1_3 : Int) (a1_4 : Int) (A1_5 : Option Addr) (c1_5 : Nat) (l1_5 : List Int) (r : Bool) (w : World) (hr0_5 : Kd.C (Kd.int .i64) w A0_5 l0_5.length l0_5) (hc0_5 : l0_5.length ≤ c0_5) (hr1_5 : Kd.C (Kd.int .i64) w A1_5 l1_5.length l1_5) (hc1_5 : l1_5.length ≤ c1_5) (ht : r = true) (h : laws_FnExactTimesJoin.f k a0_0 a0_1 a0_2 a0_3 a0_4 l0_5 a1_0 a1_1 a1_2 a1_3 a1_4 l1_5 = some r) :
  Calls Try.prog 3 #[.agg #[.int .i64 a0_0, .int .i64 a0_1, .int .i64 a0_2, .int .i64 a0_3, .int .i64 a0_4, .slice A0_5 l0_5.length c0_5], .agg #[.int .i64 a1_0, .int .i64 a1_1, .int .i64 a1_2, .int .i64 a1_3, .int .i64 a1_4, .slice A1_5 l1_5.length c1_5]] w fun e w' => e = .returned (.bool r) ∧ Below w.heap.size w w' := by
 have hu24 := Try.underlying24
 have hu26 := Try.underlying26
 have HR0_5 := Aside0.mk hr0_5
 have HC0_5 := Aside0.mk hc0_5
 clear hr0_5 hc0_5
 have HR1_5 := Aside0.mk hr1_5
 have HC1_5 := Aside0.mk hc1_5
 clear hr1_5 hc1_5
 have HB := Aside0.mk (Below.refl w.heap.size w)
 have H : ((laws_szTimes.f a0_0 a0_1 a0_2 a0_3 a0_4 l0_5 1048576).bind fun t172 => (if t172 < 0 then (some true) else ((laws_szTimes.f a1_0 a1_1 a1_2 a1_3 a1_4 l1_5 t172).bind fun t173 => (if t173 < 0 then (some true) else ((laws_toTimes.f k a0_0 a0_1 a0_2 a0_3 a0_4 l0_5).bind fun bt174 => ((laws_toTimes.f k a1_0 a1_1 a1_2 a1_3 a1_4 l1_5).bind fun bt182 => ((spec_TimesJoin.f k bt174.1 bt174.2.1 bt174.2.2.1 bt174.2.2.2.1 bt174.2.2.2.2.1 bt174.2.2.2.2.2 bt182.1 bt182.2.1 bt182.2.2.1 bt182.2.2.2.1 bt182.2.2.2.2.1 bt182.2.2.2.2.2).bind fun bt190 => ((laws_toTimes.f k a0_0 a0_1 a0_2 a0_3 a0_4 l0_5).bind fun bt199 => ((laws_toTimes.f k a1_0 a1_1 a1_2 a1_3 a1_4 l1_5).bind fun bt208 => ((impl_TimesJoin.f k bt199.1 bt199.2.1 bt199.2.2.1 bt199.2.2.2.1 bt199.2.2.2.2.1 bt199.2.2.2.2.2 bt208.1 bt208.2.1 bt208.2.2.1 bt208.2.2.2.1 bt208.2.2.2.2.1 bt208.2.2.2.2.2).bind fun bt217 => ((laws_eqTimes.f k bt217.1 bt217.2.1 bt217.2.2.1 bt217.2.2.2.1 bt217.2.2.2.2.1 bt217.2.2.2.2.2 bt190.1 bt190.2.1 bt190.2.2.1 bt190.2.2.2.1 bt190.2.2.2.2.1 bt190.2.2.2.2.2).bind fun t226 => (if t226 = true then ((laws_toTimes.f k a0_0 a0_1 a0_2 a0_3 a0_4 l0_5).bind fun bt227 => ((laws_eqTimes.f k bt199.1 bt199.2.1 bt199.2.2.1 bt199.2.2.2.1 bt199.2.2.2.2.1 bt199.2.2.2.2.2 bt227.1 bt227.2.1 bt227.2.2.1 bt227.2.2.2.1 bt227.2.2.2.2.1 bt227.2.2.2.2.2).bind fun t235 => (if t235 = true then ((laws_toTimes.f k a1_0 a1_1 a1_2 a1_3 a1_4 l1_5).bind fun bt236 => ((laws_eqTimes.f k bt208.1 bt208.2.1 bt208.2.2.1 bt208.2.2.2.1 bt208.2.2.2.2.1 bt208.2.2.2.2.2 bt236.1 bt236.2.1 bt236.2.2.1 bt236.2.2.2.1 bt236.2.2.2.2.1 bt236.2.2.2.2.2).bind fun t244 => (if t244 = true then ((laws_markTimes.f k bt199.1 bt199.2.1 bt199.2.2.1 bt199.2.2.2.1 bt199.2.2.2.2.1 bt199.2.2.2.2.2 1).bind fun bt245 => ((laws_markTimes.f k bt208.1 bt208.2.1 bt208.2.2.1 bt208.2.2.2.1 bt208.2.2.2.2.1 bt208.2.2.2.2.2 bt245.1).bind fun bt247 => (if bt247.1 < 0 then (laws_FnExactTimesJoin.j0 k true a0_0 a0_1 a0_2 a0_3 a0_4 l0_5 a1_0 a1_1 a1_2 a1_3 a1_4 l1_5 bt190.1 bt190.2.1 bt190.2.2.1 bt190.2.2.2.1 bt190.2.2.2.2.1 bt190.2.2.2.2.2 bt217.1 bt217.2.1 bt217.2.2.1 bt217.2.2.2.1 bt217.2.2.2.2.1 bt217.2.2.2.2.2) else ((laws_eqTimes.f k bt217.1 bt217.2.1 bt217.2.2.1 bt217.2.2.2.1 bt217.2.2.2.2.1 bt217.2.2.2.2.2 bt190.1 bt190.2.1 bt190.2.2.1 bt190.2.2.2.1 bt190.2.2.2.2.1 bt190.2.2.2.2.2).bind fun t249 => (laws_FnExactTimesJoin.j0 k (!t249) a0_0 a0_1 a0_2 a0_3 a0_4 l0_5 a1_0 a1_1 a1_2 a1_3 a1_4 l1_5 bt190.1 bt190.2.1 bt190.2.2.1 bt190.2.2.2.1 bt190.2.2.2.2.1 bt190.2.2.2.2.2 bt217.1 bt217.2.1 bt217.2.2.1 bt217.2.2.2.1 bt217.2.2.2.2.1 bt217.2.2.2.2.2))))) else (some false)))) else (some false)))) else (some false))))))))))))) = some r := h
 clear h
 replace H := Option.bind_eq_some_iff.mp H
 obtain ⟨t172, A30, H⟩ := H
 replace H : (if t172 < 0 then (some true) else ((laws_szTimes.f a1_0 a1_1 a1_2 a1_3 a1_4 l1_5 t172).bind fun t173 => (if t173 < 0 then (some true) else ((laws_toTimes.f k a0_0 a0_1 a0_2 a0_3 a0_4 l0_5).bind fun bt174 => ((laws_toTimes.f k a1_0 a1_1 a1_2 a1_3 a1_4 l1_5).bind fun bt182 => ((spec_TimesJoin.f k bt174.1 bt174.2.1 bt174.2.2.1 bt174.2.2.2.1 bt174.2.2.2.2.1 bt174.2.2.2.2.2 bt182.1 bt182.2.1 bt182.2.2.1 bt182.2.2.2.1 bt182.2.2.2.2.1 bt182.2.2.2.2.2).bind fun bt190 => ((laws_toTimes.f k a0_0 a0_1 a0_2 a0_3 a0_4 l0_5).bind fun bt199 => ((laws_toTimes.f k a1_0 a1_1 a1_2 a1_3 a1_4 l1_5).bind fun bt208 => ((impl_TimesJoin.f k bt199.1 bt199.2.1 bt199.2.2.1 bt199.2.2.2.1 bt199.2.2.2.2.1 bt199.2.2.2.2.2 bt208.1 bt208.2.1 bt208.2.2.1 bt208.2.2.2.1 bt208.2.2.2.2.1 bt208.2.2.2.2.2).bind fun bt217 => ((laws_eqTimes.f k bt217.1 bt217.2.1 bt217.2.2.1 bt217.2.2.2.1 bt217.2.2.2.2.1 bt217.2.2.2.2.2 bt190.1 bt190.2.1 bt190.2.2.1 bt190.2.2.2.1 bt190.2.2.2.2.1 bt190.2.2.2.2.2).bind fun t226 => (if t226 = true then ((laws_toTimes.f k a0_0 a0_1 a0_2 a0_3 a0_4 l0_5).bind fun bt227 => ((laws_eqTimes.f k bt199.1 bt199.2.1 bt199.2.2.1 bt199.2.2.2.1 bt199.2.2.2.2.1 bt199.2.2.2.2.2 bt227.1 bt227.2.1 bt227.2.2.1 bt227.2.2.2.1 bt227.2.2.2.2.1 bt227.2.2.2.2.2).bind fun t235 => (if t235 = true then ((laws_toTimes.f k a1_0 a1_1 a1_2 a1_3 a1_4 l1_5).bind fun bt236 => ((laws_eqTimes.f k bt208.1 bt208.2.1 bt208.2.2.1 bt208.2.2.2.1 bt208.2.2.2.2.1 bt208.2.2.2.2.2 bt236.1 bt236.2.1 bt236.2.2.1 bt236.2.2.2.1 bt236.2.2.2.2.1 bt236.2.2.2.2.2).bind fun t244 => (if t244 = true then ((laws_markTimes.f k bt199.1 bt199.2.1 bt199.2.2.1 bt199.2.2.2.1 bt199.2.2.2.2.1 bt199.2.2.2.2.2 1).bind fun bt245 => ((laws_markTimes.f k bt208.1 bt208.2.1 bt208.2.2.1 bt208.2.2.2.1 bt208.2.2.2.2.1 bt208.2.2.2.2.2 bt245.1).bind fun bt247 => (if bt247.1 < 0 then (laws_FnExactTimesJoin.j0 k true a0_0 a0_1 a0_2 a0_3 a0_4 l0_5 a1_0 a1_1 a1_2 a1_3 a1_4 l1_5 bt190.1 bt190.2.1 bt190.2.2.1 bt190.2.2.2.1 bt190.2.2.2.2.1 bt190.2.2.2.2.2 bt217.1 bt217.2.1 bt217.2.2.1 bt217.2.2.2.1 bt217.2.2.2.2.1 bt217.2.2.2.2.2) else ((laws_eqTimes.f k bt217.1 bt217.2.1 bt217.2.2.1 bt217.2.2.2.1 bt217.2.2.2.2.1 bt217.2.2.2.2.2 bt190.1 bt190.2.1 bt190.2.2.1 bt190.2.2.2.1 bt190.2.2.2.2.1 bt190.2.2.2.2.2).bind fun t249 => (laws_FnExactTimesJoin.j0 k (!t249) a0_0 a0_1 a0_2 a0_3 a0_4 l0_5 a1_0 a1_1 a1_2 a1_3 a1_4 l1_5 bt190.1 bt190.2.1 bt190.2.2.1 bt190.2.2.2.1 bt190.2.2.2.2.1 bt190.2.2.2.2.2 bt217.1 bt217.2.1 bt217.2.2.1 bt217.2.2.2.1 bt217.2.2.2.2.1 bt217.2.2.2.2.2))))) else (some false)))) else (some false)))) else (some false)))))))))))) = some r := H
 have A3 := Aside0.mk A30
 clear A30
 by_cases c4 : t172 < 0
 case neg =>
  rw [if_neg c4] at H
  have c4b0 : decide (t172 < 0) = false := decide_eq_false c4
  clear c4
  replace H := Option.bind_eq_some_iff.mp H
  obtain ⟨t173, A100, H⟩ := H
  replace H : (if t173 < 0 then (some true) else ((laws_toTimes.f k a0_0 a0_1 a0_2 a0_3 a0_4 l0_5).bind fun bt174 => ((laws_toTimes.f k a1_0 a1_1 a1_2 a1_3 a1_4 l1_5).bind fun bt182 => ((spec_TimesJoin.f k bt174.1 bt174.2.1 bt174.2.2.1 bt174.2.2.2.1 bt174.2.2.2.2.1 bt174.2.2.2.2.2 bt182.1 bt182.2.1 bt182.2.2.1 bt182.2.2.2.1 bt182.2.2.2.2.1 bt182.2.2.2.2.2).bind fun bt190 => ((laws_toTimes.f k a0_0 a0_1 a0_2 a0_3 a0_4 l0_5).bind fun bt199 => ((laws_toTimes.f k a1_0 a1_1 a1_2 a1_3 a1_4 l1_5).bind fun bt208 => ((impl_TimesJoin.f k bt199.1 bt199.2.1 bt199.2.2.1 bt199.2.2.2.1 bt199.2.2.2.2.1 bt199.2.2.2.2.2 bt208.1 bt208.2.1 bt208.2.2.1 bt208.2.2.2.1 bt208.2.2.2.2.1 bt208.2.2.2.2.2).bind fun bt217 => ((laws_eqTimes.f k bt217.1 bt217.2.1 bt217.2.2.1 bt217.2.2.2.1 bt217.2.2.2.2.1 bt217.2.2.2.2.2 bt190.1 bt190.2.1 bt190.2.2.1 bt190.2.2.2.1 bt190.2.2.2.2.1 bt190.2.2.2.2.2).bind fun t226 => (if t226 = true then ((laws_toTimes.f k a0_0 a0_1 a0_2 a0_3 a0_4 l0_5).bind fun bt227 => ((laws_eqTimes.f k bt199.1 bt199.2.1 bt199.2.2.1 bt199.2.2.2.1 bt199.2.2.2.2.1 bt199.2.2.2.2.2 bt227.1 bt227.2.1 bt227.2.2.1 bt227.2.2.2.1 bt227.2.2.2.2.1 bt227.2.2.2.2.2).bind fun t235 => (if t235 = true then ((laws_toTimes.f k a1_0 a1_1 a1_2 a1_3 a1_4 l1_5).bind fun bt236 => ((laws_eqTimes.f k bt208.1 bt208.2.1 bt208.2.2.1 bt208.2.2.2.1 bt208.2.2.2.2.1 bt208.2.2.2.2.2 bt236.1 bt236.2.1 bt236.2.2.1 bt236.2.2.2.1 bt236.2.2.2.2.1 bt236.2.2.2.2.2).bind fun t244 => (if t244 = true then ((laws_markTimes.f k bt199.1 bt199.2.1 bt199.2.2.1 bt199.2.2.2.1 bt199.2.2.2.2.1 bt199.2.2.2.2.2 1).bind fun bt245 => ((laws_markTimes.f k bt208.1 bt208.2.1 bt208.2.2.1 bt208.2.2.2.1 bt208.2.2.2.2.1 bt208.2.2.2.2.2 bt245.1).bind fun bt247 => (if bt247.1 < 0 then (laws_FnExactTimesJoin.j0 k true a0_0 a0_1 a0_2 a0_3 a0_4 l0_5 a1_0 a1_1 a1_2 a1_3 a1_4 l1_5 bt190.1 bt190.2.1 bt190.2.2.1 bt190.2.2.2.1 bt190.2.2.2.2.1 bt190.2.2.2.2.2 bt217.1 bt217.2.1 bt217.2.2.1 bt217.2.2.2.1 bt217.2.2.2.2.1 bt217.2.2.2.2.2) else ((laws_eqTimes.f k bt217.1 bt217.2.1 bt217.2.2.1 bt217.2.2.2.1 bt217.2.2.2.2.1 bt217.2.2.2.2.2 bt190.1 bt190.2.1 bt190.2.2.1 bt190.2.2.2.1 bt190.2.2.2.2.1 bt190.2.2.2.2.2).bind fun t249 => (laws_FnExactTimesJoin.j0 k (!t249) a0_0 a0_1 a0_2 a0_3 a0_4 l0_5 a1_0 a1_1 a1_2 a1_3 a1_4 l1_5 bt190.1 bt190.2.1 bt190.2.2.1 bt190.2.2.2.1 bt190.2.2.2.2.1 bt190.2.2.2.2.2 bt217.1 bt217.2.1 bt217.2.2.1 bt217.2.2.2.1 bt217.2.2.2.2.1 bt217.2.2.2.2.2))))) else (some false)))) else (some false)))) else (some false)))))))))) = some r := H
  have A10 := Aside0.mk A100
  clear A100
  by_cases c11 : t173 < 0
  case neg =>
   rw [if_neg c11] at H
   have c11b0 : decide (t173 < 0) = false := decide_eq_false c11
   clear c11
   replace H := Option.bind_eq_some_iff.mp H
   obtain ⟨⟨t174, t175, t176, t177, t178, t179⟩, A190, H⟩ := H
   replace H : ((laws_toTimes.f k a1_0 a1_1 a1_2 a1_3 a1_4 l1_5).bind fun bt182 => ((spec_TimesJoin.f k t174 t175 t176 t177 t178 t179 bt182.1 bt182.2.1 bt182.2.2.1 bt182.2.2.2.1 bt182.2.2.2.2.1 bt182.2.2.2.2.2).bind fun bt190 => ((laws_toTimes.f k a0_0 a0_1 a0_2 a0_3 a0_4 l0_5).bind fun bt199 => ((laws_toTimes.f k a1_0 a1_1 a1_2 a1_3 a1_4 l1_5).bind fun bt208 => ((impl_TimesJoin.f k bt199.1 bt199.2.1 bt199.2.2.1 bt199.2.2.2.1 bt199.2.2.2.2.1 bt199.2.2.2.2.2 bt208.1 bt208.2.1 bt208.2.2.1 bt208.2.2.2.1 bt208.2.2.2.2.1 bt208.2.2.2.2.2).bind fun bt217 => ((laws_eqTimes.f k bt217.1 bt217.2.1 bt217.2.2.1 bt217.2.2.2.1 bt217.2.2.2.2.1 bt217.2.2.2.2.2 bt190.1 bt190.2.1 bt190.2.2.1 bt190.2.2.2.1 bt190.2.2.2.2.1 bt190.2.2.2.2.2).bind fun t226 => (if t226 = true then ((laws_toTimes.f k a0_0 a0_1 a0_2 a0_3 a0_4 l0_5).bind fun bt227 => ((laws_eqTimes.f k bt199.1 bt199.2.1 bt199.2.2.1 bt199.2.2.2.1 bt199.2.2.2.2.1 bt199.2.2.2.2.2 bt227.1 bt227.2.1 bt227.2.2.1 bt227.2.2.2.1 bt227.2.2.2.2.1 bt227.2.2.2.2.2).bind fun t235 => (if t235 = true then ((laws_toTimes.f k a1_0 a1_1 a1_2 a1_3 a1_4 l1_5).bind fun bt236 => ((laws_eqTimes.f k bt208.1 bt208.2.1 bt208.2.2.1 bt208.2.2.2.1 bt208.2.2.2.2.1 bt208.2.2.2.2.2 bt236.1 bt236.2.1 bt236.2.2.1 bt236.2.2.2.1 bt236.2.2.2.2.1 bt236.2.2.2.2.2).bind fun t244 => (if t244 = true then ((laws_markTimes.f k bt199.1 bt199.2.1 bt199.2.2.1 bt199.2.2.2.1 bt199.2.2.2.2.1 bt199.2.2.2.2.2 1).bind fun bt245 => ((laws_markTimes.f k bt208.1 bt208.2.1 bt208.2.2.1 bt208.2.2.2.1 bt208.2.2.2.2.1 bt208.2.2.2.2.2 bt245.1).bind fun bt247 => (if bt247.1 < 0 then (laws_FnExactTimesJoin.j0 k true a0_0 a0_1 a0_2 a0_3 a0_4 l0_5 a1_0 a1_1 a1_2 a1_3 a1_4 l1_5 bt190.1 bt190.2.1 bt190.2.2.1 bt190.2.2.2.1 bt190.2.2.2.2.1 bt190.2.2.2.2.2 bt217.1 bt217.2.1 bt217.2.2.1 bt217.2.2.2.1 bt217.2.2.2.2.1 bt217.2.2.2.2.2) else ((laws_eqTimes.f k bt217.1 bt217.2.1 bt217.2.2.1 bt217.2.2.2.1 bt217.2.2.2.2.1 bt217.2.2.2.2.2 bt190.1 bt190.2.1 bt190.2.2.1 bt190.2.2.2.1 bt190.2.2.2.2.1 bt190.2.2.2.2.2).bind fun t249 => (laws_FnExactTimesJoin.j0 k (!t249) a0_0 a0_1 a0_2 a0_3 a0_4 l0_5 a1_0 a1_1 a1_2 a1_3 a1_4 l1_5 bt190.1 bt190.2.1 bt190.2.2.1 bt190.2.2.2.1 bt190.2.2.2.2.1 bt190.2.2.2.2.2 bt217.1 bt217.2.1 bt217.2.2.1 bt217.2.2.2.1 bt217.2.2.2.2.1 bt217.2.2.2.2.2))))) else (some false)))) else (some false)))) else (some false)))))))) = some r := H
   have A19 := Aside0.mk A190
   clear A190
   replace H := Option.bind_eq_some_iff.mp H
   obtain ⟨⟨t182, t183, t184, t185, t186, t187⟩, A200, H⟩ := H
   replace H : ((spec_TimesJoin.f k t174 t175 t176 t177 t178 t179 t182 t183 t184 t185 t186 t187).bind fun bt190 => ((laws_toTimes.f k a0_0 a0_1 a0_2 a0_3 a0_4 l0_5).bind fun bt199 => ((laws_toTimes.f k a1_0 a1_1 a1_2 a1_3 a1_4 l1_5).bind fun bt208 => ((impl_TimesJoin.f k bt199.1 bt199.2.1 bt199.2.2.1 bt199.2.2.2.1 bt199.2.2.2.2.1 bt199.2.2.2.2.2 bt208.1 bt208.2.1 bt208.2.2.1 bt208.2.2.2.1 bt208.2.2.2.2.1 bt208.2.2.2.2.2).bind fun bt217 => ((laws_eqTimes.f k bt217.1 bt217.2.1 bt217.2.2.1 bt217.2.2.2.1 bt217.2.2.2.2.1 bt217.2.2.2.2.2 bt190.1 bt190.2.1 bt190.2.2.1 bt190.2.2.2.1 bt190.2.2.2.2.1 bt190.2.2.2.2.2).bind fun t226 => (if t226 = true then ((laws_toTimes.f k a0_0 a0_1 a0_2 a0_3 a0_4 l0_5).bind fun bt227 => ((laws_eqTimes.f k bt199.1 bt199.2.1 bt199.2.2.1 bt199.2.2.2.1 bt199.2.2.2.2.1 bt199.2.2.2.2.2 bt227.1 bt227.2.1 bt227.2.2.1 bt227.2.2.2.1 bt227.2.2.2.2.1 bt227.2.2.2.2.2).bind fun t235 => (if t235 = true then ((laws_toTimes.f k a1_0 a1_1 a1_2 a1_3 a1_4 l1_5).bind fun bt236 => ((laws_eqTimes.f k bt208.1 bt208.2.1 bt208.2.2.1 bt208.2.2.2.1 bt208.2.2.2.2.1 bt208.2.2.2.2.2 bt236.1 bt236.2.1 bt236.2.2.1 bt236.2.2.2.1 bt236.2.2.2.2.1 bt236.2.2.2.2.2).bind fun t244 => (if t244 = true then ((laws_markTimes.f k bt199.1 bt199.2.1 bt199.2.2.1 bt199.2.2.2.1 bt199.2.2.2.2.1 bt199.2.2.2.2.2 1).bind fun bt245 => ((laws_markTimes.f k bt208.1 bt208.2.1 bt208.2.2.1 bt208.2.2.2.1 bt208.2.2.2.2.1 bt208.2.2.2.2.2 bt245.1).bind fun bt247 => (if bt247.1 < 0 then (laws_FnExactTimesJoin.j0 k true a0_0 a0_1 a0_2 a0_3 a0_4 l0_5 a1_0 a1_1 a1_2 a1_3 a1_4 l1_5 bt190.1 bt190.2.1 bt190.2.2.1 bt190.2.2.2.1 bt190.2.2.2.2.1 bt190.2.2.2.2.2 bt217.1 bt217.2.1 bt217.2.2.1 bt217.2.2.2.1 bt217.2.2.2.2.1 bt217.2.2.2.2.2) else ((laws_eqTimes.f k bt217.1 bt217.2.1 bt217.2.2.1 bt217.2.2.2.1 bt217.2.2.2.2.1 bt217.2.2.2.2.2 bt190.1 bt190.2.1 bt190.2.2.1 bt190.2.2.2.1 bt190.2.2.2.2.1 bt190.2.2.2.2.2).bind fun t249 => (laws_FnExactTimesJoin.j0 k (!t249) a0_0 a0_1 a0_2 a0_3 a0_4 l0_5 a1_0 a1_1 a1_2 a1_3 a1_4 l1_5 bt190.1 bt190.2.1 bt190.2.2.1 bt190.2.2.2.1 bt190.2.2.2.2.1 bt190.2.2.2.2.2 bt217.1 bt217.2.1 bt217.2.2.1 bt217.2.2.2.1 bt217.2.2.2.2.1 bt217.2.2.2.2.2))))) else (some false)))) else (some false)))) else (some false))))))) = some r := H
   have A20 := Aside0.mk A200
   clear A200
   replace H := Option.bind_eq_some_iff.mp H
   obtain ⟨⟨t190, t191, t192, t193, t194, t195⟩, A210, H⟩ := H
   replace H : ((laws_toTimes.f k a0_0 a0_1 a0_2 a0_3 a0_4 l0_5).bind fun bt199 => ((laws_toTimes.f k a1_0 a1_1 a1_2 a1_3 a1_4 l1_5).bind fun bt208 => ((impl_TimesJoin.f k bt199.1 bt199.2.1 bt199.2.2.1 bt199.2.2.2.1 bt199.2.2.2.2.1 bt199.2.2.2.2.2 bt208.1 bt208.2.1 bt208.2.2.1 bt208.2.2.2.1 bt208.2.2.2.2.1 bt208.2.2.2.2.2).bind fun bt217 => ((laws_eqTimes.f k bt217.1 bt217.2.1 bt217.2.2.1 bt217.2.2.2.1 bt217.2.2.2.2.1 bt217.2.2.2.2.2 t190 t191 t192 t193 t194 t195).bind fun t226 => (if t226 = true then ((laws_toTimes.f k a0_0 a0_1 a0_2 a0_3 a0_4 l0_5).bind fun bt227 => ((laws_eqTimes.f k bt199.1 bt199.2.1 bt199.2.2.1 bt199.2.2.2.1 bt199.2.2.2.2.1 bt199.2.2.2.2.2 bt227.1 bt227.2.1 bt227.2.2.1 bt227.2.2.2.1 bt227.2.2.2.2.1 bt227.2.2.2.2.2).bind fun t235 => (if t235 = true then ((laws_toTimes.f k a1_0 a1_1 a1_2 a1_3 a1_4 l1_5).bind fun bt236 => ((laws_eqTimes.f k bt208.1 bt208.2.1 bt208.2.2.1 bt208.2.2.2.1 bt208.2.2.2.2.1 bt208.2.2.2.2.2 bt236.1 bt236.2.1 bt236.2.2.1 bt236.2.2.2.1 bt236.2.2.2.2.1 bt236.2.2.2.2.2).bind fun t244 => (if t244 = true then ((laws_markTimes.f k bt199.1 bt199.2.1 bt199.2.2.1 bt199.2.2.2.1 bt199.2.2.2.2.1 bt199.2.2.2.2.2 1).bind fun bt245 => ((laws_markTimes.f k bt208.1 bt208.2.1 bt208.2.2.1 bt208.2.2.2.1 bt208.2.2.2.2.1 bt208.2.2.2.2.2 bt245.1).bind fun bt247 => (if bt247.1 < 0 then (laws_FnExactTimesJoin.j0 k true a0_0 a0_1 a0_2 a0_3 a0_4 l0_5 a1_0 a1_1 a1_2 a1_3 a1_4 l1_5 t190 t191 t192 t193 t194 t195 bt217.1 bt217.2.1 bt217.2.2.1 bt217.2.2.2.1 bt217.2.2.2.2.1 bt217.2.2.2.2.2) else ((laws_eqTimes.f k bt217.1 bt217.2.1 bt217.2.2.1 bt217.2.2.2.1 bt217.2.2.2.2.1 bt217.2.2.2.2.2 t190 t191 t192 t193 t194 t195).bind fun t249 => (laws_FnExactTimesJoin.j0 k (!t249) a0_0 a0_1 a0_2 a0_3 a0_4 l0_5 a1_0 a1_1 a1_2 a1_3 a1_4 l1_5 t190 t191 t192 t193 t194 t195 bt217.1 bt217.2.1 bt217.2.2.1 bt217.2.2.2.1 bt217.2.2.2.2.1 bt217.2.2.2.2.2))))) else (some false)))) else (some false)))) else (some false)))))) = some r := H
   have A21 := Aside0.mk A210
   clear A210
   replace H := Option.bind_eq_some_iff.mp H
   obtain ⟨⟨t199, t200, t201, t202, t203, t204⟩, A220, H⟩ := H
   replace H : ((laws_toTimes.f k a1_0 a1_1 a1_2 a1_3 a1_4 l1_5).bind fun bt208 => ((impl_TimesJoin.f k t199 t200 t201 t202 t203 t204 bt208.1 bt208.2.1 bt208.2.2.1 bt208.2.2.2.1 bt208.2.2.2.2.1 bt208.2.2.2.2.2).bind fun bt217 => ((laws_eqTimes.f k bt217.1 bt217.2.1 bt217.2.2.1 bt217.2.2.2.1 bt217.2.2.2.2.1 bt217.2.2.2.2.2 t190 t191 t192 t193 t194 t195).bind fun t226 => (if t226 = true then ((laws_toTimes.f k a0_0 a0_1 a0_2 a0_3 a0_4 l0_5).bind fun bt227 => ((laws_eqTimes.f k t199 t200 t201 t202 t203 t204 bt227.1 bt227.2.1 bt227.2.2.1 bt227.2.2.2.1 bt227.2.2.2.2.1 bt227.2.2.2.2.2).bind fun t235 => (if t235 = true then ((laws_toTimes.f k a1_0 a1_1 a1_2 a1_3 a1_4 l1_5).bind fun bt236 => ((laws_eqTimes.f k bt208.1 bt208.2.1 bt208.2.2.1 bt208.2.2.2.1 bt208.2.2.2.2.1 bt208.2.2.2.2.2 bt236.1 bt236.2.1 bt236.2.2.1 bt236.2.2.2.1 bt236.2.2.2.2.1 bt236.2.2.2.2.2).bind fun t244 => (if t244 = true then ((laws_markTimes.f k t199 t200 t201 t202 t203 t204 1).bind fun bt245 => ((laws_markTimes.f k bt208.1 bt208.2.1 bt208.2.2.1 bt208.2.2.2.1 bt208.2.2.2.2.1 bt208.2.2.2.2.2 bt245.1).bind fun bt247 => (if bt247.1 < 0 then (laws_FnExactTimesJoin.j0 k true a0_0 a0_1 a0_2 a0_3 a0_4 l0_5 a1_0 a1_1 a1_2 a1_3 a1_4 l1_5 t190 t191 t192 t193 t194 t195 bt217.1 bt217.2.1 bt217.2.2.1 bt217.2.2.2.1 bt217.2.2.2.2.1 bt217.2.2.2.2.2) else ((laws_eqTimes.f k bt217.1 bt217.2.1 bt217.2.2.1 bt217.2.2.2.1 bt217.2.2.2.2.1 bt217.2.2.2.2.2 t190 t191 t192 t193 t194 t195).bind fun t249 => (laws_FnExactTimesJoin.j0 k (!t249) a0_0 a0_1 a0_2 a0_3 a0_4 l0_5 a1_0 a1_1 a1_2 a1_3 a1_4 l1_5 t190 t191 t192 t193 t194 t195 bt217.1 bt217.2.1 bt217.2.2.1 bt217.2.2.2.1 bt217.2.2.2.2.1 bt217.2.2.2.2.2))))) else (some false)))) else (some false)))) else (some false))))) = some r := H
   have A22 := Aside0.mk A220
   clear A220
   replace H := Option.bind_eq_some_iff.mp H
   obtain ⟨⟨t208, t209, t210, t211, t212, t213⟩, A230, H⟩ := H
   replace H : ((impl_TimesJoin.f k t199 t200 t201 t202 t203 t204 t208 t209 t210 t211 t212 t213).bind fun bt217 => ((laws_eqTimes.f k bt217.1 bt217.2.1 bt217.2.2.1 bt217.2.2.2.1 bt217.2.2.2.2.1 bt217.2.2.2.2.2 t190 t191 t192 t193 t194 t195).bind fun t226 => (if t226 = true then ((laws_toTimes.f k a0_0 a0_1 a0_2 a0_3 a0_4 l0_5).bind fun bt227 => ((laws_eqTimes.f k t199 t200 t201 t202 t203 t204 bt227.1 bt227.2.1 bt227.2.2.1 bt227.2.2.2.1 bt227.2.2.2.2.1 bt227.2.2.2.2.2).bind fun t235 => (if t235 = true then ((laws_toTimes.f k a1_0 a1_1 a1_2 a1_3 a1_4 l1_5).bind fun bt236 => ((laws_eqTimes.f k t208 t209 t210 t211 t212 t213 bt236.1 bt236.2.1 bt236.2.2.1 bt236.2.2.2.1 bt236.2.2.2.2.1 bt236.2.2.2.2.2).bind fun t244 => (if t244 = true then ((laws_markTimes.f k t199 t200 t201 t202 t203 t204 1).bind fun bt245 => ((laws_markTimes.f k t208 t209 t210 t211 t212 t213 bt245.1).bind fun bt247 => (if bt247.1 < 0 then (laws_FnExactTimesJoin.j0 k true a0_0 a0_1 a0_2 a0_3 a0_4 l0_5 a1_0 a1_1 a1_2 a1_3 a1_4 l1_5 t190 t191 t192 t193 t194 t195 bt217.1 bt217.2.1 bt217.2.2.1 bt217.2.2.2.1 bt217.2.2.2.2.1 bt217.2.2.2.2.2) else ((laws_eqTimes.f k bt217.1 bt217.2.1 bt217.2.2.1 bt217.2.2.2.1 bt217.2.2.2.2.1 bt217.2.2.2.2.2 t190 t191 t192 t193 t194 t195).bind fun t249 => (laws_FnExactTimesJoin.j0 k (!t249) a0_0 a0_1 a0_2 a0_3 a0_4 l0_5 a1_0 a1_1 a1_2 a1_3 a1_4 l1_5 t190 t191 t192 t193 t194 t195 bt217.1 bt217.2.1 bt217.2.2.1 bt217.2.2.2.1 bt217.2.2.2.2.1 bt217.2.2.2.2.2))))) else (some false)))) else (some false)))) else (some false)))) = some r := H
   have A23 := Aside0.mk A230
   clear A230
   replace H := Option.bind_eq_some_iff.mp H
   obtain ⟨⟨t217, t218, t219, t220, t221, t222⟩, A240, H⟩ := H
   replace H : ((laws_eqTimes.f k t217 t218 t219 t220 t221 t222 t190 t191 t192 t193 t194 t195).bind fun t226 => (if t226 = true then ((laws_toTimes.f k a0_0 a0_1 a0_2 a0_3 a0_4 l0_5).bind fun bt227 => ((laws_eqTimes.f k t199 t200 t201 t202 t203 t204 bt227.1 bt227.2.1 bt227.2.2.1 bt227.2.2.2.1 bt227.2.2.2.2.1 bt227.2.2.2.2.2).bind fun t235 => (if t235 = true then ((laws_toTimes.f k a1_0 a1_1 a1_2 a1_3 a1_4 l1_5).bind fun bt236 => ((laws_eqTimes.f k t208 t209 t210 t211 t212 t213 bt236.1 bt236.2.1 bt236.2.2.1 bt236.2.2.2.1 bt236.2.2.2.2.1 bt236.2.2.2.2.2).bind fun t244 => (if t244 = true then ((laws_markTimes.f k t199 t200 t201 t202 t203 t204 1).bind fun bt245 => ((laws_markTimes.f k t208 t209 t210 t211 t212 t213 bt245.1).bind fun bt247 => (if bt247.1 < 0 then (laws_FnExactTimesJoin.j0 k true a0_0 a0_1 a0_2 a0_3 a0_4 l0_5 a1_0 a1_1 a1_2 a1_3 a1_4 l1_5 t190 t191 t192 t193 t194 t195 t217 t218 t219 t220 t221 t222) else ((laws_eqTimes.f k t217 t218 t219 t220 t221 t222 t190 t191 t192 t193 t194 t195).bind fun t249 => (laws_FnExactTimesJoin.j0 k (!t249) a0_0 a0_1 a0_2 a0_3 a0_4 l0_5 a1_0 a1_1 a1_2 a1_3 a1_4 l1_5 t190 t191 t192 t193 t194 t195 t217 t218 t219 t220 t221 t222))))) else (some false)))) else (some false)))) else (some false))) = some r := H
   have A24 := Aside0.mk A240
   clear A240
   replace H := Option.bind_eq_some_iff.mp H
   obtain ⟨t226, A250, H⟩ := H
   replace H : (if t226 = true then ((laws_toTimes.f k a0_0 a0_1 a0_2 a0_3 a0_4 l0_5).bind fun bt227 => ((laws_eqTimes.f k t199 t200 t201 t202 t203 t204 bt227.1 bt227.2.1 bt227.2.2.1 bt227.2.2.2.1 bt227.2.2.2.2.1 bt227.2.2.2.2.2).bind fun t235 => (if t235 = true then ((laws_toTimes.f k a1_0 a1_1 a1_2 a1_3 a1_4 l1_5).bind fun bt236 => ((laws_eqTimes.f k t208 t209 t210 t211 t212 t213 bt236.1 bt236.2.1 bt236.2.2.1 bt236.2.2.2.1 bt236.2.2.2.2.1 bt236.2.2.2.2.2).bind fun t244 => (if t244 = true then ((laws_markTimes.f k t199 t200 t201 t202 t203 t204 1).bind fun bt245 => ((laws_markTimes.f k t208 t209 t210 t211 t212 t213 bt245.1).bind fun bt247 => (if bt247.1 < 0 then (laws_FnExactTimesJoin.j0 k true a0_0 a0_1 a0_2 a0_3 a0_4 l0_5 a1_0 a1_1 a1_2 a1_3 a1_4 l1_5 t190 t191 t192 t193 t194 t195 t217 t218 t219 t220 t221 t222) else ((laws_eqTimes.f k t217 t218 t219 t220 t221 t222 t190 t191 t192 t193 t194 t195).bind fun t249 => (laws_FnExactTimesJoin.j0 k (!t249) a0_0 a0_1 a0_2 a0_3 a0_4 l0_5 a1_0 a1_1 a1_2 a1_3 a1_4 l1_5 t190 t191 t192 t193 t194 t195 t217 t218 t219 t220 t221 t222))))) else (some false)))) else (some false)))) else (some false)) = some r := H
   have A25 := Aside0.mk A250
   clear A250
   by_cases c26 : t226 = true
   case neg =>
    replace c26 := Bool.eq_false_iff.mpr c26
    subst c26
    have H1 : (some false) = some r := by rw [if_neg (show ¬ (false = true) by decide)] at H; exact H
    clear H
    have H := H1
    clear H1
    obtain rfl := Option.some.inj H
    exact absurd ht (by decide)
   subst c26
   have H1 : ((laws_toTimes.f k a0_0 a0_1 a0_2 a0_3 a0_4 l0_5).bind fun bt227 => ((laws_eqTimes.f k t199 t200 t201 t202 t203 t204 bt227.1 bt227.2.1 bt227.2.2.1 bt227.2.2.2.1 bt227.2.2.2.2.1 bt227.2.2.2.2.2).bind fun t235 => (if t235 = true then ((laws_toTimes.f k a1_0 a1_1 a1_2 a1_3 a1_4 l1_5).bind fun bt236 => ((laws_eqTimes.f k t208 t209 t210 t211 t212 t213 bt236.1 bt236.2.1 bt236.2.2.1 bt236.2.2.2.1 bt236.2.2.2.2.1 bt236.2.2.2.2.2).bind fun t244 => (if t244 = true then ((laws_markTimes.f k t199 t200 t201 t202 t203 t204 1).bind fun bt245 => ((laws_markTimes.f k t208 t209 t210 t211 t212 t213 bt245.1).bind fun bt247 => (if bt247.1 < 0 then (laws_FnExactTimesJoin.j0 k true a0_0 a0_1 a0_2 a0_3 a0_4 l0_5 a1_0 a1_1 a1_2 a1_3 a1_4 l1_5 t190 t191 t192 t193 t194 t195 t217 t218 t219 t220 t221 t222) else ((laws_eqTimes.f k t217 t218 t219 t220 t221 t222 t190 t191 t192 t193 t194 t195).bind fun t249 => (laws_FnExactTimesJoin.j0 k (!t249) a0_0 a0_1 a0_2 a0_3 a0_4 l0_5 a1_0 a1_1 a1_2 a1_3 a1_4 l1_5 t190 t191 t192 t193 t194 t195 t217 t218 t219 t220 t221 t222))))) else (some false)))) else (some false)))) = some r := by rw [if_pos rfl] at H; exact H
   clear H
   have H := H1
   clear H1
   replace H := Option.bind_eq_some_iff.mp H
   obtain ⟨⟨t227, t228, t229, t230, t231, t232⟩, A270, H⟩ := H
   replace H : ((laws_eqTimes.f k t199 t200 t201 t202 t203 t204 t227 t228 t229 t230 t231 t232).bind fun t235 => (if t235 = true then ((laws_toTimes.f k a1_0 a1_1 a1_2 a1_3 a1_4 l1_5).bind fun bt236 => ((laws_eqTimes.f k t208 t209 t210 t211 t212 t213 bt236.1 bt236.2.1 bt236.2.2.1 bt236.2.2.2.1 bt236.2.2.2.2.1 bt236.2.2.2.2.2).bind fun t244 => (if t244 = true then ((laws_markTimes.f k t199 t200 t201 t202 t203 t204 1).bind fun bt245 => ((laws_markTimes.f k t208 t209 t210 t211 t212 t213 bt245.1).bind fun bt247 => (if bt247.1 < 0 then (laws_FnExactTimesJoin.j0 k true a0_0 a0_1 a0_2 a0_3 a0_4 l0_5 a1_0 a1_1 a1_2 a1_3 a1_4 l1_5 t190 t191 t192 t193 t194 t195 t217 t218 t219 t220 t221 t222) else ((laws_eqTimes.f k t217 t218 t219 t220 t221 t222 t190 t191 t192 t193 t194 t195).bind fun t249 => (laws_FnExactTimesJoin.j0 k (!t249) a0_0 a0_1 a0_2 a0_3 a0_4 l0_5 a1_0 a1_1 a1_2 a1_3 a1_4 l1_5 t190 t191 t192 t193 t194 t195 t217 t218 t219 t220 t221 t222))))) else (some false)))) else (some false))) = some r := H
   have A27 := Aside0.mk A270
   clear A270
   replace H := Option.bind_eq_some_iff.mp H
   obtain ⟨t235, A280, H⟩ := H
   replace H : (if t235 = true then ((laws_toTimes.f k a1_0 a1_1 a1_2 a1_3 a1_4 l1_5).bind fun bt236 => ((laws_eqTimes.f k t208 t209 t210 t211 t212 t213 bt236.1 bt236.2.1 bt236.2.2.1 bt236.2.2.2.1 bt236.2.2.2.2.1 bt236.2.2.2.2.2).bind fun t244 => (if t244 = true then ((laws_markTimes.f k t199 t200 t201 t202 t203 t204 1).bind fun bt245 => ((laws_markTimes.f k t208 t209 t210 t211 t212 t213 bt245.1).bind fun bt247 => (if bt247.1 < 0 then (laws_FnExactTimesJoin.j0 k true a0_0 a0_1 a0_2 a0_3 a0_4 l0_5 a1_0 a1_1 a1_2 a1_3 a1_4 l1_5 t190 t191 t192 t193 t194 t195 t217 t218 t219 t220 t221 t222) else ((laws_eqTimes.f k t217 t218 t219 t220 t221 t222 t190 t191 t192 t193 t194 t195).bind fun t249 => (laws_FnExactTimesJoin.j0 k (!t249) a0_0 a0_1 a0_2 a0_3 a0_4 l0_5 a1_0 a1_1 a1_2 a1_3 a1_4 l1_5 t190 t191 t192 t193 t194 t195 t217 t218 t219 t220 t221 t222))))) else (some false)))) else (some false)) = some r := H
   have A28 := Aside0.mk A280
   clear A280
   by_cases c29 : t235 = true
   case neg =>
    replace c29 := Bool.eq_false_iff.mpr c29
    subst c29
    have H1 : (some false) = some r := by rw [if_neg (show ¬ (false = true) by decide)] at H; exact H
    clear H
    have H := H1
    clear H1
    obtain rfl := Option.some.inj H
    exact absurd ht (by decide)
   subst c29
   have H1 : ((laws_toTimes.f k a1_0 a1_1 a1_2 a1_3 a1_4 l1_5).bind fun bt236 => ((laws_eqTimes.f k t208 t209 t210 t211 t212 t213 bt236.1 bt236.2.1 bt236.2.2.1 bt236.2.2.2.1 bt236.2.2.2.2.1 bt236.2.2.2.2.2).bind fun t244 => (if t244 = true then ((laws_markTimes.f k t199 t200 t201 t202 t203 t204 1).bind fun bt245 => ((laws_markTimes.f k t208 t209 t210 t211 t212 t213 bt245.1).bind fun bt247 => (if bt247.1 < 0 then (laws_FnExactTimesJoin.j0 k true a0_0 a0_1 a0_2 a0_3 a0_4 l0_5 a1_0 a1_1 a1_2 a1_3 a1_4 l1_5 t190 t191 t192 t193 t194 t195 t217 t218 t219 t220 t221 t222) else ((laws_eqTimes.f k t217 t218 t219 t220 t221 t222 t190 t191 t192 t193 t194 t195).bind fun t249 => (laws_FnExactTimesJoin.j0 k (!t249) a0_0 a0_1 a0_2 a0_3 a0_4 l0_5 a1_0 a1_1 a1_2 a1_3 a1_4 l1_5 t190 t191 t192 t193 t194 t195 t217 t218 t219 t220 t221 t222))))) else (some false)))) = some r := by rw [if_pos rfl] at H; exact H
   clear H
   have H := H1
   clear H1
   replace H := Option.bind_eq_some_iff.mp H
   obtain ⟨⟨t236, t237, t238, t239, t240, t241⟩, A300, H⟩ := H
   replace H : ((laws_eqTimes.f k t208 t209 t210 t211 t212 t213 t236 t237 t238 t239 t240 t241).bind fun t244 => (if t244 = true then ((laws_markTimes.f k t199 t200 t201 t202 t203 t204 1).bind fun bt245 => ((laws_markTimes.f k t208 t209 t210 t211 t212 t213 bt245.1).bind fun bt247 => (if bt247.1 < 0 then (laws_FnExactTimesJoin.j0 k true a0_0 a0_1 a0_2 a0_3 a0_4 l0_5 a1_0 a1_1 a1_2 a1_3 a1_4 l1_5 t190 t191 t192 t193 t194 t195 t217 t218 t219 t220 t221 t222) else ((laws_eqTimes.f k t217 t218 t219 t220 t221 t222 t190 t191 t192 t193 t194 t195).bind fun t249 => (laws_FnExactTimesJoin.j0 k (!t249) a0_0 a0_1 a0_2 a0_3 a0_4 l0_5 a1_0 a1_1 a1_2 a1_3 a1_4 l1_5 t190 t191 t192 t193 t194 t195 t217 t218 t219 t220 t221 t222))))) else (some false))) = some r := H
   have A30 := Aside0.mk A300
   clear A300
   replace H := Option.bind_eq_some_iff.mp H
   obtain ⟨t244, A310, H⟩ := H
   replace H : (if t244 = true then ((laws_markTimes.f k t199 t200 t201 t202 t203 t204 1).bind fun bt245 => ((laws_markTimes.f k t208 t209 t210 t211 t212 t213 bt245.1).bind fun bt247 => (if bt247.1 < 0 then (laws_FnExactTimesJoin.j0 k true a0_0 a0_1 a0_2 a0_3 a0_4 l0_5 a1_0 a1_1 a1_2 a1_3 a1_4 l1_5 t190 t191 t192 t193 t194 t195 t217 t218 t219 t220 t221 t222) else ((laws_eqTimes.f k t217 t218 t219 t220 t221 t222 t190 t191 t192 t193 t194 t195).bind fun t249 => (laws_FnExactTimesJoin.j0 k (!t249) a0_0 a0_1 a0_2 a0_3 a0_4 l0_5 a1_0 a1_1 a1_2 a1_3 a1_4 l1_5 t190 t191 t192 t193 t194 t195 t217 t218 t219 t220 t221 t222))))) else (some false)) = some r := H
   have A31 := Aside0.mk A310
   clear A310
   by_cases c32 : t244 = true
   case neg =>
    replace c32 := Bool.eq_false_iff.mpr c32
    subst c32
    have H1 : (some false) = some r := by rw [if_neg (show ¬ (false = true) by decide)] at H; exact H
    clear H
    have H := H1
    clear H1
    obtain rfl := Option.some.inj H
    exact absurd ht (by decide)
   subst c32
   have H1 : ((laws_markTimes.f k t199 t200 t201 t202 t203 t204 1).bind fun bt245 => ((laws_markTimes.f k t208 t209 t210 t211 t212 t213 bt245.1).bind fun bt247 => (if bt247.1 < 0 then (laws_FnExactTimesJoin.j0 k true a0_0 a0_1 a0_2 a0_3 a0_4 l0_5 a1_0 a1_1 a1_2 a1_3 a1_4 l1_5 t190 t191 t192 t193 t194 t195 t217 t218 t219 t220 t221 t222) else ((laws_eqTimes.f k t217 t218 t219 t220 t221 t222 t190 t191 t192 t193 t194 t195).bind fun t249 => (laws_FnExactTimesJoin.j0 k (!t249) a0_0 a0_1 a0_2 a0_3 a0_4 l0_5 a1_0 a1_1 a1_2 a1_3 a1_4 l1_5 t190 t191 t192 t193 t194 t195 t217 t218 t219 t220 t221 t222))))) = some r := by rw [if_pos rfl] at H; exact H
   clear H
   have H := H1
   clear H1
   replace H := Option.bind_eq_some_iff.mp H
   obtain ⟨⟨t245, t246⟩, A330, H⟩ := H
   replace H : ((laws_markTimes.f k t208 t209 t210 t211 t212 t213 t245).bind fun bt247 => (if bt247.1 < 0 then (laws_FnExactTimesJoin.j0 k true a0_0 a0_1 a0_2 a0_3 a0_4 l0_5 a1_0 a1_1 a1_2 a1_3 a1_4 l1_5 t190 t191 t192 t193 t194 t195 t217 t218 t219 t220 t221 t222) else ((laws_eqTimes.f k t217 t218 t219 t220 t221 t222 t190 t191 t192 t193 t194 t195).bind fun t249 => (laws_FnExactTimesJoin.j0 k (!t249) a0_0 a0_1 a0_2 a0_3 a0_4 l0_5 a1_0 a1_1 a1_2 a1_3 a1_4 l1_5 t190 t191 t192 t193 t194 t195 t217 t218 t219 t220 t221 t222)))) = some r := H
   have A33 := Aside0.mk A330
   clear A330
   replace H := Option.bind_eq_some_iff.mp H
   obtain ⟨⟨t247, t248⟩, A340, H⟩ := H
   replace H : (if t247 < 0 then (laws_FnExactTimesJoin.j0 k true a0_0 a0_1 a0_2 a0_3 a0_4 l0_5 a1_0 a1_1 a1_2 a1_3 a1_4 l1_5 t190 t191 t192 t193 t194 t195 t217 t218 t219 t220 t221 t222) else ((laws_eqTimes.f k t217 t218 t219 t220 t221 t222 t190 t191 t192 t193 t194 t195).bind fun t249 => (laws_FnExactTimesJoin.j0 k (!t249) a0_0 a0_1 a0_2 a0_3 a0_4 l0_5 a1_0 a1_1 a1_2 a1_3 a1_4 l1_5 t190 t191 t192 t193 t194 t195 t217 t218 t219 t220 t221 t222))) = some r := H
   have A34 := Aside0.mk A340
   clear A340
   have HC35 := Aside0.mk H
   clear H
   go_enter Try.func3, Try.ntmps3
   try go_wp2_with (first | ((with_reducible refine gate_dst (N := 2) rfl ?_); refine box_event ?hg (N := 2) ?hd (cs := #[.int .i64 a0_0, .int .i64 a0_1, .int .i64 a0_2, .int .i64 a0_3, .int .i64 a0_4, .slice A0_5 l0_5.length c0_5]) (t := 24) ?hr ?_; (case hd => rfl); (case hg => rfl); (case hr => first | (go_simp; done) | (go_simp; rfl)); intro gb170 hg w36 hbox hb; have n0_ := Aside0.mk (below_step tB hb); have n1_ := Aside0.mk (hbox); have n2_ := Aside0.mk ((by rw [hg]; exact (below_size tB) : w.heap.size ≤ gb170)); have n3_ := Aside0.mk ((by rw [hg]; exact (below_size tB) : w.heap.size ≤ gb170)); clear HB; have HB := n0_; have BK170 := n1_; have GW170 := n2_; have GE170 := n3_; clear n0_ n1_ n2_ n3_; clear hb hbox hg) | ((with_reducible refine gate_dst (N := 3) rfl ?_); refine box_event ?hg (N := 3) ?hd (cs := #[.int .i64 a1_0, .int .i64 a1_1, .int .i64 a1_2, .int .i64 a1_3, .int .i64 a1_4, .slice A1_5 l1_5.length c1_5]) (t := 24) ?hr ?_; (case hd => rfl); (case hg => rfl); (case hr => first | (go_simp; done) | (go_simp; rfl)); intro gb171 hg w37 hbox hb; have n0_ := Aside0.mk (blk_below (tK BK170.out) hb); have n1_ := Aside0.mk (below_step tBs hb); have n2_ := Aside0.mk (hbox); have n3_ := Aside0.mk ((by rw [hg]; exact (below_size tBs) : w.heap.size ≤ gb171)); have n4_ := Aside0.mk ((by rw [hg]; exact (below_size tBs) : w.heap.size ≤ gb171)); have n5_ := Aside0.mk ((by rw [hg]; exact Nat.ne_of_lt (blk_lt (tK BK170.out)) : gb170 ≠ gb171)); have n6_ := Aside0.mk ((by rw [hg]; exact Nat.ne_of_gt (blk_lt (tK BK170.out)) : gb171 ≠ gb170)); clear BK170; clear HB; have BK170 := n0_; have HB := n1_; have BK171 := n2_; have GW171 := n3_; have GE171 := n4_; have NB170_171 := n5_; have NB171_170 := n6_; clear n0_ n1_ n2_ n3_ n4_ n5_ n6_; clear hb hbox hg; have hnb38 := NB170_171.out; have hnc38 := NB171_170.out; have hcz39_0 : w37.cell? ⟨gb170, 0, none⟩ = some (.int .i64 a0_0) := (blk_cell BK170.out 0).trans rfl; have hcz39_1 : w37.cell? ⟨gb170, 1, none⟩ = some (.int .i64 a0_1) := (blk_cell BK170.out 1).trans rfl; have hcz39_2 : w37.cell? ⟨gb170, 2, none⟩ = some (.int .i64 a0_2) := (blk_cell BK170.out 2).trans rfl; have hcz39_3 : w37.cell? ⟨gb170, 3, none⟩ = some (.int .i64 a0_3) := (blk_cell BK170.out 3).trans rfl; have hcz39_4 : w37.cell? ⟨gb170, 4, none⟩ = some (.int .i64 a0_4) := (blk_cell BK170.out 4).trans rfl; have hcz39_5 : w37.cell? ⟨gb170, 5, none⟩ = some (.slice A0_5 l0_5.length c0_5) := (blk_cell BK170.out 5).trans rfl; have hfz39_0 := blk_frozen BK170.out 0; have hfz39_1 := blk_frozen BK170.out 1; have hfz39_2 := blk_frozen BK170.out 2; have hfz39_3 := blk_frozen BK170.out 3; have hfz39_4 := blk_frozen BK170.out 4; have hfz39_5 := blk_frozen BK170.out 5) | ((with_reducible refine gate_callee (f := 11) rfl ?_); refine goesL_ (some 16) rfl rfl Try.func11 (by kernel_rfl) rfl #[.agg #[.int .i64 a0_0, .int .i64 a0_1, .int .i64 a0_2, .int .i64 a0_3, .int .i64 a0_4, .slice A0_5 l0_5.length c0_5], .int .i64 1048576] rfl tA ?_; (with_reducible refine (laws_szTimes.calls a0_0 a0_1 a0_2 a0_3 a0_4 _ _ l0_5 1048576 t172 _ ?side1 ?side2 A3.out).mono ?_); (case side1 => repeat (first | exact (Kd.C_below HR0_5.out HB.out) | (with_reducible refine Kd.C_alloc ?_ _) | (with_reducible refine Kd.C_drewN ?_ _) | (with_reducible refine Kd.C_drew ?_))); (case side2 => exact HC0_5.out); rintro e w40 ⟨rfl, hb⟩; refine ⟨_, rfl, ?_⟩; have n0_ := Aside0.mk (blk_below (tK BK170.out) hb); have n1_ := Aside0.mk (blk_below (tK BK171.out) hb); have n2_ := Aside0.mk (below_step tBs hb); clear BK170; clear BK171; clear HB; have BK170 := n0_; have BK171 := n1_; have HB := n2_; clear n0_ n1_ n2_; (try clear hb); (try clear hb2); (try clear hk); (try clear hi); have hcz41_0 : w40.cell? ⟨gb171, 0, none⟩ = some (.int .i64 a1_0) := (blk_cell BK171.out 0).trans rfl; have hcz41_1 : w40.cell? ⟨gb171, 1, none⟩ = some (.int .i64 a1_1) := (blk_cell BK171.out 1).trans rfl; have hcz41_2 : w40.cell? ⟨gb171, 2, none⟩ = some (.int .i64 a1_2) := (blk_cell BK171.out 2).trans rfl; have hcz41_3 : w40.cell? ⟨gb171, 3, none⟩ = some (.int .i64 a1_3) := (blk_cell BK171.out 3).trans rfl; have hcz41_4 : w40.cell? ⟨gb171, 4, none⟩ = some (.int .i64 a1_4) := (blk_cell BK171.out 4).trans rfl; have hcz41_5 : w40.cell? ⟨gb171, 5, none⟩ = some (.slice A1_5 l1_5.length c1_5) := (blk_cell BK171.out 5).trans rfl; have hfz41_0 := blk_frozen BK171.out 0; have hfz41_1 := blk_frozen BK171.out 1; have hfz41_2 := blk_frozen BK171.out 2; have hfz41_3 := blk_frozen BK171.out 3; have hfz41_4 := blk_frozen BK171.out 4; have hfz41_5 := blk_frozen BK171.out 5) | ((with_reducible refine gate_callee (f := 11) rfl ?_); refine goesL_ (some 21) rfl rfl Try.func11 (by kernel_rfl) rfl #[.agg #[.int .i64 a1_0, .int .i64 a1_1, .int .i64 a1_2, .int .i64 a1_3, .int .i64 a1_4, .slice A1_5 l1_5.length c1_5], .int .i64 t172] rfl tA ?_; (with_reducible refine (laws_szTimes.calls a1_0 a1_1 a1_2 a1_3 a1_4 _ _ l1_5 t172 t173 _ ?side1 ?side2 A10.out).mono ?_); (case side1 => repeat (first | exact (Kd.C_below HR1_5.out HB.out) | (with_reducible refine Kd.C_alloc ?_ _) | (with_reducible refine Kd.C_drewN ?_ _) | (with_reducible refine Kd.C_drew ?_))); (case side2 => exact HC1_5.out); rintro e w42 ⟨rfl, hb⟩; refine ⟨_, rfl, ?_⟩; have n0_ := Aside0.mk (blk_below (tK BK170.out) hb); have n1_ := Aside0.mk (blk_below (tK BK171.out) hb); have n2_ := Aside0.mk (below_step tBs hb); clear BK170; clear BK171; clear HB; have BK170 := n0_; have BK171 := n1_; have HB := n2_; clear n0_ n1_ n2_; (try clear hb); (try clear hb2); (try clear hk); (try clear hi)))
   have n0_ := Aside0.mk (blk_drew BK170.out)
   have n1_ := Aside0.mk (blk_drew BK171.out)
   have n2_ := Aside0.mk (below_drew1 HB.out)
   clear BK170 BK171 HB
   have BK170 := n0_
   have BK171 := n1_
   have HB := n2_
   clear n0_ n1_ n2_
   refine start_ (n := 7) (S := fun w' => w'.cell? ⟨gb170, 0, none⟩ = some (.int .i64 a0_0) ∧ w'.cell? ⟨gb170, 1, none⟩ = some (.int .i64 a0_1) ∧ w'.cell? ⟨gb170, 2, none⟩ = some (.int .i64 a0_2) ∧ w'.cell? ⟨gb170, 3, none⟩ = some (.int .i64 a0_3) ∧ w'.cell? ⟨gb170, 4, none⟩ = some (.int .i64 a0_4) ∧ w'.cell? ⟨gb170, 5, none⟩ = some (.slice A0_5 l0_5.length c0_5) ∧ w'.cell? ⟨gb171, 0, none⟩ = some (.int .i64 a1_0) ∧ w'.cell? ⟨gb171, 1, none⟩ = some (.int .i64 a1_1) ∧ w'.cell? ⟨gb171, 2, none⟩ = some (.int .i64 a1_2) ∧ w'.cell? ⟨gb171, 3, none⟩ = some (.int .i64 a1_3) ∧ w'.cell? ⟨gb171, 4, none⟩ = some (.int .i64 a1_4) ∧ w'.cell? ⟨gb171, 5, none⟩ = some (.slice A1_5 l1_5.length c1_5)) (ds := []) (tf 0 7) (by kernel_rfl) rfl rfl (tC6 BK170.out (tC6e BK171.out)) (fun hHeld => ?_)
   generalize w42.drew = w43 at BK170 BK171 HB hHeld ⊢
   refine take_ (i := 0) (N := some 24) (v := ?_) (a' := ?_) (tf 1 6) rfl rfl (by kernel_rfl) (fun _ _ _ h => h) (Or.inl ⟨by rfl, ?_⟩) hHeld ?_ ?_
   rotate_left
   ·rintro w' ⟨s0, s1, s2, s3, s4, s5, s6, s7, s8, s9, s10, s11⟩
    go_simp
    with_reducible rfl
   rotate_left; (focus simp only [Act.put, List.setIfInBounds_toArray, List.set_cons_zero, List.set_cons_succ, i64_w, i32_w]; rfl)
   refine take_ (i := 2) (N := some 26) (v := ?_) (a' := ?_) #[true, false, true, false, false, false, false] rfl rfl (by kernel_rfl) (fun _ _ _ h => h) (Or.inl ⟨by rfl, ?_⟩) hHeld ?_ ?_
   rotate_left
   ·rintro w' ⟨s0, s1, s2, s3, s4, s5, s6, s7, s8, s9, s10, s11⟩
    go_simp
    with_reducible rfl
   rotate_left; (focus simp only [Act.put, List.setIfInBounds_toArray, List.set_cons_zero, List.set_cons_succ, i64_w, i32_w]; rfl)
   refine join_ (σ := Value × Value × Value × Nat) 1 (tf 6 1) (fun s_ => [(25, .agg #[.int .i64 t174, .int .i64 t175, .int .i64 t176, .int .i64 t177, .int .i64 t178, s_.1]), (27, .agg #[.int .i64 t182, .int .i64 t183, .int .i64 t184, .int .i64 t185, .int .i64 t186, s_.2.1]), (28, .agg #[.int .i64 t190, .int .i64 t191, .int .i64 t192, .int .i64 t193, .int .i64 t194, s_.2.2.1]), (6, .pointer (some ⟨s_.2.2.2, 0, none⟩))]) (fun s_ w' => (w'.cell? ⟨gb170, 0, none⟩ = some (.int .i64 a0_0) ∧ w'.cell? ⟨gb170, 1, none⟩ = some (.int .i64 a0_1) ∧ w'.cell? ⟨gb170, 2, none⟩ = some (.int .i64 a0_2) ∧ w'.cell? ⟨gb170, 3, none⟩ = some (.int .i64 a0_3) ∧ w'.cell? ⟨gb170, 4, none⟩ = some (.int .i64 a0_4) ∧ w'.cell? ⟨gb170, 5, none⟩ = some (.slice A0_5 l0_5.length c0_5) ∧ w'.cell? ⟨gb171, 0, none⟩ = some (.int .i64 a1_0) ∧ w'.cell? ⟨gb171, 1, none⟩ = some (.int .i64 a1_1) ∧ w'.cell? ⟨gb171, 2, none⟩ = some (.int .i64 a1_2) ∧ w'.cell? ⟨gb171, 3, none⟩ = some (.int .i64 a1_3) ∧ w'.cell? ⟨gb171, 4, none⟩ = some (.int .i64 a1_4) ∧ w'.cell? ⟨gb171, 5, none⟩ = some (.slice A1_5 l1_5.length c1_5)) ∧ (Kd.R (Kd.int .i64) 2 w' w.heap.size (fun k_ => some k_ ≠ (s_.2.1 : Value).ownBlock ∧ some k_ ≠ (s_.2.2.1 : Value).ownBlock) s_.1 t179) ∧ (Kd.R (Kd.int .i64) 2 w' w.heap.size (fun k_ => some k_ ≠ (s_.1 : Value).ownBlock ∧ some k_ ≠ (s_.2.2.1 : Value).ownBlock) s_.2.1 t187) ∧ (Kd.R (Kd.int .i64) 2 w' w.heap.size (fun k_ => some k_ ≠ (s_.1 : Value).ownBlock ∧ some k_ ≠ (s_.2.1 : Value).ownBlock) s_.2.2.1 t195) ∧ (w'.heap[gb170]? = some (.cells #[.int .i64 a0_0, .int .i64 a0_1, .int .i64 a0_2, .int .i64 a0_3, .int .i64 a0_4, .slice A0_5 l0_5.length c0_5] 24 (0, 0))) ∧ (w'.heap[gb171]? = some (.cells #[.int .i64 a1_0, .int .i64 a1_1, .int .i64 a1_2, .int .i64 a1_3, .int .i64 a1_4, .slice A1_5 l1_5.length c1_5] 24 (0, 0))) ∧ (w'.heap[s_.2.2.2]? = some (.cells #[.int .i64 0, .int .i64 0, .int .i64 0, .int .i64 0, .int .i64 0, .slice none 0 0] 26 (0, 0))) ∧ (w.heap.size ≤ s_.2.2.2) ∧ (w.heap.size ≤ s_.2.2.2) ∧ (gb170 ≠ s_.2.2.2) ∧ (s_.2.2.2 ≠ gb170) ∧ (gb171 ≠ s_.2.2.2) ∧ (s_.2.2.2 ≠ gb171) ∧ (Below w.heap.size w w')) ?_ ?_
   rotate_left
   ·intro hCont
    refine two_ (i := 1) (j := 5) (Ni := some 25) (Nj := some 6) (tf 3 4) #[true, false, true, false, false, true, false] rfl rfl rfl rfl (by kernel_rfl) (by decide) (by decide) (fun K hK => ?_) (fun K hK => ?_)
    ·skip
     refine goes_ Try.func13 (by kernel_rfl) rfl #[.agg #[.int .i64 a0_0, .int .i64 a0_1, .int .i64 a0_2, .int .i64 a0_3, .int .i64 a0_4, .slice A0_5 l0_5.length c0_5]] (by rfl) rfl rfl tA ?_
     with_reducible refine (laws_toTimes.calls k a0_0 a0_1 a0_2 a0_3 a0_4 _ _ l0_5 t174 t175 t176 t177 t178 t179 _ ?side1 ?side2 A19.out).mono ?_
     (case side1 => repeat (first | exact (Kd.C_below HR0_5.out HB.out) | (with_reducible refine Kd.C_alloc ?_ _) | (with_reducible refine Kd.C_drewN ?_ _) | (with_reducible refine Kd.C_drew ?_)))
     (case side2 => exact HC0_5.out)
     rintro e w44 ⟨v180, rfl, ho0, hb⟩
     refine ⟨_, rfl, ?_⟩
     have n0_ := Aside0.mk (Kd.R_lower ho0 (below_size tBs))
     have n1_ := Aside0.mk (blk_below (tK BK170.out) hb)
     have n2_ := Aside0.mk (blk_below (tK BK171.out) hb)
     have n3_ := Aside0.mk (below_step tBs hb)
     clear BK170 BK171 HB
     have HO181 := n0_
     have BK170 := n1_
     have BK171 := n2_
     have HB := n3_
     clear n0_ n1_ n2_ n3_
     (try clear hb)
     (try clear hb2)
     (try clear hk)
     (try clear hi)
     (try clear ho0)
     refine hK.out _ _ (tC6 BK170.out (tC6e BK171.out)) (fun hHeld => ?_)
     clear hK K
     refine norm_ (a' := ?_) ?_ ?_
     rotate_left
     ·show Act.put _ (some 25) _ = _
      simp only [Act.put, List.setIfInBounds_toArray, List.set_cons_zero, List.set_cons_succ, i64_w, i32_w]
      rfl
     refine two_ (i := 3) (j := 5) (Ni := some 27) (Nj := some 6) (tf 4 3) #[true, true, true, false, false, true, false] rfl rfl rfl rfl (by kernel_rfl) (by decide) (by decide) (fun K hK => ?_) (fun K hK => ?_)
     ·skip
      refine goes_ Try.func13 (by kernel_rfl) rfl #[.agg #[.int .i64 a1_0, .int .i64 a1_1, .int .i64 a1_2, .int .i64 a1_3, .int .i64 a1_4, .slice A1_5 l1_5.length c1_5]] (by rfl) rfl rfl tA ?_
      with_reducible refine (laws_toTimes.calls k a1_0 a1_1 a1_2 a1_3 a1_4 _ _ l1_5 t182 t183 t184 t185 t186 t187 _ ?side1 ?side2 A20.out).mono ?_
      (case side1 => repeat (first | exact (Kd.C_below HR1_5.out HB.out) | (with_reducible refine Kd.C_alloc ?_ _) | (with_reducible refine Kd.C_drewN ?_ _) | (with_reducible refine Kd.C_drew ?_)))
      (case side2 => exact HC1_5.out)
      rintro e w45 ⟨v188, rfl, ho0, hb⟩
      refine ⟨_, rfl, ?_⟩
      have n0_ := Aside0.mk (Kd.R_elder' (tR HO181.out) (Kd.R_base ho0) hb)
      have n1_ := Aside0.mk (Kd.R_lower (Kd.R_new' ho0 (Kd.R_lt (tR HO181.out))) (below_size tBs))
      have n2_ := Aside0.mk (blk_below (tK BK170.out) hb)
      have n3_ := Aside0.mk (blk_below (tK BK171.out) hb)
      have n4_ := Aside0.mk (below_step tBs hb)
      clear HO181 BK170 BK171 HB
      have HO181 := n0_
      have HO189 := n1_
      have BK170 := n2_
      have BK171 := n3_
      have HB := n4_
      clear n0_ n1_ n2_ n3_ n4_
      (try clear hb)
      (try clear hb2)
      (try clear hk)
      (try clear hi)
      (try clear ho0)
      obtain ⟨Ao46, co46, eo46⟩ := Kd.R_slice HO181.out
      (first | subst eo46 | (injection eo46 with f1_ f2_ f3_; have f4_ := f1_.symm; have f5_ := f3_.symm; clear f1_ f2_ f3_; subst f4_; subst f5_))
      obtain ⟨Ao47, co47, eo47⟩ := Kd.R_slice HO189.out
      (first | subst eo47 | (injection eo47 with f1_ f2_ f3_; have f4_ := f1_.symm; have f5_ := f3_.symm; clear f1_ f2_ f3_; subst f4_; subst f5_))
      refine hK.out _ _ (tC6 BK170.out (tC6e BK171.out)) (fun hHeld => ?_)
      clear hK K
      refine norm_ (a' := ?_) ?_ ?_
      rotate_left
      ·show Act.put _ (some 27) _ = _
       simp only [Act.put, List.setIfInBounds_toArray, List.set_cons_zero, List.set_cons_succ, i64_w, i32_w]
       rfl
      refine two_ (i := 4) (j := 5) (Ni := some 28) (Nj := some 6) (tf 5 2) #[true, true, true, true, false, true, false] rfl rfl rfl rfl (by kernel_rfl) (by decide) (by decide) (fun K hK => ?_) (fun K hK => ?_)
      ·skip
       refine goes_ Try.func12 (by kernel_rfl) rfl #[.agg #[.int .i64 t174, .int .i64 t175, .int .i64 t176, .int .i64 t177, .int .i64 t178, .slice Ao46 t179.length co46], .agg #[.int .i64 t182, .int .i64 t183, .int .i64 t184, .int .i64 t185, .int .i64 t186, .slice Ao47 t187.length co47]] (by rfl) rfl rfl tA ?_
       with_reducible refine (spec_TimesJoin.calls k t174 t175 t176 t177 t178 _ _ t179 t182 t183 t184 t185 t186 _ _ t187 t190 t191 t192 t193 t194 t195 _ ?side1 ?side2 ?side3 ?side4 A21.out).mono ?_
       (case side1 => repeat (first | exact (Kd.R_reads' HO181.out).2.2 | (with_reducible refine Kd.C_alloc ?_ _) | (with_reducible refine Kd.C_drewN ?_ _) | (with_reducible refine Kd.C_drew ?_)))
       (case side2 => exact (Kd.R_reads' HO181.out).2.1)
       (case side3 => repeat (first | exact (Kd.R_reads' HO189.out).2.2 | (with_reducible refine Kd.C_alloc ?_ _) | (with_reducible refine Kd.C_drewN ?_ _) | (with_reducible refine Kd.C_drew ?_)))
       (case side4 => exact (Kd.R_reads' HO189.out).2.1)
       rintro e w48 ⟨v196, rfl, ho0, hb⟩
       refine ⟨_, rfl, ?_⟩
       have n0_ := Aside0.mk (Kd.R_elder' (tR HO181.out) (Kd.R_base ho0) hb)
       have n1_ := Aside0.mk (Kd.R_elder' (tR HO189.out) (Kd.R_base ho0) hb)
       have n2_ := Aside0.mk (Kd.R_lower (Kd.R_new' (Kd.R_new' ho0 (Kd.R_lt (tR HO181.out))) (Kd.R_lt (tR HO189.out))) (below_size tBs))
       have n3_ := Aside0.mk (blk_below (tK BK170.out) hb)
       have n4_ := Aside0.mk (blk_below (tK BK171.out) hb)
       have n5_ := Aside0.mk (below_step tBs hb)
       clear HO181 HO189 BK170 BK171 HB
       have HO181 := n0_
       have HO189 := n1_
       have HO197 := n2_
       have BK170 := n3_
       have BK171 := n4_
       have HB := n5_
       clear n0_ n1_ n2_ n3_ n4_ n5_
       (try clear hb)
       (try clear hb2)
       (try clear hk)
       (try clear hi)
       (try clear ho0)
       refine hK.out _ _ (tC6 BK170.out (tC6e BK171.out)) (fun hHeld => ?_)
       clear hK K
       refine norm_ (a' := ?_) ?_ ?_
       rotate_left
       ·show Act.put _ (some 28) _ = _
        simp only [Act.put, List.setIfInBounds_toArray, List.set_cons_zero, List.set_cons_succ, i64_w, i32_w]
        rfl
       refine one_ (i := 5) (N := some 6) (tf 6 1) rfl rfl (by kernel_rfl) (by decide) (fun K hK => ?_)
       refine box_step ?hg (N := 6) ?hd (cs := #[.int .i64 0, .int .i64 0, .int .i64 0, .int .i64 0, .int .i64 0, .slice none 0 0]) (t := 26) ?hr ?_; (case hd => rfl); (case hg => rfl); (case hr => first | (go_simp; done) | (go_simp; rfl))
       intro gb198 hg w49 hbox hb
       have n0_ := Aside0.mk (Kd.R_below (tR HO181.out) hb)
       have n1_ := Aside0.mk (Kd.R_below (tR HO189.out) hb)
       have n2_ := Aside0.mk (Kd.R_below (tR HO197.out) hb)
       have n3_ := Aside0.mk (blk_below (tK BK170.out) hb)
       have n4_ := Aside0.mk (blk_below (tK BK171.out) hb)
       have n5_ := Aside0.mk (below_step tBs hb)
       have n6_ := Aside0.mk (hbox)
       have n7_ := Aside0.mk ((by rw [hg]; exact (below_size tBs) : w.heap.size ≤ gb198))
       have n8_ := Aside0.mk ((by rw [hg]; exact (below_size tBs) : w.heap.size ≤ gb198))
       have n9_ := Aside0.mk ((by rw [hg]; exact Nat.ne_of_lt (blk_lt (tK BK170.out)) : gb170 ≠ gb198))
       have n10_ := Aside0.mk ((by rw [hg]; exact Nat.ne_of_gt (blk_lt (tK BK170.out)) : gb198 ≠ gb170))
       have n11_ := Aside0.mk ((by rw [hg]; exact Nat.ne_of_lt (blk_lt (tK BK171.out)) : gb171 ≠ gb198))
       have n12_ := Aside0.mk ((by rw [hg]; exact Nat.ne_of_gt (blk_lt (tK BK171.out)) : gb198 ≠ gb171))
       clear HO181 HO189 HO197 BK170 BK171 HB
       have HO181 := n0_
       have HO189 := n1_
       have HO197 := n2_
       have BK170 := n3_
       have BK171 := n4_
       have HB := n5_
       have BK198 := n6_
       have GW198 := n7_
       have GE198 := n8_
       have NB170_198 := n9_
       have NB198_170 := n10_
       have NB171_198 := n11_
       have NB198_171 := n12_
       clear n0_ n1_ n2_ n3_ n4_ n5_ n6_ n7_ n8_ n9_ n10_ n11_ n12_ hb hbox hg
       refine hK.out _ _ (tC6 BK170.out (tC6e BK171.out)) (fun hHeld => ?_)
       clear hK K
       refine norm_ (a' := ?_) ?_ ?_
       rotate_left
       ·show Act.put _ (some 6) _ = _
        simp only [Act.put, List.setIfInBounds_toArray, List.set_cons_zero, List.set_cons_succ, i64_w, i32_w]
        rfl
       exact norm_ (by simp only [putAll, Act.put, List.setIfInBounds_toArray, List.set_cons_zero, List.set_cons_succ]) (hCont (.slice Ao46 t179.length co46, .slice Ao47 t187.length co47, v196, gb198) _ ⟨hHeld, (tR (Kd.R_mono HO181.out (fun _ hk => ⟨hk.1.2, hk.2⟩))), (tR (Kd.R_mono HO189.out (fun _ hk => ⟨hk.1.2, hk.2⟩))), (tR (Kd.R_mono HO197.out (fun _ hk => ⟨hk.1.2, hk.2⟩))), (tK BK170.out), (tK BK171.out), (tK BK198.out), GW198.out, GE198.out, NB170_198.out, NB198_170.out, NB171_198.out, NB198_171.out, tBs⟩)
      ·skip
       refine box_step ?hg (N := 6) ?hd (cs := #[.int .i64 0, .int .i64 0, .int .i64 0, .int .i64 0, .int .i64 0, .slice none 0 0]) (t := 26) ?hr ?_; (case hd => rfl); (case hg => rfl); (case hr => first | (go_simp; done) | (go_simp; rfl))
       intro gb198 hg w46 hbox hb
       have n0_ := Aside0.mk (Kd.R_below (tR HO181.out) hb)
       have n1_ := Aside0.mk (Kd.R_below (tR HO189.out) hb)
       have n2_ := Aside0.mk (blk_below (tK BK170.out) hb)
       have n3_ := Aside0.mk (blk_below (tK BK171.out) hb)
       have n4_ := Aside0.mk (below_step tBs hb)
       have n5_ := Aside0.mk (hbox)
       have n6_ := Aside0.mk ((by rw [hg]; exact (below_size tBs) : w.heap.size ≤ gb198))
       have n7_ := Aside0.mk ((by rw [hg]; exact (below_size tBs) : w.heap.size ≤ gb198))
       have n8_ := Aside0.mk ((by rw [hg]; exact Nat.ne_of_lt (blk_lt (tK BK170.out)) : gb170 ≠ gb198))
       have n9_ := Aside0.mk ((by rw [hg]; exact Nat.ne_of_gt (blk_lt (tK BK170.out)) : gb198 ≠ gb170))
       have n10_ := Aside0.mk ((by rw [hg]; exact Nat.ne_of_lt (blk_lt (tK BK171.out)) : gb171 ≠ gb198))
       have n11_ := Aside0.mk ((by rw [hg]; exact Nat.ne_of_gt (blk_lt (tK BK171.out)) : gb198 ≠ gb171))
       clear HO181 HO189 BK170 BK171 HB
       have HO181 := n0_
       have HO189 := n1_
       have BK170 := n2_
       have BK171 := n3_
       have HB := n4_
       have BK198 := n5_
       have GW198 := n6_
       have GE198 := n7_
       have NB170_198 := n8_
       have NB198_170 := n9_
       have NB171_198 := n10_
       have NB198_171 := n11_
       clear n0_ n1_ n2_ n3_ n4_ n5_ n6_ n7_ n8_ n9_ n10_ n11_ hb hbox hg
       obtain ⟨Ao47, co47, eo47⟩ := Kd.R_slice HO181.out
       (first | subst eo47 | (injection eo47 with f1_ f2_ f3_; have f4_ := f1_.symm; have f5_ := f3_.symm; clear f1_ f2_ f3_; subst f4_; subst f5_))
       obtain ⟨Ao48, co48, eo48⟩ := Kd.R_slice HO189.out
       (first | subst eo48 | (injection eo48 with f1_ f2_ f3_; have f4_ := f1_.symm; have f5_ := f3_.symm; clear f1_ f2_ f3_; subst f4_; subst f5_))
       refine hK.out _ _ (tC6 BK170.out (tC6e BK171.out)) (fun hHeld => ?_)
       clear hK K
       refine norm_ (a' := ?_) ?_ ?_
       rotate_left
       ·show Act.put _ (some 6) _ = _
        simp only [Act.put, List.setIfInBounds_toArray, List.set_cons_zero, List.set_cons_succ, i64_w, i32_w]
        rfl
       refine one_ (i := 4) (N := some 28) (tf 6 1) rfl rfl (by kernel_rfl) (by decide) (fun K hK => ?_)
       refine goes_ Try.func12 (by kernel_rfl) rfl #[.agg #[.int .i64 t174, .int .i64 t175, .int .i64 t176, .int .i64 t177, .int .i64 t178, .slice Ao47 t179.length co47], .agg #[.int .i64 t182, .int .i64 t183, .int .i64 t184, .int .i64 t185, .int .i64 t186, .slice Ao48 t187.length co48]] (by rfl) rfl rfl tA ?_
       with_reducible refine (spec_TimesJoin.calls k t174 t175 t176 t177 t178 _ _ t179 t182 t183 t184 t185 t186 _ _ t187 t190 t191 t192 t193 t194 t195 _ ?side1 ?side2 ?side3 ?side4 A21.out).mono ?_
       (case side1 => repeat (first | exact (Kd.R_reads' HO181.out).2.2 | (with_reducible refine Kd.C_alloc ?_ _) | (with_reducible refine Kd.C_drewN ?_ _) | (with_reducible refine Kd.C_drew ?_)))
       (case side2 => exact (Kd.R_reads' HO181.out).2.1)
       (case side3 => repeat (first | exact (Kd.R_reads' HO189.out).2.2 | (with_reducible refine Kd.C_alloc ?_ _) | (with_reducible refine Kd.C_drewN ?_ _) | (with_reducible refine Kd.C_drew ?_)))
       (case side4 => exact (Kd.R_reads' HO189.out).2.1)
       rintro e w49 ⟨v196, rfl, ho0, hb⟩
       refine ⟨_, rfl, ?_⟩
       have n0_ := Aside0.mk (Kd.R_elder' (tR HO181.out) (Kd.R_base ho0) hb)
       have n1_ := Aside0.mk (Kd.R_elder' (tR HO189.out) (Kd.R_base ho0) hb)
       have n2_ := Aside0.mk (Kd.R_lower (Kd.R_new' (Kd.R_new' ho0 (Kd.R_lt (tR HO181.out))) (Kd.R_lt (tR HO189.out))) (below_size tBs))
       have n3_ := Aside0.mk (blk_below (tK BK170.out) hb)
       have n4_ := Aside0.mk (blk_below (tK BK171.out) hb)
       have n5_ := Aside0.mk (blk_below (tK BK198.out) hb)
       have n6_ := Aside0.mk (below_step tBs hb)
       clear HO181 HO189 BK170 BK171 BK198 HB
       have HO181 := n0_
       have HO189 := n1_
       have HO197 := n2_
       have BK170 := n3_
       have BK171 := n4_
       have BK198 := n5_
       have HB := n6_
       clear n0_ n1_ n2_ n3_ n4_ n5_ n6_
       (try clear hb)
       (try clear hb2)
       (try clear hk)
       (try clear hi)
       (try clear ho0)
       refine hK.out _ _ (tC6 BK170.out (tC6e BK171.out)) (fun hHeld => ?_)
       clear hK K
       refine norm_ (a' := ?_) ?_ ?_
       rotate_left
       ·show Act.put _ (some 28) _ = _
        simp only [Act.put, List.setIfInBounds_toArray, List.set_cons_zero, List.set_cons_succ, i64_w, i32_w]
        rfl
       exact norm_ (by simp only [putAll, Act.put, List.setIfInBounds_toArray, List.set_cons_zero, List.set_cons_succ]) (hCont (.slice Ao47 t179.length co47, .slice Ao48 t187.length co48, v196, gb198) _ ⟨hHeld, (tR (Kd.R_mono HO181.out (fun _ hk => ⟨hk.1.2, hk.2⟩))), (tR (Kd.R_mono HO189.out (fun _ hk => ⟨hk.1.2, hk.2⟩))), (tR (Kd.R_mono HO197.out (fun _ hk => ⟨hk.1.2, hk.2⟩))), (tK BK170.out), (tK BK171.out), (tK BK198.out), GW198.out, GE198.out, NB170_198.out, NB198_170.out, NB171_198.out, NB198_171.out, tBs⟩)
     ·skip
      refine box_step ?hg (N := 6) ?hd (cs := #[.int .i64 0, .int .i64 0, .int .i64 0, .int .i64 0, .int .i64 0, .slice none 0 0]) (t := 26) ?hr ?_; (case hd => rfl); (case hg => rfl); (case hr => first | (go_simp; done) | (go_simp; rfl))
      intro gb198 hg w45 hbox hb
      have n0_ := Aside0.mk (Kd.R_below (tR HO181.out) hb)
      have n1_ := Aside0.mk (blk_below (tK BK170.out) hb)
      have n2_ := Aside0.mk (blk_below (tK BK171.out) hb)
      have n3_ := Aside0.mk (below_step tBs hb)
      have n4_ := Aside0.mk (hbox)
      have n5_ := Aside0.mk ((by rw [hg]; exact (below_size tBs) : w.heap.size ≤ gb198))
      have n6_ := Aside0.mk ((by rw [hg]; exact (below_size tBs) : w.heap.size ≤ gb198))
      have n7_ := Aside0.mk ((by rw [hg]; exact Nat.ne_of_lt (blk_lt (tK BK170.out)) : gb170 ≠ gb198))
      have n8_ := Aside0.mk ((by rw [hg]; exact Nat.ne_of_gt (blk_lt (tK BK170.out)) : gb198 ≠ gb170))
      have n9_ := Aside0.mk ((by rw [hg]; exact Nat.ne_of_lt (blk_lt (tK BK171.out)) : gb171 ≠ gb198))
      have n10_ := Aside0.mk ((by rw [hg]; exact Nat.ne_of_gt (blk_lt (tK BK171.out)) : gb198 ≠ gb171))
      clear HO181 BK170 BK171 HB
      have HO181 := n0_
      have BK170 := n1_
      have BK171 := n2_
      have HB := n3_
      have BK198 := n4_
      have GW198 := n5_
      have GE198 := n6_
      have NB170_198 := n7_
      have NB198_170 := n8_
      have NB171_198 := n9_
      have NB198_171 := n10_
      clear n0_ n1_ n2_ n3_ n4_ n5_ n6_ n7_ n8_ n9_ n10_ hb hbox hg
      refine hK.out _ _ (tC6 BK170.out (tC6e BK171.out)) (fun hHeld => ?_)
      clear hK K
      refine norm_ (a' := ?_) ?_ ?_
      rotate_left
      ·show Act.put _ (some 6) _ = _
       simp only [Act.put, List.setIfInBounds_toArray, List.set_cons_zero, List.set_cons_succ, i64_w, i32_w]
       rfl
      refine one_ (i := 3) (N := some 27) #[true, true, true, true, false, true, false] rfl rfl (by kernel_rfl) (by decide) (fun K hK => ?_)
      refine goes_ Try.func13 (by kernel_rfl) rfl #[.agg #[.int .i64 a1_0, .int .i64 a1_1, .int .i64 a1_2, .int .i64 a1_3, .int .i64 a1_4, .slice A1_5 l1_5.length c1_5]] (by rfl) rfl rfl tA ?_
      with_reducible refine (laws_toTimes.calls k a1_0 a1_1 a1_2 a1_3 a1_4 _ _ l1_5 t182 t183 t184 t185 t186 t187 _ ?side1 ?side2 A20.out).mono ?_
      (case side1 => repeat (first | exact (Kd.C_below HR1_5.out HB.out) | (with_reducible refine Kd.C_alloc ?_ _) | (with_reducible refine Kd.C_drewN ?_ _) | (with_reducible refine Kd.C_drew ?_)))
      (case side2 => exact HC1_5.out)
      rintro e w46 ⟨v188, rfl, ho0, hb⟩
      refine ⟨_, rfl, ?_⟩
      have n0_ := Aside0.mk (Kd.R_elder' (tR HO181.out) (Kd.R_base ho0) hb)
      have n1_ := Aside0.mk (Kd.R_lower (Kd.R_new' ho0 (Kd.R_lt (tR HO181.out))) (below_size tBs))
      have n2_ := Aside0.mk (blk_below (tK BK170.out) hb)
      have n3_ := Aside0.mk (blk_below (tK BK171.out) hb)
      have n4_ := Aside0.mk (blk_below (tK BK198.out) hb)
      have n5_ := Aside0.mk (below_step tBs hb)
      clear HO181 BK170 BK171 BK198 HB
      have HO181 := n0_
      have HO189 := n1_
      have BK170 := n2_
      have BK171 := n3_
      have BK198 := n4_
      have HB := n5_
      clear n0_ n1_ n2_ n3_ n4_ n5_
      (try clear hb)
      (try clear hb2)
      (try clear hk)
      (try clear hi)
      (try clear ho0)
      obtain ⟨Ao47, co47, eo47⟩ := Kd.R_slice HO181.out
      (first | subst eo47 | (injection eo47 with f1_ f2_ f3_; have f4_ := f1_.symm; have f5_ := f3_.symm; clear f1_ f2_ f3_; subst f4_; subst f5_))
      obtain ⟨Ao48, co48, eo48⟩ := Kd.R_slice HO189.out
      (first | subst eo48 | (injection eo48 with f1_ f2_ f3_; have f4_ := f1_.symm; have f5_ := f3_.symm; clear f1_ f2_ f3_; subst f4_; subst f5_))
      refine hK.out _ _ (tC6 BK170.out (tC6e BK171.out)) (fun hHeld => ?_)
      clear hK K
      refine norm_ (a' := ?_) ?_ ?_
      rotate_left
      ·show Act.put _ (some 27) _ = _
       simp only [Act.put, List.setIfInBounds_toArray, List.set_cons_zero, List.set_cons_succ, i64_w, i32_w]
       rfl
      refine one_ (i := 4) (N := some 28) (tf 6 1) rfl rfl (by kernel_rfl) (by decide) (fun K hK => ?_)
      refine goes_ Try.func12 (by kernel_rfl) rfl #[.agg #[.int .i64 t174, .int .i64 t175, .int .i64 t176, .int .i64 t177, .int .i64 t178, .slice Ao47 t179.length co47], .agg #[.int .i64 t182, .int .i64 t183, .int .i64 t184, .int .i64 t185, .int .i64 t186, .slice Ao48 t187.length co48]] (by rfl) rfl rfl tA ?_
      with_reducible refine (spec_TimesJoin.calls k t174 t175 t176 t177 t178 _ _ t179 t182 t183 t184 t185 t186 _ _ t187 t190 t191 t192 t193 t194 t195 _ ?side1 ?side2 ?side3 ?side4 A21.out).mono ?_
      (case side1 => repeat (first | exact (Kd.R_reads' HO181.out).2.2 | (with_reducible refine Kd.C_alloc ?_ _) | (with_reducible refine Kd.C_drewN ?_ _) | (with_reducible refine Kd.C_drew ?_)))
      (case side2 => exact (Kd.R_reads' HO181.out).2.1)
      (case side3 => repeat (first | exact (Kd.R_reads' HO189.out).2.2 | (with_reducible refine Kd.C_alloc ?_ _) | (with_reducible refine Kd.C_drewN ?_ _) | (with_reducible refine Kd.C_drew ?_)))
      (case side4 => exact (Kd.R_reads' HO189.out).2.1)
      rintro e w49 ⟨v196, rfl, ho0, hb⟩
      refine ⟨_, rfl, ?_⟩
      have n0_ := Aside0.mk (Kd.R_elder' (tR HO181.out) (Kd.R_base ho0) hb)
      have n1_ := Aside0.mk (Kd.R_elder' (tR HO189.out) (Kd.R_base ho0) hb)
      have n2_ := Aside0.mk (Kd.R_lower (Kd.R_new' (Kd.R_new' ho0 (Kd.R_lt (tR HO181.out))) (Kd.R_lt (tR HO189.out))) (below_size tBs))
      have n3_ := Aside0.mk (blk_below (tK BK170.out) hb)
      have n4_ := Aside0.mk (blk_below (tK BK171.out) hb)
      have n5_ := Aside0.mk (blk_below (tK BK198.out) hb)
      have n6_ := Aside0.mk (below_step tBs hb)
      clear HO181 HO189 BK170 BK171 BK198 HB
      have HO181 := n0_
      have HO189 := n1_
      have HO197 := n2_
      have BK170 := n3_
      have BK171 := n4_
      have BK198 := n5_
      have HB := n6_
      clear n0_ n1_ n2_ n3_ n4_ n5_ n6_
      (try clear hb)
      (try clear hb2)
      (try clear hk)
      (try clear hi)
      (try clear ho0)
      refine hK.out _ _ (tC6 BK170.out (tC6e BK171.out)) (fun hHeld => ?_)
      clear hK K
      refine norm_ (a' := ?_) ?_ ?_
      rotate_left
      ·show Act.put _ (some 28) _ = _
       simp only [Act.put, List.setIfInBounds_toArray, List.set_cons_zero, List.set_cons_succ, i64_w, i32_w]
       rfl
      exact norm_ (by simp only [putAll, Act.put, List.setIfInBounds_toArray, List.set_cons_zero, List.set_cons_succ]) (hCont (.slice Ao47 t179.length co47, .slice Ao48 t187.length co48, v196, gb198) _ ⟨hHeld, (tR (Kd.R_mono HO181.out (fun _ hk => ⟨hk.1.2, hk.2⟩))), (tR (Kd.R_mono HO189.out (fun _ hk => ⟨hk.1.2, hk.2⟩))), (tR (Kd.R_mono HO197.out (fun _ hk => ⟨hk.1.2, hk.2⟩))), (tK BK170.out), (tK BK171.out), (tK BK198.out), GW198.out, GE198.out, NB170_198.out, NB198_170.out, NB171_198.out, NB198_171.out, tBs⟩)
    ·skip
     refine box_step ?hg (N := 6) ?hd (cs := #[.int .i64 0, .int .i64 0, .int .i64 0, .int .i64 0, .int .i64 0, .slice none 0 0]) (t := 26) ?hr ?_; (case hd => rfl); (case hg => rfl); (case hr => first | (go_simp; done) | (go_simp; rfl))
     intro gb198 hg w44 hbox hb
     have n0_ := Aside0.mk (blk_below (tK BK170.out) hb)
     have n1_ := Aside0.mk (blk_below (tK BK171.out) hb)
     have n2_ := Aside0.mk (below_step tBs hb)
     have n3_ := Aside0.mk (hbox)
     have n4_ := Aside0.mk ((by rw [hg]; exact (below_size tBs) : w.heap.size ≤ gb198))
     have n5_ := Aside0.mk ((by rw [hg]; exact (below_size tBs) : w.heap.size ≤ gb198))
     have n6_ := Aside0.mk ((by rw [hg]; exact Nat.ne_of_lt (blk_lt (tK BK170.out)) : gb170 ≠ gb198))
     have n7_ := Aside0.mk ((by rw [hg]; exact Nat.ne_of_gt (blk_lt (tK BK170.out)) : gb198 ≠ gb170))
     have n8_ := Aside0.mk ((by rw [hg]; exact Nat.ne_of_lt (blk_lt (tK BK171.out)) : gb171 ≠ gb198))
     have n9_ := Aside0.mk ((by rw [hg]; exact Nat.ne_of_gt (blk_lt (tK BK171.out)) : gb198 ≠ gb171))
     clear BK170 BK171 HB
     have BK170 := n0_
     have BK171 := n1_
     have HB := n2_
     have BK198 := n3_
     have GW198 := n4_
     have GE198 := n5_
     have NB170_198 := n6_
     have NB198_170 := n7_
     have NB171_198 := n8_
     have NB198_171 := n9_
     clear n0_ n1_ n2_ n3_ n4_ n5_ n6_ n7_ n8_ n9_ hb hbox hg
     refine hK.out _ _ (tC6 BK170.out (tC6e BK171.out)) (fun hHeld => ?_)
     clear hK K
     refine norm_ (a' := ?_) ?_ ?_
     rotate_left
     ·show Act.put _ (some 6) _ = _
      simp only [Act.put, List.setIfInBounds_toArray, List.set_cons_zero, List.set_cons_succ, i64_w, i32_w]
      rfl
     refine one_ (i := 1) (N := some 25) #[true, true, true, false, false, true, false] rfl rfl (by kernel_rfl) (by decide) (fun K hK => ?_)
     refine goes_ Try.func13 (by kernel_rfl) rfl #[.agg #[.int .i64 a0_0, .int .i64 a0_1, .int .i64 a0_2, .int .i64 a0_3, .int .i64 a0_4, .slice A0_5 l0_5.length c0_5]] (by rfl) rfl rfl tA ?_
     with_reducible refine (laws_toTimes.calls k a0_0 a0_1 a0_2 a0_3 a0_4 _ _ l0_5 t174 t175 t176 t177 t178 t179 _ ?side1 ?side2 A19.out).mono ?_
     (case side1 => repeat (first | exact (Kd.C_below HR0_5.out HB.out) | (with_reducible refine Kd.C_alloc ?_ _) | (with_reducible refine Kd.C_drewN ?_ _) | (with_reducible refine Kd.C_drew ?_)))
     (case side2 => exact HC0_5.out)
     rintro e w45 ⟨v180, rfl, ho0, hb⟩
     refine ⟨_, rfl, ?_⟩
     have n0_ := Aside0.mk (Kd.R_lower ho0 (below_size tBs))
     have n1_ := Aside0.mk (blk_below (tK BK170.out) hb)
     have n2_ := Aside0.mk (blk_below (tK BK171.out) hb)
     have n3_ := Aside0.mk (blk_below (tK BK198.out) hb)
     have n4_ := Aside0.mk (below_step tBs hb)
     clear BK170 BK171 BK198 HB
     have HO181 := n0_
     have BK170 := n1_
     have BK171 := n2_
     have BK198 := n3_
     have HB := n4_
     clear n0_ n1_ n2_ n3_ n4_
     (try clear hb)
     (try clear hb2)
     (try clear hk)
     (try clear hi)
     (try clear ho0)
     refine hK.out _ _ (tC6 BK170.out (tC6e BK171.out)) (fun hHeld => ?_)
     clear hK K
     refine norm_ (a' := ?_) ?_ ?_
     rotate_left
     ·show Act.put _ (some 25) _ = _
      simp only [Act.put, List.setIfInBounds_toArray, List.set_cons_zero, List.set_cons_succ, i64_w, i32_w]
      rfl
     refine one_ (i := 3) (N := some 27) #[true, true, true, true, false, true, false] rfl rfl (by kernel_rfl) (by decide) (fun K hK => ?_)
     refine goes_ Try.func13 (by kernel_rfl) rfl #[.agg #[.int .i64 a1_0, .int .i64 a1_1, .int .i64 a1_2, .int .i64 a1_3, .int .i64 a1_4, .slice A1_5 l1_5.length c1_5]] (by rfl) rfl rfl tA ?_
     with_reducible refine (laws_toTimes.calls k a1_0 a1_1 a1_2 a1_3 a1_4 _ _ l1_5 t182 t183 t184 t185 t186 t187 _ ?side1 ?side2 A20.out).mono ?_
     (case side1 => repeat (first | exact (Kd.C_below HR1_5.out HB.out) | (with_reducible refine Kd.C_alloc ?_ _) | (with_reducible refine Kd.C_drewN ?_ _) | (with_reducible refine Kd.C_drew ?_)))
     (case side2 => exact HC1_5.out)
     rintro e w46 ⟨v188, rfl, ho0, hb⟩
     refine ⟨_, rfl, ?_⟩
     have n0_ := Aside0.mk (Kd.R_elder' (tR HO181.out) (Kd.R_base ho0) hb)
     have n1_ := Aside0.mk (Kd.R_lower (Kd.R_new' ho0 (Kd.R_lt (tR HO181.out))) (below_size tBs))
     have n2_ := Aside0.mk (blk_below (tK BK170.out) hb)
     have n3_ := Aside0.mk (blk_below (tK BK171.out) hb)
     have n4_ := Aside0.mk (blk_below (tK BK198.out) hb)
     have n5_ := Aside0.mk (below_step tBs hb)
     clear HO181 BK170 BK171 BK198 HB
     have HO181 := n0_
     have HO189 := n1_
     have BK170 := n2_
     have BK171 := n3_
     have BK198 := n4_
     have HB := n5_
     clear n0_ n1_ n2_ n3_ n4_ n5_
     (try clear hb)
     (try clear hb2)
     (try clear hk)
     (try clear hi)
     (try clear ho0)
     obtain ⟨Ao47, co47, eo47⟩ := Kd.R_slice HO181.out
     (first | subst eo47 | (injection eo47 with f1_ f2_ f3_; have f4_ := f1_.symm; have f5_ := f3_.symm; clear f1_ f2_ f3_; subst f4_; subst f5_))
     obtain ⟨Ao48, co48, eo48⟩ := Kd.R_slice HO189.out
     (first | subst eo48 | (injection eo48 with f1_ f2_ f3_; have f4_ := f1_.symm; have f5_ := f3_.symm; clear f1_ f2_ f3_; subst f4_; subst f5_))
     refine hK.out _ _ (tC6 BK170.out (tC6e BK171.out)) (fun hHeld => ?_)
     clear hK K
     refine norm_ (a' := ?_) ?_ ?_
     rotate_left
     ·show Act.put _ (some 27) _ = _
      simp only [Act.put, List.setIfInBounds_toArray, List.set_cons_zero, List.set_cons_succ, i64_w, i32_w]
      rfl
     refine one_ (i := 4) (N := some 28) (tf 6 1) rfl rfl (by kernel_rfl) (by decide) (fun K hK => ?_)
     refine goes_ Try.func12 (by kernel_rfl) rfl #[.agg #[.int .i64 t174, .int .i64 t175, .int .i64 t176, .int .i64 t177, .int .i64 t178, .slice Ao47 t179.length co47], .agg #[.int .i64 t182, .int .i64 t183, .int .i64 t184, .int .i64 t185, .int .i64 t186, .slice Ao48 t187.length co48]] (by rfl) rfl rfl tA ?_
     with_reducible refine (spec_TimesJoin.calls k t174 t175 t176 t177 t178 _ _ t179 t182 t183 t184 t185 t186 _ _ t187 t190 t191 t192 t193 t194 t195 _ ?side1 ?side2 ?side3 ?side4 A21.out).mono ?_
     (case side1 => repeat (first | exact (Kd.R_reads' HO181.out).2.2 | (with_reducible refine Kd.C_alloc ?_ _) | (with_reducible refine Kd.C_drewN ?_ _) | (with_reducible refine Kd.C_drew ?_)))
     (case side2 => exact (Kd.R_reads' HO181.out).2.1)
     (case side3 => repeat (first | exact (Kd.R_reads' HO189.out).2.2 | (with_reducible refine Kd.C_alloc ?_ _) | (with_reducible refine Kd.C_drewN ?_ _) | (with_reducible refine Kd.C_drew ?_)))
     (case side4 => exact (Kd.R_reads' HO189.out).2.1)
     rintro e w49 ⟨v196, rfl, ho0, hb⟩
     refine ⟨_, rfl, ?_⟩
     have n0_ := Aside0.mk (Kd.R_elder' (tR HO181.out) (Kd.R_base ho0) hb)
     have n1_ := Aside0.mk (Kd.R_elder' (tR HO189.out) (Kd.R_base ho0) hb)
     have n2_ := Aside0.mk (Kd.R_lower (Kd.R_new' (Kd.R_new' ho0 (Kd.R_lt (tR HO181.out))) (Kd.R_lt (tR HO189.out))) (below_size tBs))
     have n3_ := Aside0.mk (blk_below (tK BK170.out) hb)
     have n4_ := Aside0.mk (blk_below (tK BK171.out) hb)
     have n5_ := Aside0.mk (blk_below (tK BK198.out) hb)
     have n6_ := Aside0.mk (below_step tBs hb)
     clear HO181 HO189 BK170 BK171 BK198 HB
     have HO181 := n0_
     have HO189 := n1_
     have HO197 := n2_
     have BK170 := n3_
     have BK171 := n4_
     have BK198 := n5_
     have HB := n6_
     clear n0_ n1_ n2_ n3_ n4_ n5_ n6_
     (try clear hb)
     (try clear hb2)
     (try clear hk)
     (try clear hi)
     (try clear ho0)
     refine hK.out _ _ (tC6 BK170.out (tC6e BK171.out)) (fun hHeld => ?_)
     clear hK K
     refine norm_ (a' := ?_) ?_ ?_
     rotate_left
     ·show Act.put _ (some 28) _ = _
      simp only [Act.put, List.setIfInBounds_toArray, List.set_cons_zero, List.set_cons_succ, i64_w, i32_w]
      rfl
     exact norm_ (by simp only [putAll, Act.put, List.setIfInBounds_toArray, List.set_cons_zero, List.set_cons_succ]) (hCont (.slice Ao47 t179.length co47, .slice Ao48 t187.length co48, v196, gb198) _ ⟨hHeld, (tR (Kd.R_mono HO181.out (fun _ hk => ⟨hk.1.2, hk.2⟩))), (tR (Kd.R_mono HO189.out (fun _ hk => ⟨hk.1.2, hk.2⟩))), (tR (Kd.R_mono HO197.out (fun _ hk => ⟨hk.1.2, hk.2⟩))), (tK BK170.out), (tK BK171.out), (tK BK198.out), GW198.out, GE198.out, NB170_198.out, NB198_170.out, NB171_198.out, NB198_171.out, tBs⟩)
   rintro ⟨v180, v188, v196, gb198⟩ w50 ⟨hS_, h0_, h1_, h2_, h3_, h4_, h5_, h6_, h7_, h8_, h9_, h10_, h11_, h12_⟩
   have n0_ : Aside0 (Kd.R (Kd.int .i64) 2 w50 w.heap.size (fun k_ => some k_ ≠ (v188 : Value).ownBlock ∧ some k_ ≠ (v196 : Value).ownBlock) v180 t179) := ⟨h0_⟩
   have n1_ : Aside0 (Kd.R (Kd.int .i64) 2 w50 w.heap.size (fun k_ => some k_ ≠ (v180 : Value).ownBlock ∧ some k_ ≠ (v196 : Value).ownBlock) v188 t187) := ⟨h1_⟩
   have n2_ : Aside0 (Kd.R (Kd.int .i64) 2 w50 w.heap.size (fun k_ => some k_ ≠ (v180 : Value).ownBlock ∧ some k_ ≠ (v188 : Value).ownBlock) v196 t195) := ⟨h2_⟩
   have n3_ : Aside0 (w50.heap[gb170]? = some (.cells #[.int .i64 a0_0, .int .i64 a0_1, .int .i64 a0_2, .int .i64 a0_3, .int .i64 a0_4, .slice A0_5 l0_5.length c0_5] 24 (0, 0))) := ⟨h3_⟩
   have n4_ : Aside0 (w50.heap[gb171]? = some (.cells #[.int .i64 a1_0, .int .i64 a1_1, .int .i64 a1_2, .int .i64 a1_3, .int .i64 a1_4, .slice A1_5 l1_5.length c1_5] 24 (0, 0))) := ⟨h4_⟩
   have n5_ : Aside0 (w50.heap[gb198]? = some (.cells #[.int .i64 0, .int .i64 0, .int .i64 0, .int .i64 0, .int .i64 0, .slice none 0 0] 26 (0, 0))) := ⟨h5_⟩
   have n6_ : Aside0 (w.heap.size ≤ gb198) := ⟨h6_⟩
   have n7_ : Aside0 (w.heap.size ≤ gb198) := ⟨h7_⟩
   have n8_ : Aside0 (gb170 ≠ gb198) := ⟨h8_⟩
   have n9_ : Aside0 (gb198 ≠ gb170) := ⟨h9_⟩
   have n10_ : Aside0 (gb171 ≠ gb198) := ⟨h10_⟩
   have n11_ : Aside0 (gb198 ≠ gb171) := ⟨h11_⟩
   have n12_ : Aside0 (Below w.heap.size w w50) := ⟨h12_⟩
   clear BK170 BK171 HB h0_ h1_ h2_ h3_ h4_ h5_ h6_ h7_ h8_ h9_ h10_ h11_ h12_
   have HO181 := n0_
   have HO189 := n1_
   have HO197 := n2_
   have BK170 := n3_
   have BK171 := n4_
   have BK198 := n5_
   have GW198 := n6_
   have GE198 := n7_
   have NB170_198 := n8_
   have NB198_170 := n9_
   have NB171_198 := n10_
   have NB198_171 := n11_
   have HB := n12_
   clear n0_ n1_ n2_ n3_ n4_ n5_ n6_ n7_ n8_ n9_ n10_ n11_ n12_
   have hHeld : w50.cell? ⟨gb170, 0, none⟩ = some (.int .i64 a0_0) ∧ w50.cell? ⟨gb170, 1, none⟩ = some (.int .i64 a0_1) ∧ w50.cell? ⟨gb170, 2, none⟩ = some (.int .i64 a0_2) ∧ w50.cell? ⟨gb170, 3, none⟩ = some (.int .i64 a0_3) ∧ w50.cell? ⟨gb170, 4, none⟩ = some (.int .i64 a0_4) ∧ w50.cell? ⟨gb170, 5, none⟩ = some (.slice A0_5 l0_5.length c0_5) ∧ w50.cell? ⟨gb171, 0, none⟩ = some (.int .i64 a1_0) ∧ w50.cell? ⟨gb171, 1, none⟩ = some (.int .i64 a1_1) ∧ w50.cell? ⟨gb171, 2, none⟩ = some (.int .i64 a1_2) ∧ w50.cell? ⟨gb171, 3, none⟩ = some (.int .i64 a1_3) ∧ w50.cell? ⟨gb171, 4, none⟩ = some (.int .i64 a1_4) ∧ w50.cell? ⟨gb171, 5, none⟩ = some (.slice A1_5 l1_5.length c1_5) := hS_
   obtain ⟨Ao56, co56, eo56⟩ := Kd.R_slice HO197.out
   (first | subst eo56 | (injection eo56 with f1_ f2_ f3_; have f4_ := f1_.symm; have f5_ := f3_.symm; clear f1_ f2_ f3_; subst f4_; subst f5_))
   refine norm_ (a' := ?_) ?_ ?_
   rotate_left
   ·simp only [putAll, Act.put, List.setIfInBounds_toArray, List.set_cons_zero, List.set_cons_succ]
    rfl
   refine one_ (i := 6) (N := none) (tf 7 0) rfl rfl (by kernel_rfl) (by decide) (fun K hK => ?_)
   have hs51 : w50.cell? ⟨gb198, 0, none⟩ = some (.int .i64 0) := (blk_cell BK198.out 0).trans rfl
   have hfs51 := blk_frozen BK198.out 0
   have hns51_0 := NB170_198.out
   have hns51_1 := NB171_198.out
   have hms51_0 := NB198_170.out
   have hms51_1 := NB198_171.out
   have hs52 : w50.cell? ⟨gb198, 1, none⟩ = some (.int .i64 0) := (blk_cell BK198.out 1).trans rfl
   have hfs52 := blk_frozen BK198.out 1
   have hns52_0 := NB170_198.out
   have hns52_1 := NB171_198.out
   have hms52_0 := NB198_170.out
   have hms52_1 := NB198_171.out
   have hs53 : w50.cell? ⟨gb198, 2, none⟩ = some (.int .i64 0) := (blk_cell BK198.out 2).trans rfl
   have hfs53 := blk_frozen BK198.out 2
   have hns53_0 := NB170_198.out
   have hns53_1 := NB171_198.out
   have hms53_0 := NB198_170.out
   have hms53_1 := NB198_171.out
   have hs54 : w50.cell? ⟨gb198, 3, none⟩ = some (.int .i64 0) := (blk_cell BK198.out 3).trans rfl
   have hfs54 := blk_frozen BK198.out 3
   have hns54_0 := NB170_198.out
   have hns54_1 := NB171_198.out
   have hms54_0 := NB198_170.out
   have hms54_1 := NB198_171.out
   have hs55 : w50.cell? ⟨gb198, 4, none⟩ = some (.int .i64 0) := (blk_cell BK198.out 4).trans rfl
   have hfs55 := blk_frozen BK198.out 4
   have hns55_0 := NB170_198.out
   have hns55_1 := NB171_198.out
   have hms55_0 := NB198_170.out
   have hms55_1 := NB198_171.out
   have hs57 : w50.cell? ⟨gb198, 5, none⟩ = some (.slice none 0 0) := (blk_cell BK198.out 5).trans rfl
   have hfs57 := blk_frozen BK198.out 5
   have hns57_0 := NB170_198.out
   have hns57_1 := NB171_198.out
   have hms57_0 := NB198_170.out
   have hms57_1 := NB198_171.out
   refine skip_ (w1 := ?_) (by rfl) rfl ?_ ?_
   rotate_left
   ·go_simp
    rfl
   refine hK.out _ _ ⟨((cell_far (p := ⟨gb198, _, none⟩) NB170_198.out _).trans (((cell_far (p := ⟨gb198, _, none⟩) NB170_198.out _).trans (((cell_far (p := ⟨gb198, _, none⟩) NB170_198.out _).trans (((cell_far (p := ⟨gb198, _, none⟩) NB170_198.out _).trans (((cell_far (p := ⟨gb198, _, none⟩) NB170_198.out _).trans (((cell_far (p := ⟨gb198, _, none⟩) NB170_198.out _).trans (hHeld.1)))))))))))), ((cell_far (p := ⟨gb198, _, none⟩) NB170_198.out _).trans (((cell_far (p := ⟨gb198, _, none⟩) NB170_198.out _).trans (((cell_far (p := ⟨gb198, _, none⟩) NB170_198.out _).trans (((cell_far (p := ⟨gb198, _, none⟩) NB170_198.out _).trans (((cell_far (p := ⟨gb198, _, none⟩) NB170_198.out _).trans (((cell_far (p := ⟨gb198, _, none⟩) NB170_198.out _).trans (hHeld.2.1)))))))))))), ((cell_far (p := ⟨gb198, _, none⟩) NB170_198.out _).trans (((cell_far (p := ⟨gb198, _, none⟩) NB170_198.out _).trans (((cell_far (p := ⟨gb198, _, none⟩) NB170_198.out _).trans (((cell_far (p := ⟨gb198, _, none⟩) NB170_198.out _).trans (((cell_far (p := ⟨gb198, _, none⟩) NB170_198.out _).trans (((cell_far (p := ⟨gb198, _, none⟩) NB170_198.out _).trans (hHeld.2.2.1)))))))))))), ((cell_far (p := ⟨gb198, _, none⟩) NB170_198.out _).trans (((cell_far (p := ⟨gb198, _, none⟩) NB170_198.out _).trans (((cell_far (p := ⟨gb198, _, none⟩) NB170_198.out _).trans (((cell_far (p := ⟨gb198, _, none⟩) NB170_198.out _).trans (((cell_far (p := ⟨gb198, _, none⟩) NB170_198.out _).trans (((cell_far (p := ⟨gb198, _, none⟩) NB170_198.out _).trans (hHeld.2.2.2.1)))))))))))), ((cell_far (p := ⟨gb198, _, none⟩) NB170_198.out _).trans (((cell_far (p := ⟨gb198, _, none⟩) NB170_198.out _).trans (((cell_far (p := ⟨gb198, _, none⟩) NB170_198.out _).trans (((cell_far (p := ⟨gb198, _, none⟩) NB170_198.out _).trans (((cell_far (p := ⟨gb198, _, none⟩) NB170_198.out _).trans (((cell_far (p := ⟨gb198, _, none⟩) NB170_198.out _).trans (hHeld.2.2.2.2.1)))))))))))), ((cell_far (p := ⟨gb198, _, none⟩) NB170_198.out _).trans (((cell_far (p := ⟨gb198, _, none⟩) NB170_198.out _).trans (((cell_far (p := ⟨gb198, _, none⟩) NB170_198.out _).trans (((cell_far (p := ⟨gb198, _, none⟩) NB170_198.out _).trans (((cell_far (p := ⟨gb198, _, none⟩) NB170_198.out _).trans (((cell_far (p := ⟨gb198, _, none⟩) NB170_198.out _).trans (hHeld.2.2.2.2.2.1)))))))))))), ((cell_far (p := ⟨gb198, _, none⟩) NB171_198.out _).trans (((cell_far (p := ⟨gb198, _, none⟩) NB171_198.out _).trans (((cell_far (p := ⟨gb198, _, none⟩) NB171_198.out _).trans (((cell_far (p := ⟨gb198, _, none⟩) NB171_198.out _).trans (((cell_far (p := ⟨gb198, _, none⟩) NB171_198.out _).trans (((cell_far (p := ⟨gb198, _, none⟩) NB171_198.out _).trans (hHeld.2.2.2.2.2.2.1)))))))))))), ((cell_far (p := ⟨gb198, _, none⟩) NB171_198.out _).trans (((cell_far (p := ⟨gb198, _, none⟩) NB171_198.out _).trans (((cell_far (p := ⟨gb198, _, none⟩) NB171_198.out _).trans (((cell_far (p := ⟨gb198, _, none⟩) NB171_198.out _).trans (((cell_far (p := ⟨gb198, _, none⟩) NB171_198.out _).trans (((cell_far (p := ⟨gb198, _, none⟩) NB171_198.out _).trans (hHeld.2.2.2.2.2.2.2.1)))))))))))), ((cell_far (p := ⟨gb198, _, none⟩) NB171_198.out _).trans (((cell_far (p := ⟨gb198, _, none⟩) NB171_198.out _).trans (((cell_far (p := ⟨gb198, _, none⟩) NB171_198.out _).trans (((cell_far (p := ⟨gb198, _, none⟩) NB171_198.out _).trans (((cell_far (p := ⟨gb198, _, none⟩) NB171_198.out _).trans (((cell_far (p := ⟨gb198, _, none⟩) NB171_198.out _).trans (hHeld.2.2.2.2.2.2.2.2.1)))))))))))), ((cell_far (p := ⟨gb198, _, none⟩) NB171_198.out _).trans (((cell_far (p := ⟨gb198, _, none⟩) NB171_198.out _).trans (((cell_far (p := ⟨gb198, _, none⟩) NB171_198.out _).trans (((cell_far (p := ⟨gb198, _, none⟩) NB171_198.out _).trans (((cell_far (p := ⟨gb198, _, none⟩) NB171_198.out _).trans (((cell_far (p := ⟨gb198, _, none⟩) NB171_198.out _).trans (hHeld.2.2.2.2.2.2.2.2.2.1)))))))))))), ((cell_far (p := ⟨gb198, _, none⟩) NB171_198.out _).trans (((cell_far (p := ⟨gb198, _, none⟩) NB171_198.out _).trans (((cell_far (p := ⟨gb198, _, none⟩) NB171_198.out _).trans (((cell_far (p := ⟨gb198, _, none⟩) NB171_198.out _).trans (((cell_far (p := ⟨gb198, _, none⟩) NB171_198.out _).trans (((cell_far (p := ⟨gb198, _, none⟩) NB171_198.out _).trans (hHeld.2.2.2.2.2.2.2.2.2.2.1)))))))))))), ((cell_far (p := ⟨gb198, _, none⟩) NB171_198.out _).trans (((cell_far (p := ⟨gb198, _, none⟩) NB171_198.out _).trans (((cell_far (p := ⟨gb198, _, none⟩) NB171_198.out _).trans (((cell_far (p := ⟨gb198, _, none⟩) NB171_198.out _).trans (((cell_far (p := ⟨gb198, _, none⟩) NB171_198.out _).trans (((cell_far (p := ⟨gb198, _, none⟩) NB171_198.out _).trans (hHeld.2.2.2.2.2.2.2.2.2.2.2))))))))))))⟩ (fun hHeld => ?_)
   clear hK K
   refine done_ (by kernel_rfl) ?_
   have hnb58 := NB170_198.out
   have hnc58 := NB198_170.out
   have hcz59_0 : w50.cell? ⟨gb170, 0, none⟩ = some (.int .i64 a0_0) := (blk_cell BK170.out 0).trans rfl
   have hcz59_1 : w50.cell? ⟨gb170, 1, none⟩ = some (.int .i64 a0_1) := (blk_cell BK170.out 1).trans rfl
   have hcz59_2 : w50.cell? ⟨gb170, 2, none⟩ = some (.int .i64 a0_2) := (blk_cell BK170.out 2).trans rfl
   have hcz59_3 : w50.cell? ⟨gb170, 3, none⟩ = some (.int .i64 a0_3) := (blk_cell BK170.out 3).trans rfl
   have hcz59_4 : w50.cell? ⟨gb170, 4, none⟩ = some (.int .i64 a0_4) := (blk_cell BK170.out 4).trans rfl
   have hcz59_5 : w50.cell? ⟨gb170, 5, none⟩ = some (.slice A0_5 l0_5.length c0_5) := (blk_cell BK170.out 5).trans rfl
   have hfz59_0 := blk_frozen BK170.out 0
   have hfz59_1 := blk_frozen BK170.out 1
   have hfz59_2 := blk_frozen BK170.out 2
   have hfz59_3 := blk_frozen BK170.out 3
   have hfz59_4 := blk_frozen BK170.out 4
   have hfz59_5 := blk_frozen BK170.out 5
   try go_wp2_with (first | ((with_reducible refine gate_callee (f := 13) rfl ?_); refine goesL_ (some 30) rfl rfl Try.func13 (by kernel_rfl) rfl #[.agg #[.int .i64 a0_0, .int .i64 a0_1, .int .i64 a0_2, .int .i64 a0_3, .int .i64 a0_4, .slice A0_5 l0_5.length c0_5]] rfl tA ?_; (with_reducible refine (laws_toTimes.calls k a0_0 a0_1 a0_2 a0_3 a0_4 _ _ l0_5 t199 t200 t201 t202 t203 t204 _ ?side1 ?side2 A22.out).mono ?_); (case side1 => exact Kd.C_below HR0_5.out tBs); (case side2 => exact HC0_5.out); rintro e w60 ⟨v205, rfl, ho0, hb⟩; refine ⟨_, rfl, ?_⟩; have n0_ := Aside0.mk (Kd.R_elder' (tR (tM6 HO181.out BK198.out (.int .i64 t190) (.int .i64 t191) (.int .i64 t192) (.int .i64 t193) (.int .i64 t194) (.slice Ao56 t195.length co56))) (Kd.R_base ho0) hb); have n1_ := Aside0.mk (Kd.R_elder' (tR (tM6 HO189.out BK198.out (.int .i64 t190) (.int .i64 t191) (.int .i64 t192) (.int .i64 t193) (.int .i64 t194) (.slice Ao56 t195.length co56))) (Kd.R_base ho0) hb); have n2_ := Aside0.mk (Kd.R_elder' (tR (tM6 HO197.out BK198.out (.int .i64 t190) (.int .i64 t191) (.int .i64 t192) (.int .i64 t193) (.int .i64 t194) (.slice Ao56 t195.length co56))) (Kd.R_base ho0) hb); have n3_ := Aside0.mk (Kd.R_lower (Kd.R_new' (Kd.R_new' (Kd.R_new' ho0 (Kd.R_lt (tR (tM6 HO181.out BK198.out (.int .i64 t190) (.int .i64 t191) (.int .i64 t192) (.int .i64 t193) (.int .i64 t194) (.slice Ao56 t195.length co56))))) (Kd.R_lt (tR (tM6 HO189.out BK198.out (.int .i64 t190) (.int .i64 t191) (.int .i64 t192) (.int .i64 t193) (.int .i64 t194) (.slice Ao56 t195.length co56))))) (Kd.R_lt (tR (tM6 HO197.out BK198.out (.int .i64 t190) (.int .i64 t191) (.int .i64 t192) (.int .i64 t193) (.int .i64 t194) (.slice Ao56 t195.length co56))))) (below_size tBs)); have n4_ := Aside0.mk (blk_below (tF BK170.out) hb); have n5_ := Aside0.mk (blk_below (tF BK171.out) hb); have n6_ := Aside0.mk (blk_below (g := gb198) (o := .cells #[.int .i64 t190, .int .i64 t191, .int .i64 t192, .int .i64 t193, .int .i64 t194, .slice Ao56 t195.length co56] 26 (0, 0)) (by (with_reducible repeat (first | refine blk_drewN ?_ _ | refine blk_drew ?_ | refine blk_alloc ?_ _)); refine blk_put (cs := #[.int .i64 t190, .int .i64 t191, .int .i64 t192, .int .i64 t193, .int .i64 t194, .slice none 0 0]) ?_ 5 _ rfl; (with_reducible repeat (first | refine blk_drewN ?_ _ | refine blk_drew ?_ | refine blk_alloc ?_ _)); refine blk_put (cs := #[.int .i64 t190, .int .i64 t191, .int .i64 t192, .int .i64 t193, .int .i64 0, .slice none 0 0]) ?_ 4 _ rfl; (with_reducible repeat (first | refine blk_drewN ?_ _ | refine blk_drew ?_ | refine blk_alloc ?_ _)); refine blk_put (cs := #[.int .i64 t190, .int .i64 t191, .int .i64 t192, .int .i64 0, .int .i64 0, .slice none 0 0]) ?_ 3 _ rfl; (with_reducible repeat (first | refine blk_drewN ?_ _ | refine blk_drew ?_ | refine blk_alloc ?_ _)); refine blk_put (cs := #[.int .i64 t190, .int .i64 t191, .int .i64 0, .int .i64 0, .int .i64 0, .slice none 0 0]) ?_ 2 _ rfl; (with_reducible repeat (first | refine blk_drewN ?_ _ | refine blk_drew ?_ | refine blk_alloc ?_ _)); refine blk_put (cs := #[.int .i64 t190, .int .i64 0, .int .i64 0, .int .i64 0, .int .i64 0, .slice none 0 0]) ?_ 1 _ rfl; (with_reducible repeat (first | refine blk_drewN ?_ _ | refine blk_drew ?_ | refine blk_alloc ?_ _)); refine blk_put (cs := #[.int .i64 0, .int .i64 0, .int .i64 0, .int .i64 0, .int .i64 0, .slice none 0 0]) ?_ 0 _ rfl; (with_reducible repeat (first | refine blk_drewN ?_ _ | refine blk_drew ?_ | refine blk_alloc ?_ _)); exact BK198.out) hb); have n7_ := Aside0.mk (below_step tBs hb); clear HO181; clear HO189; clear HO197; clear BK170; clear BK171; clear BK198; clear HB; have HO181 := n0_; have HO189 := n1_; have HO197 := n2_; have HO206 := n3_; have BK170 := n4_; have BK171 := n5_; have BK198 := n6_; have HB := n7_; clear n0_ n1_ n2_ n3_ n4_ n5_ n6_ n7_; (try clear hb); (try clear hb2); (try clear hk); (try clear hi); (try clear ho0)) | ((with_reducible refine gate_dst (N := 7) rfl ?_); refine box_event ?hg (N := 7) ?hd (cs := #[.int .i64 0, .int .i64 0, .int .i64 0, .int .i64 0, .int .i64 0, .slice none 0 0]) (t := 26) ?hr ?_; (case hd => rfl); (case hg => rfl); (case hr => first | (go_simp; done) | (go_simp; rfl)); intro gb207 hg w61 hbox hb; have n0_ := Aside0.mk (Kd.R_below (tR HO181.out) hb); have n1_ := Aside0.mk (Kd.R_below (tR HO189.out) hb); have n2_ := Aside0.mk (Kd.R_below (tR HO197.out) hb); have n3_ := Aside0.mk (Kd.R_below (tR HO206.out) hb); have n4_ := Aside0.mk (blk_below (tK BK170.out) hb); have n5_ := Aside0.mk (blk_below (tK BK171.out) hb); have n6_ := Aside0.mk (blk_below (tK BK198.out) hb); have n7_ := Aside0.mk (below_step tBs hb); have n8_ := Aside0.mk (hbox); have n9_ := Aside0.mk ((by rw [hg]; exact (below_size tBs) : w.heap.size ≤ gb207)); have n10_ := Aside0.mk ((by rw [hg]; exact (below_size tBs) : w.heap.size ≤ gb207)); have n11_ := Aside0.mk ((by rw [hg]; exact Nat.ne_of_lt (blk_lt (tK BK170.out)) : gb170 ≠ gb207)); have n12_ := Aside0.mk ((by rw [hg]; exact Nat.ne_of_gt (blk_lt (tK BK170.out)) : gb207 ≠ gb170)); have n13_ := Aside0.mk ((by rw [hg]; exact Nat.ne_of_lt (blk_lt (tK BK171.out)) : gb171 ≠ gb207)); have n14_ := Aside0.mk ((by rw [hg]; exact Nat.ne_of_gt (blk_lt (tK BK171.out)) : gb207 ≠ gb171)); have n15_ := Aside0.mk ((by rw [hg]; exact Nat.ne_of_lt (blk_lt (tK BK198.out)) : gb198 ≠ gb207)); have n16_ := Aside0.mk ((by rw [hg]; exact Nat.ne_of_gt (blk_lt (tK BK198.out)) : gb207 ≠ gb198)); clear HO181; clear HO189; clear HO197; clear HO206; clear BK170; clear BK171; clear BK198; clear HB; have HO181 := n0_; have HO189 := n1_; have HO197 := n2_; have HO206 := n3_; have BK170 := n4_; have BK171 := n5_; have BK198 := n6_; have HB := n7_; have BK207 := n8_; have GW207 := n9_; have GE207 := n10_; have NB170_207 := n11_; have NB207_170 := n12_; have NB171_207 := n13_; have NB207_171 := n14_; have NB198_207 := n15_; have NB207_198 := n16_; clear n0_ n1_ n2_ n3_ n4_ n5_ n6_ n7_ n8_ n9_ n10_ n11_ n12_ n13_ n14_ n15_ n16_; clear hb hbox hg; have hnb62 := NB207_170.out; have hnc62 := NB170_207.out; have hnb63 := NB207_171.out; have hnc63 := NB171_207.out; have hnb64 := NB207_198.out; have hnc64 := NB198_207.out; have hcz65_0 : w61.cell? ⟨gb207, 0, none⟩ = some (.int .i64 0) := (blk_cell BK207.out 0).trans rfl; have hcz65_1 : w61.cell? ⟨gb207, 1, none⟩ = some (.int .i64 0) := (blk_cell BK207.out 1).trans rfl; have hcz65_2 : w61.cell? ⟨gb207, 2, none⟩ = some (.int .i64 0) := (blk_cell BK207.out 2).trans rfl; have hcz65_3 : w61.cell? ⟨gb207, 3, none⟩ = some (.int .i64 0) := (blk_cell BK207.out 3).trans rfl; have hcz65_4 : w61.cell? ⟨gb207, 4, none⟩ = some (.int .i64 0) := (blk_cell BK207.out 4).trans rfl; have hcz65_5 : w61.cell? ⟨gb207, 5, none⟩ = some (.slice none 0 0) := (blk_cell BK207.out 5).trans rfl; have hfz65_0 := blk_frozen BK207.out 0; have hfz65_1 := blk_frozen BK207.out 1; have hfz65_2 := blk_frozen BK207.out 2; have hfz65_3 := blk_frozen BK207.out 3; have hfz65_4 := blk_frozen BK207.out 4; have hfz65_5 := blk_frozen BK207.out 5; obtain ⟨Ao66, co66, eo66⟩ := Kd.R_slice HO206.out; subst eo66; have hnb67 := NB171_198.out; have hnc67 := NB198_171.out; have hcz68_0 : w61.cell? ⟨gb171, 0, none⟩ = some (.int .i64 a1_0) := (blk_cell BK171.out 0).trans rfl; have hcz68_1 : w61.cell? ⟨gb171, 1, none⟩ = some (.int .i64 a1_1) := (blk_cell BK171.out 1).trans rfl; have hcz68_2 : w61.cell? ⟨gb171, 2, none⟩ = some (.int .i64 a1_2) := (blk_cell BK171.out 2).trans rfl; have hcz68_3 : w61.cell? ⟨gb171, 3, none⟩ = some (.int .i64 a1_3) := (blk_cell BK171.out 3).trans rfl; have hcz68_4 : w61.cell? ⟨gb171, 4, none⟩ = some (.int .i64 a1_4) := (blk_cell BK171.out 4).trans rfl; have hcz68_5 : w61.cell? ⟨gb171, 5, none⟩ = some (.slice A1_5 l1_5.length c1_5) := (blk_cell BK171.out 5).trans rfl; have hfz68_0 := blk_frozen BK171.out 0; have hfz68_1 := blk_frozen BK171.out 1; have hfz68_2 := blk_frozen BK171.out 2; have hfz68_3 := blk_frozen BK171.out 3; have hfz68_4 := blk_frozen BK171.out 4; have hfz68_5 := blk_frozen BK171.out 5) | ((with_reducible refine gate_callee (f := 13) rfl ?_); refine goesL_ (some 32) rfl rfl Try.func13 (by kernel_rfl) rfl #[.agg #[.int .i64 a1_0, .int .i64 a1_1, .int .i64 a1_2, .int .i64 a1_3, .int .i64 a1_4, .slice A1_5 l1_5.length c1_5]] rfl tA ?_; (with_reducible refine (laws_toTimes.calls k a1_0 a1_1 a1_2 a1_3 a1_4 _ _ l1_5 t208 t209 t210 t211 t212 t213 _ ?side1 ?side2 A23.out).mono ?_); (case side1 => exact Kd.C_below HR1_5.out tBs); (case side2 => exact HC1_5.out); rintro e w69 ⟨v214, rfl, ho0, hb⟩; refine ⟨_, rfl, ?_⟩; have n0_ := Aside0.mk (Kd.R_elder' (tR (tM6 HO181.out BK207.out (.int .i64 t199) (.int .i64 t200) (.int .i64 t201) (.int .i64 t202) (.int .i64 t203) (.slice Ao66 t204.length co66))) (Kd.R_base ho0) hb); have n1_ := Aside0.mk (Kd.R_elder' (tR (tM6 HO189.out BK207.out (.int .i64 t199) (.int .i64 t200) (.int .i64 t201) (.int .i64 t202) (.int .i64 t203) (.slice Ao66 t204.length co66))) (Kd.R_base ho0) hb); have n2_ := Aside0.mk (Kd.R_elder' (tR (tM6 HO197.out BK207.out (.int .i64 t199) (.int .i64 t200) (.int .i64 t201) (.int .i64 t202) (.int .i64 t203) (.slice Ao66 t204.length co66))) (Kd.R_base ho0) hb); have n3_ := Aside0.mk (Kd.R_elder' (tR (tM6 HO206.out BK207.out (.int .i64 t199) (.int .i64 t200) (.int .i64 t201) (.int .i64 t202) (.int .i64 t203) (.slice Ao66 t204.length co66))) (Kd.R_base ho0) hb); have n4_ := Aside0.mk (Kd.R_lower (Kd.R_new' (Kd.R_new' (Kd.R_new' (Kd.R_new' ho0 (Kd.R_lt (tR (tM6 HO181.out BK207.out (.int .i64 t199) (.int .i64 t200) (.int .i64 t201) (.int .i64 t202) (.int .i64 t203) (.slice Ao66 t204.length co66))))) (Kd.R_lt (tR (tM6 HO189.out BK207.out (.int .i64 t199) (.int .i64 t200) (.int .i64 t201) (.int .i64 t202) (.int .i64 t203) (.slice Ao66 t204.length co66))))) (Kd.R_lt (tR (tM6 HO197.out BK207.out (.int .i64 t199) (.int .i64 t200) (.int .i64 t201) (.int .i64 t202) (.int .i64 t203) (.slice Ao66 t204.length co66))))) (Kd.R_lt (tR (tM6 HO206.out BK207.out (.int .i64 t199) (.int .i64 t200) (.int .i64 t201) (.int .i64 t202) (.int .i64 t203) (.slice Ao66 t204.length co66))))) (below_size tBs)); have n5_ := Aside0.mk (blk_below (tF BK170.out) hb); have n6_ := Aside0.mk (blk_below (tF BK171.out) hb); have n7_ := Aside0.mk (blk_below (tF BK198.out) hb); have n8_ := Aside0.mk (blk_below (g := gb207) (o := .cells #[.int .i64 t199, .int .i64 t200, .int .i64 t201, .int .i64 t202, .int .i64 t203, .slice Ao66 t204.length co66] 26 (0, 0)) (by (with_reducible repeat (first | refine blk_drewN ?_ _ | refine blk_drew ?_ | refine blk_alloc ?_ _)); refine blk_put (cs := #[.int .i64 t199, .int .i64 t200, .int .i64 t201, .int .i64 t202, .int .i64 t203, .slice none 0 0]) ?_ 5 _ rfl; (with_reducible repeat (first | refine blk_drewN ?_ _ | refine blk_drew ?_ | refine blk_alloc ?_ _)); refine blk_put (cs := #[.int .i64 t199, .int .i64 t200, .int .i64 t201, .int .i64 t202, .int .i64 0, .slice none 0 0]) ?_ 4 _ rfl; (with_reducible repeat (first | refine blk_drewN ?_ _ | refine blk_drew ?_ | refine blk_alloc ?_ _)); refine blk_put (cs := #[.int .i64 t199, .int .i64 t200, .int .i64 t201, .int .i64 0, .int .i64 0, .slice none 0 0]) ?_ 3 _ rfl; (with_reducible repeat (first | refine blk_drewN ?_ _ | refine blk_drew ?_ | refine blk_alloc ?_ _)); refine blk_put (cs := #[.int .i64 t199, .int .i64 t200, .int .i64 0, .int .i64 0, .int .i64 0, .slice none 0 0]) ?_ 2 _ rfl; (with_reducible repeat (first | refine blk_drewN ?_ _ | refine blk_drew ?_ | refine blk_alloc ?_ _)); refine blk_put (cs := #[.int .i64 t199, .int .i64 0, .int .i64 0, .int .i64 0, .int .i64 0, .slice none 0 0]) ?_ 1 _ rfl; (with_reducible repeat (first | refine blk_drewN ?_ _ | refine blk_drew ?_ | refine blk_alloc ?_ _)); refine blk_put (cs := #[.int .i64 0, .int .i64 0, .int .i64 0, .int .i64 0, .int .i64 0, .slice none 0 0]) ?_ 0 _ rfl; (with_reducible repeat (first | refine blk_drewN ?_ _ | refine blk_drew ?_ | refine blk_alloc ?_ _)); exact BK207.out) hb); have n9_ := Aside0.mk (below_step tBs hb); clear HO181; clear HO189; clear HO197; clear HO206; clear BK170; clear BK171; clear BK198; clear BK207; clear HB; have HO181 := n0_; have HO189 := n1_; have HO197 := n2_; have HO206 := n3_; have HO215 := n4_; have BK170 := n5_; have BK171 := n6_; have BK198 := n7_; have BK207 := n8_; have HB := n9_; clear n0_ n1_ n2_ n3_ n4_ n5_ n6_ n7_ n8_ n9_; (try clear hb); (try clear hb2); (try clear hk); (try clear hi); (try clear ho0)) | ((with_reducible refine gate_dst (N := 8) rfl ?_); refine box_event ?hg (N := 8) ?hd (cs := #[.int .i64 0, .int .i64 0, .int .i64 0, .int .i64 0, .int .i64 0, .slice none 0 0]) (t := 26) ?hr ?_; (case hd => rfl); (case hg => rfl); (case hr => first | (go_simp; done) | (go_simp; rfl)); intro gb216 hg w70 hbox hb; have n0_ := Aside0.mk (Kd.R_below (tR HO181.out) hb); have n1_ := Aside0.mk (Kd.R_below (tR HO189.out) hb); have n2_ := Aside0.mk (Kd.R_below (tR HO197.out) hb); have n3_ := Aside0.mk (Kd.R_below (tR HO206.out) hb); have n4_ := Aside0.mk (Kd.R_below (tR HO215.out) hb); have n5_ := Aside0.mk (blk_below (tK BK170.out) hb); have n6_ := Aside0.mk (blk_below (tK BK171.out) hb); have n7_ := Aside0.mk (blk_below (tK BK198.out) hb); have n8_ := Aside0.mk (blk_below (tK BK207.out) hb); have n9_ := Aside0.mk (below_step tBs hb); have n10_ := Aside0.mk (hbox); have n11_ := Aside0.mk ((by rw [hg]; exact (below_size tBs) : w.heap.size ≤ gb216)); have n12_ := Aside0.mk ((by rw [hg]; exact (below_size tBs) : w.heap.size ≤ gb216)); have n13_ := Aside0.mk ((by rw [hg]; exact Nat.ne_of_lt (blk_lt (tK BK170.out)) : gb170 ≠ gb216)); have n14_ := Aside0.mk ((by rw [hg]; exact Nat.ne_of_gt (blk_lt (tK BK170.out)) : gb216 ≠ gb170)); have n15_ := Aside0.mk ((by rw [hg]; exact Nat.ne_of_lt (blk_lt (tK BK171.out)) : gb171 ≠ gb216)); have n16_ := Aside0.mk ((by rw [hg]; exact Nat.ne_of_gt (blk_lt (tK BK171.out)) : gb216 ≠ gb171)); have n17_ := Aside0.mk ((by rw [hg]; exact Nat.ne_of_lt (blk_lt (tK BK198.out)) : gb198 ≠ gb216)); have n18_ := Aside0.mk ((by rw [hg]; exact Nat.ne_of_gt (blk_lt (tK BK198.out)) : gb216 ≠ gb198)); have n19_ := Aside0.mk ((by rw [hg]; exact Nat.ne_of_lt (blk_lt (tK BK207.out)) : gb207 ≠ gb216)); have n20_ := Aside0.mk ((by rw [hg]; exact Nat.ne_of_gt (blk_lt (tK BK207.out)) : gb216 ≠ gb207)); clear HO181; clear HO189; clear HO197; clear HO206; clear HO215; clear BK170; clear BK171; clear BK198; clear BK207; clear HB; have HO181 := n0_; have HO189 := n1_; have HO197 := n2_; have HO206 := n3_; have HO215 := n4_; have BK170 := n5_; have BK171 := n6_; have BK198 := n7_; have BK207 := n8_; have HB := n9_; have BK216 := n10_; have GW216 := n11_; have GE216 := n12_; have NB170_216 := n13_; have NB216_170 := n14_; have NB171_216 := n15_; have NB216_171 := n16_; have NB198_216 := n17_; have NB216_198 := n18_; have NB207_216 := n19_; have NB216_207 := n20_; clear n0_ n1_ n2_ n3_ n4_ n5_ n6_ n7_ n8_ n9_ n10_ n11_ n12_ n13_ n14_ n15_ n16_ n17_ n18_ n19_ n20_; clear hb hbox hg; have hnb71 := NB216_170.out; have hnc71 := NB170_216.out; have hnb72 := NB216_171.out; have hnc72 := NB171_216.out; have hnb73 := NB216_198.out; have hnc73 := NB198_216.out; have hnb74 := NB216_207.out; have hnc74 := NB207_216.out; have hcz75_0 : w70.cell? ⟨gb216, 0, none⟩ = some (.int .i64 0) := (blk_cell BK216.out 0).trans rfl; have hcz75_1 : w70.cell? ⟨gb216, 1, none⟩ = some (.int .i64 0) := (blk_cell BK216.out 1).trans rfl; have hcz75_2 : w70.cell? ⟨gb216, 2, none⟩ = some (.int .i64 0) := (blk_cell BK216.out 2).trans rfl; have hcz75_3 : w70.cell? ⟨gb216, 3, none⟩ = some (.int .i64 0) := (blk_cell BK216.out 3).trans rfl; have hcz75_4 : w70.cell? ⟨gb216, 4, none⟩ = some (.int .i64 0) := (blk_cell BK216.out 4).trans rfl; have hcz75_5 : w70.cell? ⟨gb216, 5, none⟩ = some (.slice none 0 0) := (blk_cell BK216.out 5).trans rfl; have hfz75_0 := blk_frozen BK216.out 0; have hfz75_1 := blk_frozen BK216.out 1; have hfz75_2 := blk_frozen BK216.out 2; have hfz75_3 := blk_frozen BK216.out 3; have hfz75_4 := blk_frozen BK216.out 4; have hfz75_5 := blk_frozen BK216.out 5; obtain ⟨Ao76, co76, eo76⟩ := Kd.R_slice HO215.out; subst eo76; have hcz77_0 : w70.cell? ⟨gb207, 0, none⟩ = some (.int .i64 t199) := (blk_cell BK207.out 0).trans rfl; have hcz77_1 : w70.cell? ⟨gb207, 1, none⟩ = some (.int .i64 t200) := (blk_cell BK207.out 1).trans rfl; have hcz77_2 : w70.cell? ⟨gb207, 2, none⟩ = some (.int .i64 t201) := (blk_cell BK207.out 2).trans rfl; have hcz77_3 : w70.cell? ⟨gb207, 3, none⟩ = some (.int .i64 t202) := (blk_cell BK207.out 3).trans rfl; have hcz77_4 : w70.cell? ⟨gb207, 4, none⟩ = some (.int .i64 t203) := (blk_cell BK207.out 4).trans rfl; have hcz77_5 : w70.cell? ⟨gb207, 5, none⟩ = some (.slice Ao66 t204.length co66) := (blk_cell BK207.out 5).trans rfl; have hfz77_0 := blk_frozen BK207.out 0; have hfz77_1 := blk_frozen BK207.out 1; have hfz77_2 := blk_frozen BK207.out 2; have hfz77_3 := blk_frozen BK207.out 3; have hfz77_4 := blk_frozen BK207.out 4; have hfz77_5 := blk_frozen BK207.out 5) | ((with_reducible refine gate_callee (f := 14) rfl ?_); refine goesL_ (some 35) rfl rfl Try.func14 (by kernel_rfl) rfl #[.agg #[.int .i64 t199, .int .i64 t200, .int .i64 t201, .int .i64 t202, .int .i64 t203, .slice Ao66 t204.length co66], .agg #[.int .i64 t208, .int .i64 t209, .int .i64 t210, .int .i64 t211, .int .i64 t212, .slice Ao76 t213.length co76]] rfl tA ?_; (with_reducible refine (impl_TimesJoin.calls k t199 t200 t201 t202 t203 _ _ t204 t208 t209 t210 t211 t212 _ _ t213 t217 t218 t219 t220 t221 t222 _ ?side1 ?side2 ?side3 ?side4 A24.out).mono ?_); (case side1 => refine (Kd.R_reads' (e := 2) (base := w.heap.size) (ok := fun k_ => ((((True ∧ some k_ ≠ (v180 : Value).ownBlock) ∧ some k_ ≠ (v188 : Value).ownBlock) ∧ some k_ ≠ (.slice Ao56 t195.length co56 : Value).ownBlock) ∧ some k_ ≠ (.slice Ao76 t213.length co76 : Value).ownBlock)) (n := t204.length) (c := co66) ?_).2.2; exact (tR (tM6 HO206.out BK216.out (.int .i64 t208) (.int .i64 t209) (.int .i64 t210) (.int .i64 t211) (.int .i64 t212) (.slice Ao76 t213.length co76)))); (case side2 => exact (Kd.R_reads' HO206.out).2.1); (case side3 => refine (Kd.R_reads' (e := 2) (base := w.heap.size) (ok := fun k_ => ((((True ∧ some k_ ≠ (v180 : Value).ownBlock) ∧ some k_ ≠ (v188 : Value).ownBlock) ∧ some k_ ≠ (.slice Ao56 t195.length co56 : Value).ownBlock) ∧ some k_ ≠ (.slice Ao66 t204.length co66 : Value).ownBlock)) (n := t213.length) (c := co76) ?_).2.2; exact (tR (tM6 HO215.out BK216.out (.int .i64 t208) (.int .i64 t209) (.int .i64 t210) (.int .i64 t211) (.int .i64 t212) (.slice Ao76 t213.length co76)))); (case side4 => exact (Kd.R_reads' HO215.out).2.1); rintro e w78 ⟨v223, rfl, ho0, hb⟩; refine ⟨_, rfl, ?_⟩; have n0_ := Aside0.mk (Kd.R_elder' (tR (tM6 HO181.out BK216.out (.int .i64 t208) (.int .i64 t209) (.int .i64 t210) (.int .i64 t211) (.int .i64 t212) (.slice Ao76 t213.length co76))) (Kd.R_base ho0) hb); have n1_ := Aside0.mk (Kd.R_elder' (tR (tM6 HO189.out BK216.out (.int .i64 t208) (.int .i64 t209) (.int .i64 t210) (.int .i64 t211) (.int .i64 t212) (.slice Ao76 t213.length co76))) (Kd.R_base ho0) hb); have n2_ := Aside0.mk (Kd.R_elder' (tR (tM6 HO197.out BK216.out (.int .i64 t208) (.int .i64 t209) (.int .i64 t210) (.int .i64 t211) (.int .i64 t212) (.slice Ao76 t213.length co76))) (Kd.R_base ho0) hb); have n3_ := Aside0.mk (Kd.R_elder' (tR (tM6 HO206.out BK216.out (.int .i64 t208) (.int .i64 t209) (.int .i64 t210) (.int .i64 t211) (.int .i64 t212) (.slice Ao76 t213.length co76))) (Kd.R_base ho0) hb); have n4_ := Aside0.mk (Kd.R_elder' (tR (tM6 HO215.out BK216.out (.int .i64 t208) (.int .i64 t209) (.int .i64 t210) (.int .i64 t211) (.int .i64 t212) (.slice Ao76 t213.length co76))) (Kd.R_base ho0) hb); have n5_ := Aside0.mk (Kd.R_lower (Kd.R_new' (Kd.R_new' (Kd.R_new' (Kd.R_new' (Kd.R_new' ho0 (Kd.R_lt (tR (tM6 HO181.out BK216.out (.int .i64 t208) (.int .i64 t209) (.int .i64 t210) (.int .i64 t211) (.int .i64 t212) (.slice Ao76 t213.length co76))))) (Kd.R_lt (tR (tM6 HO189.out BK216.out (.int .i64 t208) (.int .i64 t209) (.int .i64 t210) (.int .i64 t211) (.int .i64 t212) (.slice Ao76 t213.length co76))))) (Kd.R_lt (tR (tM6 HO197.out BK216.out (.int .i64 t208) (.int .i64 t209) (.int .i64 t210) (.int .i64 t211) (.int .i64 t212) (.slice Ao76 t213.length co76))))) (Kd.R_lt (tR (tM6 HO206.out BK216.out (.int .i64 t208) (.int .i64 t209) (.int .i64 t210) (.int .i64 t211) (.int .i64 t212) (.slice Ao76 t213.length co76))))) (Kd.R_lt (tR (tM6 HO215.out BK216.out (.int .i64 t208) (.int .i64 t209) (.int .i64 t210) (.int .i64 t211) (.int .i64 t212) (.slice Ao76 t213.length co76))))) (below_size tBs)); have n6_ := Aside0.mk (blk_below (tF BK170.out) hb); have n7_ := Aside0.mk (blk_below (tF BK171.out) hb); have n8_ := Aside0.mk (blk_below (tF BK198.out) hb); have n9_ := Aside0.mk (blk_below (tF BK207.out) hb); have n10_ := Aside0.mk (blk_below (g := gb216) (o := .cells #[.int .i64 t208, .int .i64 t209, .int .i64 t210, .int .i64 t211, .int .i64 t212, .slice Ao76 t213.length co76] 26 (0, 0)) (by (with_reducible repeat (first | refine blk_drewN ?_ _ | refine blk_drew ?_ | refine blk_alloc ?_ _)); refine blk_put (cs := #[.int .i64 t208, .int .i64 t209, .int .i64 t210, .int .i64 t211, .int .i64 t212, .slice none 0 0]) ?_ 5 _ rfl; (with_reducible repeat (first | refine blk_drewN ?_ _ | refine blk_drew ?_ | refine blk_alloc ?_ _)); refine blk_put (cs := #[.int .i64 t208, .int .i64 t209, .int .i64 t210, .int .i64 t211, .int .i64 0, .slice none 0 0]) ?_ 4 _ rfl; (with_reducible repeat (first | refine blk_drewN ?_ _ | refine blk_drew ?_ | refine blk_alloc ?_ _)); refine blk_put (cs := #[.int .i64 t208, .int .i64 t209, .int .i64 t210, .int .i64 0, .int .i64 0, .slice none 0 0]) ?_ 3 _ rfl; (with_reducible repeat (first | refine blk_drewN ?_ _ | refine blk_drew ?_ | refine blk_alloc ?_ _)); refine blk_put (cs := #[.int .i64 t208, .int .i64 t209, .int .i64 0, .int .i64 0, .int .i64 0, .slice none 0 0]) ?_ 2 _ rfl; (with_reducible repeat (first | refine blk_drewN ?_ _ | refine blk_drew ?_ | refine blk_alloc ?_ _)); refine blk_put (cs := #[.int .i64 t208, .int .i64 0, .int .i64 0, .int .i64 0, .int .i64 0, .slice none 0 0]) ?_ 1 _ rfl; (with_reducible repeat (first | refine blk_drewN ?_ _ | refine blk_drew ?_ | refine blk_alloc ?_ _)); refine blk_put (cs := #[.int .i64 0, .int .i64 0, .int .i64 0, .int .i64 0, .int .i64 0, .slice none 0 0]) ?_ 0 _ rfl; (with_reducible repeat (first | refine blk_drewN ?_ _ | refine blk_drew ?_ | refine blk_alloc ?_ _)); exact BK216.out) hb); have n11_ := Aside0.mk (below_step tBs hb); clear HO181; clear HO189; clear HO197; clear HO206; clear HO215; clear BK170; clear BK171; clear BK198; clear BK207; clear BK216; clear HB; have HO181 := n0_; have HO189 := n1_; have HO197 := n2_; have HO206 := n3_; have HO215 := n4_; have HO224 := n5_; have BK170 := n6_; have BK171 := n7_; have BK198 := n8_; have BK207 := n9_; have BK216 := n10_; have HB := n11_; clear n0_ n1_ n2_ n3_ n4_ n5_ n6_ n7_ n8_ n9_ n10_ n11_; (try clear hb); (try clear hb2); (try clear hk); (try clear hi); (try clear ho0)) | ((with_reducible refine gate_dst (N := 9) rfl ?_); refine box_event ?hg (N := 9) ?hd (cs := #[.int .i64 0, .int .i64 0, .int .i64 0, .int .i64 0, .int .i64 0, .slice none 0 0]) (t := 26) ?hr ?_; (case hd => rfl); (case hg => rfl); (case hr => first | (go_simp; done) | (go_simp; rfl)); intro gb225 hg w79 hbox hb; have n0_ := Aside0.mk (Kd.R_below (tR HO181.out) hb); have n1_ := Aside0.mk (Kd.R_below (tR HO189.out) hb); have n2_ := Aside0.mk (Kd.R_below (tR HO197.out) hb); have n3_ := Aside0.mk (Kd.R_below (tR HO206.out) hb); have n4_ := Aside0.mk (Kd.R_below (tR HO215.out) hb); have n5_ := Aside0.mk (Kd.R_below (tR HO224.out) hb); have n6_ := Aside0.mk (blk_below (tK BK170.out) hb); have n7_ := Aside0.mk (blk_below (tK BK171.out) hb); have n8_ := Aside0.mk (blk_below (tK BK198.out) hb); have n9_ := Aside0.mk (blk_below (tK BK207.out) hb); have n10_ := Aside0.mk (blk_below (tK BK216.out) hb); have n11_ := Aside0.mk (below_step tBs hb); have n12_ := Aside0.mk (hbox); have n13_ := Aside0.mk ((by rw [hg]; exact (below_size tBs) : w.heap.size ≤ gb225)); have n14_ := Aside0.mk ((by rw [hg]; exact (below_size tBs) : w.heap.size ≤ gb225)); have n15_ := Aside0.mk ((by rw [hg]; exact Nat.ne_of_lt (blk_lt (tK BK170.out)) : gb170 ≠ gb225)); have n16_ := Aside0.mk ((by rw [hg]; exact Nat.ne_of_gt (blk_lt (tK BK170.out)) : gb225 ≠ gb170)); have n17_ := Aside0.mk ((by rw [hg]; exact Nat.ne_of_lt (blk_lt (tK BK171.out)) : gb171 ≠ gb225)); have n18_ := Aside0.mk ((by rw [hg]; exact Nat.ne_of_gt (blk_lt (tK BK171.out)) : gb225 ≠ gb171)); have n19_ := Aside0.mk ((by rw [hg]; exact Nat.ne_of_lt (blk_lt (tK BK198.out)) : gb198 ≠ gb225)); have n20_ := Aside0.mk ((by rw [hg]; exact Nat.ne_of_gt (blk_lt (tK BK198.out)) : gb225 ≠ gb198)); have n21_ := Aside0.mk ((by rw [hg]; exact Nat.ne_of_lt (blk_lt (tK BK207.out)) : gb207 ≠ gb225)); have n22_ := Aside0.mk ((by rw [hg]; exact Nat.ne_of_gt (blk_lt (tK BK207.out)) : gb225 ≠ gb207)); have n23_ := Aside0.mk ((by rw [hg]; exact Nat.ne_of_lt (blk_lt (tK BK216.out)) : gb216 ≠ gb225)); have n24_ := Aside0.mk ((by rw [hg]; exact Nat.ne_of_gt (blk_lt (tK BK216.out)) : gb225 ≠ gb216)); clear HO181; clear HO189; clear HO197; clear HO206; clear HO215; clear HO224; clear BK170; clear BK171; clear BK198; clear BK207; clear BK216; clear HB; have HO181 := n0_; have HO189 := n1_; have HO197 := n2_; have HO206 := n3_; have HO215 := n4_; have HO224 := n5_; have BK170 := n6_; have BK171 := n7_; have BK198 := n8_; have BK207 := n9_; have BK216 := n10_; have HB := n11_; have BK225 := n12_; have GW225 := n13_; have GE225 := n14_; have NB170_225 := n15_; have NB225_170 := n16_; have NB171_225 := n17_; have NB225_171 := n18_; have NB198_225 := n19_; have NB225_198 := n20_; have NB207_225 := n21_; have NB225_207 := n22_; have NB216_225 := n23_; have NB225_216 := n24_; clear n0_ n1_ n2_ n3_ n4_ n5_ n6_ n7_ n8_ n9_ n10_ n11_ n12_ n13_ n14_ n15_ n16_ n17_ n18_ n19_ n20_ n21_ n22_ n23_ n24_; clear hb hbox hg; have hnb80 := NB225_170.out; have hnc80 := NB170_225.out; have hnb81 := NB225_171.out; have hnc81 := NB171_225.out; have hnb82 := NB225_198.out; have hnc82 := NB198_225.out; have hnb83 := NB225_207.out; have hnc83 := NB207_225.out; have hnb84 := NB225_216.out; have hnc84 := NB216_225.out; have hcz85_0 : w79.cell? ⟨gb225, 0, none⟩ = some (.int .i64 0) := (blk_cell BK225.out 0).trans rfl; have hcz85_1 : w79.cell? ⟨gb225, 1, none⟩ = some (.int .i64 0) := (blk_cell BK225.out 1).trans rfl; have hcz85_2 : w79.cell? ⟨gb225, 2, none⟩ = some (.int .i64 0) := (blk_cell BK225.out 2).trans rfl; have hcz85_3 : w79.cell? ⟨gb225, 3, none⟩ = some (.int .i64 0) := (blk_cell BK225.out 3).trans rfl; have hcz85_4 : w79.cell? ⟨gb225, 4, none⟩ = some (.int .i64 0) := (blk_cell BK225.out 4).trans rfl; have hcz85_5 : w79.cell? ⟨gb225, 5, none⟩ = some (.slice none 0 0) := (blk_cell BK225.out 5).trans rfl; have hfz85_0 := blk_frozen BK225.out 0; have hfz85_1 := blk_frozen BK225.out 1; have hfz85_2 := blk_frozen BK225.out 2; have hfz85_3 := blk_frozen BK225.out 3; have hfz85_4 := blk_frozen BK225.out 4; have hfz85_5 := blk_frozen BK225.out 5; obtain ⟨Ao86, co86, eo86⟩ := Kd.R_slice HO224.out; subst eo86; have hcz87_0 : w79.cell? ⟨gb198, 0, none⟩ = some (.int .i64 t190) := (blk_cell BK198.out 0).trans rfl; have hcz87_1 : w79.cell? ⟨gb198, 1, none⟩ = some (.int .i64 t191) := (blk_cell BK198.out 1).trans rfl; have hcz87_2 : w79.cell? ⟨gb198, 2, none⟩ = some (.int .i64 t192) := (blk_cell BK198.out 2).trans rfl; have hcz87_3 : w79.cell? ⟨gb198, 3, none⟩ = some (.int .i64 t193) := (blk_cell BK198.out 3).trans rfl; have hcz87_4 : w79.cell? ⟨gb198, 4, none⟩ = some (.int .i64 t194) := (blk_cell BK198.out 4).trans rfl; have hcz87_5 : w79.cell? ⟨gb198, 5, none⟩ = some (.slice Ao56 t195.length co56) := (blk_cell BK198.out 5).trans rfl; have hfz87_0 := blk_frozen BK198.out 0; have hfz87_1 := blk_frozen BK198.out 1; have hfz87_2 := blk_frozen BK198.out 2; have hfz87_3 := blk_frozen BK198.out 3; have hfz87_4 := blk_frozen BK198.out 4; have hfz87_5 := blk_frozen BK198.out 5) | ((with_reducible refine gate_callee (f := 15) rfl ?_); refine goesL_ (some 38) rfl rfl Try.func15 (by kernel_rfl) rfl #[.agg #[.int .i64 t217, .int .i64 t218, .int .i64 t219, .int .i64 t220, .int .i64 t221, .slice Ao86 t222.length co86], .agg #[.int .i64 t190, .int .i64 t191, .int .i64 t192, .int .i64 t193, .int .i64 t194, .slice Ao56 t195.length co56]] rfl tA ?_; (with_reducible refine (laws_eqTimes.calls k t217 t218 t219 t220 t221 _ _ t222 t190 t191 t192 t193 t194 _ _ t195 true _ ?side1 ?side2 ?side3 ?side4 A25.out).mono ?_); (case side1 => refine (Kd.R_reads' (e := 2) (base := w.heap.size) (ok := fun k_ => (((((True ∧ some k_ ≠ (v180 : Value).ownBlock) ∧ some k_ ≠ (v188 : Value).ownBlock) ∧ some k_ ≠ (.slice Ao56 t195.length co56 : Value).ownBlock) ∧ some k_ ≠ (.slice Ao66 t204.length co66 : Value).ownBlock) ∧ some k_ ≠ (.slice Ao76 t213.length co76 : Value).ownBlock)) (n := t222.length) (c := co86) ?_).2.2; exact (tR (tM6 HO224.out BK225.out (.int .i64 t217) (.int .i64 t218) (.int .i64 t219) (.int .i64 t220) (.int .i64 t221) (.slice Ao86 t222.length co86)))); (case side2 => exact (Kd.R_reads' HO224.out).2.1); (case side3 => refine (Kd.R_reads' (e := 2) (base := w.heap.size) (ok := fun k_ => ((((some k_ ≠ (v180 : Value).ownBlock ∧ some k_ ≠ (v188 : Value).ownBlock) ∧ some k_ ≠ (.slice Ao66 t204.length co66 : Value).ownBlock) ∧ some k_ ≠ (.slice Ao76 t213.length co76 : Value).ownBlock) ∧ some k_ ≠ (.slice Ao86 t222.length co86 : Value).ownBlock)) (n := t195.length) (c := co56) ?_).2.2; exact (tR (tM6 HO197.out BK225.out (.int .i64 t217) (.int .i64 t218) (.int .i64 t219) (.int .i64 t220) (.int .i64 t221) (.slice Ao86 t222.length co86)))); (case side4 => exact (Kd.R_reads' HO197.out).2.1); rintro e w88 ⟨rfl, hb⟩; refine ⟨_, rfl, ?_⟩; have n0_ := Aside0.mk (Kd.R_below (tR (tM6 HO181.out BK225.out (.int .i64 t217) (.int .i64 t218) (.int .i64 t219) (.int .i64 t220) (.int .i64 t221) (.slice Ao86 t222.length co86))) hb); have n1_ := Aside0.mk (Kd.R_below (tR (tM6 HO189.out BK225.out (.int .i64 t217) (.int .i64 t218) (.int .i64 t219) (.int .i64 t220) (.int .i64 t221) (.slice Ao86 t222.length co86))) hb); have n2_ := Aside0.mk (Kd.R_below (tR (tM6 HO197.out BK225.out (.int .i64 t217) (.int .i64 t218) (.int .i64 t219) (.int .i64 t220) (.int .i64 t221) (.slice Ao86 t222.length co86))) hb); have n3_ := Aside0.mk (Kd.R_below (tR (tM6 HO206.out BK225.out (.int .i64 t217) (.int .i64 t218) (.int .i64 t219) (.int .i64 t220) (.int .i64 t221) (.slice Ao86 t222.length co86))) hb); have n4_ := Aside0.mk (Kd.R_below (tR (tM6 HO215.out BK225.out (.int .i64 t217) (.int .i64 t218) (.int .i64 t219) (.int .i64 t220) (.int .i64 t221) (.slice Ao86 t222.length co86))) hb); have n5_ := Aside0.mk (Kd.R_below (tR (tM6 HO224.out BK225.out (.int .i64 t217) (.int .i64 t218) (.int .i64 t219) (.int .i64 t220) (.int .i64 t221) (.slice Ao86 t222.length co86))) hb); have n6_ := Aside0.mk (blk_below (tF BK170.out) hb); have n7_ := Aside0.mk (blk_below (tF BK171.out) hb); have n8_ := Aside0.mk (blk_below (tF BK198.out) hb); have n9_ := Aside0.mk (blk_below (tF BK207.out) hb); have n10_ := Aside0.mk (blk_below (tF BK216.out) hb); have n11_ := Aside0.mk (blk_below (g := gb225) (o := .cells #[.int .i64 t217, .int .i64 t218, .int .i64 t219, .int .i64 t220, .int .i64 t221, .slice Ao86 t222.length co86] 26 (0, 0)) (by (with_reducible repeat (first | refine blk_drewN ?_ _ | refine blk_drew ?_ | refine blk_alloc ?_ _)); refine blk_put (cs := #[.int .i64 t217, .int .i64 t218, .int .i64 t219, .int .i64 t220, .int .i64 t221, .slice none 0 0]) ?_ 5 _ rfl; (with_reducible repeat (first | refine blk_drewN ?_ _ | refine blk_drew ?_ | refine blk_alloc ?_ _)); refine blk_put (cs := #[.int .i64 t217, .int .i64 t218, .int .i64 t219, .int .i64 t220, .int .i64 0, .slice none 0 0]) ?_ 4 _ rfl; (with_reducible repeat (first | refine blk_drewN ?_ _ | refine blk_drew ?_ | refine blk_alloc ?_ _)); refine blk_put (cs := #[.int .i64 t217, .int .i64 t218, .int .i64 t219, .int .i64 0, .int .i64 0, .slice none 0 0]) ?_ 3 _ rfl; (with_reducible repeat (first | refine blk_drewN ?_ _ | refine blk_drew ?_ | refine blk_alloc ?_ _)); refine blk_put (cs := #[.int .i64 t217, .int .i64 t218, .int .i64 0, .int .i64 0, .int .i64 0, .slice none 0 0]) ?_ 2 _ rfl; (with_reducible repeat (first | refine blk_drewN ?_ _ | refine blk_drew ?_ | refine blk_alloc ?_ _)); refine blk_put (cs := #[.int .i64 t217, .int .i64 0, .int .i64 0, .int .i64 0, .int .i64 0, .slice none 0 0]) ?_ 1 _ rfl; (with_reducible repeat (first | refine blk_drewN ?_ _ | refine blk_drew ?_ | refine blk_alloc ?_ _)); refine blk_put (cs := #[.int .i64 0, .int .i64 0, .int .i64 0, .int .i64 0, .int .i64 0, .slice none 0 0]) ?_ 0 _ rfl; (with_reducible repeat (first | refine blk_drewN ?_ _ | refine blk_drew ?_ | refine blk_alloc ?_ _)); exact BK225.out) hb); have n12_ := Aside0.mk (below_step tBs hb); clear HO181; clear HO189; clear HO197; clear HO206; clear HO215; clear HO224; clear BK170; clear BK171; clear BK198; clear BK207; clear BK216; clear BK225; clear HB; have HO181 := n0_; have HO189 := n1_; have HO197 := n2_; have HO206 := n3_; have HO215 := n4_; have HO224 := n5_; have BK170 := n6_; have BK171 := n7_; have BK198 := n8_; have BK207 := n9_; have BK216 := n10_; have BK225 := n11_; have HB := n12_; clear n0_ n1_ n2_ n3_ n4_ n5_ n6_ n7_ n8_ n9_ n10_ n11_ n12_; (try clear hb); (try clear hb2); (try clear hk); (try clear hi)))
   have n0_ := Aside0.mk (Kd.R_drew HO181.out)
   have n1_ := Aside0.mk (Kd.R_drew HO189.out)
   have n2_ := Aside0.mk (Kd.R_drew HO197.out)
   have n3_ := Aside0.mk (Kd.R_drew HO206.out)
   have n4_ := Aside0.mk (Kd.R_drew HO215.out)
   have n5_ := Aside0.mk (Kd.R_drew HO224.out)
   have n6_ := Aside0.mk (blk_drew BK170.out)
   have n7_ := Aside0.mk (blk_drew BK171.out)
   have n8_ := Aside0.mk (blk_drew BK198.out)
   have n9_ := Aside0.mk (blk_drew BK207.out)
   have n10_ := Aside0.mk (blk_drew BK216.out)
   have n11_ := Aside0.mk (blk_drew BK225.out)
   have n12_ := Aside0.mk (below_drew1 HB.out)
   clear HO181 HO189 HO197 HO206 HO215 HO224 BK170 BK171 BK198 BK207 BK216 BK225 HB
   have HO181 := n0_
   have HO189 := n1_
   have HO197 := n2_
   have HO206 := n3_
   have HO215 := n4_
   have HO224 := n5_
   have BK170 := n6_
   have BK171 := n7_
   have BK198 := n8_
   have BK207 := n9_
   have BK216 := n10_
   have BK225 := n11_
   have HB := n12_
   clear n0_ n1_ n2_ n3_ n4_ n5_ n6_ n7_ n8_ n9_ n10_ n11_ n12_
   refine start_ (n := 5) (S := fun w' => w'.cell? ⟨gb207, 0, none⟩ = some (.int .i64 t199) ∧ w'.cell? ⟨gb207, 1, none⟩ = some (.int .i64 t200) ∧ w'.cell? ⟨gb207, 2, none⟩ = some (.int .i64 t201) ∧ w'.cell? ⟨gb207, 3, none⟩ = some (.int .i64 t202) ∧ w'.cell? ⟨gb207, 4, none⟩ = some (.int .i64 t203) ∧ w'.cell? ⟨gb207, 5, none⟩ = some (.slice Ao66 t204.length co66) ∧ w'.cell? ⟨gb170, 0, none⟩ = some (.int .i64 a0_0) ∧ w'.cell? ⟨gb170, 1, none⟩ = some (.int .i64 a0_1) ∧ w'.cell? ⟨gb170, 2, none⟩ = some (.int .i64 a0_2) ∧ w'.cell? ⟨gb170, 3, none⟩ = some (.int .i64 a0_3) ∧ w'.cell? ⟨gb170, 4, none⟩ = some (.int .i64 a0_4) ∧ w'.cell? ⟨gb170, 5, none⟩ = some (.slice A0_5 l0_5.length c0_5)) (ds := []) #[false, false, false, false, false] (by kernel_rfl) rfl rfl (tC6 BK207.out (tC6e BK170.out)) (fun hHeld => ?_)
   generalize w88.drew = w89 at HO181 HO189 HO197 HO206 HO215 HO224 BK170 BK171 BK198 BK207 BK216 BK225 HB hHeld ⊢
   refine take_ (i := 0) (N := some 40) (v := ?_) (a' := ?_) #[true, false, false, false, false] rfl rfl (by kernel_rfl) (fun _ _ _ h => h) (Or.inl ⟨by rfl, ?_⟩) hHeld ?_ ?_
   rotate_left
   ·rintro w' ⟨s0, s1, s2, s3, s4, s5, s6, s7, s8, s9, s10, s11⟩
    go_simp
    with_reducible rfl
   rotate_left; (focus simp only [Act.put, List.setIfInBounds_toArray, List.set_cons_zero, List.set_cons_succ, i64_w, i32_w]; rfl)
   refine take_ (i := 1) (N := some 41) (v := ?_) (a' := ?_) #[true, true, false, false, false] rfl rfl (by kernel_rfl) (fun _ _ _ h => h) (Or.inl ⟨by rfl, ?_⟩) hHeld ?_ ?_
   rotate_left
   ·rintro w' ⟨s0, s1, s2, s3, s4, s5, s6, s7, s8, s9, s10, s11⟩
    go_simp
    with_reducible rfl
   rotate_left; (focus simp only [Act.put, List.setIfInBounds_toArray, List.set_cons_zero, List.set_cons_succ, i64_w, i32_w]; rfl)
   refine one_ (i := 2) (N := some 42) #[true, true, true, false, false] rfl rfl (by kernel_rfl) (by decide) (fun K hK => ?_)
   refine goes_ Try.func13 (by kernel_rfl) rfl #[.agg #[.int .i64 a0_0, .int .i64 a0_1, .int .i64 a0_2, .int .i64 a0_3, .int .i64 a0_4, .slice A0_5 l0_5.length c0_5]] (by rfl) rfl rfl tA ?_
   with_reducible refine (laws_toTimes.calls k a0_0 a0_1 a0_2 a0_3 a0_4 _ _ l0_5 t227 t228 t229 t230 t231 t232 _ ?side1 ?side2 A27.out).mono ?_
   (case side1 => repeat (first | exact (Kd.C_below HR0_5.out HB.out) | (with_reducible refine Kd.C_alloc ?_ _) | (with_reducible refine Kd.C_drewN ?_ _) | (with_reducible refine Kd.C_drew ?_)))
   (case side2 => exact HC0_5.out)
   rintro e w90 ⟨v233, rfl, ho0, hb⟩
   refine ⟨_, rfl, ?_⟩
   have n0_ := Aside0.mk (Kd.R_elder' (tR HO181.out) (Kd.R_base ho0) hb)
   have n1_ := Aside0.mk (Kd.R_elder' (tR HO189.out) (Kd.R_base ho0) hb)
   have n2_ := Aside0.mk (Kd.R_elder' (tR HO197.out) (Kd.R_base ho0) hb)
   have n3_ := Aside0.mk (Kd.R_elder' (tR HO206.out) (Kd.R_base ho0) hb)
   have n4_ := Aside0.mk (Kd.R_elder' (tR HO215.out) (Kd.R_base ho0) hb)
   have n5_ := Aside0.mk (Kd.R_elder' (tR HO224.out) (Kd.R_base ho0) hb)
   have n6_ := Aside0.mk (Kd.R_lower (Kd.R_new' (Kd.R_new' (Kd.R_new' (Kd.R_new' (Kd.R_new' (Kd.R_new' ho0 (Kd.R_lt (tR HO181.out))) (Kd.R_lt (tR HO189.out))) (Kd.R_lt (tR HO197.out))) (Kd.R_lt (tR HO206.out))) (Kd.R_lt (tR HO215.out))) (Kd.R_lt (tR HO224.out))) (below_size tBs))
   have n7_ := Aside0.mk (blk_below (tK BK170.out) hb)
   have n8_ := Aside0.mk (blk_below (tK BK171.out) hb)
   have n9_ := Aside0.mk (blk_below (tK BK198.out) hb)
   have n10_ := Aside0.mk (blk_below (tK BK207.out) hb)
   have n11_ := Aside0.mk (blk_below (tK BK216.out) hb)
   have n12_ := Aside0.mk (blk_below (tK BK225.out) hb)
   have n13_ := Aside0.mk (below_step tBs hb)
   clear HO181 HO189 HO197 HO206 HO215 HO224 BK170 BK171 BK198 BK207 BK216 BK225 HB
   have HO181 := n0_
   have HO189 := n1_
   have HO197 := n2_
   have HO206 := n3_
   have HO215 := n4_
   have HO224 := n5_
   have HO234 := n6_
   have BK170 := n7_
   have BK171 := n8_
   have BK198 := n9_
   have BK207 := n10_
   have BK216 := n11_
   have BK225 := n12_
   have HB := n13_
   clear n0_ n1_ n2_ n3_ n4_ n5_ n6_ n7_ n8_ n9_ n10_ n11_ n12_ n13_
   (try clear hb)
   (try clear hb2)
   (try clear hk)
   (try clear hi)
   (try clear ho0)
   obtain ⟨Ao91, co91, eo91⟩ := Kd.R_slice HO234.out
   (first | subst eo91 | (injection eo91 with f1_ f2_ f3_; have f4_ := f1_.symm; have f5_ := f3_.symm; clear f1_ f2_ f3_; subst f4_; subst f5_))
   refine hK.out _ _ (tC6 BK207.out (tC6e BK170.out)) (fun hHeld => ?_)
   clear hK K
   refine norm_ (a' := ?_) ?_ ?_
   rotate_left
   ·show Act.put _ (some 42) _ = _
    simp only [Act.put, List.setIfInBounds_toArray, List.set_cons_zero, List.set_cons_succ, i64_w, i32_w]
    rfl
   refine one_ (i := 3) (N := some 43) #[true, true, true, true, false] rfl rfl (by kernel_rfl) (by decide) (fun K hK => ?_)
   refine goes_ Try.func15 (by kernel_rfl) rfl #[.agg #[.int .i64 t199, .int .i64 t200, .int .i64 t201, .int .i64 t202, .int .i64 t203, .slice Ao66 t204.length co66], .agg #[.int .i64 t227, .int .i64 t228, .int .i64 t229, .int .i64 t230, .int .i64 t231, .slice Ao91 t232.length co91]] (by rfl) rfl rfl tA ?_
   with_reducible refine (laws_eqTimes.calls k t199 t200 t201 t202 t203 _ _ t204 t227 t228 t229 t230 t231 _ _ t232 true _ ?side1 ?side2 ?side3 ?side4 A28.out).mono ?_
   (case side1 => repeat (first | exact (Kd.R_reads' HO206.out).2.2 | (with_reducible refine Kd.C_alloc ?_ _) | (with_reducible refine Kd.C_drewN ?_ _) | (with_reducible refine Kd.C_drew ?_)))
   (case side2 => exact (Kd.R_reads' HO206.out).2.1)
   (case side3 => repeat (first | exact (Kd.R_reads' HO234.out).2.2 | (with_reducible refine Kd.C_alloc ?_ _) | (with_reducible refine Kd.C_drewN ?_ _) | (with_reducible refine Kd.C_drew ?_)))
   (case side4 => exact (Kd.R_reads' HO234.out).2.1)
   rintro e w92 ⟨rfl, hb⟩
   refine ⟨_, rfl, ?_⟩
   have n0_ := Aside0.mk (Kd.R_below (tR HO181.out) hb)
   have n1_ := Aside0.mk (Kd.R_below (tR HO189.out) hb)
   have n2_ := Aside0.mk (Kd.R_below (tR HO197.out) hb)
   have n3_ := Aside0.mk (Kd.R_below (tR HO206.out) hb)
   have n4_ := Aside0.mk (Kd.R_below (tR HO215.out) hb)
   have n5_ := Aside0.mk (Kd.R_below (tR HO224.out) hb)
   have n6_ := Aside0.mk (Kd.R_below (tR HO234.out) hb)
   have n7_ := Aside0.mk (blk_below (tK BK170.out) hb)
   have n8_ := Aside0.mk (blk_below (tK BK171.out) hb)
   have n9_ := Aside0.mk (blk_below (tK BK198.out) hb)
   have n10_ := Aside0.mk (blk_below (tK BK207.out) hb)
   have n11_ := Aside0.mk (blk_below (tK BK216.out) hb)
   have n12_ := Aside0.mk (blk_below (tK BK225.out) hb)
   have n13_ := Aside0.mk (below_step tBs hb)
   clear HO181 HO189 HO197 HO206 HO215 HO224 HO234 BK170 BK171 BK198 BK207 BK216 BK225 HB
   have HO181 := n0_
   have HO189 := n1_
   have HO197 := n2_
   have HO206 := n3_
   have HO215 := n4_
   have HO224 := n5_
   have HO234 := n6_
   have BK170 := n7_
   have BK171 := n8_
   have BK198 := n9_
   have BK207 := n10_
   have BK216 := n11_
   have BK225 := n12_
   have HB := n13_
   clear n0_ n1_ n2_ n3_ n4_ n5_ n6_ n7_ n8_ n9_ n10_ n11_ n12_ n13_
   (try clear hb)
   (try clear hb2)
   (try clear hk)
   (try clear hi)
   refine hK.out _ _ (tC6 BK207.out (tC6e BK170.out)) (fun hHeld => ?_)
   clear hK K
   refine norm_ (a' := ?_) ?_ ?_
   rotate_left
   ·show Act.put _ (some 43) _ = _
    simp only [Act.put, List.setIfInBounds_toArray, List.set_cons_zero, List.set_cons_succ, i64_w, i32_w]
    rfl
   refine pure_ (i := 4) (N := some 44) (v := ?_) (a' := ?_) #[true, true, true, true, true] rfl rfl (by kernel_rfl) (fun _ _ _ h => h) (Or.inl ⟨by rfl, ?_⟩) ?_ ?_
   rotate_left; (focus intro w'; go_simp; with_reducible rfl)
   rotate_left; (focus simp only [Act.put, List.setIfInBounds_toArray, List.set_cons_zero, List.set_cons_succ, i64_w, i32_w]; rfl)
   refine done_ (by kernel_rfl) ?_
   try go_wp2
   have n0_ := Aside0.mk (Kd.R_drew HO181.out)
   have n1_ := Aside0.mk (Kd.R_drew HO189.out)
   have n2_ := Aside0.mk (Kd.R_drew HO197.out)
   have n3_ := Aside0.mk (Kd.R_drew HO206.out)
   have n4_ := Aside0.mk (Kd.R_drew HO215.out)
   have n5_ := Aside0.mk (Kd.R_drew HO224.out)
   have n6_ := Aside0.mk (Kd.R_drew HO234.out)
   have n7_ := Aside0.mk (blk_drew BK170.out)
   have n8_ := Aside0.mk (blk_drew BK171.out)
   have n9_ := Aside0.mk (blk_drew BK198.out)
   have n10_ := Aside0.mk (blk_drew BK207.out)
   have n11_ := Aside0.mk (blk_drew BK216.out)
   have n12_ := Aside0.mk (blk_drew BK225.out)
   have n13_ := Aside0.mk (below_drew1 HB.out)
   clear HO181 HO189 HO197 HO206 HO215 HO224 HO234 BK170 BK171 BK198 BK207 BK216 BK225 HB
   have HO181 := n0_
   have HO189 := n1_
   have HO197 := n2_
   have HO206 := n3_
   have HO215 := n4_
   have HO224 := n5_
   have HO234 := n6_
   have BK170 := n7_
   have BK171 := n8_
   have BK198 := n9_
   have BK207 := n10_
   have BK216 := n11_
   have BK225 := n12_
   have HB := n13_
   clear n0_ n1_ n2_ n3_ n4_ n5_ n6_ n7_ n8_ n9_ n10_ n11_ n12_ n13_
   refine start_ (n := 5) (S := fun w' => w'.cell? ⟨gb216, 0, none⟩ = some (.int .i64 t208) ∧ w'.cell? ⟨gb216, 1, none⟩ = some (.int .i64 t209) ∧ w'.cell? ⟨gb216, 2, none⟩ = some (.int .i64 t210) ∧ w'.cell? ⟨gb216, 3, none⟩ = some (.int .i64 t211) ∧ w'.cell? ⟨gb216, 4, none⟩ = some (.int .i64 t212) ∧ w'.cell? ⟨gb216, 5, none⟩ = some (.slice Ao76 t213.length co76) ∧ w'.cell? ⟨gb171, 0, none⟩ = some (.int .i64 a1_0) ∧ w'.cell? ⟨gb171, 1, none⟩ = some (.int .i64 a1_1) ∧ w'.cell? ⟨gb171, 2, none⟩ = some (.int .i64 a1_2) ∧ w'.cell? ⟨gb171, 3, none⟩ = some (.int .i64 a1_3) ∧ w'.cell? ⟨gb171, 4, none⟩ = some (.int .i64 a1_4) ∧ w'.cell? ⟨gb171, 5, none⟩ = some (.slice A1_5 l1_5.length c1_5)) (ds := []) #[false, false, false, false, false] (by kernel_rfl) rfl rfl (tC6 BK216.out (tC6e BK171.out)) (fun hHeld => ?_)
   generalize w92.drew = w93 at HO181 HO189 HO197 HO206 HO215 HO224 HO234 BK170 BK171 BK198 BK207 BK216 BK225 HB hHeld ⊢
   refine take_ (i := 0) (N := some 45) (v := ?_) (a' := ?_) #[true, false, false, false, false] rfl rfl (by kernel_rfl) (fun _ _ _ h => h) (Or.inl ⟨by rfl, ?_⟩) hHeld ?_ ?_
   rotate_left
   ·rintro w' ⟨s0, s1, s2, s3, s4, s5, s6, s7, s8, s9, s10, s11⟩
    go_simp
    with_reducible rfl
   rotate_left; (focus simp only [Act.put, List.setIfInBounds_toArray, List.set_cons_zero, List.set_cons_succ, i64_w, i32_w]; rfl)
   refine take_ (i := 1) (N := some 46) (v := ?_) (a' := ?_) #[true, true, false, false, false] rfl rfl (by kernel_rfl) (fun _ _ _ h => h) (Or.inl ⟨by rfl, ?_⟩) hHeld ?_ ?_
   rotate_left
   ·rintro w' ⟨s0, s1, s2, s3, s4, s5, s6, s7, s8, s9, s10, s11⟩
    go_simp
    with_reducible rfl
   rotate_left; (focus simp only [Act.put, List.setIfInBounds_toArray, List.set_cons_zero, List.set_cons_succ, i64_w, i32_w]; rfl)
   refine one_ (i := 2) (N := some 47) #[true, true, true, false, false] rfl rfl (by kernel_rfl) (by decide) (fun K hK => ?_)
   refine goes_ Try.func13 (by kernel_rfl) rfl #[.agg #[.int .i64 a1_0, .int .i64 a1_1, .int .i64 a1_2, .int .i64 a1_3, .int .i64 a1_4, .slice A1_5 l1_5.length c1_5]] (by rfl) rfl rfl tA ?_
   with_reducible refine (laws_toTimes.calls k a1_0 a1_1 a1_2 a1_3 a1_4 _ _ l1_5 t236 t237 t238 t239 t240 t241 _ ?side1 ?side2 A30.out).mono ?_
   (case side1 => repeat (first | exact (Kd.C_below HR1_5.out HB.out) | (with_reducible refine Kd.C_alloc ?_ _) | (with_reducible refine Kd.C_drewN ?_ _) | (with_reducible refine Kd.C_drew ?_)))
   (case side2 => exact HC1_5.out)
   rintro e w94 ⟨v242, rfl, ho0, hb⟩
   refine ⟨_, rfl, ?_⟩
   have n0_ := Aside0.mk (Kd.R_elder' (tR HO181.out) (Kd.R_base ho0) hb)
   have n1_ := Aside0.mk (Kd.R_elder' (tR HO189.out) (Kd.R_base ho0) hb)
   have n2_ := Aside0.mk (Kd.R_elder' (tR HO197.out) (Kd.R_base ho0) hb)
   have n3_ := Aside0.mk (Kd.R_elder' (tR HO206.out) (Kd.R_base ho0) hb)
   have n4_ := Aside0.mk (Kd.R_elder' (tR HO215.out) (Kd.R_base ho0) hb)
   have n5_ := Aside0.mk (Kd.R_elder' (tR HO224.out) (Kd.R_base ho0) hb)
   have n6_ := Aside0.mk (Kd.R_elder' (tR HO234.out) (Kd.R_base ho0) hb)
   have n7_ := Aside0.mk (Kd.R_lower (Kd.R_new' (Kd.R_new' (Kd.R_new' (Kd.R_new' (Kd.R_new' (Kd.R_new' (Kd.R_new' ho0 (Kd.R_lt (tR HO181.out))) (Kd.R_lt (tR HO189.out))) (Kd.R_lt (tR HO197.out))) (Kd.R_lt (tR HO206.out))) (Kd.R_lt (tR HO215.out))) (Kd.R_lt (tR HO224.out))) (Kd.R_lt (tR HO234.out))) (below_size tBs))
   have n8_ := Aside0.mk (blk_below (tK BK170.out) hb)
   have n9_ := Aside0.mk (blk_below (tK BK171.out) hb)
   have n10_ := Aside0.mk (blk_below (tK BK198.out) hb)
   have n11_ := Aside0.mk (blk_below (tK BK207.out) hb)
   have n12_ := Aside0.mk (blk_below (tK BK216.out) hb)
   have n13_ := Aside0.mk (blk_below (tK BK225.out) hb)
   have n14_ := Aside0.mk (below_step tBs hb)
   clear HO181 HO189 HO197 HO206 HO215 HO224 HO234 BK170 BK171 BK198 BK207 BK216 BK225 HB
   have HO181 := n0_
   have HO189 := n1_
   have HO197 := n2_
   have HO206 := n3_
   have HO215 := n4_
   have HO224 := n5_
   have HO234 := n6_
   have HO243 := n7_
   have BK170 := n8_
   have BK171 := n9_
   have BK198 := n10_
   have BK207 := n11_
   have BK216 := n12_
   have BK225 := n13_
   have HB := n14_
   clear n0_ n1_ n2_ n3_ n4_ n5_ n6_ n7_ n8_ n9_ n10_ n11_ n12_ n13_ n14_
   (try clear hb)
   (try clear hb2)
   (try clear hk)
   (try clear hi)
   (try clear ho0)
   obtain ⟨Ao95, co95, eo95⟩ := Kd.R_slice HO243.out
   (first | subst eo95 | (injection eo95 with f1_ f2_ f3_; have f4_ := f1_.symm; have f5_ := f3_.symm; clear f1_ f2_ f3_; subst f4_; subst f5_))
   refine hK.out _ _ (tC6 BK216.out (tC6e BK171.out)) (fun hHeld => ?_)
   clear hK K
   refine norm_ (a' := ?_) ?_ ?_
   rotate_left
   ·show Act.put _ (some 47) _ = _
    simp only [Act.put, List.setIfInBounds_toArray, List.set_cons_zero, List.set_cons_succ, i64_w, i32_w]
    rfl
   refine one_ (i := 3) (N := some 48) #[true, true, true, true, false] rfl rfl (by kernel_rfl) (by decide) (fun K hK => ?_)
   refine goes_ Try.func15 (by kernel_rfl) rfl #[.agg #[.int .i64 t208, .int .i64 t209, .int .i64 t210, .int .i64 t211, .int .i64 t212, .slice Ao76 t213.length co76], .agg #[.int .i64 t236, .int .i64 t237, .int .i64 t238, .int .i64 t239, .int .i64 t240, .slice Ao95 t241.length co95]] (by rfl) rfl rfl tA ?_
   with_reducible refine (laws_eqTimes.calls k t208 t209 t210 t211 t212 _ _ t213 t236 t237 t238 t239 t240 _ _ t241 true _ ?side1 ?side2 ?side3 ?side4 A31.out).mono ?_
   (case side1 => repeat (first | exact (Kd.R_reads' HO215.out).2.2 | (with_reducible refine Kd.C_alloc ?_ _) | (with_reducible refine Kd.C_drewN ?_ _) | (with_reducible refine Kd.C_drew ?_)))
   (case side2 => exact (Kd.R_reads' HO215.out).2.1)
   (case side3 => repeat (first | exact (Kd.R_reads' HO243.out).2.2 | (with_reducible refine Kd.C_alloc ?_ _) | (with_reducible refine Kd.C_drewN ?_ _) | (with_reducible refine Kd.C_drew ?_)))
   (case side4 => exact (Kd.R_reads' HO243.out).2.1)
   rintro e w96 ⟨rfl, hb⟩
   refine ⟨_, rfl, ?_⟩
   have n0_ := Aside0.mk (Kd.R_below (tR HO181.out) hb)
   have n1_ := Aside0.mk (Kd.R_below (tR HO189.out) hb)
   have n2_ := Aside0.mk (Kd.R_below (tR HO197.out) hb)
   have n3_ := Aside0.mk (Kd.R_below (tR HO206.out) hb)
   have n4_ := Aside0.mk (Kd.R_below (tR HO215.out) hb)
   have n5_ := Aside0.mk (Kd.R_below (tR HO224.out) hb)
   have n6_ := Aside0.mk (Kd.R_below (tR HO234.out) hb)
   have n7_ := Aside0.mk (Kd.R_below (tR HO243.out) hb)
   have n8_ := Aside0.mk (blk_below (tK BK170.out) hb)
   have n9_ := Aside0.mk (blk_below (tK BK171.out) hb)
   have n10_ := Aside0.mk (blk_below (tK BK198.out) hb)
   have n11_ := Aside0.mk (blk_below (tK BK207.out) hb)
   have n12_ := Aside0.mk (blk_below (tK BK216.out) hb)
   have n13_ := Aside0.mk (blk_below (tK BK225.out) hb)
   have n14_ := Aside0.mk (below_step tBs hb)
   clear HO181 HO189 HO197 HO206 HO215 HO224 HO234 HO243 BK170 BK171 BK198 BK207 BK216 BK225 HB
   have HO181 := n0_
   have HO189 := n1_
   have HO197 := n2_
   have HO206 := n3_
   have HO215 := n4_
   have HO224 := n5_
   have HO234 := n6_
   have HO243 := n7_
   have BK170 := n8_
   have BK171 := n9_
   have BK198 := n10_
   have BK207 := n11_
   have BK216 := n12_
   have BK225 := n13_
   have HB := n14_
   clear n0_ n1_ n2_ n3_ n4_ n5_ n6_ n7_ n8_ n9_ n10_ n11_ n12_ n13_ n14_
   (try clear hb)
   (try clear hb2)
   (try clear hk)
   (try clear hi)
   refine hK.out _ _ (tC6 BK216.out (tC6e BK171.out)) (fun hHeld => ?_)
   clear hK K
   refine norm_ (a' := ?_) ?_ ?_
   rotate_left
   ·show Act.put _ (some 48) _ = _
    simp only [Act.put, List.setIfInBounds_toArray, List.set_cons_zero, List.set_cons_succ, i64_w, i32_w]
    rfl
   refine pure_ (i := 4) (N := some 49) (v := ?_) (a' := ?_) #[true, true, true, true, true] rfl rfl (by kernel_rfl) (fun _ _ _ h => h) (Or.inl ⟨by rfl, ?_⟩) ?_ ?_
   rotate_left; (focus intro w'; go_simp; with_reducible rfl)
   rotate_left; (focus simp only [Act.put, List.setIfInBounds_toArray, List.set_cons_zero, List.set_cons_succ, i64_w, i32_w]; rfl)
   refine done_ (by kernel_rfl) ?_
   have hcz97_0 : w96.cell? ⟨gb207, 0, none⟩ = some (.int .i64 t199) := (blk_cell BK207.out 0).trans rfl
   have hcz97_1 : w96.cell? ⟨gb207, 1, none⟩ = some (.int .i64 t200) := (blk_cell BK207.out 1).trans rfl
   have hcz97_2 : w96.cell? ⟨gb207, 2, none⟩ = some (.int .i64 t201) := (blk_cell BK207.out 2).trans rfl
   have hcz97_3 : w96.cell? ⟨gb207, 3, none⟩ = some (.int .i64 t202) := (blk_cell BK207.out 3).trans rfl
   have hcz97_4 : w96.cell? ⟨gb207, 4, none⟩ = some (.int .i64 t203) := (blk_cell BK207.out 4).trans rfl
   have hcz97_5 : w96.cell? ⟨gb207, 5, none⟩ = some (.slice Ao66 t204.length co66) := (blk_cell BK207.out 5).trans rfl
   have hfz97_0 := blk_frozen BK207.out 0
   have hfz97_1 := blk_frozen BK207.out 1
   have hfz97_2 := blk_frozen BK207.out 2
   have hfz97_3 := blk_frozen BK207.out 3
   have hfz97_4 := blk_frozen BK207.out 4
   have hfz97_5 := blk_frozen BK207.out 5
   go_upto_region 21 with (first | ((with_reducible refine gate_callee (f := 16) rfl ?_); refine goesL_ (some 52) rfl rfl Try.func16 (by kernel_rfl) rfl #[.agg #[.int .i64 t199, .int .i64 t200, .int .i64 t201, .int .i64 t202, .int .i64 t203, .slice Ao66 t204.length co66], .int .i64 1] rfl tA ?_; (with_reducible refine (laws_markTimes.calls k t199 t200 t201 t202 t203 (fun k_ => some k_ = (.slice Ao66 t204.length co66 : Value).ownBlock) (.slice Ao66 t204.length co66) t204 1 t245 t246 w _ ?side1 ?side2 A33.out).mono ?_); (case side1 => repeat (first | (with_reducible first | exact HB.out | apply below_alloc | apply pw_below_drewN | apply below_drew1 | refine below_set ?_ GE170.out | refine below_set ?_ GE171.out | refine below_set ?_ GE198.out | refine below_set ?_ GE207.out | refine below_set ?_ GE216.out | refine below_set ?_ GE225.out) | exact HB.out)); (case side2 => exact Kd.R_tight rfl HO206.out); rintro e w98 ⟨rfl, hy0, hb, hkp⟩; refine ⟨_, rfl, ?_⟩; have n0_ := Aside0.mk (blk_kept (tK BK170.out) hkp (fun hs_ => (fun e_ => (Kd.R_ne HO206.out BK170.out (by decide)) e_) hs_)); have n1_ := Aside0.mk (blk_kept (tK BK171.out) hkp (fun hs_ => (fun e_ => (Kd.R_ne HO206.out BK171.out (by decide)) e_) hs_)); have n2_ := Aside0.mk (Kd.R_mono (ok' := fun k_ => some k_ ≠ (v188 : Value).ownBlock ∧ some k_ ≠ (.slice Ao56 t195.length co56 : Value).ownBlock ∧ some k_ ≠ (.slice Ao66 t204.length co66 : Value).ownBlock ∧ some k_ ≠ (.slice Ao76 t213.length co76 : Value).ownBlock ∧ some k_ ≠ (.slice Ao86 t222.length co86 : Value).ownBlock ∧ some k_ ≠ (.slice Ao91 t232.length co91 : Value).ownBlock ∧ some k_ ≠ (.slice Ao95 t241.length co95 : Value).ownBlock) (Kd.R_keptB (HO181.out) hkp (fun k_ hk_ hs_ => (hk_.1.1.1.1.2) hs_)) (fun k_ hk_ => ⟨hk_.1.1.1.1.1.1.1, hk_.1.1.1.1.1.1.2, hk_.1.1.1.1.1.2, hk_.1.1.1.1.2, hk_.1.1.1.2, hk_.1.1.2, hk_.1.2⟩)); have n3_ := Aside0.mk (Kd.R_mono (ok' := fun k_ => some k_ ≠ (v180 : Value).ownBlock ∧ some k_ ≠ (.slice Ao56 t195.length co56 : Value).ownBlock ∧ some k_ ≠ (.slice Ao66 t204.length co66 : Value).ownBlock ∧ some k_ ≠ (.slice Ao76 t213.length co76 : Value).ownBlock ∧ some k_ ≠ (.slice Ao86 t222.length co86 : Value).ownBlock ∧ some k_ ≠ (.slice Ao91 t232.length co91 : Value).ownBlock ∧ some k_ ≠ (.slice Ao95 t241.length co95 : Value).ownBlock) (Kd.R_keptB (HO189.out) hkp (fun k_ hk_ hs_ => (hk_.1.1.1.1.2) hs_)) (fun k_ hk_ => ⟨hk_.1.1.1.1.1.1.1, hk_.1.1.1.1.1.1.2, hk_.1.1.1.1.1.2, hk_.1.1.1.1.2, hk_.1.1.1.2, hk_.1.1.2, hk_.1.2⟩)); have n4_ := Aside0.mk (Kd.R_mono (ok' := fun k_ => some k_ ≠ (v180 : Value).ownBlock ∧ some k_ ≠ (v188 : Value).ownBlock ∧ some k_ ≠ (.slice Ao66 t204.length co66 : Value).ownBlock ∧ some k_ ≠ (.slice Ao76 t213.length co76 : Value).ownBlock ∧ some k_ ≠ (.slice Ao86 t222.length co86 : Value).ownBlock ∧ some k_ ≠ (.slice Ao91 t232.length co91 : Value).ownBlock ∧ some k_ ≠ (.slice Ao95 t241.length co95 : Value).ownBlock) (Kd.R_keptB (HO197.out) hkp (fun k_ hk_ hs_ => (hk_.1.1.1.1.2) hs_)) (fun k_ hk_ => ⟨hk_.1.1.1.1.1.1.1, hk_.1.1.1.1.1.1.2, hk_.1.1.1.1.1.2, hk_.1.1.1.1.2, hk_.1.1.1.2, hk_.1.1.2, hk_.1.2⟩)); have n5_ := Aside0.mk (blk_kept (tK BK198.out) hkp (fun hs_ => (fun e_ => (Kd.R_ne HO206.out BK198.out (by decide)) e_) hs_)); have n6_ := Aside0.mk (Kd.R_reok rfl hy0 (fun k_ e_ => HO206.out.1 k_ e_)); have n7_ := Aside0.mk (blk_kept (tK BK207.out) hkp (fun hs_ => (fun e_ => (Kd.R_ne HO206.out BK207.out (by decide)) e_) hs_)); have n8_ := Aside0.mk (Kd.R_mono (ok' := fun k_ => some k_ ≠ (v180 : Value).ownBlock ∧ some k_ ≠ (v188 : Value).ownBlock ∧ some k_ ≠ (.slice Ao56 t195.length co56 : Value).ownBlock ∧ some k_ ≠ (.slice Ao66 t204.length co66 : Value).ownBlock ∧ some k_ ≠ (.slice Ao86 t222.length co86 : Value).ownBlock ∧ some k_ ≠ (.slice Ao91 t232.length co91 : Value).ownBlock ∧ some k_ ≠ (.slice Ao95 t241.length co95 : Value).ownBlock) (Kd.R_keptB (HO215.out) hkp (fun k_ hk_ hs_ => (hk_.1.1.1.2) hs_)) (fun k_ hk_ => ⟨hk_.1.1.1.1.1.1.1.2, hk_.1.1.1.1.1.1.2, hk_.1.1.1.1.1.2, hk_.1.1.1.1.2, hk_.1.1.1.2, hk_.1.1.2, hk_.1.2⟩)); have n9_ := Aside0.mk (blk_kept (tK BK216.out) hkp (fun hs_ => (fun e_ => (Kd.R_ne HO206.out BK216.out (by decide)) e_) hs_)); have n10_ := Aside0.mk (Kd.R_mono (ok' := fun k_ => some k_ ≠ (v180 : Value).ownBlock ∧ some k_ ≠ (v188 : Value).ownBlock ∧ some k_ ≠ (.slice Ao56 t195.length co56 : Value).ownBlock ∧ some k_ ≠ (.slice Ao66 t204.length co66 : Value).ownBlock ∧ some k_ ≠ (.slice Ao76 t213.length co76 : Value).ownBlock ∧ some k_ ≠ (.slice Ao91 t232.length co91 : Value).ownBlock ∧ some k_ ≠ (.slice Ao95 t241.length co95 : Value).ownBlock) (Kd.R_keptB (HO224.out) hkp (fun k_ hk_ hs_ => (hk_.1.1.1.2) hs_)) (fun k_ hk_ => ⟨hk_.1.1.1.1.1.1.1.2, hk_.1.1.1.1.1.1.2, hk_.1.1.1.1.1.2, hk_.1.1.1.1.2, hk_.1.1.1.2, hk_.1.1.2, hk_.1.2⟩)); have n11_ := Aside0.mk (blk_kept (tK BK225.out) hkp (fun hs_ => (fun e_ => (Kd.R_ne HO206.out BK225.out (by decide)) e_) hs_)); have n12_ := Aside0.mk (Kd.R_mono (ok' := fun k_ => some k_ ≠ (v180 : Value).ownBlock ∧ some k_ ≠ (v188 : Value).ownBlock ∧ some k_ ≠ (.slice Ao56 t195.length co56 : Value).ownBlock ∧ some k_ ≠ (.slice Ao66 t204.length co66 : Value).ownBlock ∧ some k_ ≠ (.slice Ao76 t213.length co76 : Value).ownBlock ∧ some k_ ≠ (.slice Ao86 t222.length co86 : Value).ownBlock ∧ some k_ ≠ (.slice Ao95 t241.length co95 : Value).ownBlock) (Kd.R_keptB (HO234.out) hkp (fun k_ hk_ hs_ => (hk_.1.1.1.2) hs_)) (fun k_ hk_ => ⟨hk_.1.1.1.1.1.1.1.2, hk_.1.1.1.1.1.1.2, hk_.1.1.1.1.1.2, hk_.1.1.1.1.2, hk_.1.1.1.2, hk_.1.1.2, hk_.1.2⟩)); have n13_ := Aside0.mk (Kd.R_mono (ok' := fun k_ => some k_ ≠ (v180 : Value).ownBlock ∧ some k_ ≠ (v188 : Value).ownBlock ∧ some k_ ≠ (.slice Ao56 t195.length co56 : Value).ownBlock ∧ some k_ ≠ (.slice Ao66 t204.length co66 : Value).ownBlock ∧ some k_ ≠ (.slice Ao76 t213.length co76 : Value).ownBlock ∧ some k_ ≠ (.slice Ao86 t222.length co86 : Value).ownBlock ∧ some k_ ≠ (.slice Ao91 t232.length co91 : Value).ownBlock) (Kd.R_keptB (HO243.out) hkp (fun k_ hk_ hs_ => (hk_.1.1.1.2) hs_)) (fun k_ hk_ => ⟨hk_.1.1.1.1.1.1.1.2, hk_.1.1.1.1.1.1.2, hk_.1.1.1.1.1.2, hk_.1.1.1.1.2, hk_.1.1.1.2, hk_.1.1.2, hk_.1.2⟩)); have n14_ := Aside0.mk (hb); clear BK170; clear BK171; clear HO181; clear HO189; clear HO197; clear BK198; clear HO206; clear BK207; clear HO215; clear BK216; clear HO224; clear BK225; clear HO234; clear HO243; clear HB; have BK170 := n0_; have BK171 := n1_; have HO181 := n2_; have HO189 := n3_; have HO197 := n4_; have BK198 := n5_; have HO206 := n6_; have BK207 := n7_; have HO215 := n8_; have BK216 := n9_; have HO224 := n10_; have BK225 := n11_; have HO234 := n12_; have HO243 := n13_; have HB := n14_; clear n0_ n1_ n2_ n3_ n4_ n5_ n6_ n7_ n8_ n9_ n10_ n11_ n12_ n13_ n14_; (try clear hb); (try clear hkp); (try clear hy0); have hcz99_0 : w98.cell? ⟨gb216, 0, none⟩ = some (.int .i64 t208) := (blk_cell BK216.out 0).trans rfl; have hcz99_1 : w98.cell? ⟨gb216, 1, none⟩ = some (.int .i64 t209) := (blk_cell BK216.out 1).trans rfl; have hcz99_2 : w98.cell? ⟨gb216, 2, none⟩ = some (.int .i64 t210) := (blk_cell BK216.out 2).trans rfl; have hcz99_3 : w98.cell? ⟨gb216, 3, none⟩ = some (.int .i64 t211) := (blk_cell BK216.out 3).trans rfl; have hcz99_4 : w98.cell? ⟨gb216, 4, none⟩ = some (.int .i64 t212) := (blk_cell BK216.out 4).trans rfl; have hcz99_5 : w98.cell? ⟨gb216, 5, none⟩ = some (.slice Ao76 t213.length co76) := (blk_cell BK216.out 5).trans rfl; have hfz99_0 := blk_frozen BK216.out 0; have hfz99_1 := blk_frozen BK216.out 1; have hfz99_2 := blk_frozen BK216.out 2; have hfz99_3 := blk_frozen BK216.out 3; have hfz99_4 := blk_frozen BK216.out 4; have hfz99_5 := blk_frozen BK216.out 5) | ((with_reducible refine gate_callee (f := 16) rfl ?_); refine goesL_ (some 55) rfl rfl Try.func16 (by kernel_rfl) rfl #[.agg #[.int .i64 t208, .int .i64 t209, .int .i64 t210, .int .i64 t211, .int .i64 t212, .slice Ao76 t213.length co76], .int .i64 t245] rfl tA ?_; (with_reducible refine (laws_markTimes.calls k t208 t209 t210 t211 t212 (fun k_ => some k_ = (.slice Ao76 t213.length co76 : Value).ownBlock) (.slice Ao76 t213.length co76) t213 t245 t247 t248 w _ ?side1 ?side2 A34.out).mono ?_); (case side1 => repeat (first | (with_reducible first | exact HB.out | apply below_alloc | apply pw_below_drewN | apply below_drew1 | refine below_set ?_ GE170.out | refine below_set ?_ GE171.out | refine below_set ?_ GE198.out | refine below_set ?_ GE207.out | refine below_set ?_ GE216.out | refine below_set ?_ GE225.out) | exact HB.out)); (case side2 => exact Kd.R_tight rfl HO215.out); rintro e w100 ⟨rfl, hy0, hb, hkp⟩; refine ⟨_, rfl, ?_⟩; have n0_ := Aside0.mk (blk_kept (tK BK170.out) hkp (fun hs_ => (fun e_ => (Kd.R_ne HO215.out BK170.out (by decide)) e_) hs_)); have n1_ := Aside0.mk (blk_kept (tK BK171.out) hkp (fun hs_ => (fun e_ => (Kd.R_ne HO215.out BK171.out (by decide)) e_) hs_)); have n2_ := Aside0.mk (Kd.R_mono (ok' := fun k_ => some k_ ≠ (v188 : Value).ownBlock ∧ some k_ ≠ (.slice Ao56 t195.length co56 : Value).ownBlock ∧ some k_ ≠ (.slice Ao66 t204.length co66 : Value).ownBlock ∧ some k_ ≠ (.slice Ao76 t213.length co76 : Value).ownBlock ∧ some k_ ≠ (.slice Ao86 t222.length co86 : Value).ownBlock ∧ some k_ ≠ (.slice Ao91 t232.length co91 : Value).ownBlock ∧ some k_ ≠ (.slice Ao95 t241.length co95 : Value).ownBlock) (Kd.R_keptB (HO181.out) hkp (fun k_ hk_ hs_ => (hk_.2.2.2.1) hs_)) (fun k_ hk_ => ⟨hk_.1.1, hk_.1.2.1, hk_.1.2.2.1, hk_.1.2.2.2.1, hk_.1.2.2.2.2.1, hk_.1.2.2.2.2.2.1, hk_.1.2.2.2.2.2.2⟩)); have n3_ := Aside0.mk (Kd.R_mono (ok' := fun k_ => some k_ ≠ (v180 : Value).ownBlock ∧ some k_ ≠ (.slice Ao56 t195.length co56 : Value).ownBlock ∧ some k_ ≠ (.slice Ao66 t204.length co66 : Value).ownBlock ∧ some k_ ≠ (.slice Ao76 t213.length co76 : Value).ownBlock ∧ some k_ ≠ (.slice Ao86 t222.length co86 : Value).ownBlock ∧ some k_ ≠ (.slice Ao91 t232.length co91 : Value).ownBlock ∧ some k_ ≠ (.slice Ao95 t241.length co95 : Value).ownBlock) (Kd.R_keptB (HO189.out) hkp (fun k_ hk_ hs_ => (hk_.2.2.2.1) hs_)) (fun k_ hk_ => ⟨hk_.1.1, hk_.1.2.1, hk_.1.2.2.1, hk_.1.2.2.2.1, hk_.1.2.2.2.2.1, hk_.1.2.2.2.2.2.1, hk_.1.2.2.2.2.2.2⟩)); have n4_ := Aside0.mk (Kd.R_mono (ok' := fun k_ => some k_ ≠ (v180 : Value).ownBlock ∧ some k_ ≠ (v188 : Value).ownBlock ∧ some k_ ≠ (.slice Ao66 t204.length co66 : Value).ownBlock ∧ some k_ ≠ (.slice Ao76 t213.length co76 : Value).ownBlock ∧ some k_ ≠ (.slice Ao86 t222.length co86 : Value).ownBlock ∧ some k_ ≠ (.slice Ao91 t232.length co91 : Value).ownBlock ∧ some k_ ≠ (.slice Ao95 t241.length co95 : Value).ownBlock) (Kd.R_keptB (HO197.out) hkp (fun k_ hk_ hs_ => (hk_.2.2.2.1) hs_)) (fun k_ hk_ => ⟨hk_.1.1, hk_.1.2.1, hk_.1.2.2.1, hk_.1.2.2.2.1, hk_.1.2.2.2.2.1, hk_.1.2.2.2.2.2.1, hk_.1.2.2.2.2.2.2⟩)); have n5_ := Aside0.mk (blk_kept (tK BK198.out) hkp (fun hs_ => (fun e_ => (Kd.R_ne HO215.out BK198.out (by decide)) e_) hs_)); have n6_ := Aside0.mk (Kd.R_mono (ok' := fun k_ => some k_ ≠ (v180 : Value).ownBlock ∧ some k_ ≠ (v188 : Value).ownBlock ∧ some k_ ≠ (.slice Ao56 t195.length co56 : Value).ownBlock ∧ some k_ ≠ (.slice Ao76 t213.length co76 : Value).ownBlock ∧ some k_ ≠ (.slice Ao86 t222.length co86 : Value).ownBlock ∧ some k_ ≠ (.slice Ao91 t232.length co91 : Value).ownBlock ∧ some k_ ≠ (.slice Ao95 t241.length co95 : Value).ownBlock) (Kd.R_keptB (HO206.out) hkp (fun k_ hk_ hs_ => (hk_.1.1.1.2) hs_)) (fun k_ hk_ => ⟨hk_.1.1.1.1.1.1.1.2, hk_.1.1.1.1.1.1.2, hk_.1.1.1.1.1.2, hk_.1.1.1.1.2, hk_.1.1.1.2, hk_.1.1.2, hk_.1.2⟩)); have n7_ := Aside0.mk (blk_kept (tK BK207.out) hkp (fun hs_ => (fun e_ => (Kd.R_ne HO215.out BK207.out (by decide)) e_) hs_)); have n8_ := Aside0.mk (Kd.R_reok rfl hy0 (fun k_ e_ => HO215.out.1 k_ e_)); have n9_ := Aside0.mk (blk_kept (tK BK216.out) hkp (fun hs_ => (fun e_ => (Kd.R_ne HO215.out BK216.out (by decide)) e_) hs_)); have n10_ := Aside0.mk (Kd.R_mono (ok' := fun k_ => some k_ ≠ (v180 : Value).ownBlock ∧ some k_ ≠ (v188 : Value).ownBlock ∧ some k_ ≠ (.slice Ao56 t195.length co56 : Value).ownBlock ∧ some k_ ≠ (.slice Ao66 t204.length co66 : Value).ownBlock ∧ some k_ ≠ (.slice Ao76 t213.length co76 : Value).ownBlock ∧ some k_ ≠ (.slice Ao91 t232.length co91 : Value).ownBlock ∧ some k_ ≠ (.slice Ao95 t241.length co95 : Value).ownBlock) (Kd.R_keptB (HO224.out) hkp (fun k_ hk_ hs_ => (hk_.2.2.2.2.1) hs_)) (fun k_ hk_ => ⟨hk_.1.1, hk_.1.2.1, hk_.1.2.2.1, hk_.1.2.2.2.1, hk_.1.2.2.2.2.1, hk_.1.2.2.2.2.2.1, hk_.1.2.2.2.2.2.2⟩)); have n11_ := Aside0.mk (blk_kept (tK BK225.out) hkp (fun hs_ => (fun e_ => (Kd.R_ne HO215.out BK225.out (by decide)) e_) hs_)); have n12_ := Aside0.mk (Kd.R_mono (ok' := fun k_ => some k_ ≠ (v180 : Value).ownBlock ∧ some k_ ≠ (v188 : Value).ownBlock ∧ some k_ ≠ (.slice Ao56 t195.length co56 : Value).ownBlock ∧ some k_ ≠ (.slice Ao66 t204.length co66 : Value).ownBlock ∧ some k_ ≠ (.slice Ao76 t213.length co76 : Value).ownBlock ∧ some k_ ≠ (.slice Ao86 t222.length co86 : Value).ownBlock ∧ some k_ ≠ (.slice Ao95 t241.length co95 : Value).ownBlock) (Kd.R_keptB (HO234.out) hkp (fun k_ hk_ hs_ => (hk_.2.2.2.2.1) hs_)) (fun k_ hk_ => ⟨hk_.1.1, hk_.1.2.1, hk_.1.2.2.1, hk_.1.2.2.2.1, hk_.1.2.2.2.2.1, hk_.1.2.2.2.2.2.1, hk_.1.2.2.2.2.2.2⟩)); have n13_ := Aside0.mk (Kd.R_mono (ok' := fun k_ => some k_ ≠ (v180 : Value).ownBlock ∧ some k_ ≠ (v188 : Value).ownBlock ∧ some k_ ≠ (.slice Ao56 t195.length co56 : Value).ownBlock ∧ some k_ ≠ (.slice Ao66 t204.length co66 : Value).ownBlock ∧ some k_ ≠ (.slice Ao76 t213.length co76 : Value).ownBlock ∧ some k_ ≠ (.slice Ao86 t222.length co86 : Value).ownBlock ∧ some k_ ≠ (.slice Ao91 t232.length co91 : Value).ownBlock) (Kd.R_keptB (HO243.out) hkp (fun k_ hk_ hs_ => (hk_.2.2.2.2.1) hs_)) (fun k_ hk_ => ⟨hk_.1.1, hk_.1.2.1, hk_.1.2.2.1, hk_.1.2.2.2.1, hk_.1.2.2.2.2.1, hk_.1.2.2.2.2.2.1, hk_.1.2.2.2.2.2.2⟩)); have n14_ := Aside0.mk (hb); clear BK170; clear BK171; clear HO181; clear HO189; clear HO197; clear BK198; clear HO206; clear BK207; clear HO215; clear BK216; clear HO224; clear BK225; clear HO234; clear HO243; clear HB; have BK170 := n0_; have BK171 := n1_; have HO181 := n2_; have HO189 := n3_; have HO197 := n4_; have BK198 := n5_; have HO206 := n6_; have BK207 := n7_; have HO215 := n8_; have BK216 := n9_; have HO224 := n10_; have BK225 := n11_; have HO234 := n12_; have HO243 := n13_; have HB := n14_; clear n0_ n1_ n2_ n3_ n4_ n5_ n6_ n7_ n8_ n9_ n10_ n11_ n12_ n13_ n14_; (try clear hb); (try clear hkp); (try clear hy0)))
   (try simp only [Act.put, List.setIfInBounds_toArray, List.set_cons_zero, List.set_cons_succ])
   go_cut [63] (fun v63 wc => ∃ (kq : Nat) (x63_34 : Bool), v63 = .bool x63_34 ∧ Aside0 (laws_FnExactTimesJoin.j0 kq x63_34 a0_0 a0_1 a0_2 a0_3 a0_4 l0_5 a1_0 a1_1 a1_2 a1_3 a1_4 l1_5 t190 t191 t192 t193 t194 t195 t217 t218 t219 t220 t221 t222 = some r) ∧ Aside0 (kq ≤ k) ∧ Aside0 (Kd.R (Kd.int .i64) 2 wc w.heap.size (fun k_ => some k_ ≠ ((.slice Ao66 t204.length co66) : Value).ownBlock ∧ some k_ ≠ ((.slice Ao76 t213.length co76) : Value).ownBlock ∧ some k_ ≠ ((.slice Ao86 t222.length co86) : Value).ownBlock) (.slice Ao56 t195.length co56) t195) ∧ Aside0 (Kd.R (Kd.int .i64) 2 wc w.heap.size (fun k_ => some k_ ≠ ((.slice Ao56 t195.length co56) : Value).ownBlock ∧ some k_ ≠ ((.slice Ao76 t213.length co76) : Value).ownBlock ∧ some k_ ≠ ((.slice Ao86 t222.length co86) : Value).ownBlock) (.slice Ao66 t204.length co66) t246) ∧ Aside0 (Kd.R (Kd.int .i64) 2 wc w.heap.size (fun k_ => some k_ ≠ ((.slice Ao56 t195.length co56) : Value).ownBlock ∧ some k_ ≠ ((.slice Ao66 t204.length co66) : Value).ownBlock ∧ some k_ ≠ ((.slice Ao86 t222.length co86) : Value).ownBlock) (.slice Ao76 t213.length co76) t248) ∧ Aside0 (Kd.R (Kd.int .i64) 2 wc w.heap.size (fun k_ => some k_ ≠ ((.slice Ao56 t195.length co56) : Value).ownBlock ∧ some k_ ≠ ((.slice Ao66 t204.length co66) : Value).ownBlock ∧ some k_ ≠ ((.slice Ao76 t213.length co76) : Value).ownBlock) (.slice Ao86 t222.length co86) t222) ∧ Aside0 (wc.heap[gb170]? = some (.cells #[.int .i64 a0_0, .int .i64 a0_1, .int .i64 a0_2, .int .i64 a0_3, .int .i64 a0_4, (.slice A0_5 l0_5.length c0_5)] 24 (0, 0))) ∧ Aside0 (wc.heap[gb171]? = some (.cells #[.int .i64 a1_0, .int .i64 a1_1, .int .i64 a1_2, .int .i64 a1_3, .int .i64 a1_4, (.slice A1_5 l1_5.length c1_5)] 24 (0, 0))) ∧ Aside0 (wc.heap[gb198]? = some (.cells #[.int .i64 t190, .int .i64 t191, .int .i64 t192, .int .i64 t193, .int .i64 t194, (.slice Ao56 t195.length co56)] 26 (0, 0))) ∧ Aside0 (wc.heap[gb207]? = some (.cells #[.int .i64 t199, .int .i64 t200, .int .i64 t201, .int .i64 t202, .int .i64 t203, (.slice Ao66 t204.length co66)] 26 (0, 0))) ∧ Aside0 (wc.heap[gb216]? = some (.cells #[.int .i64 t208, .int .i64 t209, .int .i64 t210, .int .i64 t211, .int .i64 t212, (.slice Ao76 t213.length co76)] 26 (0, 0))) ∧ Aside0 (wc.heap[gb225]? = some (.cells #[.int .i64 t217, .int .i64 t218, .int .i64 t219, .int .i64 t220, .int .i64 t221, (.slice Ao86 t222.length co86)] 26 (0, 0))) ∧ Aside0 (Below w.heap.size w wc))
   case first =>
    have H := HC35.out
    clear HC35
    by_cases c101 : t247 < 0
    case neg =>
     rw [if_neg c101] at H
     have c101b0 : decide (t247 < 0) = false := decide_eq_false c101
     clear c101
     (first | rw [c101b0] | (simp only [i64_w, i32_w]; rw [c101b0]) | skip)
     replace H := Option.bind_eq_some_iff.mp H
     obtain ⟨t249, A1020, H⟩ := H
     replace H : (laws_FnExactTimesJoin.j0 k (!t249) a0_0 a0_1 a0_2 a0_3 a0_4 l0_5 a1_0 a1_1 a1_2 a1_3 a1_4 l1_5 t190 t191 t192 t193 t194 t195 t217 t218 t219 t220 t221 t222) = some r := H
     have A102 := Aside0.mk A1020
     clear A1020
     have H' := Aside0.mk H
     clear H
     have hnb103 := NB225_170.out
     have hnc103 := NB170_225.out
     have hnb104 := NB225_171.out
     have hnc104 := NB171_225.out
     have hnb105 := NB225_198.out
     have hnc105 := NB198_225.out
     have hnb106 := NB225_207.out
     have hnc106 := NB207_225.out
     have hnb107 := NB225_216.out
     have hnc107 := NB216_225.out
     have hcz108_0 : w100.cell? ⟨gb225, 0, none⟩ = some (.int .i64 t217) := (blk_cell BK225.out 0).trans rfl
     have hcz108_1 : w100.cell? ⟨gb225, 1, none⟩ = some (.int .i64 t218) := (blk_cell BK225.out 1).trans rfl
     have hcz108_2 : w100.cell? ⟨gb225, 2, none⟩ = some (.int .i64 t219) := (blk_cell BK225.out 2).trans rfl
     have hcz108_3 : w100.cell? ⟨gb225, 3, none⟩ = some (.int .i64 t220) := (blk_cell BK225.out 3).trans rfl
     have hcz108_4 : w100.cell? ⟨gb225, 4, none⟩ = some (.int .i64 t221) := (blk_cell BK225.out 4).trans rfl
     have hcz108_5 : w100.cell? ⟨gb225, 5, none⟩ = some (.slice Ao86 t222.length co86) := (blk_cell BK225.out 5).trans rfl
     have hfz108_0 := blk_frozen BK225.out 0
     have hfz108_1 := blk_frozen BK225.out 1
     have hfz108_2 := blk_frozen BK225.out 2
     have hfz108_3 := blk_frozen BK225.out 3
     have hfz108_4 := blk_frozen BK225.out 4
     have hfz108_5 := blk_frozen BK225.out 5
     have hnb109 := NB198_170.out
     have hnc109 := NB170_198.out
     have hnb110 := NB198_171.out
     have hnc110 := NB171_198.out
     have hnb111 := NB198_207.out
     have hnc111 := NB207_198.out
     have hnb112 := NB198_216.out
     have hnc112 := NB216_198.out
     have hcz113_0 : w100.cell? ⟨gb198, 0, none⟩ = some (.int .i64 t190) := (blk_cell BK198.out 0).trans rfl
     have hcz113_1 : w100.cell? ⟨gb198, 1, none⟩ = some (.int .i64 t191) := (blk_cell BK198.out 1).trans rfl
     have hcz113_2 : w100.cell? ⟨gb198, 2, none⟩ = some (.int .i64 t192) := (blk_cell BK198.out 2).trans rfl
     have hcz113_3 : w100.cell? ⟨gb198, 3, none⟩ = some (.int .i64 t193) := (blk_cell BK198.out 3).trans rfl
     have hcz113_4 : w100.cell? ⟨gb198, 4, none⟩ = some (.int .i64 t194) := (blk_cell BK198.out 4).trans rfl
     have hcz113_5 : w100.cell? ⟨gb198, 5, none⟩ = some (.slice Ao56 t195.length co56) := (blk_cell BK198.out 5).trans rfl
     have hfz113_0 := blk_frozen BK198.out 0
     have hfz113_1 := blk_frozen BK198.out 1
     have hfz113_2 := blk_frozen BK198.out 2
     have hfz113_3 := blk_frozen BK198.out 3
     have hfz113_4 := blk_frozen BK198.out 4
     have hfz113_5 := blk_frozen BK198.out 5
     go_wp2_with (first | (go_at_call 15; (with_reducible refine (laws_eqTimes.calls k t217 t218 t219 t220 t221 _ _ t222 t190 t191 t192 t193 t194 _ _ t195 t249 _ ?side1 ?side2 ?side3 ?side4 A102.out).mono ?_); (case side1 => repeat (first | exact (Kd.R_reads' HO224.out).2.2 | (with_reducible refine Kd.C_alloc ?_ _) | (with_reducible refine Kd.C_drewN ?_ _) | (with_reducible refine Kd.C_drew ?_))); (case side2 => exact (Kd.R_reads' HO224.out).2.1); (case side3 => repeat (first | exact (Kd.R_reads' HO197.out).2.2 | (with_reducible refine Kd.C_alloc ?_ _) | (with_reducible refine Kd.C_drewN ?_ _) | (with_reducible refine Kd.C_drew ?_))); (case side4 => exact (Kd.R_reads' HO197.out).2.1); rintro e w114 ⟨rfl, hb⟩; have n0_ := Aside0.mk (Kd.R_below (tR HO181.out) hb); have n1_ := Aside0.mk (Kd.R_below (tR HO189.out) hb); have n2_ := Aside0.mk (Kd.R_below (tR HO197.out) hb); have n3_ := Aside0.mk (Kd.R_below (tR HO206.out) hb); have n4_ := Aside0.mk (Kd.R_below (tR HO215.out) hb); have n5_ := Aside0.mk (Kd.R_below (tR HO224.out) hb); have n6_ := Aside0.mk (Kd.R_below (tR HO234.out) hb); have n7_ := Aside0.mk (Kd.R_below (tR HO243.out) hb); have n8_ := Aside0.mk (blk_below (tK BK170.out) hb); have n9_ := Aside0.mk (blk_below (tK BK171.out) hb); have n10_ := Aside0.mk (blk_below (tK BK198.out) hb); have n11_ := Aside0.mk (blk_below (tK BK207.out) hb); have n12_ := Aside0.mk (blk_below (tK BK216.out) hb); have n13_ := Aside0.mk (blk_below (tK BK225.out) hb); have n14_ := Aside0.mk (below_step tBs hb); clear HO181; clear HO189; clear HO197; clear HO206; clear HO215; clear HO224; clear HO234; clear HO243; clear BK170; clear BK171; clear BK198; clear BK207; clear BK216; clear BK225; clear HB; have HO181 := n0_; have HO189 := n1_; have HO197 := n2_; have HO206 := n3_; have HO215 := n4_; have HO224 := n5_; have HO234 := n6_; have HO243 := n7_; have BK170 := n8_; have BK171 := n9_; have BK198 := n10_; have BK207 := n11_; have BK216 := n12_; have BK225 := n13_; have HB := n14_; clear n0_ n1_ n2_ n3_ n4_ n5_ n6_ n7_ n8_ n9_ n10_ n11_ n12_ n13_ n14_; (try clear hb); (try clear hb2); (try clear hk); (try clear hi)))
     go_meet
     case rel => exact ⟨_, (!t249), (by first | rfl | (simp; done) | (simp [*]; done)), H', ⟨by first | omega | exact Nat.le_refl _⟩, ⟨by (with_reducible repeat (first | apply Kd.R_alloc | apply Kd.R_drewN | apply Kd.R_drew)); exact Kd.R_mono HO197.out (fun _ hk => ⟨hk.2.2.1, ⟨hk.2.2.2.1, hk.2.2.2.2.1⟩⟩)⟩, ⟨by (with_reducible repeat (first | apply Kd.R_alloc | apply Kd.R_drewN | apply Kd.R_drew)); exact Kd.R_mono HO206.out (fun _ hk => ⟨hk.2.2.1, ⟨hk.2.2.2.1, hk.2.2.2.2.1⟩⟩)⟩, ⟨by (with_reducible repeat (first | apply Kd.R_alloc | apply Kd.R_drewN | apply Kd.R_drew)); exact Kd.R_mono HO215.out (fun _ hk => ⟨hk.2.2.1, ⟨hk.2.2.2.1, hk.2.2.2.2.1⟩⟩)⟩, ⟨by (with_reducible repeat (first | apply Kd.R_alloc | apply Kd.R_drewN | apply Kd.R_drew)); exact Kd.R_mono HO224.out (fun _ hk => ⟨hk.2.2.1, ⟨hk.2.2.2.1, hk.2.2.2.2.1⟩⟩)⟩, ⟨by (with_reducible repeat (first | refine blk_drewN ?_ _ | refine blk_drew ?_ | refine blk_alloc ?_ _)); exact BK170.out⟩, ⟨by (with_reducible repeat (first | refine blk_drewN ?_ _ | refine blk_drew ?_ | refine blk_alloc ?_ _)); exact BK171.out⟩, ⟨by (with_reducible repeat (first | refine blk_drewN ?_ _ | refine blk_drew ?_ | refine blk_alloc ?_ _)); exact BK198.out⟩, ⟨by (with_reducible repeat (first | refine blk_drewN ?_ _ | refine blk_drew ?_ | refine blk_alloc ?_ _)); exact BK207.out⟩, ⟨by (with_reducible repeat (first | refine blk_drewN ?_ _ | refine blk_drew ?_ | refine blk_alloc ?_ _)); exact BK216.out⟩, ⟨by (with_reducible repeat (first | refine blk_drewN ?_ _ | refine blk_drew ?_ | refine blk_alloc ?_ _)); exact BK225.out⟩, ⟨by repeat (first | (with_reducible first | exact HB.out | apply below_alloc | apply pw_below_drewN | apply below_drew1 | refine below_set ?_ GE170.out | refine below_set ?_ GE171.out | refine below_set ?_ GE198.out | refine below_set ?_ GE207.out | refine below_set ?_ GE216.out | refine below_set ?_ GE225.out) | exact HB.out)⟩⟩
    rw [if_pos c101] at H
    have c101b0 : decide (t247 < 0) = true := decide_eq_true c101
    clear c101
    (first | rw [c101b0] | (simp only [i64_w, i32_w]; rw [c101b0]) | skip)
    have H' := Aside0.mk H
    clear H
    go_wp2
    go_meet
    case rel => exact ⟨_, (true), (by first | rfl | (simp; done) | (simp [*]; done)), H', ⟨by first | omega | exact Nat.le_refl _⟩, ⟨by (with_reducible repeat (first | apply Kd.R_alloc | apply Kd.R_drewN | apply Kd.R_drew)); exact Kd.R_mono HO197.out (fun _ hk => ⟨hk.2.2.1, ⟨hk.2.2.2.1, hk.2.2.2.2.1⟩⟩)⟩, ⟨by (with_reducible repeat (first | apply Kd.R_alloc | apply Kd.R_drewN | apply Kd.R_drew)); exact Kd.R_mono HO206.out (fun _ hk => ⟨hk.2.2.1, ⟨hk.2.2.2.1, hk.2.2.2.2.1⟩⟩)⟩, ⟨by (with_reducible repeat (first | apply Kd.R_alloc | apply Kd.R_drewN | apply Kd.R_drew)); exact Kd.R_mono HO215.out (fun _ hk => ⟨hk.2.2.1, ⟨hk.2.2.2.1, hk.2.2.2.2.1⟩⟩)⟩, ⟨by (with_reducible repeat (first | apply Kd.R_alloc | apply Kd.R_drewN | apply Kd.R_drew)); exact Kd.R_mono HO224.out (fun _ hk => ⟨hk.2.2.1, ⟨hk.2.2.2.1, hk.2.2.2.2.1⟩⟩)⟩, ⟨by (with_reducible repeat (first | refine blk_drewN ?_ _ | refine blk_drew ?_ | refine blk_alloc ?_ _)); exact BK170.out⟩, ⟨by (with_reducible repeat (first | refine blk_drewN ?_ _ | refine blk_drew ?_ | refine blk_alloc ?_ _)); exact BK171.out⟩, ⟨by (with_reducible repeat (first | refine blk_drewN ?_ _ | refine blk_drew ?_ | refine blk_alloc ?_ _)); exact BK198.out⟩, ⟨by (with_reducible repeat (first | refine blk_drewN ?_ _ | refine blk_drew ?_ | refine blk_alloc ?_ _)); exact BK207.out⟩, ⟨by (with_reducible repeat (first | refine blk_drewN ?_ _ | refine blk_drew ?_ | refine blk_alloc ?_ _)); exact BK216.out⟩, ⟨by (with_reducible repeat (first | refine blk_drewN ?_ _ | refine blk_drew ?_ | refine blk_alloc ?_ _)); exact BK225.out⟩, ⟨by repeat (first | (with_reducible first | exact HB.out | apply below_alloc | apply pw_below_drewN | apply below_drew1 | refine below_set ?_ GE170.out | refine below_set ?_ GE171.out | refine below_set ?_ GE198.out | refine below_set ?_ GE207.out | refine below_set ?_ GE216.out | refine below_set ?_ GE225.out) | exact HB.out)⟩⟩
   case rest =>
    clear HC35
    try clear c1
    try clear p2
    try clear c5
    try clear c6
    try clear c7
    try clear c8
    try clear c10
    try clear c11
    try clear c13
    try clear c14
    try clear c15
    try clear c16
    try clear c58
    try clear c62
    try clear c63
    try clear c64
    try clear c67
    try clear c71
    try clear c72
    try clear c73
    try clear c74
    try clear c80
    try clear c81
    try clear c82
    try clear c83
    try clear c84
    try clear c101
    try clear c101b0
    try clear c103
    try clear c104
    try clear c105
    try clear c106
    try clear c107
    try clear c109
    try clear c110
    try clear c111
    try clear c112
    try clear hcz108_0
    try clear hcz108_1
    try clear hcz108_2
    try clear hcz108_3
    try clear hcz108_4
    try clear hcz108_5
    try clear hcz113_0
    try clear hcz113_1
    try clear hcz113_2
    try clear hcz113_3
    try clear hcz113_4
    try clear hcz113_5
    try clear hcz59_0
    try clear hcz59_1
    try clear hcz59_2
    try clear hcz59_3
    try clear hcz59_4
    try clear hcz59_5
    try clear hcz65_0
    try clear hcz65_1
    try clear hcz65_2
    try clear hcz65_3
    try clear hcz65_4
    try clear hcz65_5
    try clear hcz68_0
    try clear hcz68_1
    try clear hcz68_2
    try clear hcz68_3
    try clear hcz68_4
    try clear hcz68_5
    try clear hcz75_0
    try clear hcz75_1
    try clear hcz75_2
    try clear hcz75_3
    try clear hcz75_4
    try clear hcz75_5
    try clear hcz77_0
    try clear hcz77_1
    try clear hcz77_2
    try clear hcz77_3
    try clear hcz77_4
    try clear hcz77_5
    try clear hcz85_0
    try clear hcz85_1
    try clear hcz85_2
    try clear hcz85_3
    try clear hcz85_4
    try clear hcz85_5
    try clear hcz87_0
    try clear hcz87_1
    try clear hcz87_2
    try clear hcz87_3
    try clear hcz87_4
    try clear hcz87_5
    try clear hcz97_0
    try clear hcz97_1
    try clear hcz97_2
    try clear hcz97_3
    try clear hcz97_4
    try clear hcz97_5
    try clear hcz99_0
    try clear hcz99_1
    try clear hcz99_2
    try clear hcz99_3
    try clear hcz99_4
    try clear hcz99_5
    try clear hfz108_0
    try clear hfz108_1
    try clear hfz108_2
    try clear hfz108_3
    try clear hfz108_4
    try clear hfz108_5
    try clear hfz113_0
    try clear hfz113_1
    try clear hfz113_2
    try clear hfz113_3
    try clear hfz113_4
    try clear hfz113_5
    try clear hfz59_0
    try clear hfz59_1
    try clear hfz59_2
    try clear hfz59_3
    try clear hfz59_4
    try clear hfz59_5
    try clear hfz65_0
    try clear hfz65_1
    try clear hfz65_2
    try clear hfz65_3
    try clear hfz65_4
    try clear hfz65_5
    try clear hfz68_0
    try clear hfz68_1
    try clear hfz68_2
    try clear hfz68_3
    try clear hfz68_4
    try clear hfz68_5
    try clear hfz75_0
    try clear hfz75_1
    try clear hfz75_2
    try clear hfz75_3
    try clear hfz75_4
    try clear hfz75_5
    try clear hfz77_0
    try clear hfz77_1
    try clear hfz77_2
    try clear hfz77_3
    try clear hfz77_4
    try clear hfz77_5
    try clear hfz85_0
    try clear hfz85_1
    try clear hfz85_2
    try clear hfz85_3
    try clear hfz85_4
    try clear hfz85_5
    try clear hfz87_0
    try clear hfz87_1
    try clear hfz87_2
    try clear hfz87_3
    try clear hfz87_4
    try clear hfz87_5
    try clear hfz97_0
    try clear hfz97_1
    try clear hfz97_2
    try clear hfz97_3
    try clear hfz97_4
    try clear hfz97_5
    try clear hfz99_0
    try clear hfz99_1
    try clear hfz99_2
    try clear hfz99_3
    try clear hfz99_4
    try clear hfz99_5
    obtain ⟨kq, x63_34, rfl, HA, HJ34, HO_199005, HO_208005, HO_217005, HO_226005, BK170, BK171, BK198, BK207, BK216, BK225, HB⟩ := hcut
    have hl208005_34 := (Kd.R_reads' HO_208005.out).1
    rw [hl208005_34] at HO_208005
    (try simp only [hl208005_34])
    (try simp only [hl208005_34] at BK170)
    (try simp only [hl208005_34] at BK171)
    (try simp only [hl208005_34] at BK198)
    (try simp only [hl208005_34] at BK207)
    (try simp only [hl208005_34] at BK216)
    (try simp only [hl208005_34] at BK225)
    (try simp only [hl208005_34] at HO_199005)
    (try simp only [hl208005_34] at HO_217005)
    (try simp only [hl208005_34] at HO_226005)
    have hl217005_34 := (Kd.R_reads' HO_217005.out).1
    rw [hl217005_34] at HO_217005
    (try simp only [hl217005_34])
    (try simp only [hl217005_34] at BK170)
    (try simp only [hl217005_34] at BK171)
    (try simp only [hl217005_34] at BK198)
    (try simp only [hl217005_34] at BK207)
    (try simp only [hl217005_34] at BK216)
    (try simp only [hl217005_34] at BK225)
    (try simp only [hl217005_34] at HO_199005)
    (try simp only [hl217005_34] at HO_208005)
    (try simp only [hl217005_34] at HO_226005)
    cases kq with
    | zero => exact absurd HA.out (by simp [laws_FnExactTimesJoin.j0])
    | succ kj34 =>
     have H := HA.out
     clear HA
     simp only [laws_FnExactTimesJoin.j0] at H
     by_cases c115 : x63_34 = true
     case neg =>
      replace c115 := Bool.eq_false_iff.mpr c115
      subst c115
      have H1 : ((laws_markTimes.f kj34 t217 t218 t219 t220 t221 t222 1).bind fun bt250 => ((laws_heldTimes.f kj34 t217 t218 t219 t220 t221 bt250.2 1).bind fun t252 => (if t252 < 0 then (some false) else (if t252 = bt250.1 then ((laws_toTimes.f kj34 a0_0 a0_1 a0_2 a0_3 a0_4 l0_5).bind fun bt253 => ((laws_toTimes.f kj34 a1_0 a1_1 a1_2 a1_3 a1_4 l1_5).bind fun bt261 => ((impl_TimesJoin.f kj34 bt253.1 bt253.2.1 bt253.2.2.1 bt253.2.2.2.1 bt253.2.2.2.2.1 bt253.2.2.2.2.2 bt261.1 bt261.2.1 bt261.2.2.1 bt261.2.2.2.1 bt261.2.2.2.2.1 bt261.2.2.2.2.2).bind fun bt269 => ((laws_eqTimes.f kj34 bt269.1 bt269.2.1 bt269.2.2.1 bt269.2.2.2.1 bt269.2.2.2.2.1 bt269.2.2.2.2.2 t190 t191 t192 t193 t194 t195).bind fun t278 => (if t278 = true then ((laws_heldTimes.f kj34 t217 t218 t219 t220 t221 bt250.2 1).bind fun t279 => (if t279 < 0 then (some false) else (if t279 = bt250.1 then (some true) else (some false)))) else (some false)))))) else (some false))))) = some r := by rw [if_neg (show ¬ (false = true) by decide)] at H; exact H
      clear H
      have H := H1
      clear H1
      replace H := Option.bind_eq_some_iff.mp H
      obtain ⟨⟨t250, t251⟩, A1160, H⟩ := H
      replace H : ((laws_heldTimes.f kj34 t217 t218 t219 t220 t221 t251 1).bind fun t252 => (if t252 < 0 then (some false) else (if t252 = t250 then ((laws_toTimes.f kj34 a0_0 a0_1 a0_2 a0_3 a0_4 l0_5).bind fun bt253 => ((laws_toTimes.f kj34 a1_0 a1_1 a1_2 a1_3 a1_4 l1_5).bind fun bt261 => ((impl_TimesJoin.f kj34 bt253.1 bt253.2.1 bt253.2.2.1 bt253.2.2.2.1 bt253.2.2.2.2.1 bt253.2.2.2.2.2 bt261.1 bt261.2.1 bt261.2.2.1 bt261.2.2.2.1 bt261.2.2.2.2.1 bt261.2.2.2.2.2).bind fun bt269 => ((laws_eqTimes.f kj34 bt269.1 bt269.2.1 bt269.2.2.1 bt269.2.2.2.1 bt269.2.2.2.2.1 bt269.2.2.2.2.2 t190 t191 t192 t193 t194 t195).bind fun t278 => (if t278 = true then ((laws_heldTimes.f kj34 t217 t218 t219 t220 t221 t251 1).bind fun t279 => (if t279 < 0 then (some false) else (if t279 = t250 then (some true) else (some false)))) else (some false)))))) else (some false)))) = some r := H
      have A116 := Aside0.mk A1160
      clear A1160
      replace H := Option.bind_eq_some_iff.mp H
      obtain ⟨t252, A1170, H⟩ := H
      replace H : (if t252 < 0 then (some false) else (if t252 = t250 then ((laws_toTimes.f kj34 a0_0 a0_1 a0_2 a0_3 a0_4 l0_5).bind fun bt253 => ((laws_toTimes.f kj34 a1_0 a1_1 a1_2 a1_3 a1_4 l1_5).bind fun bt261 => ((impl_TimesJoin.f kj34 bt253.1 bt253.2.1 bt253.2.2.1 bt253.2.2.2.1 bt253.2.2.2.2.1 bt253.2.2.2.2.2 bt261.1 bt261.2.1 bt261.2.2.1 bt261.2.2.2.1 bt261.2.2.2.2.1 bt261.2.2.2.2.2).bind fun bt269 => ((laws_eqTimes.f kj34 bt269.1 bt269.2.1 bt269.2.2.1 bt269.2.2.2.1 bt269.2.2.2.2.1 bt269.2.2.2.2.2 t190 t191 t192 t193 t194 t195).bind fun t278 => (if t278 = true then ((laws_heldTimes.f kj34 t217 t218 t219 t220 t221 t251 1).bind fun t279 => (if t279 < 0 then (some false) else (if t279 = t250 then (some true) else (some false)))) else (some false)))))) else (some false))) = some r := H
      have A117 := Aside0.mk A1170
      clear A1170
      by_cases c118 : t252 < 0
      case neg =>
       rw [if_neg c118] at H
       have c118b0 : decide (t252 < 0) = false := decide_eq_false c118
       clear c118
       by_cases c119 : t252 = t250
       case neg =>
        rw [if_neg c119] at H
        have c119b0 : (t252 == t250) = false := beq_eq_false_iff_ne.mpr c119
        have c119b1 : (t252 != t250) = true := bne_iff_ne.mpr c119
        obtain rfl := Option.some.inj H
        exact absurd ht (by decide)
       rw [if_pos c119] at H
       have c119b0 : (t252 == t250) = true := beq_iff_eq.mpr c119
       have c119b1 : (t252 != t250) = false := bne_eq_false_iff_eq.mpr c119
       clear c119
       replace H := Option.bind_eq_some_iff.mp H
       obtain ⟨⟨t253, t254, t255, t256, t257, t258⟩, A1200, H⟩ := H
       replace H : ((laws_toTimes.f kj34 a1_0 a1_1 a1_2 a1_3 a1_4 l1_5).bind fun bt261 => ((impl_TimesJoin.f kj34 t253 t254 t255 t256 t257 t258 bt261.1 bt261.2.1 bt261.2.2.1 bt261.2.2.2.1 bt261.2.2.2.2.1 bt261.2.2.2.2.2).bind fun bt269 => ((laws_eqTimes.f kj34 bt269.1 bt269.2.1 bt269.2.2.1 bt269.2.2.2.1 bt269.2.2.2.2.1 bt269.2.2.2.2.2 t190 t191 t192 t193 t194 t195).bind fun t278 => (if t278 = true then ((laws_heldTimes.f kj34 t217 t218 t219 t220 t221 t251 1).bind fun t279 => (if t279 < 0 then (some false) else (if t279 = t250 then (some true) else (some false)))) else (some false))))) = some r := H
       have A120 := Aside0.mk A1200
       clear A1200
       replace H := Option.bind_eq_some_iff.mp H
       obtain ⟨⟨t261, t262, t263, t264, t265, t266⟩, A1210, H⟩ := H
       replace H : ((impl_TimesJoin.f kj34 t253 t254 t255 t256 t257 t258 t261 t262 t263 t264 t265 t266).bind fun bt269 => ((laws_eqTimes.f kj34 bt269.1 bt269.2.1 bt269.2.2.1 bt269.2.2.2.1 bt269.2.2.2.2.1 bt269.2.2.2.2.2 t190 t191 t192 t193 t194 t195).bind fun t278 => (if t278 = true then ((laws_heldTimes.f kj34 t217 t218 t219 t220 t221 t251 1).bind fun t279 => (if t279 < 0 then (some false) else (if t279 = t250 then (some true) else (some false)))) else (some false)))) = some r := H
       have A121 := Aside0.mk A1210
       clear A1210
       replace H := Option.bind_eq_some_iff.mp H
       obtain ⟨⟨t269, t270, t271, t272, t273, t274⟩, A1220, H⟩ := H
       replace H : ((laws_eqTimes.f kj34 t269 t270 t271 t272 t273 t274 t190 t191 t192 t193 t194 t195).bind fun t278 => (if t278 = true then ((laws_heldTimes.f kj34 t217 t218 t219 t220 t221 t251 1).bind fun t279 => (if t279 < 0 then (some false) else (if t279 = t250 then (some true) else (some false)))) else (some false))) = some r := H
       have A122 := Aside0.mk A1220
       clear A1220
       replace H := Option.bind_eq_some_iff.mp H
       obtain ⟨t278, A1230, H⟩ := H
       replace H : (if t278 = true then ((laws_heldTimes.f kj34 t217 t218 t219 t220 t221 t251 1).bind fun t279 => (if t279 < 0 then (some false) else (if t279 = t250 then (some true) else (some false)))) else (some false)) = some r := H
       have A123 := Aside0.mk A1230
       clear A1230
       by_cases c124 : t278 = true
       case neg =>
        replace c124 := Bool.eq_false_iff.mpr c124
        subst c124
        have H1 : (some false) = some r := by rw [if_neg (show ¬ (false = true) by decide)] at H; exact H
        clear H
        have H := H1
        clear H1
        obtain rfl := Option.some.inj H
        exact absurd ht (by decide)
       subst c124
       have H1 : ((laws_heldTimes.f kj34 t217 t218 t219 t220 t221 t251 1).bind fun t279 => (if t279 < 0 then (some false) else (if t279 = t250 then (some true) else (some false)))) = some r := by rw [if_pos rfl] at H; exact H
       clear H
       have H := H1
       clear H1
       replace H := Option.bind_eq_some_iff.mp H
       obtain ⟨t279, A1250, H⟩ := H
       replace H : (if t279 < 0 then (some false) else (if t279 = t250 then (some true) else (some false))) = some r := H
       have A125 := Aside0.mk A1250
       clear A1250
       by_cases c126 : t279 < 0
       case neg =>
        rw [if_neg c126] at H
        have c126b0 : decide (t279 < 0) = false := decide_eq_false c126
        clear c126
        by_cases c127 : t279 = t250
        case neg =>
         rw [if_neg c127] at H
         have c127b0 : (t279 == t250) = false := beq_eq_false_iff_ne.mpr c127
         have c127b1 : (t279 != t250) = true := bne_iff_ne.mpr c127
         obtain rfl := Option.some.inj H
         exact absurd ht (by decide)
        rw [if_pos c127] at H
        have c127b0 : (t279 == t250) = true := beq_iff_eq.mpr c127
        have c127b1 : (t279 != t250) = false := bne_eq_false_iff_eq.mpr c127
        clear c127 ht
        obtain rfl := Option.some.inj H
        have hnb128 := NB225_170.out
        have hnc128 := NB170_225.out
        have hnb129 := NB225_171.out
        have hnc129 := NB171_225.out
        have hnb130 := NB225_198.out
        have hnc130 := NB198_225.out
        have hnb131 := NB225_207.out
        have hnc131 := NB207_225.out
        have hnb132 := NB225_216.out
        have hnc132 := NB216_225.out
        have hcz133_0 : wc.cell? ⟨gb225, 0, none⟩ = some (.int .i64 t217) := (blk_cell BK225.out 0).trans rfl
        have hcz133_1 : wc.cell? ⟨gb225, 1, none⟩ = some (.int .i64 t218) := (blk_cell BK225.out 1).trans rfl
        have hcz133_2 : wc.cell? ⟨gb225, 2, none⟩ = some (.int .i64 t219) := (blk_cell BK225.out 2).trans rfl
        have hcz133_3 : wc.cell? ⟨gb225, 3, none⟩ = some (.int .i64 t220) := (blk_cell BK225.out 3).trans rfl
        have hcz133_4 : wc.cell? ⟨gb225, 4, none⟩ = some (.int .i64 t221) := (blk_cell BK225.out 4).trans rfl
        have hcz133_5 : wc.cell? ⟨gb225, 5, none⟩ = some (.slice Ao86 t222.length co86) := (blk_cell BK225.out 5).trans rfl
        have hfz133_0 := blk_frozen BK225.out 0
        have hfz133_1 := blk_frozen BK225.out 1
        have hfz133_2 := blk_frozen BK225.out 2
        have hfz133_3 := blk_frozen BK225.out 3
        have hfz133_4 := blk_frozen BK225.out 4
        have hfz133_5 := blk_frozen BK225.out 5
        try go_wp2_with (first | ((with_reducible refine gate_callee (f := 16) rfl ?_); refine goesL_ (some 66) rfl rfl Try.func16 (by kernel_rfl) rfl #[.agg #[.int .i64 t217, .int .i64 t218, .int .i64 t219, .int .i64 t220, .int .i64 t221, .slice Ao86 t222.length co86], .int .i64 1] rfl tA ?_; (with_reducible refine (laws_markTimes.calls kj34 t217 t218 t219 t220 t221 (fun k_ => some k_ = (.slice Ao86 t222.length co86 : Value).ownBlock) (.slice Ao86 t222.length co86) t222 1 t250 t251 w _ ?side1 ?side2 A116.out).mono ?_); (case side1 => repeat (first | (with_reducible first | exact HB.out | apply below_alloc | apply pw_below_drewN | apply below_drew1 | refine below_set ?_ GE170.out | refine below_set ?_ GE171.out | refine below_set ?_ GE198.out | refine below_set ?_ GE207.out | refine below_set ?_ GE216.out | refine below_set ?_ GE225.out) | exact HB.out)); (case side2 => exact Kd.R_tight rfl HO_226005.out); rintro e w134 ⟨rfl, hy0, hb, hkp⟩; refine ⟨_, rfl, ?_⟩; have n0_ := Aside0.mk (Kd.R_mono (ok' := fun k_ => some k_ ≠ (.slice Ao66 t246.length co66 : Value).ownBlock ∧ some k_ ≠ (.slice Ao76 t248.length co76 : Value).ownBlock ∧ some k_ ≠ (.slice Ao86 t222.length co86 : Value).ownBlock) (Kd.R_keptB (HO_199005.out) hkp (fun k_ hk_ hs_ => (hk_.2.2) hs_)) (fun k_ hk_ => ⟨hk_.1.1, hk_.1.2.1, hk_.1.2.2⟩)); have n1_ := Aside0.mk (Kd.R_mono (ok' := fun k_ => some k_ ≠ (.slice Ao56 t195.length co56 : Value).ownBlock ∧ some k_ ≠ (.slice Ao76 t248.length co76 : Value).ownBlock ∧ some k_ ≠ (.slice Ao86 t222.length co86 : Value).ownBlock) (Kd.R_keptB (HO_208005.out) hkp (fun k_ hk_ hs_ => (hk_.2.2) hs_)) (fun k_ hk_ => ⟨hk_.1.1, hk_.1.2.1, hk_.1.2.2⟩)); have n2_ := Aside0.mk (Kd.R_mono (ok' := fun k_ => some k_ ≠ (.slice Ao56 t195.length co56 : Value).ownBlock ∧ some k_ ≠ (.slice Ao66 t246.length co66 : Value).ownBlock ∧ some k_ ≠ (.slice Ao86 t222.length co86 : Value).ownBlock) (Kd.R_keptB (HO_217005.out) hkp (fun k_ hk_ hs_ => (hk_.2.2) hs_)) (fun k_ hk_ => ⟨hk_.1.1, hk_.1.2.1, hk_.1.2.2⟩)); have n3_ := Aside0.mk (Kd.R_reok rfl hy0 (fun k_ e_ => HO_226005.out.1 k_ e_)); have n4_ := Aside0.mk (blk_kept (tK BK170.out) hkp (fun hs_ => (fun e_ => (Kd.R_ne HO_226005.out BK170.out (by decide)) e_) hs_)); have n5_ := Aside0.mk (blk_kept (tK BK171.out) hkp (fun hs_ => (fun e_ => (Kd.R_ne HO_226005.out BK171.out (by decide)) e_) hs_)); have n6_ := Aside0.mk (blk_kept (tK BK198.out) hkp (fun hs_ => (fun e_ => (Kd.R_ne HO_226005.out BK198.out (by decide)) e_) hs_)); have n7_ := Aside0.mk (blk_kept (tK BK207.out) hkp (fun hs_ => (fun e_ => (Kd.R_ne HO_226005.out BK207.out (by decide)) e_) hs_)); have n8_ := Aside0.mk (blk_kept (tK BK216.out) hkp (fun hs_ => (fun e_ => (Kd.R_ne HO_226005.out BK216.out (by decide)) e_) hs_)); have n9_ := Aside0.mk (blk_kept (tK BK225.out) hkp (fun hs_ => (fun e_ => (Kd.R_ne HO_226005.out BK225.out (by decide)) e_) hs_)); have n10_ := Aside0.mk (hb); clear HO_199005; clear HO_208005; clear HO_217005; clear HO_226005; clear BK170; clear BK171; clear BK198; clear BK207; clear BK216; clear BK225; clear HB; have HO_199005 := n0_; have HO_208005 := n1_; have HO_217005 := n2_; have HO_226005 := n3_; have BK170 := n4_; have BK171 := n5_; have BK198 := n6_; have BK207 := n7_; have BK216 := n8_; have BK225 := n9_; have HB := n10_; clear n0_ n1_ n2_ n3_ n4_ n5_ n6_ n7_ n8_ n9_ n10_; (try clear hb); (try clear hkp); (try clear hy0); have hcz135_0 : w134.cell? ⟨gb225, 0, none⟩ = some (.int .i64 t217) := (blk_cell BK225.out 0).trans rfl; have hcz135_1 : w134.cell? ⟨gb225, 1, none⟩ = some (.int .i64 t218) := (blk_cell BK225.out 1).trans rfl; have hcz135_2 : w134.cell? ⟨gb225, 2, none⟩ = some (.int .i64 t219) := (blk_cell BK225.out 2).trans rfl; have hcz135_3 : w134.cell? ⟨gb225, 3, none⟩ = some (.int .i64 t220) := (blk_cell BK225.out 3).trans rfl; have hcz135_4 : w134.cell? ⟨gb225, 4, none⟩ = some (.int .i64 t221) := (blk_cell BK225.out 4).trans rfl; have hcz135_5 : w134.cell? ⟨gb225, 5, none⟩ = some (.slice Ao86 t222.length co86) := (blk_cell BK225.out 5).trans rfl; have hfz135_0 := blk_frozen BK225.out 0; have hfz135_1 := blk_frozen BK225.out 1; have hfz135_2 := blk_frozen BK225.out 2; have hfz135_3 := blk_frozen BK225.out 3; have hfz135_4 := blk_frozen BK225.out 4; have hfz135_5 := blk_frozen BK225.out 5) | ((with_reducible refine gate_callee (f := 17) rfl ?_); refine goesL_ (some 69) rfl rfl Try.func17 (by kernel_rfl) rfl #[.agg #[.int .i64 t217, .int .i64 t218, .int .i64 t219, .int .i64 t220, .int .i64 t221, .slice Ao86 t251.length co86], .int .i64 1] rfl (by (try simp only [List.map_toArray, List.map_cons, List.map_nil]); first | done | (rw [show t251.length = t222.length from (Kd.R_reads' HO_226005.out).1.symm] <;> rfl) | rfl | (simp only [List.length_drop, List.length_take]; rfl)) ?_; (with_reducible refine (laws_heldTimes.calls kj34 t217 t218 t219 t220 t221 _ _ t251 1 t252 _ ?side1 ?side2 A117.out).mono ?_); (case side1 => repeat (first | exact (Kd.R_reads' HO_226005.out).2.2 | (with_reducible refine Kd.C_alloc ?_ _) | (with_reducible refine Kd.C_drewN ?_ _) | (with_reducible refine Kd.C_drew ?_))); (case side2 => rw [show t251.length = t222.length from (Kd.R_reads' HO_226005.out).1.symm]; exact (Kd.R_reads' HO_226005.out).2.1); rintro e w136 ⟨rfl, hb⟩; refine ⟨_, rfl, ?_⟩; have n0_ := Aside0.mk (Kd.R_below (tR HO_199005.out) hb); have n1_ := Aside0.mk (Kd.R_below (tR HO_208005.out) hb); have n2_ := Aside0.mk (Kd.R_below (tR HO_217005.out) hb); have n3_ := Aside0.mk (Kd.R_below (tR HO_226005.out) hb); have n4_ := Aside0.mk (blk_below (tK BK170.out) hb); have n5_ := Aside0.mk (blk_below (tK BK171.out) hb); have n6_ := Aside0.mk (blk_below (tK BK198.out) hb); have n7_ := Aside0.mk (blk_below (tK BK207.out) hb); have n8_ := Aside0.mk (blk_below (tK BK216.out) hb); have n9_ := Aside0.mk (blk_below (tK BK225.out) hb); have n10_ := Aside0.mk (below_step tBs hb); clear HO_199005; clear HO_208005; clear HO_217005; clear HO_226005; clear BK170; clear BK171; clear BK198; clear BK207; clear BK216; clear BK225; clear HB; have HO_199005 := n0_; have HO_208005 := n1_; have HO_217005 := n2_; have HO_226005 := n3_; have BK170 := n4_; have BK171 := n5_; have BK198 := n6_; have BK207 := n7_; have BK216 := n8_; have BK225 := n9_; have HB := n10_; clear n0_ n1_ n2_ n3_ n4_ n5_ n6_ n7_ n8_ n9_ n10_; (try clear hb); (try clear hb2); (try clear hk); (try clear hi)))
        have n0_ := Aside0.mk (Kd.R_drew HO_199005.out)
        have n1_ := Aside0.mk (Kd.R_drew HO_208005.out)
        have n2_ := Aside0.mk (Kd.R_drew HO_217005.out)
        have n3_ := Aside0.mk (Kd.R_drew HO_226005.out)
        have n4_ := Aside0.mk (blk_drew BK170.out)
        have n5_ := Aside0.mk (blk_drew BK171.out)
        have n6_ := Aside0.mk (blk_drew BK198.out)
        have n7_ := Aside0.mk (blk_drew BK207.out)
        have n8_ := Aside0.mk (blk_drew BK216.out)
        have n9_ := Aside0.mk (blk_drew BK225.out)
        have n10_ := Aside0.mk (below_drew1 HB.out)
        clear HO_199005 HO_208005 HO_217005 HO_226005 BK170 BK171 BK198 BK207 BK216 BK225 HB
        have HO_199005 := n0_
        have HO_208005 := n1_
        have HO_217005 := n2_
        have HO_226005 := n3_
        have BK170 := n4_
        have BK171 := n5_
        have BK198 := n6_
        have BK207 := n7_
        have BK216 := n8_
        have BK225 := n9_
        have HB := n10_
        clear n0_ n1_ n2_ n3_ n4_ n5_ n6_ n7_ n8_ n9_ n10_
        refine start_ (n := 7) (S := fun w' => w'.cell? ⟨gb170, 0, none⟩ = some (.int .i64 a0_0) ∧ w'.cell? ⟨gb170, 1, none⟩ = some (.int .i64 a0_1) ∧ w'.cell? ⟨gb170, 2, none⟩ = some (.int .i64 a0_2) ∧ w'.cell? ⟨gb170, 3, none⟩ = some (.int .i64 a0_3) ∧ w'.cell? ⟨gb170, 4, none⟩ = some (.int .i64 a0_4) ∧ w'.cell? ⟨gb170, 5, none⟩ = some (.slice A0_5 l0_5.length c0_5) ∧ w'.cell? ⟨gb171, 0, none⟩ = some (.int .i64 a1_0) ∧ w'.cell? ⟨gb171, 1, none⟩ = some (.int .i64 a1_1) ∧ w'.cell? ⟨gb171, 2, none⟩ = some (.int .i64 a1_2) ∧ w'.cell? ⟨gb171, 3, none⟩ = some (.int .i64 a1_3) ∧ w'.cell? ⟨gb171, 4, none⟩ = some (.int .i64 a1_4) ∧ w'.cell? ⟨gb171, 5, none⟩ = some (.slice A1_5 l1_5.length c1_5)) (ds := []) (tf 0 7) (by kernel_rfl) rfl rfl (tC6 BK170.out (tC6e BK171.out)) (fun hHeld => ?_)
        generalize w136.drew = w137 at HO_199005 HO_208005 HO_217005 HO_226005 BK170 BK171 BK198 BK207 BK216 BK225 HB hHeld ⊢
        refine take_ (i := 0) (N := some 75) (v := ?_) (a' := ?_) (tf 1 6) rfl rfl (by kernel_rfl) (fun _ _ _ h => h) (Or.inl ⟨by rfl, ?_⟩) hHeld ?_ ?_
        rotate_left
        ·rintro w' ⟨s0, s1, s2, s3, s4, s5, s6, s7, s8, s9, s10, s11⟩
         go_simp
         with_reducible rfl
        rotate_left; (focus simp only [Act.put, List.setIfInBounds_toArray, List.set_cons_zero, List.set_cons_succ, i64_w, i32_w]; rfl)
        refine take_ (i := 2) (N := some 77) (v := ?_) (a' := ?_) #[true, false, true, false, false, false, false] rfl rfl (by kernel_rfl) (fun _ _ _ h => h) (Or.inl ⟨by rfl, ?_⟩) hHeld ?_ ?_
        rotate_left
        ·rintro w' ⟨s0, s1, s2, s3, s4, s5, s6, s7, s8, s9, s10, s11⟩
         go_simp
         with_reducible rfl
        rotate_left; (focus simp only [Act.put, List.setIfInBounds_toArray, List.set_cons_zero, List.set_cons_succ, i64_w, i32_w]; rfl)
        refine join_ (σ := Value × Value × Value × Nat) 1 (tf 6 1) (fun s_ => [(76, .agg #[.int .i64 t253, .int .i64 t254, .int .i64 t255, .int .i64 t256, .int .i64 t257, s_.1]), (78, .agg #[.int .i64 t261, .int .i64 t262, .int .i64 t263, .int .i64 t264, .int .i64 t265, s_.2.1]), (79, .agg #[.int .i64 t269, .int .i64 t270, .int .i64 t271, .int .i64 t272, .int .i64 t273, s_.2.2.1]), (13, .pointer (some ⟨s_.2.2.2, 0, none⟩))]) (fun s_ w' => (w'.cell? ⟨gb170, 0, none⟩ = some (.int .i64 a0_0) ∧ w'.cell? ⟨gb170, 1, none⟩ = some (.int .i64 a0_1) ∧ w'.cell? ⟨gb170, 2, none⟩ = some (.int .i64 a0_2) ∧ w'.cell? ⟨gb170, 3, none⟩ = some (.int .i64 a0_3) ∧ w'.cell? ⟨gb170, 4, none⟩ = some (.int .i64 a0_4) ∧ w'.cell? ⟨gb170, 5, none⟩ = some (.slice A0_5 l0_5.length c0_5) ∧ w'.cell? ⟨gb171, 0, none⟩ = some (.int .i64 a1_0) ∧ w'.cell? ⟨gb171, 1, none⟩ = some (.int .i64 a1_1) ∧ w'.cell? ⟨gb171, 2, none⟩ = some (.int .i64 a1_2) ∧ w'.cell? ⟨gb171, 3, none⟩ = some (.int .i64 a1_3) ∧ w'.cell? ⟨gb171, 4, none⟩ = some (.int .i64 a1_4) ∧ w'.cell? ⟨gb171, 5, none⟩ = some (.slice A1_5 l1_5.length c1_5)) ∧ (Kd.R (Kd.int .i64) 2 w' w.heap.size (fun k_ => some k_ ≠ (s_.2.1 : Value).ownBlock ∧ some k_ ≠ (s_.2.2.1 : Value).ownBlock ∧ some k_ ≠ (.slice Ao56 t195.length co56 : Value).ownBlock ∧ some k_ ≠ (.slice Ao66 t246.length co66 : Value).ownBlock ∧ some k_ ≠ (.slice Ao76 t248.length co76 : Value).ownBlock ∧ some k_ ≠ (.slice Ao86 t222.length co86 : Value).ownBlock) s_.1 t258) ∧ (Kd.R (Kd.int .i64) 2 w' w.heap.size (fun k_ => some k_ ≠ (s_.1 : Value).ownBlock ∧ some k_ ≠ (s_.2.2.1 : Value).ownBlock ∧ some k_ ≠ (.slice Ao56 t195.length co56 : Value).ownBlock ∧ some k_ ≠ (.slice Ao66 t246.length co66 : Value).ownBlock ∧ some k_ ≠ (.slice Ao76 t248.length co76 : Value).ownBlock ∧ some k_ ≠ (.slice Ao86 t222.length co86 : Value).ownBlock) s_.2.1 t266) ∧ (Kd.R (Kd.int .i64) 2 w' w.heap.size (fun k_ => some k_ ≠ (s_.1 : Value).ownBlock ∧ some k_ ≠ (s_.2.1 : Value).ownBlock ∧ some k_ ≠ (.slice Ao56 t195.length co56 : Value).ownBlock ∧ some k_ ≠ (.slice Ao66 t246.length co66 : Value).ownBlock ∧ some k_ ≠ (.slice Ao76 t248.length co76 : Value).ownBlock ∧ some k_ ≠ (.slice Ao86 t222.length co86 : Value).ownBlock) s_.2.2.1 t274) ∧ (Kd.R (Kd.int .i64) 2 w' w.heap.size (fun k_ => some k_ ≠ (s_.1 : Value).ownBlock ∧ some k_ ≠ (s_.2.1 : Value).ownBlock ∧ some k_ ≠ (s_.2.2.1 : Value).ownBlock ∧ some k_ ≠ (.slice Ao66 t246.length co66 : Value).ownBlock ∧ some k_ ≠ (.slice Ao76 t248.length co76 : Value).ownBlock ∧ some k_ ≠ (.slice Ao86 t222.length co86 : Value).ownBlock) (.slice Ao56 t195.length co56) t195) ∧ (Kd.R (Kd.int .i64) 2 w' w.heap.size (fun k_ => some k_ ≠ (s_.1 : Value).ownBlock ∧ some k_ ≠ (s_.2.1 : Value).ownBlock ∧ some k_ ≠ (s_.2.2.1 : Value).ownBlock ∧ some k_ ≠ (.slice Ao56 t195.length co56 : Value).ownBlock ∧ some k_ ≠ (.slice Ao76 t248.length co76 : Value).ownBlock ∧ some k_ ≠ (.slice Ao86 t222.length co86 : Value).ownBlock) (.slice Ao66 t246.length co66) t246) ∧ (Kd.R (Kd.int .i64) 2 w' w.heap.size (fun k_ => some k_ ≠ (s_.1 : Value).ownBlock ∧ some k_ ≠ (s_.2.1 : Value).ownBlock ∧ some k_ ≠ (s_.2.2.1 : Value).ownBlock ∧ some k_ ≠ (.slice Ao56 t195.length co56 : Value).ownBlock ∧ some k_ ≠ (.slice Ao66 t246.length co66 : Value).ownBlock ∧ some k_ ≠ (.slice Ao86 t222.length co86 : Value).ownBlock) (.slice Ao76 t248.length co76) t248) ∧ (Kd.R (Kd.int .i64) 2 w' w.heap.size (fun k_ => some k_ ≠ (s_.1 : Value).ownBlock ∧ some k_ ≠ (s_.2.1 : Value).ownBlock ∧ some k_ ≠ (s_.2.2.1 : Value).ownBlock ∧ some k_ ≠ (.slice Ao56 t195.length co56 : Value).ownBlock ∧ some k_ ≠ (.slice Ao66 t246.length co66 : Value).ownBlock ∧ some k_ ≠ (.slice Ao76 t248.length co76 : Value).ownBlock) (.slice Ao86 t222.length co86) t251) ∧ (w'.heap[gb170]? = some (.cells #[.int .i64 a0_0, .int .i64 a0_1, .int .i64 a0_2, .int .i64 a0_3, .int .i64 a0_4, .slice A0_5 l0_5.length c0_5] 24 (0, 0))) ∧ (w'.heap[gb171]? = some (.cells #[.int .i64 a1_0, .int .i64 a1_1, .int .i64 a1_2, .int .i64 a1_3, .int .i64 a1_4, .slice A1_5 l1_5.length c1_5] 24 (0, 0))) ∧ (w'.heap[gb198]? = some (.cells #[.int .i64 t190, .int .i64 t191, .int .i64 t192, .int .i64 t193, .int .i64 t194, .slice Ao56 t195.length co56] 26 (0, 0))) ∧ (w'.heap[gb207]? = some (.cells #[.int .i64 t199, .int .i64 t200, .int .i64 t201, .int .i64 t202, .int .i64 t203, .slice Ao66 t246.length co66] 26 (0, 0))) ∧ (w'.heap[gb216]? = some (.cells #[.int .i64 t208, .int .i64 t209, .int .i64 t210, .int .i64 t211, .int .i64 t212, .slice Ao76 t248.length co76] 26 (0, 0))) ∧ (w'.heap[gb225]? = some (.cells #[.int .i64 t217, .int .i64 t218, .int .i64 t219, .int .i64 t220, .int .i64 t221, .slice Ao86 t222.length co86] 26 (0, 0))) ∧ (w'.heap[s_.2.2.2]? = some (.cells #[.int .i64 0, .int .i64 0, .int .i64 0, .int .i64 0, .int .i64 0, .slice none 0 0] 26 (0, 0))) ∧ (w.heap.size ≤ s_.2.2.2) ∧ (w.heap.size ≤ s_.2.2.2) ∧ (gb170 ≠ s_.2.2.2) ∧ (s_.2.2.2 ≠ gb170) ∧ (gb171 ≠ s_.2.2.2) ∧ (s_.2.2.2 ≠ gb171) ∧ (gb198 ≠ s_.2.2.2) ∧ (s_.2.2.2 ≠ gb198) ∧ (gb207 ≠ s_.2.2.2) ∧ (s_.2.2.2 ≠ gb207) ∧ (gb216 ≠ s_.2.2.2) ∧ (s_.2.2.2 ≠ gb216) ∧ (gb225 ≠ s_.2.2.2) ∧ (s_.2.2.2 ≠ gb225) ∧ (Below w.heap.size w w')) ?_ ?_
        rotate_left
        ·intro hCont
         refine two_ (i := 1) (j := 5) (Ni := some 76) (Nj := some 13) (tf 3 4) #[true, false, true, false, false, true, false] rfl rfl rfl rfl (by kernel_rfl) (by decide) (by decide) (fun K hK => ?_) (fun K hK => ?_)
         ·skip
          refine goes_ Try.func13 (by kernel_rfl) rfl #[.agg #[.int .i64 a0_0, .int .i64 a0_1, .int .i64 a0_2, .int .i64 a0_3, .int .i64 a0_4, .slice A0_5 l0_5.length c0_5]] (by rfl) rfl rfl tA ?_
          with_reducible refine (laws_toTimes.calls kj34 a0_0 a0_1 a0_2 a0_3 a0_4 _ _ l0_5 t253 t254 t255 t256 t257 t258 _ ?side1 ?side2 A120.out).mono ?_
          (case side1 => repeat (first | exact (Kd.C_below HR0_5.out HB.out) | (with_reducible refine Kd.C_alloc ?_ _) | (with_reducible refine Kd.C_drewN ?_ _) | (with_reducible refine Kd.C_drew ?_)))
          (case side2 => exact HC0_5.out)
          rintro e w138 ⟨v259, rfl, ho0, hb⟩
          refine ⟨_, rfl, ?_⟩
          have n0_ := Aside0.mk (Kd.R_elder' (tR HO_199005.out) (Kd.R_base ho0) hb)
          have n1_ := Aside0.mk (Kd.R_elder' (tR HO_208005.out) (Kd.R_base ho0) hb)
          have n2_ := Aside0.mk (Kd.R_elder' (tR HO_217005.out) (Kd.R_base ho0) hb)
          have n3_ := Aside0.mk (Kd.R_elder' (tR HO_226005.out) (Kd.R_base ho0) hb)
          have n4_ := Aside0.mk (Kd.R_lower (Kd.R_new' (Kd.R_new' (Kd.R_new' (Kd.R_new' ho0 (Kd.R_lt (tR HO_199005.out))) (Kd.R_lt (tR HO_208005.out))) (Kd.R_lt (tR HO_217005.out))) (Kd.R_lt (tR HO_226005.out))) (below_size tBs))
          have n5_ := Aside0.mk (blk_below (tK BK170.out) hb)
          have n6_ := Aside0.mk (blk_below (tK BK171.out) hb)
          have n7_ := Aside0.mk (blk_below (tK BK198.out) hb)
          have n8_ := Aside0.mk (blk_below (tK BK207.out) hb)
          have n9_ := Aside0.mk (blk_below (tK BK216.out) hb)
          have n10_ := Aside0.mk (blk_below (tK BK225.out) hb)
          have n11_ := Aside0.mk (below_step tBs hb)
          clear HO_199005 HO_208005 HO_217005 HO_226005 BK170 BK171 BK198 BK207 BK216 BK225 HB
          have HO_199005 := n0_
          have HO_208005 := n1_
          have HO_217005 := n2_
          have HO_226005 := n3_
          have HO260 := n4_
          have BK170 := n5_
          have BK171 := n6_
          have BK198 := n7_
          have BK207 := n8_
          have BK216 := n9_
          have BK225 := n10_
          have HB := n11_
          clear n0_ n1_ n2_ n3_ n4_ n5_ n6_ n7_ n8_ n9_ n10_ n11_
          (try clear hb)
          (try clear hb2)
          (try clear hk)
          (try clear hi)
          (try clear ho0)
          refine hK.out _ _ (tC6 BK170.out (tC6e BK171.out)) (fun hHeld => ?_)
          clear hK K
          refine norm_ (a' := ?_) ?_ ?_
          rotate_left
          ·show Act.put _ (some 76) _ = _
           simp only [Act.put, List.setIfInBounds_toArray, List.set_cons_zero, List.set_cons_succ, i64_w, i32_w]
           rfl
          refine two_ (i := 3) (j := 5) (Ni := some 78) (Nj := some 13) (tf 4 3) #[true, true, true, false, false, true, false] rfl rfl rfl rfl (by kernel_rfl) (by decide) (by decide) (fun K hK => ?_) (fun K hK => ?_)
          ·skip
           refine goes_ Try.func13 (by kernel_rfl) rfl #[.agg #[.int .i64 a1_0, .int .i64 a1_1, .int .i64 a1_2, .int .i64 a1_3, .int .i64 a1_4, .slice A1_5 l1_5.length c1_5]] (by rfl) rfl rfl tA ?_
           with_reducible refine (laws_toTimes.calls kj34 a1_0 a1_1 a1_2 a1_3 a1_4 _ _ l1_5 t261 t262 t263 t264 t265 t266 _ ?side1 ?side2 A121.out).mono ?_
           (case side1 => repeat (first | exact (Kd.C_below HR1_5.out HB.out) | (with_reducible refine Kd.C_alloc ?_ _) | (with_reducible refine Kd.C_drewN ?_ _) | (with_reducible refine Kd.C_drew ?_)))
           (case side2 => exact HC1_5.out)
           rintro e w139 ⟨v267, rfl, ho0, hb⟩
           refine ⟨_, rfl, ?_⟩
           have n0_ := Aside0.mk (Kd.R_elder' (tR HO_199005.out) (Kd.R_base ho0) hb)
           have n1_ := Aside0.mk (Kd.R_elder' (tR HO_208005.out) (Kd.R_base ho0) hb)
           have n2_ := Aside0.mk (Kd.R_elder' (tR HO_217005.out) (Kd.R_base ho0) hb)
           have n3_ := Aside0.mk (Kd.R_elder' (tR HO_226005.out) (Kd.R_base ho0) hb)
           have n4_ := Aside0.mk (Kd.R_elder' (tR HO260.out) (Kd.R_base ho0) hb)
           have n5_ := Aside0.mk (Kd.R_lower (Kd.R_new' (Kd.R_new' (Kd.R_new' (Kd.R_new' (Kd.R_new' ho0 (Kd.R_lt (tR HO_199005.out))) (Kd.R_lt (tR HO_208005.out))) (Kd.R_lt (tR HO_217005.out))) (Kd.R_lt (tR HO_226005.out))) (Kd.R_lt (tR HO260.out))) (below_size tBs))
           have n6_ := Aside0.mk (blk_below (tK BK170.out) hb)
           have n7_ := Aside0.mk (blk_below (tK BK171.out) hb)
           have n8_ := Aside0.mk (blk_below (tK BK198.out) hb)
           have n9_ := Aside0.mk (blk_below (tK BK207.out) hb)
           have n10_ := Aside0.mk (blk_below (tK BK216.out) hb)
           have n11_ := Aside0.mk (blk_below (tK BK225.out) hb)
           have n12_ := Aside0.mk (below_step tBs hb)
           clear HO_199005 HO_208005 HO_217005 HO_226005 HO260 BK170 BK171 BK198 BK207 BK216 BK225 HB
           have HO_199005 := n0_
           have HO_208005 := n1_
           have HO_217005 := n2_
           have HO_226005 := n3_
           have HO260 := n4_
           have HO268 := n5_
           have BK170 := n6_
           have BK171 := n7_
           have BK198 := n8_
           have BK207 := n9_
           have BK216 := n10_
           have BK225 := n11_
           have HB := n12_
           clear n0_ n1_ n2_ n3_ n4_ n5_ n6_ n7_ n8_ n9_ n10_ n11_ n12_
           (try clear hb)
           (try clear hb2)
           (try clear hk)
           (try clear hi)
           (try clear ho0)
           obtain ⟨Ao140, co140, eo140⟩ := Kd.R_slice HO260.out
           (first | subst eo140 | (injection eo140 with f1_ f2_ f3_; have f4_ := f1_.symm; have f5_ := f3_.symm; clear f1_ f2_ f3_; subst f4_; subst f5_))
           obtain ⟨Ao141, co141, eo141⟩ := Kd.R_slice HO268.out
           (first | subst eo141 | (injection eo141 with f1_ f2_ f3_; have f4_ := f1_.symm; have f5_ := f3_.symm; clear f1_ f2_ f3_; subst f4_; subst f5_))
           refine hK.out _ _ (tC6 BK170.out (tC6e BK171.out)) (fun hHeld => ?_)
           clear hK K
           refine norm_ (a' := ?_) ?_ ?_
           rotate_left
           ·show Act.put _ (some 78) _ = _
            simp only [Act.put, List.setIfInBounds_toArray, List.set_cons_zero, List.set_cons_succ, i64_w, i32_w]
            rfl
           refine two_ (i := 4) (j := 5) (Ni := some 79) (Nj := some 13) (tf 5 2) #[true, true, true, true, false, true, false] rfl rfl rfl rfl (by kernel_rfl) (by decide) (by decide) (fun K hK => ?_) (fun K hK => ?_)
           ·skip
            refine goes_ Try.func14 (by kernel_rfl) rfl #[.agg #[.int .i64 t253, .int .i64 t254, .int .i64 t255, .int .i64 t256, .int .i64 t257, .slice Ao140 t258.length co140], .agg #[.int .i64 t261, .int .i64 t262, .int .i64 t263, .int .i64 t264, .int .i64 t265, .slice Ao141 t266.length co141]] (by rfl) rfl rfl tA ?_
            with_reducible refine (impl_TimesJoin.calls kj34 t253 t254 t255 t256 t257 _ _ t258 t261 t262 t263 t264 t265 _ _ t266 t269 t270 t271 t272 t273 t274 _ ?side1 ?side2 ?side3 ?side4 A122.out).mono ?_
            (case side1 => repeat (first | exact (Kd.R_reads' HO260.out).2.2 | (with_reducible refine Kd.C_alloc ?_ _) | (with_reducible refine Kd.C_drewN ?_ _) | (with_reducible refine Kd.C_drew ?_)))
            (case side2 => exact (Kd.R_reads' HO260.out).2.1)
            (case side3 => repeat (first | exact (Kd.R_reads' HO268.out).2.2 | (with_reducible refine Kd.C_alloc ?_ _) | (with_reducible refine Kd.C_drewN ?_ _) | (with_reducible refine Kd.C_drew ?_)))
            (case side4 => exact (Kd.R_reads' HO268.out).2.1)
            rintro e w142 ⟨v275, rfl, ho0, hb⟩
            refine ⟨_, rfl, ?_⟩
            have n0_ := Aside0.mk (Kd.R_elder' (tR HO_199005.out) (Kd.R_base ho0) hb)
            have n1_ := Aside0.mk (Kd.R_elder' (tR HO_208005.out) (Kd.R_base ho0) hb)
            have n2_ := Aside0.mk (Kd.R_elder' (tR HO_217005.out) (Kd.R_base ho0) hb)
            have n3_ := Aside0.mk (Kd.R_elder' (tR HO_226005.out) (Kd.R_base ho0) hb)
            have n4_ := Aside0.mk (Kd.R_elder' (tR HO260.out) (Kd.R_base ho0) hb)
            have n5_ := Aside0.mk (Kd.R_elder' (tR HO268.out) (Kd.R_base ho0) hb)
            have n6_ := Aside0.mk (Kd.R_lower (Kd.R_new' (Kd.R_new' (Kd.R_new' (Kd.R_new' (Kd.R_new' (Kd.R_new' ho0 (Kd.R_lt (tR HO_199005.out))) (Kd.R_lt (tR HO_208005.out))) (Kd.R_lt (tR HO_217005.out))) (Kd.R_lt (tR HO_226005.out))) (Kd.R_lt (tR HO260.out))) (Kd.R_lt (tR HO268.out))) (below_size tBs))
            have n7_ := Aside0.mk (blk_below (tK BK170.out) hb)
            have n8_ := Aside0.mk (blk_below (tK BK171.out) hb)
            have n9_ := Aside0.mk (blk_below (tK BK198.out) hb)
            have n10_ := Aside0.mk (blk_below (tK BK207.out) hb)
            have n11_ := Aside0.mk (blk_below (tK BK216.out) hb)
            have n12_ := Aside0.mk (blk_below (tK BK225.out) hb)
            have n13_ := Aside0.mk (below_step tBs hb)
            clear HO_199005 HO_208005 HO_217005 HO_226005 HO260 HO268 BK170 BK171 BK198 BK207 BK216 BK225 HB
            have HO_199005 := n0_
            have HO_208005 := n1_
            have HO_217005 := n2_
            have HO_226005 := n3_
            have HO260 := n4_
            have HO268 := n5_
            have HO276 := n6_
            have BK170 := n7_
            have BK171 := n8_
            have BK198 := n9_
            have BK207 := n10_
            have BK216 := n11_
            have BK225 := n12_
            have HB := n13_
            clear n0_ n1_ n2_ n3_ n4_ n5_ n6_ n7_ n8_ n9_ n10_ n11_ n12_ n13_
            (try clear hb)
            (try clear hb2)
            (try clear hk)
            (try clear hi)
            (try clear ho0)
            refine hK.out _ _ (tC6 BK170.out (tC6e BK171.out)) (fun hHeld => ?_)
            clear hK K
            refine norm_ (a' := ?_) ?_ ?_
            rotate_left
            ·show Act.put _ (some 79) _ = _
             simp only [Act.put, List.setIfInBounds_toArray, List.set_cons_zero, List.set_cons_succ, i64_w, i32_w]
             rfl
            refine one_ (i := 5) (N := some 13) (tf 6 1) rfl rfl (by kernel_rfl) (by decide) (fun K hK => ?_)
            refine box_step ?hg (N := 13) ?hd (cs := #[.int .i64 0, .int .i64 0, .int .i64 0, .int .i64 0, .int .i64 0, .slice none 0 0]) (t := 26) ?hr ?_; (case hd => rfl); (case hg => rfl); (case hr => first | (go_simp; done) | (go_simp; rfl))
            intro gb277 hg w143 hbox hb
            have n0_ := Aside0.mk (Kd.R_below (tR HO_199005.out) hb)
            have n1_ := Aside0.mk (Kd.R_below (tR HO_208005.out) hb)
            have n2_ := Aside0.mk (Kd.R_below (tR HO_217005.out) hb)
            have n3_ := Aside0.mk (Kd.R_below (tR HO_226005.out) hb)
            have n4_ := Aside0.mk (Kd.R_below (tR HO260.out) hb)
            have n5_ := Aside0.mk (Kd.R_below (tR HO268.out) hb)
            have n6_ := Aside0.mk (Kd.R_below (tR HO276.out) hb)
            have n7_ := Aside0.mk (blk_below (tK BK170.out) hb)
            have n8_ := Aside0.mk (blk_below (tK BK171.out) hb)
            have n9_ := Aside0.mk (blk_below (tK BK198.out) hb)
            have n10_ := Aside0.mk (blk_below (tK BK207.out) hb)
            have n11_ := Aside0.mk (blk_below (tK BK216.out) hb)
            have n12_ := Aside0.mk (blk_below (tK BK225.out) hb)
            have n13_ := Aside0.mk (below_step tBs hb)
            have n14_ := Aside0.mk (hbox)
            have n15_ := Aside0.mk ((by rw [hg]; exact (below_size tBs) : w.heap.size ≤ gb277))
            have n16_ := Aside0.mk ((by rw [hg]; exact (below_size tBs) : w.heap.size ≤ gb277))
            have n17_ := Aside0.mk ((by rw [hg]; exact Nat.ne_of_lt (blk_lt (tK BK170.out)) : gb170 ≠ gb277))
            have n18_ := Aside0.mk ((by rw [hg]; exact Nat.ne_of_gt (blk_lt (tK BK170.out)) : gb277 ≠ gb170))
            have n19_ := Aside0.mk ((by rw [hg]; exact Nat.ne_of_lt (blk_lt (tK BK171.out)) : gb171 ≠ gb277))
            have n20_ := Aside0.mk ((by rw [hg]; exact Nat.ne_of_gt (blk_lt (tK BK171.out)) : gb277 ≠ gb171))
            have n21_ := Aside0.mk ((by rw [hg]; exact Nat.ne_of_lt (blk_lt (tK BK198.out)) : gb198 ≠ gb277))
            have n22_ := Aside0.mk ((by rw [hg]; exact Nat.ne_of_gt (blk_lt (tK BK198.out)) : gb277 ≠ gb198))
            have n23_ := Aside0.mk ((by rw [hg]; exact Nat.ne_of_lt (blk_lt (tK BK207.out)) : gb207 ≠ gb277))
            have n24_ := Aside0.mk ((by rw [hg]; exact Nat.ne_of_gt (blk_lt (tK BK207.out)) : gb277 ≠ gb207))
            have n25_ := Aside0.mk ((by rw [hg]; exact Nat.ne_of_lt (blk_lt (tK BK216.out)) : gb216 ≠ gb277))
            have n26_ := Aside0.mk ((by rw [hg]; exact Nat.ne_of_gt (blk_lt (tK BK216.out)) : gb277 ≠ gb216))
            have n27_ := Aside0.mk ((by rw [hg]; exact Nat.ne_of_lt (blk_lt (tK BK225.out)) : gb225 ≠ gb277))
            have n28_ := Aside0.mk ((by rw [hg]; exact Nat.ne_of_gt (blk_lt (tK BK225.out)) : gb277 ≠ gb225))
            clear HO_199005 HO_208005 HO_217005 HO_226005 HO260 HO268 HO276 BK170 BK171 BK198 BK207 BK216 BK225 HB
            have HO_199005 := n0_
            have HO_208005 := n1_
            have HO_217005 := n2_
            have HO_226005 := n3_
            have HO260 := n4_
            have HO268 := n5_
            have HO276 := n6_
            have BK170 := n7_
            have BK171 := n8_
            have BK198 := n9_
            have BK207 := n10_
            have BK216 := n11_
            have BK225 := n12_
            have HB := n13_
            have BK277 := n14_
            have GW277 := n15_
            have GE277 := n16_
            have NB170_277 := n17_
            have NB277_170 := n18_
            have NB171_277 := n19_
            have NB277_171 := n20_
            have NB198_277 := n21_
            have NB277_198 := n22_
            have NB207_277 := n23_
            have NB277_207 := n24_
            have NB216_277 := n25_
            have NB277_216 := n26_
            have NB225_277 := n27_
            have NB277_225 := n28_
            clear n0_ n1_ n2_ n3_ n4_ n5_ n6_ n7_ n8_ n9_ n10_ n11_ n12_ n13_ n14_ n15_ n16_ n17_ n18_ n19_ n20_ n21_ n22_ n23_ n24_ n25_ n26_ n27_ n28_ hb hbox hg
            refine hK.out _ _ (tC6 BK170.out (tC6e BK171.out)) (fun hHeld => ?_)
            clear hK K
            refine norm_ (a' := ?_) ?_ ?_
            rotate_left
            ·show Act.put _ (some 13) _ = _
             simp only [Act.put, List.setIfInBounds_toArray, List.set_cons_zero, List.set_cons_succ, i64_w, i32_w]
             rfl
            exact norm_ (by simp only [putAll, Act.put, List.setIfInBounds_toArray, List.set_cons_zero, List.set_cons_succ]) (hCont (.slice Ao140 t258.length co140, .slice Ao141 t266.length co141, v275, gb277) _ ⟨hHeld, (tR (Kd.R_mono HO260.out (fun _ hk => ⟨hk.1.2, ⟨hk.2, ⟨hk.1.1.1.1.1.2, ⟨hk.1.1.1.1.2, ⟨hk.1.1.1.2, hk.1.1.2⟩⟩⟩⟩⟩))), (tR (Kd.R_mono HO268.out (fun _ hk => ⟨hk.1.2, ⟨hk.2, ⟨hk.1.1.1.1.1.2, ⟨hk.1.1.1.1.2, ⟨hk.1.1.1.2, hk.1.1.2⟩⟩⟩⟩⟩))), (tR (Kd.R_mono HO276.out (fun _ hk => ⟨hk.1.2, ⟨hk.2, ⟨hk.1.1.1.1.1.2, ⟨hk.1.1.1.1.2, ⟨hk.1.1.1.2, hk.1.1.2⟩⟩⟩⟩⟩))), (tR (Kd.R_mono HO_199005.out (fun _ hk => ⟨hk.1.1.2, ⟨hk.1.2, ⟨hk.2, ⟨hk.1.1.1.1, ⟨hk.1.1.1.2.1, hk.1.1.1.2.2⟩⟩⟩⟩⟩))), (tR (Kd.R_mono HO_208005.out (fun _ hk => ⟨hk.1.1.2, ⟨hk.1.2, ⟨hk.2, ⟨hk.1.1.1.1, ⟨hk.1.1.1.2.1, hk.1.1.1.2.2⟩⟩⟩⟩⟩))), (tR (Kd.R_mono HO_217005.out (fun _ hk => ⟨hk.1.1.2, ⟨hk.1.2, ⟨hk.2, ⟨hk.1.1.1.1, ⟨hk.1.1.1.2.1, hk.1.1.1.2.2⟩⟩⟩⟩⟩))), (tR (Kd.R_mono HO_226005.out (fun _ hk => ⟨hk.1.1.2, ⟨hk.1.2, ⟨hk.2, ⟨hk.1.1.1.1, ⟨hk.1.1.1.2.1, hk.1.1.1.2.2⟩⟩⟩⟩⟩))), (tK BK170.out), (tK BK171.out), (tK BK198.out), (tK BK207.out), (tK BK216.out), (tK BK225.out), (tK BK277.out), GW277.out, GE277.out, NB170_277.out, NB277_170.out, NB171_277.out, NB277_171.out, NB198_277.out, NB277_198.out, NB207_277.out, NB277_207.out, NB216_277.out, NB277_216.out, NB225_277.out, NB277_225.out, tBs⟩)
           ·skip
            refine box_step ?hg (N := 13) ?hd (cs := #[.int .i64 0, .int .i64 0, .int .i64 0, .int .i64 0, .int .i64 0, .slice none 0 0]) (t := 26) ?hr ?_; (case hd => rfl); (case hg => rfl); (case hr => first | (go_simp; done) | (go_simp; rfl))
            intro gb277 hg w140 hbox hb
            have n0_ := Aside0.mk (Kd.R_below (tR HO_199005.out) hb)
            have n1_ := Aside0.mk (Kd.R_below (tR HO_208005.out) hb)
            have n2_ := Aside0.mk (Kd.R_below (tR HO_217005.out) hb)
            have n3_ := Aside0.mk (Kd.R_below (tR HO_226005.out) hb)
            have n4_ := Aside0.mk (Kd.R_below (tR HO260.out) hb)
            have n5_ := Aside0.mk (Kd.R_below (tR HO268.out) hb)
            have n6_ := Aside0.mk (blk_below (tK BK170.out) hb)
            have n7_ := Aside0.mk (blk_below (tK BK171.out) hb)
            have n8_ := Aside0.mk (blk_below (tK BK198.out) hb)
            have n9_ := Aside0.mk (blk_below (tK BK207.out) hb)
            have n10_ := Aside0.mk (blk_below (tK BK216.out) hb)
            have n11_ := Aside0.mk (blk_below (tK BK225.out) hb)
            have n12_ := Aside0.mk (below_step tBs hb)
            have n13_ := Aside0.mk (hbox)
            have n14_ := Aside0.mk ((by rw [hg]; exact (below_size tBs) : w.heap.size ≤ gb277))
            have n15_ := Aside0.mk ((by rw [hg]; exact (below_size tBs) : w.heap.size ≤ gb277))
            have n16_ := Aside0.mk ((by rw [hg]; exact Nat.ne_of_lt (blk_lt (tK BK170.out)) : gb170 ≠ gb277))
            have n17_ := Aside0.mk ((by rw [hg]; exact Nat.ne_of_gt (blk_lt (tK BK170.out)) : gb277 ≠ gb170))
            have n18_ := Aside0.mk ((by rw [hg]; exact Nat.ne_of_lt (blk_lt (tK BK171.out)) : gb171 ≠ gb277))
            have n19_ := Aside0.mk ((by rw [hg]; exact Nat.ne_of_gt (blk_lt (tK BK171.out)) : gb277 ≠ gb171))
            have n20_ := Aside0.mk ((by rw [hg]; exact Nat.ne_of_lt (blk_lt (tK BK198.out)) : gb198 ≠ gb277))
            have n21_ := Aside0.mk ((by rw [hg]; exact Nat.ne_of_gt (blk_lt (tK BK198.out)) : gb277 ≠ gb198))
            have n22_ := Aside0.mk ((by rw [hg]; exact Nat.ne_of_lt (blk_lt (tK BK207.out)) : gb207 ≠ gb277))
            have n23_ := Aside0.mk ((by rw [hg]; exact Nat.ne_of_gt (blk_lt (tK BK207.out)) : gb277 ≠ gb207))
            have n24_ := Aside0.mk ((by rw [hg]; exact Nat.ne_of_lt (blk_lt (tK BK216.out)) : gb216 ≠ gb277))
            have n25_ := Aside0.mk ((by rw [hg]; exact Nat.ne_of_gt (blk_lt (tK BK216.out)) : gb277 ≠ gb216))
            have n26_ := Aside0.mk ((by rw [hg]; exact Nat.ne_of_lt (blk_lt (tK BK225.out)) : gb225 ≠ gb277))
            have n27_ := Aside0.mk ((by rw [hg]; exact Nat.ne_of_gt (blk_lt (tK BK225.out)) : gb277 ≠ gb225))
            clear HO_199005 HO_208005 HO_217005 HO_226005 HO260 HO268 BK170 BK171 BK198 BK207 BK216 BK225 HB
            have HO_199005 := n0_
            have HO_208005 := n1_
            have HO_217005 := n2_
            have HO_226005 := n3_
            have HO260 := n4_
            have HO268 := n5_
            have BK170 := n6_
            have BK171 := n7_
            have BK198 := n8_
            have BK207 := n9_
            have BK216 := n10_
            have BK225 := n11_
            have HB := n12_
            have BK277 := n13_
            have GW277 := n14_
            have GE277 := n15_
            have NB170_277 := n16_
            have NB277_170 := n17_
            have NB171_277 := n18_
            have NB277_171 := n19_
            have NB198_277 := n20_
            have NB277_198 := n21_
            have NB207_277 := n22_
            have NB277_207 := n23_
            have NB216_277 := n24_
            have NB277_216 := n25_
            have NB225_277 := n26_
            have NB277_225 := n27_
            clear n0_ n1_ n2_ n3_ n4_ n5_ n6_ n7_ n8_ n9_ n10_ n11_ n12_ n13_ n14_ n15_ n16_ n17_ n18_ n19_ n20_ n21_ n22_ n23_ n24_ n25_ n26_ n27_ hb hbox hg
            obtain ⟨Ao141, co141, eo141⟩ := Kd.R_slice HO260.out
            (first | subst eo141 | (injection eo141 with f1_ f2_ f3_; have f4_ := f1_.symm; have f5_ := f3_.symm; clear f1_ f2_ f3_; subst f4_; subst f5_))
            obtain ⟨Ao142, co142, eo142⟩ := Kd.R_slice HO268.out
            (first | subst eo142 | (injection eo142 with f1_ f2_ f3_; have f4_ := f1_.symm; have f5_ := f3_.symm; clear f1_ f2_ f3_; subst f4_; subst f5_))
            refine hK.out _ _ (tC6 BK170.out (tC6e BK171.out)) (fun hHeld => ?_)
            clear hK K
            refine norm_ (a' := ?_) ?_ ?_
            rotate_left
            ·show Act.put _ (some 13) _ = _
             simp only [Act.put, List.setIfInBounds_toArray, List.set_cons_zero, List.set_cons_succ, i64_w, i32_w]
             rfl
            refine one_ (i := 4) (N := some 79) (tf 6 1) rfl rfl (by kernel_rfl) (by decide) (fun K hK => ?_)
            refine goes_ Try.func14 (by kernel_rfl) rfl #[.agg #[.int .i64 t253, .int .i64 t254, .int .i64 t255, .int .i64 t256, .int .i64 t257, .slice Ao141 t258.length co141], .agg #[.int .i64 t261, .int .i64 t262, .int .i64 t263, .int .i64 t264, .int .i64 t265, .slice Ao142 t266.length co142]] (by rfl) rfl rfl tA ?_
            with_reducible refine (impl_TimesJoin.calls kj34 t253 t254 t255 t256 t257 _ _ t258 t261 t262 t263 t264 t265 _ _ t266 t269 t270 t271 t272 t273 t274 _ ?side1 ?side2 ?side3 ?side4 A122.out).mono ?_
            (case side1 => repeat (first | exact (Kd.R_reads' HO260.out).2.2 | (with_reducible refine Kd.C_alloc ?_ _) | (with_reducible refine Kd.C_drewN ?_ _) | (with_reducible refine Kd.C_drew ?_)))
            (case side2 => exact (Kd.R_reads' HO260.out).2.1)
            (case side3 => repeat (first | exact (Kd.R_reads' HO268.out).2.2 | (with_reducible refine Kd.C_alloc ?_ _) | (with_reducible refine Kd.C_drewN ?_ _) | (with_reducible refine Kd.C_drew ?_)))
            (case side4 => exact (Kd.R_reads' HO268.out).2.1)
            rintro e w143 ⟨v275, rfl, ho0, hb⟩
            refine ⟨_, rfl, ?_⟩
            have n0_ := Aside0.mk (Kd.R_elder' (tR HO_199005.out) (Kd.R_base ho0) hb)
            have n1_ := Aside0.mk (Kd.R_elder' (tR HO_208005.out) (Kd.R_base ho0) hb)
            have n2_ := Aside0.mk (Kd.R_elder' (tR HO_217005.out) (Kd.R_base ho0) hb)
            have n3_ := Aside0.mk (Kd.R_elder' (tR HO_226005.out) (Kd.R_base ho0) hb)
            have n4_ := Aside0.mk (Kd.R_elder' (tR HO260.out) (Kd.R_base ho0) hb)
            have n5_ := Aside0.mk (Kd.R_elder' (tR HO268.out) (Kd.R_base ho0) hb)
            have n6_ := Aside0.mk (Kd.R_lower (Kd.R_new' (Kd.R_new' (Kd.R_new' (Kd.R_new' (Kd.R_new' (Kd.R_new' ho0 (Kd.R_lt (tR HO_199005.out))) (Kd.R_lt (tR HO_208005.out))) (Kd.R_lt (tR HO_217005.out))) (Kd.R_lt (tR HO_226005.out))) (Kd.R_lt (tR HO260.out))) (Kd.R_lt (tR HO268.out))) (below_size tBs))
            have n7_ := Aside0.mk (blk_below (tK BK170.out) hb)
            have n8_ := Aside0.mk (blk_below (tK BK171.out) hb)
            have n9_ := Aside0.mk (blk_below (tK BK198.out) hb)
            have n10_ := Aside0.mk (blk_below (tK BK207.out) hb)
            have n11_ := Aside0.mk (blk_below (tK BK216.out) hb)
            have n12_ := Aside0.mk (blk_below (tK BK225.out) hb)
            have n13_ := Aside0.mk (blk_below (tK BK277.out) hb)
            have n14_ := Aside0.mk (below_step tBs hb)
            clear HO_199005 HO_208005 HO_217005 HO_226005 HO260 HO268 BK170 BK171 BK198 BK207 BK216 BK225 BK277 HB
            have HO_199005 := n0_
            have HO_208005 := n1_
            have HO_217005 := n2_
            have HO_226005 := n3_
            have HO260 := n4_
            have HO268 := n5_
            have HO276 := n6_
            have BK170 := n7_
            have BK171 := n8_
            have BK198 := n9_
            have BK207 := n10_
            have BK216 := n11_
            have BK225 := n12_
            have BK277 := n13_
            have HB := n14_
            clear n0_ n1_ n2_ n3_ n4_ n5_ n6_ n7_ n8_ n9_ n10_ n11_ n12_ n13_ n14_
            (try clear hb)
            (try clear hb2)
            (try clear hk)
            (try clear hi)
            (try clear ho0)
            refine hK.out _ _ (tC6 BK170.out (tC6e BK171.out)) (fun hHeld => ?_)
            clear hK K
            refine norm_ (a' := ?_) ?_ ?_
            rotate_left
            ·show Act.put _ (some 79) _ = _
             simp only [Act.put, List.setIfInBounds_toArray, List.set_cons_zero, List.set_cons_succ, i64_w, i32_w]
             rfl
            exact norm_ (by simp only [putAll, Act.put, List.setIfInBounds_toArray, List.set_cons_zero, List.set_cons_succ]) (hCont (.slice Ao141 t258.length co141, .slice Ao142 t266.length co142, v275, gb277) _ ⟨hHeld, (tR (Kd.R_mono HO260.out (fun _ hk => ⟨hk.1.2, ⟨hk.2, ⟨hk.1.1.1.1.1.2, ⟨hk.1.1.1.1.2, ⟨hk.1.1.1.2, hk.1.1.2⟩⟩⟩⟩⟩))), (tR (Kd.R_mono HO268.out (fun _ hk => ⟨hk.1.2, ⟨hk.2, ⟨hk.1.1.1.1.1.2, ⟨hk.1.1.1.1.2, ⟨hk.1.1.1.2, hk.1.1.2⟩⟩⟩⟩⟩))), (tR (Kd.R_mono HO276.out (fun _ hk => ⟨hk.1.2, ⟨hk.2, ⟨hk.1.1.1.1.1.2, ⟨hk.1.1.1.1.2, ⟨hk.1.1.1.2, hk.1.1.2⟩⟩⟩⟩⟩))), (tR (Kd.R_mono HO_199005.out (fun _ hk => ⟨hk.1.1.2, ⟨hk.1.2, ⟨hk.2, ⟨hk.1.1.1.1, ⟨hk.1.1.1.2.1, hk.1.1.1.2.2⟩⟩⟩⟩⟩))), (tR (Kd.R_mono HO_208005.out (fun _ hk => ⟨hk.1.1.2, ⟨hk.1.2, ⟨hk.2, ⟨hk.1.1.1.1, ⟨hk.1.1.1.2.1, hk.1.1.1.2.2⟩⟩⟩⟩⟩))), (tR (Kd.R_mono HO_217005.out (fun _ hk => ⟨hk.1.1.2, ⟨hk.1.2, ⟨hk.2, ⟨hk.1.1.1.1, ⟨hk.1.1.1.2.1, hk.1.1.1.2.2⟩⟩⟩⟩⟩))), (tR (Kd.R_mono HO_226005.out (fun _ hk => ⟨hk.1.1.2, ⟨hk.1.2, ⟨hk.2, ⟨hk.1.1.1.1, ⟨hk.1.1.1.2.1, hk.1.1.1.2.2⟩⟩⟩⟩⟩))), (tK BK170.out), (tK BK171.out), (tK BK198.out), (tK BK207.out), (tK BK216.out), (tK BK225.out), (tK BK277.out), GW277.out, GE277.out, NB170_277.out, NB277_170.out, NB171_277.out, NB277_171.out, NB198_277.out, NB277_198.out, NB207_277.out, NB277_207.out, NB216_277.out, NB277_216.out, NB225_277.out, NB277_225.out, tBs⟩)
          ·skip
           refine box_step ?hg (N := 13) ?hd (cs := #[.int .i64 0, .int .i64 0, .int .i64 0, .int .i64 0, .int .i64 0, .slice none 0 0]) (t := 26) ?hr ?_; (case hd => rfl); (case hg => rfl); (case hr => first | (go_simp; done) | (go_simp; rfl))
           intro gb277 hg w139 hbox hb
           have n0_ := Aside0.mk (Kd.R_below (tR HO_199005.out) hb)
           have n1_ := Aside0.mk (Kd.R_below (tR HO_208005.out) hb)
           have n2_ := Aside0.mk (Kd.R_below (tR HO_217005.out) hb)
           have n3_ := Aside0.mk (Kd.R_below (tR HO_226005.out) hb)
           have n4_ := Aside0.mk (Kd.R_below (tR HO260.out) hb)
           have n5_ := Aside0.mk (blk_below (tK BK170.out) hb)
           have n6_ := Aside0.mk (blk_below (tK BK171.out) hb)
           have n7_ := Aside0.mk (blk_below (tK BK198.out) hb)
           have n8_ := Aside0.mk (blk_below (tK BK207.out) hb)
           have n9_ := Aside0.mk (blk_below (tK BK216.out) hb)
           have n10_ := Aside0.mk (blk_below (tK BK225.out) hb)
           have n11_ := Aside0.mk (below_step tBs hb)
           have n12_ := Aside0.mk (hbox)
           have n13_ := Aside0.mk ((by rw [hg]; exact (below_size tBs) : w.heap.size ≤ gb277))
           have n14_ := Aside0.mk ((by rw [hg]; exact (below_size tBs) : w.heap.size ≤ gb277))
           have n15_ := Aside0.mk ((by rw [hg]; exact Nat.ne_of_lt (blk_lt (tK BK170.out)) : gb170 ≠ gb277))
           have n16_ := Aside0.mk ((by rw [hg]; exact Nat.ne_of_gt (blk_lt (tK BK170.out)) : gb277 ≠ gb170))
           have n17_ := Aside0.mk ((by rw [hg]; exact Nat.ne_of_lt (blk_lt (tK BK171.out)) : gb171 ≠ gb277))
           have n18_ := Aside0.mk ((by rw [hg]; exact Nat.ne_of_gt (blk_lt (tK BK171.out)) : gb277 ≠ gb171))
           have n19_ := Aside0.mk ((by rw [hg]; exact Nat.ne_of_lt (blk_lt (tK BK198.out)) : gb198 ≠ gb277))
           have n20_ := Aside0.mk ((by rw [hg]; exact Nat.ne_of_gt (blk_lt (tK BK198.out)) : gb277 ≠ gb198))
           have n21_ := Aside0.mk ((by rw [hg]; exact Nat.ne_of_lt (blk_lt (tK BK207.out)) : gb207 ≠ gb277))
           have n22_ := Aside0.mk ((by rw [hg]; exact Nat.ne_of_gt (blk_lt (tK BK207.out)) : gb277 ≠ gb207))
           have n23_ := Aside0.mk ((by rw [hg]; exact Nat.ne_of_lt (blk_lt (tK BK216.out)) : gb216 ≠ gb277))
           have n24_ := Aside0.mk ((by rw [hg]; exact Nat.ne_of_gt (blk_lt (tK BK216.out)) : gb277 ≠ gb216))
           have n25_ := Aside0.mk ((by rw [hg]; exact Nat.ne_of_lt (blk_lt (tK BK225.out)) : gb225 ≠ gb277))
           have n26_ := Aside0.mk ((by rw [hg]; exact Nat.ne_of_gt (blk_lt (tK BK225.out)) : gb277 ≠ gb225))
           clear HO_199005 HO_208005 HO_217005 HO_226005 HO260 BK170 BK171 BK198 BK207 BK216 BK225 HB
           have HO_199005 := n0_
           have HO_208005 := n1_
           have HO_217005 := n2_
           have HO_226005 := n3_
           have HO260 := n4_
           have BK170 := n5_
           have BK171 := n6_
           have BK198 := n7_
           have BK207 := n8_
           have BK216 := n9_
           have BK225 := n10_
           have HB := n11_
           have BK277 := n12_
           have GW277 := n13_
           have GE277 := n14_
           have NB170_277 := n15_
           have NB277_170 := n16_
           have NB171_277 := n17_
           have NB277_171 := n18_
           have NB198_277 := n19_
           have NB277_198 := n20_
           have NB207_277 := n21_
           have NB277_207 := n22_
           have NB216_277 := n23_
           have NB277_216 := n24_
           have NB225_277 := n25_
           have NB277_225 := n26_
           clear n0_ n1_ n2_ n3_ n4_ n5_ n6_ n7_ n8_ n9_ n10_ n11_ n12_ n13_ n14_ n15_ n16_ n17_ n18_ n19_ n20_ n21_ n22_ n23_ n24_ n25_ n26_ hb hbox hg
           refine hK.out _ _ (tC6 BK170.out (tC6e BK171.out)) (fun hHeld => ?_)
           clear hK K
           refine norm_ (a' := ?_) ?_ ?_
           rotate_left
           ·show Act.put _ (some 13) _ = _
            simp only [Act.put, List.setIfInBounds_toArray, List.set_cons_zero, List.set_cons_succ, i64_w, i32_w]
            rfl
           refine one_ (i := 3) (N := some 78) #[true, true, true, true, false, true, false] rfl rfl (by kernel_rfl) (by decide) (fun K hK => ?_)
           refine goes_ Try.func13 (by kernel_rfl) rfl #[.agg #[.int .i64 a1_0, .int .i64 a1_1, .int .i64 a1_2, .int .i64 a1_3, .int .i64 a1_4, .slice A1_5 l1_5.length c1_5]] (by rfl) rfl rfl tA ?_
           with_reducible refine (laws_toTimes.calls kj34 a1_0 a1_1 a1_2 a1_3 a1_4 _ _ l1_5 t261 t262 t263 t264 t265 t266 _ ?side1 ?side2 A121.out).mono ?_
           (case side1 => repeat (first | exact (Kd.C_below HR1_5.out HB.out) | (with_reducible refine Kd.C_alloc ?_ _) | (with_reducible refine Kd.C_drewN ?_ _) | (with_reducible refine Kd.C_drew ?_)))
           (case side2 => exact HC1_5.out)
           rintro e w140 ⟨v267, rfl, ho0, hb⟩
           refine ⟨_, rfl, ?_⟩
           have n0_ := Aside0.mk (Kd.R_elder' (tR HO_199005.out) (Kd.R_base ho0) hb)
           have n1_ := Aside0.mk (Kd.R_elder' (tR HO_208005.out) (Kd.R_base ho0) hb)
           have n2_ := Aside0.mk (Kd.R_elder' (tR HO_217005.out) (Kd.R_base ho0) hb)
           have n3_ := Aside0.mk (Kd.R_elder' (tR HO_226005.out) (Kd.R_base ho0) hb)
           have n4_ := Aside0.mk (Kd.R_elder' (tR HO260.out) (Kd.R_base ho0) hb)
           have n5_ := Aside0.mk (Kd.R_lower (Kd.R_new' (Kd.R_new' (Kd.R_new' (Kd.R_new' (Kd.R_new' ho0 (Kd.R_lt (tR HO_199005.out))) (Kd.R_lt (tR HO_208005.out))) (Kd.R_lt (tR HO_217005.out))) (Kd.R_lt (tR HO_226005.out))) (Kd.R_lt (tR HO260.out))) (below_size tBs))
           have n6_ := Aside0.mk (blk_below (tK BK170.out) hb)
           have n7_ := Aside0.mk (blk_below (tK BK171.out) hb)
           have n8_ := Aside0.mk (blk_below (tK BK198.out) hb)
           have n9_ := Aside0.mk (blk_below (tK BK207.out) hb)
           have n10_ := Aside0.mk (blk_below (tK BK216.out) hb)
           have n11_ := Aside0.mk (blk_below (tK BK225.out) hb)
           have n12_ := Aside0.mk (blk_below (tK BK277.out) hb)
           have n13_ := Aside0.mk (below_step tBs hb)
           clear HO_199005 HO_208005 HO_217005 HO_226005 HO260 BK170 BK171 BK198 BK207 BK216 BK225 BK277 HB
           have HO_199005 := n0_
           have HO_208005 := n1_
           have HO_217005 := n2_
           have HO_226005 := n3_
           have HO260 := n4_
           have HO268 := n5_
           have BK170 := n6_
           have BK171 := n7_
           have BK198 := n8_
           have BK207 := n9_
           have BK216 := n10_
           have BK225 := n11_
           have BK277 := n12_
           have HB := n13_
           clear n0_ n1_ n2_ n3_ n4_ n5_ n6_ n7_ n8_ n9_ n10_ n11_ n12_ n13_
           (try clear hb)
           (try clear hb2)
           (try clear hk)
           (try clear hi)
           (try clear ho0)
           obtain ⟨Ao141, co141, eo141⟩ := Kd.R_slice HO260.out
           (first | subst eo141 | (injection eo141 with f1_ f2_ f3_; have f4_ := f1_.symm; have f5_ := f3_.symm; clear f1_ f2_ f3_; subst f4_; subst f5_))
           obtain ⟨Ao142, co142, eo142⟩ := Kd.R_slice HO268.out
           (first | subst eo142 | (injection eo142 with f1_ f2_ f3_; have f4_ := f1_.symm; have f5_ := f3_.symm; clear f1_ f2_ f3_; subst f4_; subst f5_))
           refine hK.out _ _ (tC6 BK170.out (tC6e BK171.out)) (fun hHeld => ?_)
           clear hK K
           refine norm_ (a' := ?_) ?_ ?_
           rotate_left
           ·show Act.put _ (some 78) _ = _
            simp only [Act.put, List.setIfInBounds_toArray, List.set_cons_zero, List.set_cons_succ, i64_w, i32_w]
            rfl
           refine one_ (i := 4) (N := some 79) (tf 6 1) rfl rfl (by kernel_rfl) (by decide) (fun K hK => ?_)
           refine goes_ Try.func14 (by kernel_rfl) rfl #[.agg #[.int .i64 t253, .int .i64 t254, .int .i64 t255, .int .i64 t256, .int .i64 t257, .slice Ao141 t258.length co141], .agg #[.int .i64 t261, .int .i64 t262, .int .i64 t263, .int .i64 t264, .int .i64 t265, .slice Ao142 t266.length co142]] (by rfl) rfl rfl tA ?_
           with_reducible refine (impl_TimesJoin.calls kj34 t253 t254 t255 t256 t257 _ _ t258 t261 t262 t263 t264 t265 _ _ t266 t269 t270 t271 t272 t273 t274 _ ?side1 ?side2 ?side3 ?side4 A122.out).mono ?_
           (case side1 => repeat (first | exact (Kd.R_reads' HO260.out).2.2 | (with_reducible refine Kd.C_alloc ?_ _) | (with_reducible refine Kd.C_drewN ?_ _) | (with_reducible refine Kd.C_drew ?_)))
           (case side2 => exact (Kd.R_reads' HO260.out).2.1)
           (case side3 => repeat (first | exact (Kd.R_reads' HO268.out).2.2 | (with_reducible refine Kd.C_alloc ?_ _) | (with_reducible refine Kd.C_drewN ?_ _) | (with_reducible refine Kd.C_drew ?_)))
           (case side4 => exact (Kd.R_reads' HO268.out).2.1)
           rintro e w143 ⟨v275, rfl, ho0, hb⟩
           refine ⟨_, rfl, ?_⟩
           have n0_ := Aside0.mk (Kd.R_elder' (tR HO_199005.out) (Kd.R_base ho0) hb)
           have n1_ := Aside0.mk (Kd.R_elder' (tR HO_208005.out) (Kd.R_base ho0) hb)
           have n2_ := Aside0.mk (Kd.R_elder' (tR HO_217005.out) (Kd.R_base ho0) hb)
           have n3_ := Aside0.mk (Kd.R_elder' (tR HO_226005.out) (Kd.R_base ho0) hb)
           have n4_ := Aside0.mk (Kd.R_elder' (tR HO260.out) (Kd.R_base ho0) hb)
           have n5_ := Aside0.mk (Kd.R_elder' (tR HO268.out) (Kd.R_base ho0) hb)
           have n6_ := Aside0.mk (Kd.R_lower (Kd.R_new' (Kd.R_new' (Kd.R_new' (Kd.R_new' (Kd.R_new' (Kd.R_new' ho0 (Kd.R_lt (tR HO_199005.out))) (Kd.R_lt (tR HO_208005.out))) (Kd.R_lt (tR HO_217005.out))) (Kd.R_lt (tR HO_226005.out))) (Kd.R_lt (tR HO260.out))) (Kd.R_lt (tR HO268.out))) (below_size tBs))
           have n7_ := Aside0.mk (blk_below (tK BK170.out) hb)
           have n8_ := Aside0.mk (blk_below (tK BK171.out) hb)
           have n9_ := Aside0.mk (blk_below (tK BK198.out) hb)
           have n10_ := Aside0.mk (blk_below (tK BK207.out) hb)
           have n11_ := Aside0.mk (blk_below (tK BK216.out) hb)
           have n12_ := Aside0.mk (blk_below (tK BK225.out) hb)
           have n13_ := Aside0.mk (blk_below (tK BK277.out) hb)
           have n14_ := Aside0.mk (below_step tBs hb)
           clear HO_199005 HO_208005 HO_217005 HO_226005 HO260 HO268 BK170 BK171 BK198 BK207 BK216 BK225 BK277 HB
           have HO_199005 := n0_
           have HO_208005 := n1_
           have HO_217005 := n2_
           have HO_226005 := n3_
           have HO260 := n4_
           have HO268 := n5_
           have HO276 := n6_
           have BK170 := n7_
           have BK171 := n8_
           have BK198 := n9_
           have BK207 := n10_
           have BK216 := n11_
           have BK225 := n12_
           have BK277 := n13_
           have HB := n14_
           clear n0_ n1_ n2_ n3_ n4_ n5_ n6_ n7_ n8_ n9_ n10_ n11_ n12_ n13_ n14_
           (try clear hb)
           (try clear hb2)
           (try clear hk)
           (try clear hi)
           (try clear ho0)
           refine hK.out _ _ (tC6 BK170.out (tC6e BK171.out)) (fun hHeld => ?_)
           clear hK K
           refine norm_ (a' := ?_) ?_ ?_
           rotate_left
           ·show Act.put _ (some 79) _ = _
            simp only [Act.put, List.setIfInBounds_toArray, List.set_cons_zero, List.set_cons_succ, i64_w, i32_w]
            rfl
           exact norm_ (by simp only [putAll, Act.put, List.setIfInBounds_toArray, List.set_cons_zero, List.set_cons_succ]) (hCont (.slice Ao141 t258.length co141, .slice Ao142 t266.length co142, v275, gb277) _ ⟨hHeld, (tR (Kd.R_mono HO260.out (fun _ hk => ⟨hk.1.2, ⟨hk.2, ⟨hk.1.1.1.1.1.2, ⟨hk.1.1.1.1.2, ⟨hk.1.1.1.2, hk.1.1.2⟩⟩⟩⟩⟩))), (tR (Kd.R_mono HO268.out (fun _ hk => ⟨hk.1.2, ⟨hk.2, ⟨hk.1.1.1.1.1.2, ⟨hk.1.1.1.1.2, ⟨hk.1.1.1.2, hk.1.1.2⟩⟩⟩⟩⟩))), (tR (Kd.R_mono HO276.out (fun _ hk => ⟨hk.1.2, ⟨hk.2, ⟨hk.1.1.1.1.1.2, ⟨hk.1.1.1.1.2, ⟨hk.1.1.1.2, hk.1.1.2⟩⟩⟩⟩⟩))), (tR (Kd.R_mono HO_199005.out (fun _ hk => ⟨hk.1.1.2, ⟨hk.1.2, ⟨hk.2, ⟨hk.1.1.1.1, ⟨hk.1.1.1.2.1, hk.1.1.1.2.2⟩⟩⟩⟩⟩))), (tR (Kd.R_mono HO_208005.out (fun _ hk => ⟨hk.1.1.2, ⟨hk.1.2, ⟨hk.2, ⟨hk.1.1.1.1, ⟨hk.1.1.1.2.1, hk.1.1.1.2.2⟩⟩⟩⟩⟩))), (tR (Kd.R_mono HO_217005.out (fun _ hk => ⟨hk.1.1.2, ⟨hk.1.2, ⟨hk.2, ⟨hk.1.1.1.1, ⟨hk.1.1.1.2.1, hk.1.1.1.2.2⟩⟩⟩⟩⟩))), (tR (Kd.R_mono HO_226005.out (fun _ hk => ⟨hk.1.1.2, ⟨hk.1.2, ⟨hk.2, ⟨hk.1.1.1.1, ⟨hk.1.1.1.2.1, hk.1.1.1.2.2⟩⟩⟩⟩⟩))), (tK BK170.out), (tK BK171.out), (tK BK198.out), (tK BK207.out), (tK BK216.out), (tK BK225.out), (tK BK277.out), GW277.out, GE277.out, NB170_277.out, NB277_170.out, NB171_277.out, NB277_171.out, NB198_277.out, NB277_198.out, NB207_277.out, NB277_207.out, NB216_277.out, NB277_216.out, NB225_277.out, NB277_225.out, tBs⟩)
         ·skip
          refine box_step ?hg (N := 13) ?hd (cs := #[.int .i64 0, .int .i64 0, .int .i64 0, .int .i64 0, .int .i64 0, .slice none 0 0]) (t := 26) ?hr ?_; (case hd => rfl); (case hg => rfl); (case hr => first | (go_simp; done) | (go_simp; rfl))
          intro gb277 hg w138 hbox hb
          have n0_ := Aside0.mk (Kd.R_below (tR HO_199005.out) hb)
          have n1_ := Aside0.mk (Kd.R_below (tR HO_208005.out) hb)
          have n2_ := Aside0.mk (Kd.R_below (tR HO_217005.out) hb)
          have n3_ := Aside0.mk (Kd.R_below (tR HO_226005.out) hb)
          have n4_ := Aside0.mk (blk_below (tK BK170.out) hb)
          have n5_ := Aside0.mk (blk_below (tK BK171.out) hb)
          have n6_ := Aside0.mk (blk_below (tK BK198.out) hb)
          have n7_ := Aside0.mk (blk_below (tK BK207.out) hb)
          have n8_ := Aside0.mk (blk_below (tK BK216.out) hb)
          have n9_ := Aside0.mk (blk_below (tK BK225.out) hb)
          have n10_ := Aside0.mk (below_step tBs hb)
          have n11_ := Aside0.mk (hbox)
          have n12_ := Aside0.mk ((by rw [hg]; exact (below_size tBs) : w.heap.size ≤ gb277))
          have n13_ := Aside0.mk ((by rw [hg]; exact (below_size tBs) : w.heap.size ≤ gb277))
          have n14_ := Aside0.mk ((by rw [hg]; exact Nat.ne_of_lt (blk_lt (tK BK170.out)) : gb170 ≠ gb277))
          have n15_ := Aside0.mk ((by rw [hg]; exact Nat.ne_of_gt (blk_lt (tK BK170.out)) : gb277 ≠ gb170))
          have n16_ := Aside0.mk ((by rw [hg]; exact Nat.ne_of_lt (blk_lt (tK BK171.out)) : gb171 ≠ gb277))
          have n17_ := Aside0.mk ((by rw [hg]; exact Nat.ne_of_gt (blk_lt (tK BK171.out)) : gb277 ≠ gb171))
          have n18_ := Aside0.mk ((by rw [hg]; exact Nat.ne_of_lt (blk_lt (tK BK198.out)) : gb198 ≠ gb277))
          have n19_ := Aside0.mk ((by rw [hg]; exact Nat.ne_of_gt (blk_lt (tK BK198.out)) : gb277 ≠ gb198))
          have n20_ := Aside0.mk ((by rw [hg]; exact Nat.ne_of_lt (blk_lt (tK BK207.out)) : gb207 ≠ gb277))
          have n21_ := Aside0.mk ((by rw [hg]; exact Nat.ne_of_gt (blk_lt (tK BK207.out)) : gb277 ≠ gb207))
          have n22_ := Aside0.mk ((by rw [hg]; exact Nat.ne_of_lt (blk_lt (tK BK216.out)) : gb216 ≠ gb277))
          have n23_ := Aside0.mk ((by rw [hg]; exact Nat.ne_of_gt (blk_lt (tK BK216.out)) : gb277 ≠ gb216))
          have n24_ := Aside0.mk ((by rw [hg]; exact Nat.ne_of_lt (blk_lt (tK BK225.out)) : gb225 ≠ gb277))
          have n25_ := Aside0.mk ((by rw [hg]; exact Nat.ne_of_gt (blk_lt (tK BK225.out)) : gb277 ≠ gb225))
          clear HO_199005 HO_208005 HO_217005 HO_226005 BK170 BK171 BK198 BK207 BK216 BK225 HB
          have HO_199005 := n0_
          have HO_208005 := n1_
          have HO_217005 := n2_
          have HO_226005 := n3_
          have BK170 := n4_
          have BK171 := n5_
          have BK198 := n6_
          have BK207 := n7_
          have BK216 := n8_
          have BK225 := n9_
          have HB := n10_
          have BK277 := n11_
          have GW277 := n12_
          have GE277 := n13_
          have NB170_277 := n14_
          have NB277_170 := n15_
          have NB171_277 := n16_
          have NB277_171 := n17_
          have NB198_277 := n18_
          have NB277_198 := n19_
          have NB207_277 := n20_
          have NB277_207 := n21_
          have NB216_277 := n22_
          have NB277_216 := n23_
          have NB225_277 := n24_
          have NB277_225 := n25_
          clear n0_ n1_ n2_ n3_ n4_ n5_ n6_ n7_ n8_ n9_ n10_ n11_ n12_ n13_ n14_ n15_ n16_ n17_ n18_ n19_ n20_ n21_ n22_ n23_ n24_ n25_ hb hbox hg
          refine hK.out _ _ (tC6 BK170.out (tC6e BK171.out)) (fun hHeld => ?_)
          clear hK K
          refine norm_ (a' := ?_) ?_ ?_
          rotate_left
          ·show Act.put _ (some 13) _ = _
           simp only [Act.put, List.setIfInBounds_toArray, List.set_cons_zero, List.set_cons_succ, i64_w, i32_w]
           rfl
          refine one_ (i := 1) (N := some 76) #[true, true, true, false, false, true, false] rfl rfl (by kernel_rfl) (by decide) (fun K hK => ?_)
          refine goes_ Try.func13 (by kernel_rfl) rfl #[.agg #[.int .i64 a0_0, .int .i64 a0_1, .int .i64 a0_2, .int .i64 a0_3, .int .i64 a0_4, .slice A0_5 l0_5.length c0_5]] (by rfl) rfl rfl tA ?_
          with_reducible refine (laws_toTimes.calls kj34 a0_0 a0_1 a0_2 a0_3 a0_4 _ _ l0_5 t253 t254 t255 t256 t257 t258 _ ?side1 ?side2 A120.out).mono ?_
          (case side1 => repeat (first | exact (Kd.C_below HR0_5.out HB.out) | (with_reducible refine Kd.C_alloc ?_ _) | (with_reducible refine Kd.C_drewN ?_ _) | (with_reducible refine Kd.C_drew ?_)))
          (case side2 => exact HC0_5.out)
          rintro e w139 ⟨v259, rfl, ho0, hb⟩
          refine ⟨_, rfl, ?_⟩
          have n0_ := Aside0.mk (Kd.R_elder' (tR HO_199005.out) (Kd.R_base ho0) hb)
          have n1_ := Aside0.mk (Kd.R_elder' (tR HO_208005.out) (Kd.R_base ho0) hb)
          have n2_ := Aside0.mk (Kd.R_elder' (tR HO_217005.out) (Kd.R_base ho0) hb)
          have n3_ := Aside0.mk (Kd.R_elder' (tR HO_226005.out) (Kd.R_base ho0) hb)
          have n4_ := Aside0.mk (Kd.R_lower (Kd.R_new' (Kd.R_new' (Kd.R_new' (Kd.R_new' ho0 (Kd.R_lt (tR HO_199005.out))) (Kd.R_lt (tR HO_208005.out))) (Kd.R_lt (tR HO_217005.out))) (Kd.R_lt (tR HO_226005.out))) (below_size tBs))
          have n5_ := Aside0.mk (blk_below (tK BK170.out) hb)
          have n6_ := Aside0.mk (blk_below (tK BK171.out) hb)
          have n7_ := Aside0.mk (blk_below (tK BK198.out) hb)
          have n8_ := Aside0.mk (blk_below (tK BK207.out) hb)
          have n9_ := Aside0.mk (blk_below (tK BK216.out) hb)
          have n10_ := Aside0.mk (blk_below (tK BK225.out) hb)
          have n11_ := Aside0.mk (blk_below (tK BK277.out) hb)
          have n12_ := Aside0.mk (below_step tBs hb)
          clear HO_199005 HO_208005 HO_217005 HO_226005 BK170 BK171 BK198 BK207 BK216 BK225 BK277 HB
          have HO_199005 := n0_
          have HO_208005 := n1_
          have HO_217005 := n2_
          have HO_226005 := n3_
          have HO260 := n4_
          have BK170 := n5_
          have BK171 := n6_
          have BK198 := n7_
          have BK207 := n8_
          have BK216 := n9_
          have BK225 := n10_
          have BK277 := n11_
          have HB := n12_
          clear n0_ n1_ n2_ n3_ n4_ n5_ n6_ n7_ n8_ n9_ n10_ n11_ n12_
          (try clear hb)
          (try clear hb2)
          (try clear hk)
          (try clear hi)
          (try clear ho0)
          refine hK.out _ _ (tC6 BK170.out (tC6e BK171.out)) (fun hHeld => ?_)
          clear hK K
          refine norm_ (a' := ?_) ?_ ?_
          rotate_left
          ·show Act.put _ (some 76) _ = _
           simp only [Act.put, List.setIfInBounds_toArray, List.set_cons_zero, List.set_cons_succ, i64_w, i32_w]
           rfl
          refine one_ (i := 3) (N := some 78) #[true, true, true, true, false, true, false] rfl rfl (by kernel_rfl) (by decide) (fun K hK => ?_)
          refine goes_ Try.func13 (by kernel_rfl) rfl #[.agg #[.int .i64 a1_0, .int .i64 a1_1, .int .i64 a1_2, .int .i64 a1_3, .int .i64 a1_4, .slice A1_5 l1_5.length c1_5]] (by rfl) rfl rfl tA ?_
          with_reducible refine (laws_toTimes.calls kj34 a1_0 a1_1 a1_2 a1_3 a1_4 _ _ l1_5 t261 t262 t263 t264 t265 t266 _ ?side1 ?side2 A121.out).mono ?_
          (case side1 => repeat (first | exact (Kd.C_below HR1_5.out HB.out) | (with_reducible refine Kd.C_alloc ?_ _) | (with_reducible refine Kd.C_drewN ?_ _) | (with_reducible refine Kd.C_drew ?_)))
          (case side2 => exact HC1_5.out)
          rintro e w140 ⟨v267, rfl, ho0, hb⟩
          refine ⟨_, rfl, ?_⟩
          have n0_ := Aside0.mk (Kd.R_elder' (tR HO_199005.out) (Kd.R_base ho0) hb)
          have n1_ := Aside0.mk (Kd.R_elder' (tR HO_208005.out) (Kd.R_base ho0) hb)
          have n2_ := Aside0.mk (Kd.R_elder' (tR HO_217005.out) (Kd.R_base ho0) hb)
          have n3_ := Aside0.mk (Kd.R_elder' (tR HO_226005.out) (Kd.R_base ho0) hb)
          have n4_ := Aside0.mk (Kd.R_elder' (tR HO260.out) (Kd.R_base ho0) hb)
          have n5_ := Aside0.mk (Kd.R_lower (Kd.R_new' (Kd.R_new' (Kd.R_new' (Kd.R_new' (Kd.R_new' ho0 (Kd.R_lt (tR HO_199005.out))) (Kd.R_lt (tR HO_208005.out))) (Kd.R_lt (tR HO_217005.out))) (Kd.R_lt (tR HO_226005.out))) (Kd.R_lt (tR HO260.out))) (below_size tBs))
          have n6_ := Aside0.mk (blk_below (tK BK170.out) hb)
          have n7_ := Aside0.mk (blk_below (tK BK171.out) hb)
          have n8_ := Aside0.mk (blk_below (tK BK198.out) hb)
          have n9_ := Aside0.mk (blk_below (tK BK207.out) hb)
          have n10_ := Aside0.mk (blk_below (tK BK216.out) hb)
          have n11_ := Aside0.mk (blk_below (tK BK225.out) hb)
          have n12_ := Aside0.mk (blk_below (tK BK277.out) hb)
          have n13_ := Aside0.mk (below_step tBs hb)
          clear HO_199005 HO_208005 HO_217005 HO_226005 HO260 BK170 BK171 BK198 BK207 BK216 BK225 BK277 HB
          have HO_199005 := n0_
          have HO_208005 := n1_
          have HO_217005 := n2_
          have HO_226005 := n3_
          have HO260 := n4_
          have HO268 := n5_
          have BK170 := n6_
          have BK171 := n7_
          have BK198 := n8_
          have BK207 := n9_
          have BK216 := n10_
          have BK225 := n11_
          have BK277 := n12_
          have HB := n13_
          clear n0_ n1_ n2_ n3_ n4_ n5_ n6_ n7_ n8_ n9_ n10_ n11_ n12_ n13_
          (try clear hb)
          (try clear hb2)
          (try clear hk)
          (try clear hi)
          (try clear ho0)
          obtain ⟨Ao141, co141, eo141⟩ := Kd.R_slice HO260.out
          (first | subst eo141 | (injection eo141 with f1_ f2_ f3_; have f4_ := f1_.symm; have f5_ := f3_.symm; clear f1_ f2_ f3_; subst f4_; subst f5_))
          obtain ⟨Ao142, co142, eo142⟩ := Kd.R_slice HO268.out
          (first | subst eo142 | (injection eo142 with f1_ f2_ f3_; have f4_ := f1_.symm; have f5_ := f3_.symm; clear f1_ f2_ f3_; subst f4_; subst f5_))
          refine hK.out _ _ (tC6 BK170.out (tC6e BK171.out)) (fun hHeld => ?_)
          clear hK K
          refine norm_ (a' := ?_) ?_ ?_
          rotate_left
          ·show Act.put _ (some 78) _ = _
           simp only [Act.put, List.setIfInBounds_toArray, List.set_cons_zero, List.set_cons_succ, i64_w, i32_w]
           rfl
          refine one_ (i := 4) (N := some 79) (tf 6 1) rfl rfl (by kernel_rfl) (by decide) (fun K hK => ?_)
          refine goes_ Try.func14 (by kernel_rfl) rfl #[.agg #[.int .i64 t253, .int .i64 t254, .int .i64 t255, .int .i64 t256, .int .i64 t257, .slice Ao141 t258.length co141], .agg #[.int .i64 t261, .int .i64 t262, .int .i64 t263, .int .i64 t264, .int .i64 t265, .slice Ao142 t266.length co142]] (by rfl) rfl rfl tA ?_
          with_reducible refine (impl_TimesJoin.calls kj34 t253 t254 t255 t256 t257 _ _ t258 t261 t262 t263 t264 t265 _ _ t266 t269 t270 t271 t272 t273 t274 _ ?side1 ?side2 ?side3 ?side4 A122.out).mono ?_
          (case side1 => repeat (first | exact (Kd.R_reads' HO260.out).2.2 | (with_reducible refine Kd.C_alloc ?_ _) | (with_reducible refine Kd.C_drewN ?_ _) | (with_reducible refine Kd.C_drew ?_)))
          (case side2 => exact (Kd.R_reads' HO260.out).2.1)
          (case side3 => repeat (first | exact (Kd.R_reads' HO268.out).2.2 | (with_reducible refine Kd.C_alloc ?_ _) | (with_reducible refine Kd.C_drewN ?_ _) | (with_reducible refine Kd.C_drew ?_)))
          (case side4 => exact (Kd.R_reads' HO268.out).2.1)
          rintro e w143 ⟨v275, rfl, ho0, hb⟩
          refine ⟨_, rfl, ?_⟩
          have n0_ := Aside0.mk (Kd.R_elder' (tR HO_199005.out) (Kd.R_base ho0) hb)
          have n1_ := Aside0.mk (Kd.R_elder' (tR HO_208005.out) (Kd.R_base ho0) hb)
          have n2_ := Aside0.mk (Kd.R_elder' (tR HO_217005.out) (Kd.R_base ho0) hb)
          have n3_ := Aside0.mk (Kd.R_elder' (tR HO_226005.out) (Kd.R_base ho0) hb)
          have n4_ := Aside0.mk (Kd.R_elder' (tR HO260.out) (Kd.R_base ho0) hb)
          have n5_ := Aside0.mk (Kd.R_elder' (tR HO268.out) (Kd.R_base ho0) hb)
          have n6_ := Aside0.mk (Kd.R_lower (Kd.R_new' (Kd.R_new' (Kd.R_new' (Kd.R_new' (Kd.R_new' (Kd.R_new' ho0 (Kd.R_lt (tR HO_199005.out))) (Kd.R_lt (tR HO_208005.out))) (Kd.R_lt (tR HO_217005.out))) (Kd.R_lt (tR HO_226005.out))) (Kd.R_lt (tR HO260.out))) (Kd.R_lt (tR HO268.out))) (below_size tBs))
          have n7_ := Aside0.mk (blk_below (tK BK170.out) hb)
          have n8_ := Aside0.mk (blk_below (tK BK171.out) hb)
          have n9_ := Aside0.mk (blk_below (tK BK198.out) hb)
          have n10_ := Aside0.mk (blk_below (tK BK207.out) hb)
          have n11_ := Aside0.mk (blk_below (tK BK216.out) hb)
          have n12_ := Aside0.mk (blk_below (tK BK225.out) hb)
          have n13_ := Aside0.mk (blk_below (tK BK277.out) hb)
          have n14_ := Aside0.mk (below_step tBs hb)
          clear HO_199005 HO_208005 HO_217005 HO_226005 HO260 HO268 BK170 BK171 BK198 BK207 BK216 BK225 BK277 HB
          have HO_199005 := n0_
          have HO_208005 := n1_
          have HO_217005 := n2_
          have HO_226005 := n3_
          have HO260 := n4_
          have HO268 := n5_
          have HO276 := n6_
          have BK170 := n7_
          have BK171 := n8_
          have BK198 := n9_
          have BK207 := n10_
          have BK216 := n11_
          have BK225 := n12_
          have BK277 := n13_
          have HB := n14_
          clear n0_ n1_ n2_ n3_ n4_ n5_ n6_ n7_ n8_ n9_ n10_ n11_ n12_ n13_ n14_
          (try clear hb)
          (try clear hb2)
          (try clear hk)
          (try clear hi)
          (try clear ho0)
          refine hK.out _ _ (tC6 BK170.out (tC6e BK171.out)) (fun hHeld => ?_)
          clear hK K
          refine norm_ (a' := ?_) ?_ ?_
          rotate_left
          ·show Act.put _ (some 79) _ = _
           simp only [Act.put, List.setIfInBounds_toArray, List.set_cons_zero, List.set_cons_succ, i64_w, i32_w]
           rfl
          exact norm_ (by simp only [putAll, Act.put, List.setIfInBounds_toArray, List.set_cons_zero, List.set_cons_succ]) (hCont (.slice Ao141 t258.length co141, .slice Ao142 t266.length co142, v275, gb277) _ ⟨hHeld, (tR (Kd.R_mono HO260.out (fun _ hk => ⟨hk.1.2, ⟨hk.2, ⟨hk.1.1.1.1.1.2, ⟨hk.1.1.1.1.2, ⟨hk.1.1.1.2, hk.1.1.2⟩⟩⟩⟩⟩))), (tR (Kd.R_mono HO268.out (fun _ hk => ⟨hk.1.2, ⟨hk.2, ⟨hk.1.1.1.1.1.2, ⟨hk.1.1.1.1.2, ⟨hk.1.1.1.2, hk.1.1.2⟩⟩⟩⟩⟩))), (tR (Kd.R_mono HO276.out (fun _ hk => ⟨hk.1.2, ⟨hk.2, ⟨hk.1.1.1.1.1.2, ⟨hk.1.1.1.1.2, ⟨hk.1.1.1.2, hk.1.1.2⟩⟩⟩⟩⟩))), (tR (Kd.R_mono HO_199005.out (fun _ hk => ⟨hk.1.1.2, ⟨hk.1.2, ⟨hk.2, ⟨hk.1.1.1.1, ⟨hk.1.1.1.2.1, hk.1.1.1.2.2⟩⟩⟩⟩⟩))), (tR (Kd.R_mono HO_208005.out (fun _ hk => ⟨hk.1.1.2, ⟨hk.1.2, ⟨hk.2, ⟨hk.1.1.1.1, ⟨hk.1.1.1.2.1, hk.1.1.1.2.2⟩⟩⟩⟩⟩))), (tR (Kd.R_mono HO_217005.out (fun _ hk => ⟨hk.1.1.2, ⟨hk.1.2, ⟨hk.2, ⟨hk.1.1.1.1, ⟨hk.1.1.1.2.1, hk.1.1.1.2.2⟩⟩⟩⟩⟩))), (tR (Kd.R_mono HO_226005.out (fun _ hk => ⟨hk.1.1.2, ⟨hk.1.2, ⟨hk.2, ⟨hk.1.1.1.1, ⟨hk.1.1.1.2.1, hk.1.1.1.2.2⟩⟩⟩⟩⟩))), (tK BK170.out), (tK BK171.out), (tK BK198.out), (tK BK207.out), (tK BK216.out), (tK BK225.out), (tK BK277.out), GW277.out, GE277.out, NB170_277.out, NB277_170.out, NB171_277.out, NB277_171.out, NB198_277.out, NB277_198.out, NB207_277.out, NB277_207.out, NB216_277.out, NB277_216.out, NB225_277.out, NB277_225.out, tBs⟩)
        rintro ⟨v259, v267, v275, gb277⟩ w144 ⟨hS_, h0_, h1_, h2_, h3_, h4_, h5_, h6_, h7_, h8_, h9_, h10_, h11_, h12_, h13_, h14_, h15_, h16_, h17_, h18_, h19_, h20_, h21_, h22_, h23_, h24_, h25_, h26_, h27_, h28_⟩
        have n0_ : Aside0 (Kd.R (Kd.int .i64) 2 w144 w.heap.size (fun k_ => some k_ ≠ (v267 : Value).ownBlock ∧ some k_ ≠ (v275 : Value).ownBlock ∧ some k_ ≠ (.slice Ao56 t195.length co56 : Value).ownBlock ∧ some k_ ≠ (.slice Ao66 t246.length co66 : Value).ownBlock ∧ some k_ ≠ (.slice Ao76 t248.length co76 : Value).ownBlock ∧ some k_ ≠ (.slice Ao86 t222.length co86 : Value).ownBlock) v259 t258) := ⟨h0_⟩
        have n1_ : Aside0 (Kd.R (Kd.int .i64) 2 w144 w.heap.size (fun k_ => some k_ ≠ (v259 : Value).ownBlock ∧ some k_ ≠ (v275 : Value).ownBlock ∧ some k_ ≠ (.slice Ao56 t195.length co56 : Value).ownBlock ∧ some k_ ≠ (.slice Ao66 t246.length co66 : Value).ownBlock ∧ some k_ ≠ (.slice Ao76 t248.length co76 : Value).ownBlock ∧ some k_ ≠ (.slice Ao86 t222.length co86 : Value).ownBlock) v267 t266) := ⟨h1_⟩
        have n2_ : Aside0 (Kd.R (Kd.int .i64) 2 w144 w.heap.size (fun k_ => some k_ ≠ (v259 : Value).ownBlock ∧ some k_ ≠ (v267 : Value).ownBlock ∧ some k_ ≠ (.slice Ao56 t195.length co56 : Value).ownBlock ∧ some k_ ≠ (.slice Ao66 t246.length co66 : Value).ownBlock ∧ some k_ ≠ (.slice Ao76 t248.length co76 : Value).ownBlock ∧ some k_ ≠ (.slice Ao86 t222.length co86 : Value).ownBlock) v275 t274) := ⟨h2_⟩
        have n3_ : Aside0 (Kd.R (Kd.int .i64) 2 w144 w.heap.size (fun k_ => some k_ ≠ (v259 : Value).ownBlock ∧ some k_ ≠ (v267 : Value).ownBlock ∧ some k_ ≠ (v275 : Value).ownBlock ∧ some k_ ≠ (.slice Ao66 t246.length co66 : Value).ownBlock ∧ some k_ ≠ (.slice Ao76 t248.length co76 : Value).ownBlock ∧ some k_ ≠ (.slice Ao86 t222.length co86 : Value).ownBlock) (.slice Ao56 t195.length co56) t195) := ⟨h3_⟩
        have n4_ : Aside0 (Kd.R (Kd.int .i64) 2 w144 w.heap.size (fun k_ => some k_ ≠ (v259 : Value).ownBlock ∧ some k_ ≠ (v267 : Value).ownBlock ∧ some k_ ≠ (v275 : Value).ownBlock ∧ some k_ ≠ (.slice Ao56 t195.length co56 : Value).ownBlock ∧ some k_ ≠ (.slice Ao76 t248.length co76 : Value).ownBlock ∧ some k_ ≠ (.slice Ao86 t222.length co86 : Value).ownBlock) (.slice Ao66 t246.length co66) t246) := ⟨h4_⟩
        have n5_ : Aside0 (Kd.R (Kd.int .i64) 2 w144 w.heap.size (fun k_ => some k_ ≠ (v259 : Value).ownBlock ∧ some k_ ≠ (v267 : Value).ownBlock ∧ some k_ ≠ (v275 : Value).ownBlock ∧ some k_ ≠ (.slice Ao56 t195.length co56 : Value).ownBlock ∧ some k_ ≠ (.slice Ao66 t246.length co66 : Value).ownBlock ∧ some k_ ≠ (.slice Ao86 t222.length co86 : Value).ownBlock) (.slice Ao76 t248.length co76) t248) := ⟨h5_⟩
        have n6_ : Aside0 (Kd.R (Kd.int .i64) 2 w144 w.heap.size (fun k_ => some k_ ≠ (v259 : Value).ownBlock ∧ some k_ ≠ (v267 : Value).ownBlock ∧ some k_ ≠ (v275 : Value).ownBlock ∧ some k_ ≠ (.slice Ao56 t195.length co56 : Value).ownBlock ∧ some k_ ≠ (.slice Ao66 t246.length co66 : Value).ownBlock ∧ some k_ ≠ (.slice Ao76 t248.length co76 : Value).ownBlock) (.slice Ao86 t222.length co86) t251) := ⟨h6_⟩
        have n7_ : Aside0 (w144.heap[gb170]? = some (.cells #[.int .i64 a0_0, .int .i64 a0_1, .int .i64 a0_2, .int .i64 a0_3, .int .i64 a0_4, .slice A0_5 l0_5.length c0_5] 24 (0, 0))) := ⟨h7_⟩
        have n8_ : Aside0 (w144.heap[gb171]? = some (.cells #[.int .i64 a1_0, .int .i64 a1_1, .int .i64 a1_2, .int .i64 a1_3, .int .i64 a1_4, .slice A1_5 l1_5.length c1_5] 24 (0, 0))) := ⟨h8_⟩
        have n9_ : Aside0 (w144.heap[gb198]? = some (.cells #[.int .i64 t190, .int .i64 t191, .int .i64 t192, .int .i64 t193, .int .i64 t194, .slice Ao56 t195.length co56] 26 (0, 0))) := ⟨h9_⟩
        have n10_ : Aside0 (w144.heap[gb207]? = some (.cells #[.int .i64 t199, .int .i64 t200, .int .i64 t201, .int .i64 t202, .int .i64 t203, .slice Ao66 t246.length co66] 26 (0, 0))) := ⟨h10_⟩
        have n11_ : Aside0 (w144.heap[gb216]? = some (.cells #[.int .i64 t208, .int .i64 t209, .int .i64 t210, .int .i64 t211, .int .i64 t212, .slice Ao76 t248.length co76] 26 (0, 0))) := ⟨h11_⟩
        have n12_ : Aside0 (w144.heap[gb225]? = some (.cells #[.int .i64 t217, .int .i64 t218, .int .i64 t219, .int .i64 t220, .int .i64 t221, .slice Ao86 t222.length co86] 26 (0, 0))) := ⟨h12_⟩
        have n13_ : Aside0 (w144.heap[gb277]? = some (.cells #[.int .i64 0, .int .i64 0, .int .i64 0, .int .i64 0, .int .i64 0, .slice none 0 0] 26 (0, 0))) := ⟨h13_⟩
        have n14_ : Aside0 (w.heap.size ≤ gb277) := ⟨h14_⟩
        have n15_ : Aside0 (w.heap.size ≤ gb277) := ⟨h15_⟩
        have n16_ : Aside0 (gb170 ≠ gb277) := ⟨h16_⟩
        have n17_ : Aside0 (gb277 ≠ gb170) := ⟨h17_⟩
        have n18_ : Aside0 (gb171 ≠ gb277) := ⟨h18_⟩
        have n19_ : Aside0 (gb277 ≠ gb171) := ⟨h19_⟩
        have n20_ : Aside0 (gb198 ≠ gb277) := ⟨h20_⟩
        have n21_ : Aside0 (gb277 ≠ gb198) := ⟨h21_⟩
        have n22_ : Aside0 (gb207 ≠ gb277) := ⟨h22_⟩
        have n23_ : Aside0 (gb277 ≠ gb207) := ⟨h23_⟩
        have n24_ : Aside0 (gb216 ≠ gb277) := ⟨h24_⟩
        have n25_ : Aside0 (gb277 ≠ gb216) := ⟨h25_⟩
        have n26_ : Aside0 (gb225 ≠ gb277) := ⟨h26_⟩
        have n27_ : Aside0 (gb277 ≠ gb225) := ⟨h27_⟩
        have n28_ : Aside0 (Below w.heap.size w w144) := ⟨h28_⟩
        clear HO_199005 HO_208005 HO_217005 HO_226005 BK170 BK171 BK198 BK207 BK216 BK225 HB h0_ h1_ h2_ h3_ h4_ h5_ h6_ h7_ h8_ h9_ h10_ h11_ h12_ h13_ h14_ h15_ h16_ h17_ h18_ h19_ h20_ h21_ h22_ h23_ h24_ h25_ h26_ h27_ h28_
        have HO260 := n0_
        have HO268 := n1_
        have HO276 := n2_
        have HO_199005 := n3_
        have HO_208005 := n4_
        have HO_217005 := n5_
        have HO_226005 := n6_
        have BK170 := n7_
        have BK171 := n8_
        have BK198 := n9_
        have BK207 := n10_
        have BK216 := n11_
        have BK225 := n12_
        have BK277 := n13_
        have GW277 := n14_
        have GE277 := n15_
        have NB170_277 := n16_
        have NB277_170 := n17_
        have NB171_277 := n18_
        have NB277_171 := n19_
        have NB198_277 := n20_
        have NB277_198 := n21_
        have NB207_277 := n22_
        have NB277_207 := n23_
        have NB216_277 := n24_
        have NB277_216 := n25_
        have NB225_277 := n26_
        have NB277_225 := n27_
        have HB := n28_
        clear n0_ n1_ n2_ n3_ n4_ n5_ n6_ n7_ n8_ n9_ n10_ n11_ n12_ n13_ n14_ n15_ n16_ n17_ n18_ n19_ n20_ n21_ n22_ n23_ n24_ n25_ n26_ n27_ n28_
        have hHeld : w144.cell? ⟨gb170, 0, none⟩ = some (.int .i64 a0_0) ∧ w144.cell? ⟨gb170, 1, none⟩ = some (.int .i64 a0_1) ∧ w144.cell? ⟨gb170, 2, none⟩ = some (.int .i64 a0_2) ∧ w144.cell? ⟨gb170, 3, none⟩ = some (.int .i64 a0_3) ∧ w144.cell? ⟨gb170, 4, none⟩ = some (.int .i64 a0_4) ∧ w144.cell? ⟨gb170, 5, none⟩ = some (.slice A0_5 l0_5.length c0_5) ∧ w144.cell? ⟨gb171, 0, none⟩ = some (.int .i64 a1_0) ∧ w144.cell? ⟨gb171, 1, none⟩ = some (.int .i64 a1_1) ∧ w144.cell? ⟨gb171, 2, none⟩ = some (.int .i64 a1_2) ∧ w144.cell? ⟨gb171, 3, none⟩ = some (.int .i64 a1_3) ∧ w144.cell? ⟨gb171, 4, none⟩ = some (.int .i64 a1_4) ∧ w144.cell? ⟨gb171, 5, none⟩ = some (.slice A1_5 l1_5.length c1_5) := hS_
        obtain ⟨Ao150, co150, eo150⟩ := Kd.R_slice HO276.out
        (first | subst eo150 | (injection eo150 with f1_ f2_ f3_; have f4_ := f1_.symm; have f5_ := f3_.symm; clear f1_ f2_ f3_; subst f4_; subst f5_))
        refine norm_ (a' := ?_) ?_ ?_
        rotate_left
        ·simp only [putAll, Act.put, List.setIfInBounds_toArray, List.set_cons_zero, List.set_cons_succ]
         rfl
        refine one_ (i := 6) (N := none) (tf 7 0) rfl rfl (by kernel_rfl) (by decide) (fun K hK => ?_)
        have hs145 : w144.cell? ⟨gb277, 0, none⟩ = some (.int .i64 0) := (blk_cell BK277.out 0).trans rfl
        have hfs145 := blk_frozen BK277.out 0
        have hns145_0 := NB170_277.out
        have hns145_1 := NB171_277.out
        have hns145_2 := NB198_277.out
        have hns145_3 := NB207_277.out
        have hns145_4 := NB216_277.out
        have hns145_5 := NB225_277.out
        have hms145_0 := NB277_170.out
        have hms145_1 := NB277_171.out
        have hms145_2 := NB277_198.out
        have hms145_3 := NB277_207.out
        have hms145_4 := NB277_216.out
        have hms145_5 := NB277_225.out
        have hs146 : w144.cell? ⟨gb277, 1, none⟩ = some (.int .i64 0) := (blk_cell BK277.out 1).trans rfl
        have hfs146 := blk_frozen BK277.out 1
        have hns146_0 := NB170_277.out
        have hns146_1 := NB171_277.out
        have hns146_2 := NB198_277.out
        have hns146_3 := NB207_277.out
        have hns146_4 := NB216_277.out
        have hns146_5 := NB225_277.out
        have hms146_0 := NB277_170.out
        have hms146_1 := NB277_171.out
        have hms146_2 := NB277_198.out
        have hms146_3 := NB277_207.out
        have hms146_4 := NB277_216.out
        have hms146_5 := NB277_225.out
        have hs147 : w144.cell? ⟨gb277, 2, none⟩ = some (.int .i64 0) := (blk_cell BK277.out 2).trans rfl
        have hfs147 := blk_frozen BK277.out 2
        have hns147_0 := NB170_277.out
        have hns147_1 := NB171_277.out
        have hns147_2 := NB198_277.out
        have hns147_3 := NB207_277.out
        have hns147_4 := NB216_277.out
        have hns147_5 := NB225_277.out
        have hms147_0 := NB277_170.out
        have hms147_1 := NB277_171.out
        have hms147_2 := NB277_198.out
        have hms147_3 := NB277_207.out
        have hms147_4 := NB277_216.out
        have hms147_5 := NB277_225.out
        have hs148 : w144.cell? ⟨gb277, 3, none⟩ = some (.int .i64 0) := (blk_cell BK277.out 3).trans rfl
        have hfs148 := blk_frozen BK277.out 3
        have hns148_0 := NB170_277.out
        have hns148_1 := NB171_277.out
        have hns148_2 := NB198_277.out
        have hns148_3 := NB207_277.out
        have hns148_4 := NB216_277.out
        have hns148_5 := NB225_277.out
        have hms148_0 := NB277_170.out
        have hms148_1 := NB277_171.out
        have hms148_2 := NB277_198.out
        have hms148_3 := NB277_207.out
        have hms148_4 := NB277_216.out
        have hms148_5 := NB277_225.out
        have hs149 : w144.cell? ⟨gb277, 4, none⟩ = some (.int .i64 0) := (blk_cell BK277.out 4).trans rfl
        have hfs149 := blk_frozen BK277.out 4
        have hns149_0 := NB170_277.out
        have hns149_1 := NB171_277.out
        have hns149_2 := NB198_277.out
        have hns149_3 := NB207_277.out
        have hns149_4 := NB216_277.out
        have hns149_5 := NB225_277.out
        have hms149_0 := NB277_170.out
        have hms149_1 := NB277_171.out
        have hms149_2 := NB277_198.out
        have hms149_3 := NB277_207.out
        have hms149_4 := NB277_216.out
        have hms149_5 := NB277_225.out
        have hs151 : w144.cell? ⟨gb277, 5, none⟩ = some (.slice none 0 0) := (blk_cell BK277.out 5).trans rfl
        have hfs151 := blk_frozen BK277.out 5
        have hns151_0 := NB170_277.out
        have hns151_1 := NB171_277.out
        have hns151_2 := NB198_277.out
        have hns151_3 := NB207_277.out
        have hns151_4 := NB216_277.out
        have hns151_5 := NB225_277.out
        have hms151_0 := NB277_170.out
        have hms151_1 := NB277_171.out
        have hms151_2 := NB277_198.out
        have hms151_3 := NB277_207.out
        have hms151_4 := NB277_216.out
        have hms151_5 := NB277_225.out
        refine skip_ (w1 := ?_) (by rfl) rfl ?_ ?_
        rotate_left
        ·go_simp
         rfl
        refine hK.out _ _ ⟨((cell_far (p := ⟨gb277, _, none⟩) NB170_277.out _).trans (((cell_far (p := ⟨gb277, _, none⟩) NB170_277.out _).trans (((cell_far (p := ⟨gb277, _, none⟩) NB170_277.out _).trans (((cell_far (p := ⟨gb277, _, none⟩) NB170_277.out _).trans (((cell_far (p := ⟨gb277, _, none⟩) NB170_277.out _).trans (((cell_far (p := ⟨gb277, _, none⟩) NB170_277.out _).trans (hHeld.1)))))))))))), ((cell_far (p := ⟨gb277, _, none⟩) NB170_277.out _).trans (((cell_far (p := ⟨gb277, _, none⟩) NB170_277.out _).trans (((cell_far (p := ⟨gb277, _, none⟩) NB170_277.out _).trans (((cell_far (p := ⟨gb277, _, none⟩) NB170_277.out _).trans (((cell_far (p := ⟨gb277, _, none⟩) NB170_277.out _).trans (((cell_far (p := ⟨gb277, _, none⟩) NB170_277.out _).trans (hHeld.2.1)))))))))))), ((cell_far (p := ⟨gb277, _, none⟩) NB170_277.out _).trans (((cell_far (p := ⟨gb277, _, none⟩) NB170_277.out _).trans (((cell_far (p := ⟨gb277, _, none⟩) NB170_277.out _).trans (((cell_far (p := ⟨gb277, _, none⟩) NB170_277.out _).trans (((cell_far (p := ⟨gb277, _, none⟩) NB170_277.out _).trans (((cell_far (p := ⟨gb277, _, none⟩) NB170_277.out _).trans (hHeld.2.2.1)))))))))))), ((cell_far (p := ⟨gb277, _, none⟩) NB170_277.out _).trans (((cell_far (p := ⟨gb277, _, none⟩) NB170_277.out _).trans (((cell_far (p := ⟨gb277, _, none⟩) NB170_277.out _).trans (((cell_far (p := ⟨gb277, _, none⟩) NB170_277.out _).trans (((cell_far (p := ⟨gb277, _, none⟩) NB170_277.out _).trans (((cell_far (p := ⟨gb277, _, none⟩) NB170_277.out _).trans (hHeld.2.2.2.1)))))))))))), ((cell_far (p := ⟨gb277, _, none⟩) NB170_277.out _).trans (((cell_far (p := ⟨gb277, _, none⟩) NB170_277.out _).trans (((cell_far (p := ⟨gb277, _, none⟩) NB170_277.out _).trans (((cell_far (p := ⟨gb277, _, none⟩) NB170_277.out _).trans (((cell_far (p := ⟨gb277, _, none⟩) NB170_277.out _).trans (((cell_far (p := ⟨gb277, _, none⟩) NB170_277.out _).trans (hHeld.2.2.2.2.1)))))))))))), ((cell_far (p := ⟨gb277, _, none⟩) NB170_277.out _).trans (((cell_far (p := ⟨gb277, _, none⟩) NB170_277.out _).trans (((cell_far (p := ⟨gb277, _, none⟩) NB170_277.out _).trans (((cell_far (p := ⟨gb277, _, none⟩) NB170_277.out _).trans (((cell_far (p := ⟨gb277, _, none⟩) NB170_277.out _).trans (((cell_far (p := ⟨gb277, _, none⟩) NB170_277.out _).trans (hHeld.2.2.2.2.2.1)))))))))))), ((cell_far (p := ⟨gb277, _, none⟩) NB171_277.out _).trans (((cell_far (p := ⟨gb277, _, none⟩) NB171_277.out _).trans (((cell_far (p := ⟨gb277, _, none⟩) NB171_277.out _).trans (((cell_far (p := ⟨gb277, _, none⟩) NB171_277.out _).trans (((cell_far (p := ⟨gb277, _, none⟩) NB171_277.out _).trans (((cell_far (p := ⟨gb277, _, none⟩) NB171_277.out _).trans (hHeld.2.2.2.2.2.2.1)))))))))))), ((cell_far (p := ⟨gb277, _, none⟩) NB171_277.out _).trans (((cell_far (p := ⟨gb277, _, none⟩) NB171_277.out _).trans (((cell_far (p := ⟨gb277, _, none⟩) NB171_277.out _).trans (((cell_far (p := ⟨gb277, _, none⟩) NB171_277.out _).trans (((cell_far (p := ⟨gb277, _, none⟩) NB171_277.out _).trans (((cell_far (p := ⟨gb277, _, none⟩) NB171_277.out _).trans (hHeld.2.2.2.2.2.2.2.1)))))))))))), ((cell_far (p := ⟨gb277, _, none⟩) NB171_277.out _).trans (((cell_far (p := ⟨gb277, _, none⟩) NB171_277.out _).trans (((cell_far (p := ⟨gb277, _, none⟩) NB171_277.out _).trans (((cell_far (p := ⟨gb277, _, none⟩) NB171_277.out _).trans (((cell_far (p := ⟨gb277, _, none⟩) NB171_277.out _).trans (((cell_far (p := ⟨gb277, _, none⟩) NB171_277.out _).trans (hHeld.2.2.2.2.2.2.2.2.1)))))))))))), ((cell_far (p := ⟨gb277, _, none⟩) NB171_277.out _).trans (((cell_far (p := ⟨gb277, _, none⟩) NB171_277.out _).trans (((cell_far (p := ⟨gb277, _, none⟩) NB171_277.out _).trans (((cell_far (p := ⟨gb277, _, none⟩) NB171_277.out _).trans (((cell_far (p := ⟨gb277, _, none⟩) NB171_277.out _).trans (((cell_far (p := ⟨gb277, _, none⟩) NB171_277.out _).trans (hHeld.2.2.2.2.2.2.2.2.2.1)))))))))))), ((cell_far (p := ⟨gb277, _, none⟩) NB171_277.out _).trans (((cell_far (p := ⟨gb277, _, none⟩) NB171_277.out _).trans (((cell_far (p := ⟨gb277, _, none⟩) NB171_277.out _).trans (((cell_far (p := ⟨gb277, _, none⟩) NB171_277.out _).trans (((cell_far (p := ⟨gb277, _, none⟩) NB171_277.out _).trans (((cell_far (p := ⟨gb277, _, none⟩) NB171_277.out _).trans (hHeld.2.2.2.2.2.2.2.2.2.2.1)))))))))))), ((cell_far (p := ⟨gb277, _, none⟩) NB171_277.out _).trans (((cell_far (p := ⟨gb277, _, none⟩) NB171_277.out _).trans (((cell_far (p := ⟨gb277, _, none⟩) NB171_277.out _).trans (((cell_far (p := ⟨gb277, _, none⟩) NB171_277.out _).trans (((cell_far (p := ⟨gb277, _, none⟩) NB171_277.out _).trans (((cell_far (p := ⟨gb277, _, none⟩) NB171_277.out _).trans (hHeld.2.2.2.2.2.2.2.2.2.2.2))))))))))))⟩ (fun hHeld => ?_)
        clear hK K
        refine done_ (by kernel_rfl) ?_
        have hnb152 := NB277_170.out
        have hnc152 := NB170_277.out
        have hnb153 := NB277_171.out
        have hnc153 := NB171_277.out
        have hnb154 := NB277_198.out
        have hnc154 := NB198_277.out
        have hnb155 := NB277_207.out
        have hnc155 := NB207_277.out
        have hnb156 := NB277_216.out
        have hnc156 := NB216_277.out
        have hnb157 := NB277_225.out
        have hnc157 := NB225_277.out
        have hcz158_0 : w144.cell? ⟨gb277, 0, none⟩ = some (.int .i64 0) := (blk_cell BK277.out 0).trans rfl
        have hcz158_1 : w144.cell? ⟨gb277, 1, none⟩ = some (.int .i64 0) := (blk_cell BK277.out 1).trans rfl
        have hcz158_2 : w144.cell? ⟨gb277, 2, none⟩ = some (.int .i64 0) := (blk_cell BK277.out 2).trans rfl
        have hcz158_3 : w144.cell? ⟨gb277, 3, none⟩ = some (.int .i64 0) := (blk_cell BK277.out 3).trans rfl
        have hcz158_4 : w144.cell? ⟨gb277, 4, none⟩ = some (.int .i64 0) := (blk_cell BK277.out 4).trans rfl
        have hcz158_5 : w144.cell? ⟨gb277, 5, none⟩ = some (.slice none 0 0) := (blk_cell BK277.out 5).trans rfl
        have hfz158_0 := blk_frozen BK277.out 0
        have hfz158_1 := blk_frozen BK277.out 1
        have hfz158_2 := blk_frozen BK277.out 2
        have hfz158_3 := blk_frozen BK277.out 3
        have hfz158_4 := blk_frozen BK277.out 4
        have hfz158_5 := blk_frozen BK277.out 5
        have hnb159 := NB198_170.out
        have hnc159 := NB170_198.out
        have hnb160 := NB198_171.out
        have hnc160 := NB171_198.out
        have hnb161 := NB198_207.out
        have hnc161 := NB207_198.out
        have hnb162 := NB198_216.out
        have hnc162 := NB216_198.out
        have hcz163_0 : w144.cell? ⟨gb198, 0, none⟩ = some (.int .i64 t190) := (blk_cell BK198.out 0).trans rfl
        have hcz163_1 : w144.cell? ⟨gb198, 1, none⟩ = some (.int .i64 t191) := (blk_cell BK198.out 1).trans rfl
        have hcz163_2 : w144.cell? ⟨gb198, 2, none⟩ = some (.int .i64 t192) := (blk_cell BK198.out 2).trans rfl
        have hcz163_3 : w144.cell? ⟨gb198, 3, none⟩ = some (.int .i64 t193) := (blk_cell BK198.out 3).trans rfl
        have hcz163_4 : w144.cell? ⟨gb198, 4, none⟩ = some (.int .i64 t194) := (blk_cell BK198.out 4).trans rfl
        have hcz163_5 : w144.cell? ⟨gb198, 5, none⟩ = some (.slice Ao56 t195.length co56) := (blk_cell BK198.out 5).trans rfl
        have hfz163_0 := blk_frozen BK198.out 0
        have hfz163_1 := blk_frozen BK198.out 1
        have hfz163_2 := blk_frozen BK198.out 2
        have hfz163_3 := blk_frozen BK198.out 3
        have hfz163_4 := blk_frozen BK198.out 4
        have hfz163_5 := blk_frozen BK198.out 5
        try go_wp2_with (first | ((with_reducible refine gate_callee (f := 15) rfl ?_); refine goesL_ (some 82) rfl rfl Try.func15 (by kernel_rfl) rfl #[.agg #[.int .i64 t269, .int .i64 t270, .int .i64 t271, .int .i64 t272, .int .i64 t273, .slice Ao150 t274.length co150], .agg #[.int .i64 t190, .int .i64 t191, .int .i64 t192, .int .i64 t193, .int .i64 t194, .slice Ao56 t195.length co56]] rfl tA ?_; (with_reducible refine (laws_eqTimes.calls kj34 t269 t270 t271 t272 t273 _ _ t274 t190 t191 t192 t193 t194 _ _ t195 true _ ?side1 ?side2 ?side3 ?side4 A123.out).mono ?_); (case side1 => refine (Kd.R_reads' (e := 2) (base := w.heap.size) (ok := fun k_ => (some k_ ≠ (v259 : Value).ownBlock ∧ (some k_ ≠ (v267 : Value).ownBlock ∧ (some k_ ≠ (.slice Ao56 t195.length co56 : Value).ownBlock ∧ (some k_ ≠ (.slice Ao66 t246.length co66 : Value).ownBlock ∧ (some k_ ≠ (.slice Ao76 t248.length co76 : Value).ownBlock ∧ some k_ ≠ (.slice Ao86 t222.length co86 : Value).ownBlock)))))) (n := t274.length) (c := co150) ?_).2.2; exact (tR (tM6 HO276.out BK277.out (.int .i64 t269) (.int .i64 t270) (.int .i64 t271) (.int .i64 t272) (.int .i64 t273) (.slice Ao150 t274.length co150)))); (case side2 => exact (Kd.R_reads' HO276.out).2.1); (case side3 => refine (Kd.R_reads' (e := 2) (base := w.heap.size) (ok := fun k_ => (some k_ ≠ (v259 : Value).ownBlock ∧ (some k_ ≠ (v267 : Value).ownBlock ∧ (some k_ ≠ (.slice Ao150 t274.length co150 : Value).ownBlock ∧ (some k_ ≠ (.slice Ao66 t246.length co66 : Value).ownBlock ∧ (some k_ ≠ (.slice Ao76 t248.length co76 : Value).ownBlock ∧ some k_ ≠ (.slice Ao86 t222.length co86 : Value).ownBlock)))))) (n := t195.length) (c := co56) ?_).2.2; exact (tR (tM6 HO_199005.out BK277.out (.int .i64 t269) (.int .i64 t270) (.int .i64 t271) (.int .i64 t272) (.int .i64 t273) (.slice Ao150 t274.length co150)))); (case side4 => exact (Kd.R_reads' HO_199005.out).2.1); rintro e w164 ⟨rfl, hb⟩; refine ⟨_, rfl, ?_⟩; have n0_ := Aside0.mk (Kd.R_below (tR (tM6 HO_199005.out BK277.out (.int .i64 t269) (.int .i64 t270) (.int .i64 t271) (.int .i64 t272) (.int .i64 t273) (.slice Ao150 t274.length co150))) hb); have n1_ := Aside0.mk (Kd.R_below (tR (tM6 HO_208005.out BK277.out (.int .i64 t269) (.int .i64 t270) (.int .i64 t271) (.int .i64 t272) (.int .i64 t273) (.slice Ao150 t274.length co150))) hb); have n2_ := Aside0.mk (Kd.R_below (tR (tM6 HO_217005.out BK277.out (.int .i64 t269) (.int .i64 t270) (.int .i64 t271) (.int .i64 t272) (.int .i64 t273) (.slice Ao150 t274.length co150))) hb); have n3_ := Aside0.mk (Kd.R_below (tR (tM6 HO_226005.out BK277.out (.int .i64 t269) (.int .i64 t270) (.int .i64 t271) (.int .i64 t272) (.int .i64 t273) (.slice Ao150 t274.length co150))) hb); have n4_ := Aside0.mk (Kd.R_below (tR (tM6 HO260.out BK277.out (.int .i64 t269) (.int .i64 t270) (.int .i64 t271) (.int .i64 t272) (.int .i64 t273) (.slice Ao150 t274.length co150))) hb); have n5_ := Aside0.mk (Kd.R_below (tR (tM6 HO268.out BK277.out (.int .i64 t269) (.int .i64 t270) (.int .i64 t271) (.int .i64 t272) (.int .i64 t273) (.slice Ao150 t274.length co150))) hb); have n6_ := Aside0.mk (Kd.R_below (tR (tM6 HO276.out BK277.out (.int .i64 t269) (.int .i64 t270) (.int .i64 t271) (.int .i64 t272) (.int .i64 t273) (.slice Ao150 t274.length co150))) hb); have n7_ := Aside0.mk (blk_below (tF BK170.out) hb); have n8_ := Aside0.mk (blk_below (tF BK171.out) hb); have n9_ := Aside0.mk (blk_below (tF BK198.out) hb); have n10_ := Aside0.mk (blk_below (tF BK207.out) hb); have n11_ := Aside0.mk (blk_below (tF BK216.out) hb); have n12_ := Aside0.mk (blk_below (tF BK225.out) hb); have n13_ := Aside0.mk (blk_below (g := gb277) (o := .cells #[.int .i64 t269, .int .i64 t270, .int .i64 t271, .int .i64 t272, .int .i64 t273, .slice Ao150 t274.length co150] 26 (0, 0)) (by (with_reducible repeat (first | refine blk_drewN ?_ _ | refine blk_drew ?_ | refine blk_alloc ?_ _)); refine blk_put (cs := #[.int .i64 t269, .int .i64 t270, .int .i64 t271, .int .i64 t272, .int .i64 t273, .slice none 0 0]) ?_ 5 _ rfl; (with_reducible repeat (first | refine blk_drewN ?_ _ | refine blk_drew ?_ | refine blk_alloc ?_ _)); refine blk_put (cs := #[.int .i64 t269, .int .i64 t270, .int .i64 t271, .int .i64 t272, .int .i64 0, .slice none 0 0]) ?_ 4 _ rfl; (with_reducible repeat (first | refine blk_drewN ?_ _ | refine blk_drew ?_ | refine blk_alloc ?_ _)); refine blk_put (cs := #[.int .i64 t269, .int .i64 t270, .int .i64 t271, .int .i64 0, .int .i64 0, .slice none 0 0]) ?_ 3 _ rfl; (with_reducible repeat (first | refine blk_drewN ?_ _ | refine blk_drew ?_ | refine blk_alloc ?_ _)); refine blk_put (cs := #[.int .i64 t269, .int .i64 t270, .int .i64 0, .int .i64 0, .int .i64 0, .slice none 0 0]) ?_ 2 _ rfl; (with_reducible repeat (first | refine blk_drewN ?_ _ | refine blk_drew ?_ | refine blk_alloc ?_ _)); refine blk_put (cs := #[.int .i64 t269, .int .i64 0, .int .i64 0, .int .i64 0, .int .i64 0, .slice none 0 0]) ?_ 1 _ rfl; (with_reducible repeat (first | refine blk_drewN ?_ _ | refine blk_drew ?_ | refine blk_alloc ?_ _)); refine blk_put (cs := #[.int .i64 0, .int .i64 0, .int .i64 0, .int .i64 0, .int .i64 0, .slice none 0 0]) ?_ 0 _ rfl; (with_reducible repeat (first | refine blk_drewN ?_ _ | refine blk_drew ?_ | refine blk_alloc ?_ _)); exact BK277.out) hb); have n14_ := Aside0.mk (below_step tBs hb); clear HO_199005; clear HO_208005; clear HO_217005; clear HO_226005; clear HO260; clear HO268; clear HO276; clear BK170; clear BK171; clear BK198; clear BK207; clear BK216; clear BK225; clear BK277; clear HB; have HO_199005 := n0_; have HO_208005 := n1_; have HO_217005 := n2_; have HO_226005 := n3_; have HO260 := n4_; have HO268 := n5_; have HO276 := n6_; have BK170 := n7_; have BK171 := n8_; have BK198 := n9_; have BK207 := n10_; have BK216 := n11_; have BK225 := n12_; have BK277 := n13_; have HB := n14_; clear n0_ n1_ n2_ n3_ n4_ n5_ n6_ n7_ n8_ n9_ n10_ n11_ n12_ n13_ n14_; (try clear hb); (try clear hb2); (try clear hk); (try clear hi); have hcz165_0 : w164.cell? ⟨gb225, 0, none⟩ = some (.int .i64 t217) := (blk_cell BK225.out 0).trans rfl; have hcz165_1 : w164.cell? ⟨gb225, 1, none⟩ = some (.int .i64 t218) := (blk_cell BK225.out 1).trans rfl; have hcz165_2 : w164.cell? ⟨gb225, 2, none⟩ = some (.int .i64 t219) := (blk_cell BK225.out 2).trans rfl; have hcz165_3 : w164.cell? ⟨gb225, 3, none⟩ = some (.int .i64 t220) := (blk_cell BK225.out 3).trans rfl; have hcz165_4 : w164.cell? ⟨gb225, 4, none⟩ = some (.int .i64 t221) := (blk_cell BK225.out 4).trans rfl; have hcz165_5 : w164.cell? ⟨gb225, 5, none⟩ = some (.slice Ao86 t222.length co86) := (blk_cell BK225.out 5).trans rfl; have hfz165_0 := blk_frozen BK225.out 0; have hfz165_1 := blk_frozen BK225.out 1; have hfz165_2 := blk_frozen BK225.out 2; have hfz165_3 := blk_frozen BK225.out 3; have hfz165_4 := blk_frozen BK225.out 4; have hfz165_5 := blk_frozen BK225.out 5) | ((with_reducible refine gate_callee (f := 17) rfl ?_); refine goesL_ (some 86) rfl rfl Try.func17 (by kernel_rfl) rfl #[.agg #[.int .i64 t217, .int .i64 t218, .int .i64 t219, .int .i64 t220, .int .i64 t221, .slice Ao86 t251.length co86], .int .i64 1] rfl (by (try simp only [List.map_toArray, List.map_cons, List.map_nil]); first | done | (rw [show t251.length = t222.length from (Kd.R_reads' HO_226005.out).1.symm] <;> rfl) | rfl | (simp only [List.length_drop, List.length_take]; rfl)) ?_; (with_reducible refine (laws_heldTimes.calls kj34 t217 t218 t219 t220 t221 _ _ t251 1 t279 _ ?side1 ?side2 A125.out).mono ?_); (case side1 => repeat (first | exact (Kd.R_reads' HO_226005.out).2.2 | (with_reducible refine Kd.C_alloc ?_ _) | (with_reducible refine Kd.C_drewN ?_ _) | (with_reducible refine Kd.C_drew ?_))); (case side2 => rw [show t251.length = t222.length from (Kd.R_reads' HO_226005.out).1.symm]; exact (Kd.R_reads' HO_226005.out).2.1); rintro e w166 ⟨rfl, hb⟩; refine ⟨_, rfl, ?_⟩; have n0_ := Aside0.mk (Kd.R_below (tR HO_199005.out) hb); have n1_ := Aside0.mk (Kd.R_below (tR HO_208005.out) hb); have n2_ := Aside0.mk (Kd.R_below (tR HO_217005.out) hb); have n3_ := Aside0.mk (Kd.R_below (tR HO_226005.out) hb); have n4_ := Aside0.mk (Kd.R_below (tR HO260.out) hb); have n5_ := Aside0.mk (Kd.R_below (tR HO268.out) hb); have n6_ := Aside0.mk (Kd.R_below (tR HO276.out) hb); have n7_ := Aside0.mk (blk_below (tK BK170.out) hb); have n8_ := Aside0.mk (blk_below (tK BK171.out) hb); have n9_ := Aside0.mk (blk_below (tK BK198.out) hb); have n10_ := Aside0.mk (blk_below (tK BK207.out) hb); have n11_ := Aside0.mk (blk_below (tK BK216.out) hb); have n12_ := Aside0.mk (blk_below (tK BK225.out) hb); have n13_ := Aside0.mk (blk_below (tK BK277.out) hb); have n14_ := Aside0.mk (below_step tBs hb); clear HO_199005; clear HO_208005; clear HO_217005; clear HO_226005; clear HO260; clear HO268; clear HO276; clear BK170; clear BK171; clear BK198; clear BK207; clear BK216; clear BK225; clear BK277; clear HB; have HO_199005 := n0_; have HO_208005 := n1_; have HO_217005 := n2_; have HO_226005 := n3_; have HO260 := n4_; have HO268 := n5_; have HO276 := n6_; have BK170 := n7_; have BK171 := n8_; have BK198 := n9_; have BK207 := n10_; have BK216 := n11_; have BK225 := n12_; have BK277 := n13_; have HB := n14_; clear n0_ n1_ n2_ n3_ n4_ n5_ n6_ n7_ n8_ n9_ n10_ n11_ n12_ n13_ n14_; (try clear hb); (try clear hb2); (try clear hk); (try clear hi)))
        go_ret
        exact ⟨by first | rfl | (simp [errW_none, errW_some] <;> rfl) | (simp [*, errW_none, errW_some] <;> rfl), by repeat (first | (with_reducible first | exact HB.out | apply below_alloc | apply pw_below_drewN | apply below_drew1 | refine below_set ?_ GE170.out | refine below_set ?_ GE171.out | refine below_set ?_ GE198.out | refine below_set ?_ GE207.out | refine below_set ?_ GE216.out | refine below_set ?_ GE225.out | refine below_set ?_ GE277.out) | exact HB.out)⟩
       rw [if_pos c126] at H
       have c126b0 : decide (t279 < 0) = true := decide_eq_true c126
       clear c126
       obtain rfl := Option.some.inj H
       exact absurd ht (by decide)
      rw [if_pos c118] at H
      have c118b0 : decide (t252 < 0) = true := decide_eq_true c118
      clear c118
      obtain rfl := Option.some.inj H
      exact absurd ht (by decide)
     subst c115
     have H1 : (some false) = some r := by rw [if_pos rfl] at H; exact H
     clear H
     have H := H1
     clear H1
     obtain rfl := Option.some.inj H
     exact absurd ht (by decide)
  rw [if_pos c11] at H
  have c11b0 : decide (t173 < 0) = true := decide_eq_true c11
  clear c11 ht
  obtain rfl := Option.some.inj H
  go_enter Try.func3, Try.ntmps3
  go_wp2_with (first | ((with_reducible refine gate_dst (N := 2) rfl ?_); refine box_event ?hg (N := 2) ?hd (cs := #[.int .i64 a0_0, .int .i64 a0_1, .int .i64 a0_2, .int .i64 a0_3, .int .i64 a0_4, .slice A0_5 l0_5.length c0_5]) (t := 24) ?hr ?_; (case hd => rfl); (case hg => rfl); (case hr => first | (go_simp; done) | (go_simp; rfl)); intro gb170 hg w12 hbox hb; have n0_ := Aside0.mk (below_step tB hb); have n1_ := Aside0.mk (hbox); have n2_ := Aside0.mk ((by rw [hg]; exact (below_size tB) : w.heap.size ≤ gb170)); have n3_ := Aside0.mk ((by rw [hg]; exact (below_size tB) : w.heap.size ≤ gb170)); clear HB; have HB := n0_; have BK170 := n1_; have GW170 := n2_; have GE170 := n3_; clear n0_ n1_ n2_ n3_; clear hb hbox hg) | ((with_reducible refine gate_dst (N := 3) rfl ?_); refine box_event ?hg (N := 3) ?hd (cs := #[.int .i64 a1_0, .int .i64 a1_1, .int .i64 a1_2, .int .i64 a1_3, .int .i64 a1_4, .slice A1_5 l1_5.length c1_5]) (t := 24) ?hr ?_; (case hd => rfl); (case hg => rfl); (case hr => first | (go_simp; done) | (go_simp; rfl)); intro gb171 hg w13 hbox hb; have n0_ := Aside0.mk (blk_below (tK BK170.out) hb); have n1_ := Aside0.mk (below_step tBs hb); have n2_ := Aside0.mk (hbox); have n3_ := Aside0.mk ((by rw [hg]; exact (below_size tBs) : w.heap.size ≤ gb171)); have n4_ := Aside0.mk ((by rw [hg]; exact (below_size tBs) : w.heap.size ≤ gb171)); have n5_ := Aside0.mk ((by rw [hg]; exact Nat.ne_of_lt (blk_lt (tK BK170.out)) : gb170 ≠ gb171)); have n6_ := Aside0.mk ((by rw [hg]; exact Nat.ne_of_gt (blk_lt (tK BK170.out)) : gb171 ≠ gb170)); clear BK170; clear HB; have BK170 := n0_; have HB := n1_; have BK171 := n2_; have GW171 := n3_; have GE171 := n4_; have NB170_171 := n5_; have NB171_170 := n6_; clear n0_ n1_ n2_ n3_ n4_ n5_ n6_; clear hb hbox hg; have hnb14 := NB170_171.out; have hnc14 := NB171_170.out; have hcz15_0 : w13.cell? ⟨gb170, 0, none⟩ = some (.int .i64 a0_0) := (blk_cell BK170.out 0).trans rfl; have hcz15_1 : w13.cell? ⟨gb170, 1, none⟩ = some (.int .i64 a0_1) := (blk_cell BK170.out 1).trans rfl; have hcz15_2 : w13.cell? ⟨gb170, 2, none⟩ = some (.int .i64 a0_2) := (blk_cell BK170.out 2).trans rfl; have hcz15_3 : w13.cell? ⟨gb170, 3, none⟩ = some (.int .i64 a0_3) := (blk_cell BK170.out 3).trans rfl; have hcz15_4 : w13.cell? ⟨gb170, 4, none⟩ = some (.int .i64 a0_4) := (blk_cell BK170.out 4).trans rfl; have hcz15_5 : w13.cell? ⟨gb170, 5, none⟩ = some (.slice A0_5 l0_5.length c0_5) := (blk_cell BK170.out 5).trans rfl; have hfz15_0 := blk_frozen BK170.out 0; have hfz15_1 := blk_frozen BK170.out 1; have hfz15_2 := blk_frozen BK170.out 2; have hfz15_3 := blk_frozen BK170.out 3; have hfz15_4 := blk_frozen BK170.out 4; have hfz15_5 := blk_frozen BK170.out 5) | ((with_reducible refine gate_callee (f := 11) rfl ?_); refine goesL_ (some 16) rfl rfl Try.func11 (by kernel_rfl) rfl #[.agg #[.int .i64 a0_0, .int .i64 a0_1, .int .i64 a0_2, .int .i64 a0_3, .int .i64 a0_4, .slice A0_5 l0_5.length c0_5], .int .i64 1048576] rfl tA ?_; (with_reducible refine (laws_szTimes.calls a0_0 a0_1 a0_2 a0_3 a0_4 _ _ l0_5 1048576 t172 _ ?side1 ?side2 A3.out).mono ?_); (case side1 => repeat (first | exact (Kd.C_below HR0_5.out HB.out) | (with_reducible refine Kd.C_alloc ?_ _) | (with_reducible refine Kd.C_drewN ?_ _) | (with_reducible refine Kd.C_drew ?_))); (case side2 => exact HC0_5.out); rintro e w16 ⟨rfl, hb⟩; refine ⟨_, rfl, ?_⟩; have n0_ := Aside0.mk (blk_below (tK BK170.out) hb); have n1_ := Aside0.mk (blk_below (tK BK171.out) hb); have n2_ := Aside0.mk (below_step tBs hb); clear BK170; clear BK171; clear HB; have BK170 := n0_; have BK171 := n1_; have HB := n2_; clear n0_ n1_ n2_; (try clear hb); (try clear hb2); (try clear hk); (try clear hi); have hcz17_0 : w16.cell? ⟨gb171, 0, none⟩ = some (.int .i64 a1_0) := (blk_cell BK171.out 0).trans rfl; have hcz17_1 : w16.cell? ⟨gb171, 1, none⟩ = some (.int .i64 a1_1) := (blk_cell BK171.out 1).trans rfl; have hcz17_2 : w16.cell? ⟨gb171, 2, none⟩ = some (.int .i64 a1_2) := (blk_cell BK171.out 2).trans rfl; have hcz17_3 : w16.cell? ⟨gb171, 3, none⟩ = some (.int .i64 a1_3) := (blk_cell BK171.out 3).trans rfl; have hcz17_4 : w16.cell? ⟨gb171, 4, none⟩ = some (.int .i64 a1_4) := (blk_cell BK171.out 4).trans rfl; have hcz17_5 : w16.cell? ⟨gb171, 5, none⟩ = some (.slice A1_5 l1_5.length c1_5) := (blk_cell BK171.out 5).trans rfl; have hfz17_0 := blk_frozen BK171.out 0; have hfz17_1 := blk_frozen BK171.out 1; have hfz17_2 := blk_frozen BK171.out 2; have hfz17_3 := blk_frozen BK171.out 3; have hfz17_4 := blk_frozen BK171.out 4; have hfz17_5 := blk_frozen BK171.out 5) | ((with_reducible refine gate_callee (f := 11) rfl ?_); refine goesL_ (some 21) rfl rfl Try.func11 (by kernel_rfl) rfl #[.agg #[.int .i64 a1_0, .int .i64 a1_1, .int .i64 a1_2, .int .i64 a1_3, .int .i64 a1_4, .slice A1_5 l1_5.length c1_5], .int .i64 t172] rfl tA ?_; (with_reducible refine (laws_szTimes.calls a1_0 a1_1 a1_2 a1_3 a1_4 _ _ l1_5 t172 t173 _ ?side1 ?side2 A10.out).mono ?_); (case side1 => repeat (first | exact (Kd.C_below HR1_5.out HB.out) | (with_reducible refine Kd.C_alloc ?_ _) | (with_reducible refine Kd.C_drewN ?_ _) | (with_reducible refine Kd.C_drew ?_))); (case side2 => exact HC1_5.out); rintro e w18 ⟨rfl, hb⟩; refine ⟨_, rfl, ?_⟩; have n0_ := Aside0.mk (blk_below (tK BK170.out) hb); have n1_ := Aside0.mk (blk_below (tK BK171.out) hb); have n2_ := Aside0.mk (below_step tBs hb); clear BK170; clear BK171; clear HB; have BK170 := n0_; have BK171 := n1_; have HB := n2_; clear n0_ n1_ n2_; (try clear hb); (try clear hb2); (try clear hk); (try clear hi)))
  go_ret
  exact ⟨by first | rfl | (simp [errW_none, errW_some] <;> rfl) | (simp [*, errW_none, errW_some] <;> rfl), by repeat (first | (with_reducible first | exact HB.out | apply below_alloc | apply pw_below_drewN | apply below_drew1 | refine below_set ?_ GE170.out | refine below_set ?_ GE171.out) | exact HB.out)⟩
 rw [if_pos c4] at H
 have c4b0 : decide (t172 < 0) = true := decide_eq_true c4
 clear c4 ht
 obtain rfl := Option.some.inj H
 go_enter Try.func3, Try.ntmps3
 go_wp2_with (first | ((with_reducible refine gate_dst (N := 2) rfl ?_); refine box_event ?hg (N := 2) ?hd (cs := #[.int .i64 a0_0, .int .i64 a0_1, .int .i64 a0_2, .int .i64 a0_3, .int .i64 a0_4, .slice A0_5 l0_5.length c0_5]) (t := 24) ?hr ?_; (case hd => rfl); (case hg => rfl); (case hr => first | (go_simp; done) | (go_simp; rfl)); intro gb170 hg w5 hbox hb; have n0_ := Aside0.mk (below_step tB hb); have n1_ := Aside0.mk (hbox); have n2_ := Aside0.mk ((by rw [hg]; exact (below_size tB) : w.heap.size ≤ gb170)); have n3_ := Aside0.mk ((by rw [hg]; exact (below_size tB) : w.heap.size ≤ gb170)); clear HB; have HB := n0_; have BK170 := n1_; have GW170 := n2_; have GE170 := n3_; clear n0_ n1_ n2_ n3_; clear hb hbox hg) | ((with_reducible refine gate_dst (N := 3) rfl ?_); refine box_event ?hg (N := 3) ?hd (cs := #[.int .i64 a1_0, .int .i64 a1_1, .int .i64 a1_2, .int .i64 a1_3, .int .i64 a1_4, .slice A1_5 l1_5.length c1_5]) (t := 24) ?hr ?_; (case hd => rfl); (case hg => rfl); (case hr => first | (go_simp; done) | (go_simp; rfl)); intro gb171 hg w6 hbox hb; have n0_ := Aside0.mk (blk_below (tK BK170.out) hb); have n1_ := Aside0.mk (below_step tBs hb); have n2_ := Aside0.mk (hbox); have n3_ := Aside0.mk ((by rw [hg]; exact (below_size tBs) : w.heap.size ≤ gb171)); have n4_ := Aside0.mk ((by rw [hg]; exact (below_size tBs) : w.heap.size ≤ gb171)); have n5_ := Aside0.mk ((by rw [hg]; exact Nat.ne_of_lt (blk_lt (tK BK170.out)) : gb170 ≠ gb171)); have n6_ := Aside0.mk ((by rw [hg]; exact Nat.ne_of_gt (blk_lt (tK BK170.out)) : gb171 ≠ gb170)); clear BK170; clear HB; have BK170 := n0_; have HB := n1_; have BK171 := n2_; have GW171 := n3_; have GE171 := n4_; have NB170_171 := n5_; have NB171_170 := n6_; clear n0_ n1_ n2_ n3_ n4_ n5_ n6_; clear hb hbox hg; have hnb7 := NB170_171.out; have hnc7 := NB171_170.out; have hcz8_0 : w6.cell? ⟨gb170, 0, none⟩ = some (.int .i64 a0_0) := (blk_cell BK170.out 0).trans rfl; have hcz8_1 : w6.cell? ⟨gb170, 1, none⟩ = some (.int .i64 a0_1) := (blk_cell BK170.out 1).trans rfl; have hcz8_2 : w6.cell? ⟨gb170, 2, none⟩ = some (.int .i64 a0_2) := (blk_cell BK170.out 2).trans rfl; have hcz8_3 : w6.cell? ⟨gb170, 3, none⟩ = some (.int .i64 a0_3) := (blk_cell BK170.out 3).trans rfl; have hcz8_4 : w6.cell? ⟨gb170, 4, none⟩ = some (.int .i64 a0_4) := (blk_cell BK170.out 4).trans rfl; have hcz8_5 : w6.cell? ⟨gb170, 5, none⟩ = some (.slice A0_5 l0_5.length c0_5) := (blk_cell BK170.out 5).trans rfl; have hfz8_0 := blk_frozen BK170.out 0; have hfz8_1 := blk_frozen BK170.out 1; have hfz8_2 := blk_frozen BK170.out 2; have hfz8_3 := blk_frozen BK170.out 3; have hfz8_4 := blk_frozen BK170.out 4; have hfz8_5 := blk_frozen BK170.out 5) | ((with_reducible refine gate_callee (f := 11) rfl ?_); refine goesL_ (some 16) rfl rfl Try.func11 (by kernel_rfl) rfl #[.agg #[.int .i64 a0_0, .int .i64 a0_1, .int .i64 a0_2, .int .i64 a0_3, .int .i64 a0_4, .slice A0_5 l0_5.length c0_5], .int .i64 1048576] rfl tA ?_; (with_reducible refine (laws_szTimes.calls a0_0 a0_1 a0_2 a0_3 a0_4 _ _ l0_5 1048576 t172 _ ?side1 ?side2 A3.out).mono ?_); (case side1 => repeat (first | exact (Kd.C_below HR0_5.out HB.out) | (with_reducible refine Kd.C_alloc ?_ _) | (with_reducible refine Kd.C_drewN ?_ _) | (with_reducible refine Kd.C_drew ?_))); (case side2 => exact HC0_5.out); rintro e w9 ⟨rfl, hb⟩; refine ⟨_, rfl, ?_⟩; have n0_ := Aside0.mk (blk_below (tK BK170.out) hb); have n1_ := Aside0.mk (blk_below (tK BK171.out) hb); have n2_ := Aside0.mk (below_step tBs hb); clear BK170; clear BK171; clear HB; have BK170 := n0_; have BK171 := n1_; have HB := n2_; clear n0_ n1_ n2_; (try clear hb); (try clear hb2); (try clear hk); (try clear hi)))
 go_ret
 exact ⟨by first | rfl | (simp [errW_none, errW_some] <;> rfl) | (simp [*, errW_none, errW_some] <;> rfl), by repeat (first | (with_reducible first | exact HB.out | apply below_alloc | apply pw_below_drewN | apply below_drew1 | refine below_set ?_ GE170.out | refine below_set ?_ GE171.out) | exact HB.out)⟩

end Go.Proofs.Ytfjdlggdnnghhaa.D1
