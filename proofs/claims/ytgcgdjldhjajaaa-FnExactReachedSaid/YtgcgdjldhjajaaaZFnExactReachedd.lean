-- Merged by bundle.py out of 9 printed and hand-written texts of this claim.
import Derived.Test.YtgcgdjldhjajaaaZFnExactReacheda
import Derived.Test.YtgcgdjldhjajaaaZFnExactReachedc
import Derived.Test.YtgcgdjldhjajaaaZFnExactReachedb
import Derived.RowKit
namespace Go.Proofs.Ytgcgdjldhjajaaa.A
open Go.RowKit Go.Proofs.YtgcgdjldhjajaaaW.PrintWords Go.Proofs.YtgcgdjldhjajaaaW.PrintLast Go.Proofs.YtgcgdjldhjajaaaW.PrintMore
attribute [local go_sem] max2_int min2_int max_two min_two max_three min_three max_four min_four   -- for this text's walks alone
set_option linter.unusedVariables false
set_option linter.unusedSimpArgs false

/-! ### impl_Reached: function 56, by hand -/
theorem says_pred2 (n i s : Int) (g : Nat) (w W : World) (ok : S78 → Prop) (hb : Below w.heap.size w W) (hge : w.heap.size ≤ g) (hG : W.heap[g]? = some (.cells #[.int .i64 n, .int .i64 i, .int .i64 s] 29 (0, 0))) : RecPred2 108 #[.pointer (some ⟨g, 0, none⟩)] (sayB n i s) ok W := by
  intro W2 x _ hb2
  have hG2 := blk_below hG hb2
  have hbw : Below w.heap.size w W2 := below_step hb hb2
  refine (impl_says_1.calls x.f0 x.f1 x.f2 x.f3 x.f4 x.f5 g n i s _ n i s w W2 ⟨hG2, hge⟩ hbw (says_is n i s x)).mono ?_
  rintro e w' ⟨he, hI, hz, hk⟩
  refine ⟨he, ⟨hz.os.trans hbw.os.symm, hz.tape.trans hbw.tape.symm, hz.output.trans hbw.output.symm, hk.1, fun j hj => ?_⟩⟩
  by_cases e1 : j = g
  · rw [e1, hI.1, hG2]
  · exact hk.2 j hj e1 (by simp)
def impl_Reached.f (l0 : List S78) (n i s : Int) : Option (List Int) := some (if (decide (l0.length ≤ 400) && l0.all recOk) = true then (if factB n i s = true then nodesP (sayB n i s) l0 else []) else [])
set_option maxHeartbeats 4000000 in
set_option maxRecDepth 100000 in
theorem impl_Reached.calls (A0 : Option Addr) (c0 : Nat) (l0 : List S78) (n i s : Int) (r : List Int) (w : World) (hr0 : Kd.C k78 w A0 l0.length l0) (hc0 : l0.length ≤ c0) (h : impl_Reached.f l0 n i s = some r) :
    Calls Try.prog 56 #[.slice A0 l0.length c0, .agg #[.int .i64 n, .int .i64 i, .int .i64 s]] w fun e w' => ∃ v0_ : Value, e = .returned (v0_) ∧ Kd.R (Kd.int .i64) 2 w' w.heap.size (fun _ => True) v0_ r ∧ Below w.heap.size w w' := by
  have HA := fun W (hb : Below w.heap.size w W) => Aside0.mk (impl_areRecs.calls A0 c0 l0 _ W (Kd.C_below hr0 hb) hc0 rfl)
  have HF := fun W => Aside0.mk (impl_FactRight.calls n i s _ W (m_fact n i s))
  have HS := fun W => Aside0.mk (impl_says.walk n i s W)
  have HI : l0.length ≤ 400 → ∀ W g, Below w.heap.size w W → w.heap.size ≤ g → W.heap[g]? = some (.cells #[.int .i64 n, .int .i64 i, .int .i64 s] 29 (0, 0)) → Aside0 (Calls Try.prog 100 #[.slice A0 l0.length c0, .func (.func 108) #[] #[.pointer (some ⟨g, 0, none⟩)]] W fun e w' => ∃ v : Value, e = .returned v ∧ Kd.R (Kd.int .i64) 2 w' W.heap.size (fun _ => True) v (nodesP (sayB n i s) l0) ∧ Below W.heap.size W w') := by
    intro h4 W g hb hge hG
    exact ⟨nodesRec (sayB n i s) 108 #[.pointer (some ⟨g, 0, none⟩)] A0 c0 l0 W (Kd.C_below hr0 hb) h4 (says_pred2 n i s g w W _ hb hge hG) (enters_of Try.func108 (by kernel_rfl) rfl)⟩
  have h4 : (decide (l0.length ≤ 400) && l0.all recOk) = true → l0.length ≤ 400 := fun h => by
    rw [Bool.and_eq_true] at h
    exact of_decide_eq_true h.1
  have hH : r = if (decide (l0.length ≤ 400) && l0.all recOk) = true then (if factB n i s = true then nodesP (sayB n i s) l0 else []) else [] := (Option.some.inj h).symm
  clear h hr0
  generalize nodesP (sayB n i s) l0 = v at hH HI
  generalize factB n i s = b2 at hH HF
  generalize (decide (l0.length ≤ 400) && l0.all recOk) = b1 at hH HA h4
  have HI2 := Aside0.mk HI
  have HA2 := Aside0.mk HA
  clear HI HA
  have hu29 := Try.underlying29
  cases b1
  case false =>
    clear HI2 h4
    have hr : r = [] := by rw [hH]; rfl
    subst hr
    clear hH
    go_enter Try.func56, Try.ntmps56
    go_wp2_with (first
      | ((with_reducible refine gate_dst (N := 3) rfl ?_); refine box_event ?hg (N := 3) ?hd (cs := #[.int .i64 n, .int .i64 i, .int .i64 s]) (t := 29) ?hr ?_; (case hd => rfl); (case hg => rfl); (case hr => first | (go_simp; done) | (go_simp; rfl)); intro gb hgb w3 hbox hb; have HX := Aside0.mk hbox; have BX := Aside0.mk hb; clear hbox hb hgb)
      | (go_at_call 66; refine (HA2.out _ (by repeat (first | exact BX.out | apply pw_below_drewN | apply below_drew1))).out.mono ?_; rintro e w' ⟨rfl, hb'⟩; have z := blk_below (by (with_reducible repeat (first | refine blk_drewN ?_ _ | refine blk_drew ?_)); exact HX.out) hb'; have HX2 := Aside0.mk z; have z0 := blk_cell z 0; have z1 := blk_cell z 1; have z2 := blk_cell z 2; simp at z0 z1 z2; clear z; have HB2 := Aside0.mk (below_step (by repeat (first | exact BX.out | apply pw_below_drewN | apply below_drew1)) hb'); clear hb'))
    go_ret
    exact ⟨_, rfl, Kd.R_nil _ _ _ _ _, (by repeat (first | exact HB2.out | apply pw_below_drewN | apply below_drew1))⟩
  case true =>
    cases b2
    case false =>
      clear HI2 h4
      have hr : r = [] := by rw [hH]; rfl
      subst hr
      clear hH
      go_enter Try.func56, Try.ntmps56
      go_wp2_with (first
        | ((with_reducible refine gate_dst (N := 3) rfl ?_); refine box_event ?hg (N := 3) ?hd (cs := #[.int .i64 n, .int .i64 i, .int .i64 s]) (t := 29) ?hr ?_; (case hd => rfl); (case hg => rfl); (case hr => first | (go_simp; done) | (go_simp; rfl)); intro gb hgb w3 hbox hb; have HX := Aside0.mk hbox; have BX := Aside0.mk hb; clear hbox hb hgb)
        | (go_at_call 66; refine (HA2.out _ (by repeat (first | exact BX.out | apply pw_below_drewN | apply below_drew1))).out.mono ?_; rintro e w' ⟨rfl, hb'⟩; have z := blk_below (by (with_reducible repeat (first | refine blk_drewN ?_ _ | refine blk_drew ?_)); exact HX.out) hb'; have HX2 := Aside0.mk z; have z0 := blk_cell z 0; have z1 := blk_cell z 1; have z2 := blk_cell z 2; simp at z0 z1 z2; clear z; have HB2 := Aside0.mk (below_step (by repeat (first | exact BX.out | apply pw_below_drewN | apply below_drew1)) hb'); clear hb')
        | (go_at_call 67; refine (HF _).out.mono ?_; rintro e w' ⟨rfl, hb'⟩; have y := blk_below (by (with_reducible repeat (first | refine blk_drewN ?_ _ | refine blk_drew ?_)); exact HX2.out) hb'; have HX3 := Aside0.mk y; have y0 := blk_cell y 0; have y1 := blk_cell y 1; have y2 := blk_cell y 2; simp at y0 y1 y2; clear y; have HB3 := Aside0.mk (below_step (by repeat (first | exact HB2.out | apply pw_below_drewN | apply below_drew1)) hb'); clear hb'))
      go_ret
      exact ⟨_, rfl, Kd.R_nil _ _ _ _ _, (by repeat (first | exact HB3.out | apply pw_below_drewN | apply below_drew1))⟩
    case true =>
      have HI3 := Aside0.mk (HI2.out (h4 rfl))
      clear HI2 h4
      have hr : r = v := by rw [hH]; rfl
      subst hr
      clear hH
      go_enter Try.func56, Try.ntmps56
      go_wp2_with (first
        | ((with_reducible refine gate_dst (N := 3) rfl ?_); refine box_event ?hg (N := 3) ?hd (cs := #[.int .i64 n, .int .i64 i, .int .i64 s]) (t := 29) ?hr ?_; (case hd => rfl); (case hg => rfl); (case hr => first | (go_simp; done) | (go_simp; rfl)); intro gb hgb w3 hbox hb; have HX := Aside0.mk hbox; have BX := Aside0.mk hb; clear hbox hb hgb)
        | (go_at_call 66; refine (HA2.out _ (by repeat (first | exact BX.out | apply pw_below_drewN | apply below_drew1))).out.mono ?_; rintro e w' ⟨rfl, hb'⟩; have z := blk_below (by (with_reducible repeat (first | refine blk_drewN ?_ _ | refine blk_drew ?_)); exact HX.out) hb'; have HX2 := Aside0.mk z; have z0 := blk_cell z 0; have z1 := blk_cell z 1; have z2 := blk_cell z 2; simp at z0 z1 z2; clear z; have HB2 := Aside0.mk (below_step (by repeat (first | exact BX.out | apply pw_below_drewN | apply below_drew1)) hb'); clear hb')
        | (go_at_call 67; refine (HF _).out.mono ?_; rintro e w' ⟨rfl, hb'⟩; have y := blk_below (by (with_reducible repeat (first | refine blk_drewN ?_ _ | refine blk_drew ?_)); exact HX2.out) hb'; have HX3 := Aside0.mk y; have y0 := blk_cell y 0; have y1 := blk_cell y 1; have y2 := blk_cell y 2; simp at y0 y1 y2; clear y; have HB3 := Aside0.mk (below_step (by repeat (first | exact HB2.out | apply pw_below_drewN | apply below_drew1)) hb'); clear hb')
        | (go_at_call 69; refine (HS _).out.mono ?_; rintro e w' ⟨gg, rfl, hge, hG, hb'⟩; have HGE := Aside0.mk (Nat.le_trans (below_size (by repeat (first | exact HB3.out | apply pw_below_drewN | apply below_drew1))) hge); have HG := Aside0.mk hG; have HB4 := Aside0.mk (below_step (by repeat (first | exact HB3.out | apply pw_below_drewN | apply below_drew1)) hb'); clear hb' hge hG)
        | (go_at_call 100; refine (HI3.out _ gg (by repeat (first | exact HB4.out | apply pw_below_drewN | apply below_drew1)) HGE.out (by (with_reducible repeat (first | refine blk_drewN ?_ _ | refine blk_drew ?_)); exact HG.out)).out.mono ?_; rintro e w' ⟨vv, rfl, ho, hb'⟩; have HO5 := Aside0.mk (Kd.R_lower ho (below_size (by repeat (first | exact HB4.out | apply pw_below_drewN | apply below_drew1)))); have HB5 := Aside0.mk (below_step (by repeat (first | exact HB4.out | apply pw_below_drewN | apply below_drew1)) hb'); clear hb' ho))
      go_ret
      exact ⟨_, rfl, (by (with_reducible repeat (first | apply Kd.R_drewN | apply Kd.R_drew)); exact HO5.out), (by repeat (first | exact HB5.out | apply pw_below_drewN | apply below_drew1))⟩

end Go.Proofs.Ytgcgdjldhjajaaa.A
namespace Go.Proofs.Ytgcgdjldhjajaaa.A
open Go.RowKit Go.Proofs.YtgcgdjldhjajaaaW.PrintWords Go.Proofs.YtgcgdjldhjajaaaW.PrintLast Go.Proofs.YtgcgdjldhjajaaaW.PrintMore
attribute [local go_sem] max2_int min2_int max_two min_two max_three min_three max_four min_four   -- for this text's walks alone
set_option linter.unusedVariables false
set_option linter.unusedSimpArgs false

/-! ### laws_FnExactReached: function 13 -/
def laws_FnExactReached.j0 : Nat → List (S80) → List Int → List Int → Bool → Int → Int → Int → Option (Bool)
  | 0, _, _, _, _, _, _, _ => none
  | k + 1, x0, x6, x8, x48, x102000, x102001, x102002 => if x48 = true then (some false) else ((laws_markInt64S.f k x8 1).bind fun bt129 => ((laws_heldInt64S.f k bt129.2 1).bind fun t131 => (if t131 < 0 then (some false) else (if t131 = bt129.1 then ((laws_toRecS.f k x0).bind fun t132 => ((laws_toFact.f x102000 x102001 x102002).bind fun bt135 => ((impl_Reached.f t132 bt135.1 bt135.2.1 bt135.2.2).bind fun t138 => ((laws_eqInt64S.f k t138 x6).bind fun t141 => (if t141 = true then ((laws_heldInt64S.f k bt129.2 1).bind fun t142 => (if t142 < 0 then (some false) else (if t142 = bt129.1 then (some true) else (some false)))) else (some false)))))) else (some false)))))
def laws_FnExactReached.f (k : Nat) (l0 : List (S80)) (a1_0 : Int) (a1_1 : Int) (a1_2 : Int) : Option (Bool) := (laws_szRecS.f l0 1048576).bind fun t102 => (if t102 < 0 then (some true) else ((laws_toRecS.f k l0).bind fun t103 => ((laws_toFact.f a1_0 a1_1 a1_2).bind fun bt106 => ((spec_Reached.f k t103 bt106.1 bt106.2.1 bt106.2.2).bind fun t109 => ((laws_toRecS.f k l0).bind fun t112 => ((laws_toFact.f a1_0 a1_1 a1_2).bind fun bt115 => ((impl_Reached.f t112 bt115.1 bt115.2.1 bt115.2.2).bind fun t118 => ((laws_eqInt64S.f k t118 t109).bind fun t121 => (if t121 = true then ((laws_toRecS.f k l0).bind fun t122 => ((laws_eqRecS.f k t112 t122).bind fun t125 => (if t125 = true then ((laws_markRecS.f k t112 1).bind fun bt126 => (if bt126.1 < 0 then (laws_FnExactReached.j0 k l0 t109 t118 true a1_0 a1_1 a1_2) else ((laws_eqInt64S.f k t118 t109).bind fun t128 => (laws_FnExactReached.j0 k l0 t109 t118 (!t128) a1_0 a1_1 a1_2)))) else (some false)))) else (some false))))))))))
theorem laws_FnExactReached.mono_l : ∀ k, (∀ y0 y1 y2 y3 y4 y5 y6, LeO (laws_FnExactReached.j0 k y0 y1 y2 y3 y4 y5 y6) (laws_FnExactReached.j0 (k + 1) y0 y1 y2 y3 y4 y5 y6))
  | 0 => fun _ _ _ _ _ _ _ r h => by simp [laws_FnExactReached.j0] at h
  | k + 1 => by
    have ih0 := laws_FnExactReached.mono_l k
    · intro y0 y1 y2 y3 y4 y5 y6
      unfold laws_FnExactReached.j0
      repeat' first
      | (with_reducible exact ih0 _ _ _ _ _ _ _)
      | (with_reducible exact laws_eqInt64S.mono _ _ _)
      | (with_reducible exact laws_eqRecS.mono _ _ _)
      | (with_reducible exact laws_heldInt64S.mono _ _ _)
      | (with_reducible exact laws_markInt64S.mono _ _ _)
      | (with_reducible exact laws_markRecS.mono _ _ _)
      | (with_reducible exact laws_toRecS.mono _ _)
      | (with_reducible exact spec_Reached.mono _ _ _ _ _)
      | (with_reducible exact LeO.refl _)
      | (with_reducible exact LeO.none _)
      | (with_reducible refine LeO.ite ?_ ?_)
      | (with_reducible refine LeO.bind ?_ (fun _ => ?_))
      | exact ih0 _ _ _ _ _ _ _
      | exact laws_eqInt64S.mono _ _ _
      | exact laws_eqRecS.mono _ _ _
      | exact laws_heldInt64S.mono _ _ _
      | exact laws_markInt64S.mono _ _ _
      | exact laws_markRecS.mono _ _ _
      | exact laws_toRecS.mono _ _
      | exact spec_Reached.mono _ _ _ _ _
      | exact LeO.none _
      | refine LeO.ite ?_ ?_
      | refine LeO.bind ?_ (fun _ => ?_)
theorem laws_FnExactReached.mono : ∀ a0 a1 a2 a3 k, LeO (laws_FnExactReached.f k a0 a1 a2 a3) (laws_FnExactReached.f (k + 1) a0 a1 a2 a3) := by
  intro a0 a1 a2 a3 k
  have ih0 := laws_FnExactReached.mono_l k
  unfold laws_FnExactReached.f
  repeat' first
      | (with_reducible exact ih0 _ _ _ _ _ _ _)
      | (with_reducible exact laws_eqInt64S.mono _ _ _)
      | (with_reducible exact laws_eqRecS.mono _ _ _)
      | (with_reducible exact laws_heldInt64S.mono _ _ _)
      | (with_reducible exact laws_markInt64S.mono _ _ _)
      | (with_reducible exact laws_markRecS.mono _ _ _)
      | (with_reducible exact laws_toRecS.mono _ _)
      | (with_reducible exact spec_Reached.mono _ _ _ _ _)
      | (with_reducible exact LeO.refl _)
      | (with_reducible exact LeO.none _)
      | (with_reducible refine LeO.ite ?_ ?_)
      | (with_reducible refine LeO.bind ?_ (fun _ => ?_))
      | exact ih0 _ _ _ _ _ _ _
      | exact laws_eqInt64S.mono _ _ _
      | exact laws_eqRecS.mono _ _ _
      | exact laws_heldInt64S.mono _ _ _
      | exact laws_markInt64S.mono _ _ _
      | exact laws_markRecS.mono _ _ _
      | exact laws_toRecS.mono _ _
      | exact spec_Reached.mono _ _ _ _ _
      | exact LeO.none _
      | refine LeO.ite ?_ ?_
      | refine LeO.bind ?_ (fun _ => ?_)
set_option maxHeartbeats 8000000 in
set_option maxRecDepth 100000 in
theorem laws_FnExactReached.calls (k : Nat) (A0 : Option Addr) (c0 : Nat) (l0 : List (S80)) (a1_0 : Int) (a1_1 : Int) (a1_2 : Int) (r : Bool) (w : World) (hr0 : Kd.C k80 w A0 l0.length l0) (hc0 : l0.length ≤ c0) (ht : r = true) (h : laws_FnExactReached.f k l0 a1_0 a1_1 a1_2 = some r) :
    Calls Try.prog 13 #[.slice A0 l0.length c0, .agg #[.int .i64 a1_0, .int .i64 a1_1, .int .i64 a1_2]] w fun e w' => e = .returned (.bool r) ∧ Below w.heap.size w w' := by
  have hu24 := Try.underlying24
  have HR0 := Aside0.mk hr0
  have HC0 := Aside0.mk hc0
  clear hr0 hc0
  have HB := Aside0.mk (Below.refl w.heap.size w)
  have H : ((laws_szRecS.f l0 1048576).bind fun t102 => (if t102 < 0 then (some true) else ((laws_toRecS.f k l0).bind fun t103 => ((laws_toFact.f a1_0 a1_1 a1_2).bind fun bt106 => ((spec_Reached.f k t103 bt106.1 bt106.2.1 bt106.2.2).bind fun t109 => ((laws_toRecS.f k l0).bind fun t112 => ((laws_toFact.f a1_0 a1_1 a1_2).bind fun bt115 => ((impl_Reached.f t112 bt115.1 bt115.2.1 bt115.2.2).bind fun t118 => ((laws_eqInt64S.f k t118 t109).bind fun t121 => (if t121 = true then ((laws_toRecS.f k l0).bind fun t122 => ((laws_eqRecS.f k t112 t122).bind fun t125 => (if t125 = true then ((laws_markRecS.f k t112 1).bind fun bt126 => (if bt126.1 < 0 then (laws_FnExactReached.j0 k l0 t109 t118 true a1_0 a1_1 a1_2) else ((laws_eqInt64S.f k t118 t109).bind fun t128 => (laws_FnExactReached.j0 k l0 t109 t118 (!t128) a1_0 a1_1 a1_2)))) else (some false)))) else (some false))))))))))) = some r := h
  clear h
  replace H := Option.bind_eq_some_iff.mp H
  obtain ⟨t102, A30, H⟩ := H
  replace H : (if t102 < 0 then (some true) else ((laws_toRecS.f k l0).bind fun t103 => ((laws_toFact.f a1_0 a1_1 a1_2).bind fun bt106 => ((spec_Reached.f k t103 bt106.1 bt106.2.1 bt106.2.2).bind fun t109 => ((laws_toRecS.f k l0).bind fun t112 => ((laws_toFact.f a1_0 a1_1 a1_2).bind fun bt115 => ((impl_Reached.f t112 bt115.1 bt115.2.1 bt115.2.2).bind fun t118 => ((laws_eqInt64S.f k t118 t109).bind fun t121 => (if t121 = true then ((laws_toRecS.f k l0).bind fun t122 => ((laws_eqRecS.f k t112 t122).bind fun t125 => (if t125 = true then ((laws_markRecS.f k t112 1).bind fun bt126 => (if bt126.1 < 0 then (laws_FnExactReached.j0 k l0 t109 t118 true a1_0 a1_1 a1_2) else ((laws_eqInt64S.f k t118 t109).bind fun t128 => (laws_FnExactReached.j0 k l0 t109 t118 (!t128) a1_0 a1_1 a1_2)))) else (some false)))) else (some false)))))))))) = some r := H
  have A3 := Aside0.mk A30
  clear A30
  by_cases c4 : t102 < 0
  · rw [if_pos c4] at H
    have c4b0 : decide (t102 < 0) = true := decide_eq_true c4
    clear c4
    clear ht
    obtain rfl := Option.some.inj H
    go_enter Try.func13, Try.ntmps13
    go_wp2_with (first | ((with_reducible refine gate_dst (N := 3) rfl ?_); refine box_event ?hg (N := 3) ?hd (cs := #[.int .i64 a1_0, .int .i64 a1_1, .int .i64 a1_2]) (t := 24) ?hr ?_; (case hd => rfl); (case hg => rfl); (case hr => first | (go_simp; done) | (go_simp; rfl)); intro gb101 hg w5 hbox hb; have n0_ := Aside0.mk (below_step (by repeat (first | (with_reducible first | exact HB.out | apply below_alloc | apply pw_below_drewN | apply below_drew1) | exact HB.out)) hb); have n1_ := Aside0.mk (hbox); have n2_ := Aside0.mk ((by rw [hg]; exact (below_size (by repeat (first | (with_reducible first | exact HB.out | apply below_alloc | apply pw_below_drewN | apply below_drew1) | exact HB.out))) : w.heap.size ≤ gb101)); have n3_ := Aside0.mk ((by rw [hg]; exact (below_size (by repeat (first | (with_reducible first | exact HB.out | apply below_alloc | apply pw_below_drewN | apply below_drew1) | exact HB.out))) : w.heap.size ≤ gb101)); clear HB; have HB := n0_; have BK101 := n1_; have GW101 := n2_; have GE101 := n3_; clear n0_ n1_ n2_ n3_; clear hb hbox hg) | ((with_reducible refine gate_callee (f := 15) rfl ?_); refine goesL_ (some 15) rfl rfl Try.func15 (by kernel_rfl) rfl #[.slice A0 l0.length c0, .int .i64 1048576] rfl (by (try simp only [List.map_toArray, List.map_cons, List.map_nil]); first | done | rfl | (simp only [List.length_drop, List.length_take]; rfl)) ?_; (with_reducible refine (laws_szRecS.calls _ _ l0 1048576 t102 _ ?side1 ?side2 A3.out).mono ?_); (case side1 => repeat (first | exact (Kd.C_below HR0.out HB.out) | (with_reducible refine Kd.C_alloc ?_ _) | (with_reducible refine Kd.C_drewN ?_ _) | (with_reducible refine Kd.C_drew ?_))); (case side2 => exact HC0.out); rintro e w' ⟨rfl, ⟨nd, rfl⟩⟩; refine ⟨_, rfl, ?_⟩))
    go_ret
    exact ⟨by first | rfl | (simp [errW_none, errW_some] <;> rfl) | (simp [*, errW_none, errW_some] <;> rfl), by repeat (first | (with_reducible first | exact HB.out | apply below_alloc | apply pw_below_drewN | apply below_drew1 | refine below_set ?_ GE101.out) | exact HB.out)⟩
  · rw [if_neg c4] at H
    have c4b0 : decide (t102 < 0) = false := decide_eq_false c4
    clear c4
    replace H := Option.bind_eq_some_iff.mp H
    obtain ⟨t103, A60, H⟩ := H
    replace H : ((laws_toFact.f a1_0 a1_1 a1_2).bind fun bt106 => ((spec_Reached.f k t103 bt106.1 bt106.2.1 bt106.2.2).bind fun t109 => ((laws_toRecS.f k l0).bind fun t112 => ((laws_toFact.f a1_0 a1_1 a1_2).bind fun bt115 => ((impl_Reached.f t112 bt115.1 bt115.2.1 bt115.2.2).bind fun t118 => ((laws_eqInt64S.f k t118 t109).bind fun t121 => (if t121 = true then ((laws_toRecS.f k l0).bind fun t122 => ((laws_eqRecS.f k t112 t122).bind fun t125 => (if t125 = true then ((laws_markRecS.f k t112 1).bind fun bt126 => (if bt126.1 < 0 then (laws_FnExactReached.j0 k l0 t109 t118 true a1_0 a1_1 a1_2) else ((laws_eqInt64S.f k t118 t109).bind fun t128 => (laws_FnExactReached.j0 k l0 t109 t118 (!t128) a1_0 a1_1 a1_2)))) else (some false)))) else (some false)))))))) = some r := H
    have A6 := Aside0.mk A60
    clear A60
    replace H := Option.bind_eq_some_iff.mp H
    obtain ⟨⟨t106, t107, t108⟩, A70, H⟩ := H
    replace H : ((spec_Reached.f k t103 t106 t107 t108).bind fun t109 => ((laws_toRecS.f k l0).bind fun t112 => ((laws_toFact.f a1_0 a1_1 a1_2).bind fun bt115 => ((impl_Reached.f t112 bt115.1 bt115.2.1 bt115.2.2).bind fun t118 => ((laws_eqInt64S.f k t118 t109).bind fun t121 => (if t121 = true then ((laws_toRecS.f k l0).bind fun t122 => ((laws_eqRecS.f k t112 t122).bind fun t125 => (if t125 = true then ((laws_markRecS.f k t112 1).bind fun bt126 => (if bt126.1 < 0 then (laws_FnExactReached.j0 k l0 t109 t118 true a1_0 a1_1 a1_2) else ((laws_eqInt64S.f k t118 t109).bind fun t128 => (laws_FnExactReached.j0 k l0 t109 t118 (!t128) a1_0 a1_1 a1_2)))) else (some false)))) else (some false))))))) = some r := H
    have A7 := Aside0.mk A70
    clear A70
    replace H := Option.bind_eq_some_iff.mp H
    obtain ⟨t109, A80, H⟩ := H
    replace H : ((laws_toRecS.f k l0).bind fun t112 => ((laws_toFact.f a1_0 a1_1 a1_2).bind fun bt115 => ((impl_Reached.f t112 bt115.1 bt115.2.1 bt115.2.2).bind fun t118 => ((laws_eqInt64S.f k t118 t109).bind fun t121 => (if t121 = true then ((laws_toRecS.f k l0).bind fun t122 => ((laws_eqRecS.f k t112 t122).bind fun t125 => (if t125 = true then ((laws_markRecS.f k t112 1).bind fun bt126 => (if bt126.1 < 0 then (laws_FnExactReached.j0 k l0 t109 t118 true a1_0 a1_1 a1_2) else ((laws_eqInt64S.f k t118 t109).bind fun t128 => (laws_FnExactReached.j0 k l0 t109 t118 (!t128) a1_0 a1_1 a1_2)))) else (some false)))) else (some false)))))) = some r := H
    have A8 := Aside0.mk A80
    clear A80
    replace H := Option.bind_eq_some_iff.mp H
    obtain ⟨t112, A90, H⟩ := H
    replace H : ((laws_toFact.f a1_0 a1_1 a1_2).bind fun bt115 => ((impl_Reached.f t112 bt115.1 bt115.2.1 bt115.2.2).bind fun t118 => ((laws_eqInt64S.f k t118 t109).bind fun t121 => (if t121 = true then ((laws_toRecS.f k l0).bind fun t122 => ((laws_eqRecS.f k t112 t122).bind fun t125 => (if t125 = true then ((laws_markRecS.f k t112 1).bind fun bt126 => (if bt126.1 < 0 then (laws_FnExactReached.j0 k l0 t109 t118 true a1_0 a1_1 a1_2) else ((laws_eqInt64S.f k t118 t109).bind fun t128 => (laws_FnExactReached.j0 k l0 t109 t118 (!t128) a1_0 a1_1 a1_2)))) else (some false)))) else (some false))))) = some r := H
    have A9 := Aside0.mk A90
    clear A90
    replace H := Option.bind_eq_some_iff.mp H
    obtain ⟨⟨t115, t116, t117⟩, A100, H⟩ := H
    replace H : ((impl_Reached.f t112 t115 t116 t117).bind fun t118 => ((laws_eqInt64S.f k t118 t109).bind fun t121 => (if t121 = true then ((laws_toRecS.f k l0).bind fun t122 => ((laws_eqRecS.f k t112 t122).bind fun t125 => (if t125 = true then ((laws_markRecS.f k t112 1).bind fun bt126 => (if bt126.1 < 0 then (laws_FnExactReached.j0 k l0 t109 t118 true a1_0 a1_1 a1_2) else ((laws_eqInt64S.f k t118 t109).bind fun t128 => (laws_FnExactReached.j0 k l0 t109 t118 (!t128) a1_0 a1_1 a1_2)))) else (some false)))) else (some false)))) = some r := H
    have A10 := Aside0.mk A100
    clear A100
    replace H := Option.bind_eq_some_iff.mp H
    obtain ⟨t118, A110, H⟩ := H
    replace H : ((laws_eqInt64S.f k t118 t109).bind fun t121 => (if t121 = true then ((laws_toRecS.f k l0).bind fun t122 => ((laws_eqRecS.f k t112 t122).bind fun t125 => (if t125 = true then ((laws_markRecS.f k t112 1).bind fun bt126 => (if bt126.1 < 0 then (laws_FnExactReached.j0 k l0 t109 t118 true a1_0 a1_1 a1_2) else ((laws_eqInt64S.f k t118 t109).bind fun t128 => (laws_FnExactReached.j0 k l0 t109 t118 (!t128) a1_0 a1_1 a1_2)))) else (some false)))) else (some false))) = some r := H
    have A11 := Aside0.mk A110
    clear A110
    replace H := Option.bind_eq_some_iff.mp H
    obtain ⟨t121, A120, H⟩ := H
    replace H : (if t121 = true then ((laws_toRecS.f k l0).bind fun t122 => ((laws_eqRecS.f k t112 t122).bind fun t125 => (if t125 = true then ((laws_markRecS.f k t112 1).bind fun bt126 => (if bt126.1 < 0 then (laws_FnExactReached.j0 k l0 t109 t118 true a1_0 a1_1 a1_2) else ((laws_eqInt64S.f k t118 t109).bind fun t128 => (laws_FnExactReached.j0 k l0 t109 t118 (!t128) a1_0 a1_1 a1_2)))) else (some false)))) else (some false)) = some r := H
    have A12 := Aside0.mk A120
    clear A120
    by_cases c13 : t121 = true
    · subst c13
      have H1 : ((laws_toRecS.f k l0).bind fun t122 => ((laws_eqRecS.f k t112 t122).bind fun t125 => (if t125 = true then ((laws_markRecS.f k t112 1).bind fun bt126 => (if bt126.1 < 0 then (laws_FnExactReached.j0 k l0 t109 t118 true a1_0 a1_1 a1_2) else ((laws_eqInt64S.f k t118 t109).bind fun t128 => (laws_FnExactReached.j0 k l0 t109 t118 (!t128) a1_0 a1_1 a1_2)))) else (some false)))) = some r := by rw [if_pos rfl] at H; exact H
      clear H
      have H := H1
      clear H1
      replace H := Option.bind_eq_some_iff.mp H
      obtain ⟨t122, A140, H⟩ := H
      replace H : ((laws_eqRecS.f k t112 t122).bind fun t125 => (if t125 = true then ((laws_markRecS.f k t112 1).bind fun bt126 => (if bt126.1 < 0 then (laws_FnExactReached.j0 k l0 t109 t118 true a1_0 a1_1 a1_2) else ((laws_eqInt64S.f k t118 t109).bind fun t128 => (laws_FnExactReached.j0 k l0 t109 t118 (!t128) a1_0 a1_1 a1_2)))) else (some false))) = some r := H
      have A14 := Aside0.mk A140
      clear A140
      replace H := Option.bind_eq_some_iff.mp H
      obtain ⟨t125, A150, H⟩ := H
      replace H : (if t125 = true then ((laws_markRecS.f k t112 1).bind fun bt126 => (if bt126.1 < 0 then (laws_FnExactReached.j0 k l0 t109 t118 true a1_0 a1_1 a1_2) else ((laws_eqInt64S.f k t118 t109).bind fun t128 => (laws_FnExactReached.j0 k l0 t109 t118 (!t128) a1_0 a1_1 a1_2)))) else (some false)) = some r := H
      have A15 := Aside0.mk A150
      clear A150
      by_cases c16 : t125 = true
      · subst c16
        have H1 : ((laws_markRecS.f k t112 1).bind fun bt126 => (if bt126.1 < 0 then (laws_FnExactReached.j0 k l0 t109 t118 true a1_0 a1_1 a1_2) else ((laws_eqInt64S.f k t118 t109).bind fun t128 => (laws_FnExactReached.j0 k l0 t109 t118 (!t128) a1_0 a1_1 a1_2)))) = some r := by rw [if_pos rfl] at H; exact H
        clear H
        have H := H1
        clear H1
        replace H := Option.bind_eq_some_iff.mp H
        obtain ⟨⟨t126, t127⟩, A170, H⟩ := H
        replace H : (if t126 < 0 then (laws_FnExactReached.j0 k l0 t109 t118 true a1_0 a1_1 a1_2) else ((laws_eqInt64S.f k t118 t109).bind fun t128 => (laws_FnExactReached.j0 k l0 t109 t118 (!t128) a1_0 a1_1 a1_2))) = some r := H
        have A17 := Aside0.mk A170
        clear A170
        have HC18 := Aside0.mk H
        clear H
        go_enter Try.func13, Try.ntmps13
        try go_wp2_with (first | ((with_reducible refine gate_dst (N := 3) rfl ?_); refine box_event ?hg (N := 3) ?hd (cs := #[.int .i64 a1_0, .int .i64 a1_1, .int .i64 a1_2]) (t := 24) ?hr ?_; (case hd => rfl); (case hg => rfl); (case hr => first | (go_simp; done) | (go_simp; rfl)); intro gb101 hg w19 hbox hb; have n0_ := Aside0.mk (below_step (by repeat (first | (with_reducible first | exact HB.out | apply below_alloc | apply pw_below_drewN | apply below_drew1) | exact HB.out)) hb); have n1_ := Aside0.mk (hbox); have n2_ := Aside0.mk ((by rw [hg]; exact (below_size (by repeat (first | (with_reducible first | exact HB.out | apply below_alloc | apply pw_below_drewN | apply below_drew1) | exact HB.out))) : w.heap.size ≤ gb101)); have n3_ := Aside0.mk ((by rw [hg]; exact (below_size (by repeat (first | (with_reducible first | exact HB.out | apply below_alloc | apply pw_below_drewN | apply below_drew1) | exact HB.out))) : w.heap.size ≤ gb101)); clear HB; have HB := n0_; have BK101 := n1_; have GW101 := n2_; have GE101 := n3_; clear n0_ n1_ n2_ n3_; clear hb hbox hg) | ((with_reducible refine gate_callee (f := 15) rfl ?_); refine goesL_ (some 15) rfl rfl Try.func15 (by kernel_rfl) rfl #[.slice A0 l0.length c0, .int .i64 1048576] rfl (by (try simp only [List.map_toArray, List.map_cons, List.map_nil]); first | done | rfl | (simp only [List.length_drop, List.length_take]; rfl)) ?_; (with_reducible refine (laws_szRecS.calls _ _ l0 1048576 t102 _ ?side1 ?side2 A3.out).mono ?_); (case side1 => repeat (first | exact (Kd.C_below HR0.out HB.out) | (with_reducible refine Kd.C_alloc ?_ _) | (with_reducible refine Kd.C_drewN ?_ _) | (with_reducible refine Kd.C_drew ?_))); (case side2 => exact HC0.out); rintro e w' ⟨rfl, ⟨nd, rfl⟩⟩; refine ⟨_, rfl, ?_⟩))
        (try (rw [drewN_self w19]; generalize hq_ : World.drewN w19 _ = w19; have n0_ : Aside0 (w19.heap[gb101]? = some (.cells #[.int .i64 a1_0, .int .i64 a1_1, .int .i64 a1_2] 24 (0, 0))) := ⟨by rw [← hq_]; exact (by (with_reducible repeat (first | refine blk_drewN ?_ _ | refine blk_drew ?_ | refine blk_alloc ?_ _)); exact BK101.out)⟩; have n1_ : Aside0 (Below w.heap.size w w19) := ⟨by rw [← hq_]; exact (by repeat (first | (with_reducible first | exact HB.out | apply below_alloc | apply pw_below_drewN | apply below_drew1 | refine below_set ?_ GE101.out) | exact HB.out))⟩; clear BK101 HB hq_; have BK101 := n0_; have HB := n1_; clear n0_ n1_))
        have n0_ := Aside0.mk (blk_drew BK101.out)
        have n1_ := Aside0.mk (below_drew1 HB.out)
        clear BK101
        clear HB
        have BK101 := n0_
        have HB := n1_
        clear n0_ n1_
        refine start_ (n := 6) (S := fun w' => w'.cell? ⟨gb101, 0, none⟩ = some (.int .i64 a1_0) ∧ w'.cell? ⟨gb101, 1, none⟩ = some (.int .i64 a1_1) ∧ w'.cell? ⟨gb101, 2, none⟩ = some (.int .i64 a1_2)) (ds := []) (tf 0 6) (by kernel_rfl) rfl rfl ⟨(blk_cell BK101.out 0).trans rfl, (blk_cell BK101.out 1).trans rfl, (blk_cell BK101.out 2).trans rfl⟩ (fun hHeld => ?_)
        generalize w19.drew = w20 at BK101 HB hHeld ⊢
        refine pure_ (i := 0) (N := some 18) (v := ?_) (a' := ?_) (tf 1 5) rfl rfl (by kernel_rfl) (fun _ _ _ h => h) (Or.inl ⟨by rfl, ?_⟩) ?_ ?_
        rotate_left; (focus intro w'; go_simp; with_reducible rfl)
        rotate_left; (focus simp only [Act.put, List.setIfInBounds_toArray, List.set_cons_zero, List.set_cons_succ, i64_w, i32_w]; rfl)
        refine take_ (i := 2) (N := some 20) (v := ?_) (a' := ?_) #[true, false, true, false, false, false] rfl rfl (by kernel_rfl) (fun _ _ _ h => h) (Or.inl ⟨by rfl, ?_⟩) hHeld ?_ ?_
        rotate_left
        · rintro w' ⟨s0, s1, s2⟩
          go_simp
          with_reducible rfl
        rotate_left; (focus simp only [Act.put, List.setIfInBounds_toArray, List.set_cons_zero, List.set_cons_succ, i64_w, i32_w]; rfl)
        refine one_ (i := 1) (N := some 19) (tf 3 3) rfl rfl (by kernel_rfl) (by decide) (fun K hK => ?_)
        refine goes_ Try.func17 (by kernel_rfl) rfl #[.slice A0 l0.length c0] (by rfl) rfl rfl (by (try simp only [List.map_toArray, List.map_cons, List.map_nil]); first | done | rfl | (simp only [List.length_drop, List.length_take]; rfl)) ?_
        with_reducible refine (laws_toRecS.calls k _ _ l0 t103 _ ?side1 ?side2 A6.out).mono ?_
        (case side1 => repeat (first | exact (Kd.C_below HR0.out HB.out) | (with_reducible refine Kd.C_alloc ?_ _) | (with_reducible refine Kd.C_drewN ?_ _) | (with_reducible refine Kd.C_drew ?_)))
        (case side2 => exact HC0.out)
        rintro e w21 ⟨v104, rfl, ho0, hb⟩
        refine ⟨_, rfl, ?_⟩
        have n0_ := Aside0.mk (Kd.R_lower ho0 (below_size (by repeat (first | (with_reducible first | exact HB.out | apply below_alloc | apply pw_below_drewN | apply below_drew1 | refine below_set ?_ GE101.out) | exact HB.out))))
        have n1_ := Aside0.mk (blk_below (g := gb101) (o := .cells #[.int .i64 a1_0, .int .i64 a1_1, .int .i64 a1_2] 24 (0, 0)) (by (with_reducible repeat (first | refine blk_drewN ?_ _ | refine blk_drew ?_ | refine blk_alloc ?_ _)); exact BK101.out) hb)
        have n2_ := Aside0.mk (below_step (by repeat (first | (with_reducible first | exact HB.out | apply below_alloc | apply pw_below_drewN | apply below_drew1 | refine below_set ?_ GE101.out) | exact HB.out)) hb)
        clear BK101
        clear HB
        have HO105 := n0_
        have BK101 := n1_
        have HB := n2_
        clear n0_ n1_ n2_
        (try clear hb)
        (try clear hb2)
        (try clear hk)
        (try clear hi)
        (try clear ho0)
        refine hK.out _ _ ⟨(blk_cell BK101.out 0).trans rfl, (blk_cell BK101.out 1).trans rfl, (blk_cell BK101.out 2).trans rfl⟩ (fun hHeld => ?_)
        clear hK K
        refine norm_ (a' := ?_) ?_ ?_
        rotate_left
        · show Act.put _ (some 19) _ = _
          simp only [Act.put, List.setIfInBounds_toArray, List.set_cons_zero, List.set_cons_succ, i64_w, i32_w]
          rfl
        refine one_ (i := 3) (N := some 21) (tf 4 2) rfl rfl (by kernel_rfl) (by decide) (fun K hK => ?_)
        refine goes_ Try.func18 (by kernel_rfl) rfl #[.agg #[.int .i64 a1_0, .int .i64 a1_1, .int .i64 a1_2]] (by rfl) rfl rfl (by (try simp only [List.map_toArray, List.map_cons, List.map_nil]); first | done | rfl | (simp only [List.length_drop, List.length_take]; rfl)) ?_
        with_reducible refine (laws_toFact.calls a1_0 a1_1 a1_2 t106 t107 t108 _ A7.out).mono ?_
        rintro e w22 ⟨rfl, hb⟩
        refine ⟨_, rfl, ?_⟩
        have n0_ := Aside0.mk (Kd.R_below (by (with_reducible repeat (first | apply Kd.R_alloc | apply Kd.R_drewN | apply Kd.R_drew)); exact HO105.out) hb)
        have n1_ := Aside0.mk (blk_below (g := gb101) (o := .cells #[.int .i64 a1_0, .int .i64 a1_1, .int .i64 a1_2] 24 (0, 0)) (by (with_reducible repeat (first | refine blk_drewN ?_ _ | refine blk_drew ?_ | refine blk_alloc ?_ _)); exact BK101.out) hb)
        have n2_ := Aside0.mk (below_step (by repeat (first | (with_reducible first | exact HB.out | apply below_alloc | apply pw_below_drewN | apply below_drew1 | refine below_set ?_ GE101.out) | exact HB.out)) hb)
        clear HO105
        clear BK101
        clear HB
        have HO105 := n0_
        have BK101 := n1_
        have HB := n2_
        clear n0_ n1_ n2_
        (try clear hb)
        (try clear hb2)
        (try clear hk)
        (try clear hi)
        obtain ⟨Ao23, co23, eo23⟩ := Kd.R_slice HO105.out
        (first | subst eo23 | (injection eo23 with f1_ f2_ f3_; have f4_ := f1_.symm; have f5_ := f3_.symm; clear f1_ f2_ f3_; subst f4_; subst f5_))
        refine hK.out _ _ ⟨(blk_cell BK101.out 0).trans rfl, (blk_cell BK101.out 1).trans rfl, (blk_cell BK101.out 2).trans rfl⟩ (fun hHeld => ?_)
        clear hK K
        refine norm_ (a' := ?_) ?_ ?_
        rotate_left
        · show Act.put _ (some 21) _ = _
          simp only [Act.put, List.setIfInBounds_toArray, List.set_cons_zero, List.set_cons_succ, i64_w, i32_w]
          rfl
        refine one_ (i := 4) (N := some 22) (tf 5 1) rfl rfl (by kernel_rfl) (by decide) (fun K hK => ?_)
        refine goes_ Try.func55 (by kernel_rfl) rfl #[.slice Ao23 t103.length co23, .agg #[.int .i64 t106, .int .i64 t107, .int .i64 t108]] (by rfl) rfl rfl (by (try simp only [List.map_toArray, List.map_cons, List.map_nil]); first | done | rfl | (simp only [List.length_drop, List.length_take]; rfl)) ?_
        with_reducible refine (spec_Reached.calls k _ _ t103 t106 t107 t108 t109 _ ?side1 ?side2 A8.out).mono ?_
        (case side1 => repeat (first | exact (Kd.R_reads' HO105.out).2.2 | (with_reducible refine Kd.C_alloc ?_ _) | (with_reducible refine Kd.C_drewN ?_ _) | (with_reducible refine Kd.C_drew ?_)))
        (case side2 => exact (Kd.R_reads' HO105.out).2.1)
        rintro e w24 ⟨v110, rfl, ho0, hb⟩
        refine ⟨_, rfl, ?_⟩
        have n0_ := Aside0.mk (Kd.R_below (by (with_reducible repeat (first | apply Kd.R_alloc | apply Kd.R_drewN | apply Kd.R_drew)); exact HO105.out) hb)
        have n1_ := Aside0.mk (Kd.R_lower ho0 (below_size (by repeat (first | (with_reducible first | exact HB.out | apply below_alloc | apply pw_below_drewN | apply below_drew1 | refine below_set ?_ GE101.out) | exact HB.out))))
        have n2_ := Aside0.mk (blk_below (g := gb101) (o := .cells #[.int .i64 a1_0, .int .i64 a1_1, .int .i64 a1_2] 24 (0, 0)) (by (with_reducible repeat (first | refine blk_drewN ?_ _ | refine blk_drew ?_ | refine blk_alloc ?_ _)); exact BK101.out) hb)
        have n3_ := Aside0.mk (below_step (by repeat (first | (with_reducible first | exact HB.out | apply below_alloc | apply pw_below_drewN | apply below_drew1 | refine below_set ?_ GE101.out) | exact HB.out)) hb)
        clear HO105
        clear BK101
        clear HB
        have HO105 := n0_
        have HO111 := n1_
        have BK101 := n2_
        have HB := n3_
        clear n0_ n1_ n2_ n3_
        (try clear hb)
        (try clear hb2)
        (try clear hk)
        (try clear hi)
        (try clear ho0)
        refine hK.out _ _ ⟨(blk_cell BK101.out 0).trans rfl, (blk_cell BK101.out 1).trans rfl, (blk_cell BK101.out 2).trans rfl⟩ (fun hHeld => ?_)
        clear hK K
        refine norm_ (a' := ?_) ?_ ?_
        rotate_left
        · show Act.put _ (some 22) _ = _
          simp only [Act.put, List.setIfInBounds_toArray, List.set_cons_zero, List.set_cons_succ, i64_w, i32_w]
          rfl
        refine pure_ (i := 5) (N := some 6) (v := ?_) (a' := ?_) (tf 6 0) rfl rfl (by kernel_rfl) (fun _ _ _ h => h) (Or.inl ⟨by rfl, ?_⟩) ?_ ?_
        rotate_left; (focus intro w'; go_simp; with_reducible rfl)
        rotate_left; (focus simp only [Act.put, List.setIfInBounds_toArray, List.set_cons_zero, List.set_cons_succ, i64_w, i32_w]; rfl)
        refine done_ (by kernel_rfl) ?_
        go_upto_region 14 with (first | ((with_reducible refine gate_callee (f := 17) rfl ?_); refine goesL_ (some 24) rfl rfl Try.func17 (by kernel_rfl) rfl #[.slice A0 l0.length c0] rfl (by (try simp only [List.map_toArray, List.map_cons, List.map_nil]); first | done | rfl | (simp only [List.length_drop, List.length_take]; rfl)) ?_; (with_reducible refine (laws_toRecS.calls k _ _ l0 t112 _ ?side1 ?side2 A9.out).mono ?_); (case side1 => repeat (first | exact (Kd.C_below HR0.out HB.out) | (with_reducible refine Kd.C_alloc ?_ _) | (with_reducible refine Kd.C_drewN ?_ _) | (with_reducible refine Kd.C_drew ?_))); (case side2 => exact HC0.out); rintro e w25 ⟨v113, rfl, ho0, hb⟩; refine ⟨_, rfl, ?_⟩; have n0_ := Aside0.mk (Kd.R_elder' (by (with_reducible repeat (first | apply Kd.R_alloc | apply Kd.R_drewN | apply Kd.R_drew)); exact HO105.out) (Kd.R_base ho0) hb); have n1_ := Aside0.mk (Kd.R_below (by (with_reducible repeat (first | apply Kd.R_alloc | apply Kd.R_drewN | apply Kd.R_drew)); exact HO111.out) hb); have n2_ := Aside0.mk (Kd.R_lower (Kd.R_new' ho0 (Kd.R_lt (by (with_reducible repeat (first | apply Kd.R_alloc | apply Kd.R_drewN | apply Kd.R_drew)); exact HO105.out))) (below_size (by repeat (first | (with_reducible first | exact HB.out | apply below_alloc | apply pw_below_drewN | apply below_drew1 | refine below_set ?_ GE101.out) | exact HB.out)))); have n3_ := Aside0.mk (blk_below (g := gb101) (o := .cells #[.int .i64 a1_0, .int .i64 a1_1, .int .i64 a1_2] 24 (0, 0)) (by (with_reducible repeat (first | refine blk_drewN ?_ _ | refine blk_drew ?_ | refine blk_alloc ?_ _)); exact BK101.out) hb); have n4_ := Aside0.mk (below_step (by repeat (first | (with_reducible first | exact HB.out | apply below_alloc | apply pw_below_drewN | apply below_drew1 | refine below_set ?_ GE101.out) | exact HB.out)) hb); clear HO105; clear HO111; clear BK101; clear HB; have HO105 := n0_; have HO111 := n1_; have HO114 := n2_; have BK101 := n3_; have HB := n4_; clear n0_ n1_ n2_ n3_ n4_; (try clear hb); (try clear hb2); (try clear hk); (try clear hi); (try clear ho0); have hcz26_0 : w25.cell? ⟨gb101, 0, none⟩ = some (.int .i64 a1_0) := (blk_cell BK101.out 0).trans rfl; have hcz26_1 : w25.cell? ⟨gb101, 1, none⟩ = some (.int .i64 a1_1) := (blk_cell BK101.out 1).trans rfl; have hcz26_2 : w25.cell? ⟨gb101, 2, none⟩ = some (.int .i64 a1_2) := (blk_cell BK101.out 2).trans rfl; have hfz26_0 := blk_frozen BK101.out 0; have hfz26_1 := blk_frozen BK101.out 1; have hfz26_2 := blk_frozen BK101.out 2) | ((with_reducible refine gate_callee (f := 18) rfl ?_); refine goesL_ (some 27) rfl rfl Try.func18 (by kernel_rfl) rfl #[.agg #[.int .i64 a1_0, .int .i64 a1_1, .int .i64 a1_2]] rfl (by (try simp only [List.map_toArray, List.map_cons, List.map_nil]); first | done | rfl | (simp only [List.length_drop, List.length_take]; rfl)) ?_; (with_reducible refine (laws_toFact.calls a1_0 a1_1 a1_2 t115 t116 t117 _ A10.out).mono ?_); rintro e w27 ⟨rfl, hb⟩; refine ⟨_, rfl, ?_⟩; have n0_ := Aside0.mk (Kd.R_below (by (with_reducible repeat (first | apply Kd.R_alloc | apply Kd.R_drewN | apply Kd.R_drew)); exact HO105.out) hb); have n1_ := Aside0.mk (Kd.R_below (by (with_reducible repeat (first | apply Kd.R_alloc | apply Kd.R_drewN | apply Kd.R_drew)); exact HO111.out) hb); have n2_ := Aside0.mk (Kd.R_below (by (with_reducible repeat (first | apply Kd.R_alloc | apply Kd.R_drewN | apply Kd.R_drew)); exact HO114.out) hb); have n3_ := Aside0.mk (blk_below (g := gb101) (o := .cells #[.int .i64 a1_0, .int .i64 a1_1, .int .i64 a1_2] 24 (0, 0)) (by (with_reducible repeat (first | refine blk_drewN ?_ _ | refine blk_drew ?_ | refine blk_alloc ?_ _)); exact BK101.out) hb); have n4_ := Aside0.mk (below_step (by repeat (first | (with_reducible first | exact HB.out | apply below_alloc | apply pw_below_drewN | apply below_drew1 | refine below_set ?_ GE101.out) | exact HB.out)) hb); clear HO105; clear HO111; clear HO114; clear BK101; clear HB; have HO105 := n0_; have HO111 := n1_; have HO114 := n2_; have BK101 := n3_; have HB := n4_; clear n0_ n1_ n2_ n3_ n4_; (try clear hb); (try clear hb2); (try clear hk); (try clear hi); obtain ⟨Ao28, co28, eo28⟩ := Kd.R_slice HO114.out; subst eo28) | ((with_reducible refine gate_callee (f := 56) rfl ?_); refine goesL_ (some 28) rfl rfl Try.func56 (by kernel_rfl) rfl #[.slice Ao28 t112.length co28, .agg #[.int .i64 t115, .int .i64 t116, .int .i64 t117]] rfl (by (try simp only [List.map_toArray, List.map_cons, List.map_nil]); first | done | rfl | (simp only [List.length_drop, List.length_take]; rfl)) ?_; (with_reducible refine (impl_Reached.calls _ _ t112 t115 t116 t117 t118 _ ?side1 ?side2 A11.out).mono ?_); (case side1 => repeat (first | exact (Kd.R_reads' HO114.out).2.2 | (with_reducible refine Kd.C_alloc ?_ _) | (with_reducible refine Kd.C_drewN ?_ _) | (with_reducible refine Kd.C_drew ?_))); (case side2 => exact (Kd.R_reads' HO114.out).2.1); rintro e w29 ⟨v119, rfl, ho0, hb⟩; refine ⟨_, rfl, ?_⟩; have n0_ := Aside0.mk (Kd.R_below (by (with_reducible repeat (first | apply Kd.R_alloc | apply Kd.R_drewN | apply Kd.R_drew)); exact HO105.out) hb); have n1_ := Aside0.mk (Kd.R_elder' (by (with_reducible repeat (first | apply Kd.R_alloc | apply Kd.R_drewN | apply Kd.R_drew)); exact HO111.out) (Kd.R_base ho0) hb); have n2_ := Aside0.mk (Kd.R_below (by (with_reducible repeat (first | apply Kd.R_alloc | apply Kd.R_drewN | apply Kd.R_drew)); exact HO114.out) hb); have n3_ := Aside0.mk (Kd.R_lower (Kd.R_new' ho0 (Kd.R_lt (by (with_reducible repeat (first | apply Kd.R_alloc | apply Kd.R_drewN | apply Kd.R_drew)); exact HO111.out))) (below_size (by repeat (first | (with_reducible first | exact HB.out | apply below_alloc | apply pw_below_drewN | apply below_drew1 | refine below_set ?_ GE101.out) | exact HB.out)))); have n4_ := Aside0.mk (blk_below (g := gb101) (o := .cells #[.int .i64 a1_0, .int .i64 a1_1, .int .i64 a1_2] 24 (0, 0)) (by (with_reducible repeat (first | refine blk_drewN ?_ _ | refine blk_drew ?_ | refine blk_alloc ?_ _)); exact BK101.out) hb); have n5_ := Aside0.mk (below_step (by repeat (first | (with_reducible first | exact HB.out | apply below_alloc | apply pw_below_drewN | apply below_drew1 | refine below_set ?_ GE101.out) | exact HB.out)) hb); clear HO105; clear HO111; clear HO114; clear BK101; clear HB; have HO105 := n0_; have HO111 := n1_; have HO114 := n2_; have HO120 := n3_; have BK101 := n4_; have HB := n5_; clear n0_ n1_ n2_ n3_ n4_ n5_; (try clear hb); (try clear hb2); (try clear hk); (try clear hi); (try clear ho0); obtain ⟨Ao30, co30, eo30⟩ := Kd.R_slice HO120.out; subst eo30; obtain ⟨Ao31, co31, eo31⟩ := Kd.R_slice HO111.out; subst eo31) | ((with_reducible refine gate_callee (f := 29) rfl ?_); refine goesL_ (some 31) rfl rfl Try.func29 (by kernel_rfl) rfl #[.slice Ao30 t118.length co30, .slice Ao31 t109.length co31] rfl (by (try simp only [List.map_toArray, List.map_cons, List.map_nil]); first | done | rfl | (simp only [List.length_drop, List.length_take]; rfl)) ?_; (with_reducible refine (laws_eqInt64S.calls k _ _ t118 _ _ t109 true _ ?side1 ?side2 ?side3 ?side4 A12.out).mono ?_); (case side1 => repeat (first | exact (Kd.R_reads' HO120.out).2.2 | (with_reducible refine Kd.C_alloc ?_ _) | (with_reducible refine Kd.C_drewN ?_ _) | (with_reducible refine Kd.C_drew ?_))); (case side2 => exact (Kd.R_reads' HO120.out).2.1); (case side3 => repeat (first | exact (Kd.R_reads' HO111.out).2.2 | (with_reducible refine Kd.C_alloc ?_ _) | (with_reducible refine Kd.C_drewN ?_ _) | (with_reducible refine Kd.C_drew ?_))); (case side4 => exact (Kd.R_reads' HO111.out).2.1); rintro e w' ⟨rfl, ⟨nd, rfl⟩⟩; refine ⟨_, rfl, ?_⟩) | ((with_reducible refine gate_callee (f := 17) rfl ?_); refine goesL_ (some 35) rfl rfl Try.func17 (by kernel_rfl) rfl #[.slice A0 l0.length c0] rfl (by (try simp only [List.map_toArray, List.map_cons, List.map_nil]); first | done | rfl | (simp only [List.length_drop, List.length_take]; rfl)) ?_; (with_reducible refine (laws_toRecS.calls k _ _ l0 t122 _ ?side1 ?side2 A14.out).mono ?_); (case side1 => repeat (first | exact (Kd.C_below HR0.out (by repeat (first | (with_reducible first | exact HB.out | apply below_alloc | apply pw_below_drewN | apply below_drew1 | refine below_set ?_ GE101.out) | exact HB.out))) | (with_reducible refine Kd.C_alloc ?_ _) | (with_reducible refine Kd.C_drewN ?_ _) | (with_reducible refine Kd.C_drew ?_))); (case side2 => exact HC0.out); rintro e w32 ⟨v123, rfl, ho0, hb⟩; refine ⟨_, rfl, ?_⟩; have n0_ := Aside0.mk (Kd.R_elder' (by (with_reducible repeat (first | apply Kd.R_alloc | apply Kd.R_drewN | apply Kd.R_drew)); exact HO105.out) (Kd.R_base ho0) hb); have n1_ := Aside0.mk (Kd.R_below (by (with_reducible repeat (first | apply Kd.R_alloc | apply Kd.R_drewN | apply Kd.R_drew)); exact HO111.out) hb); have n2_ := Aside0.mk (Kd.R_elder' (by (with_reducible repeat (first | apply Kd.R_alloc | apply Kd.R_drewN | apply Kd.R_drew)); exact HO114.out) (Kd.R_base ho0) hb); have n3_ := Aside0.mk (Kd.R_below (by (with_reducible repeat (first | apply Kd.R_alloc | apply Kd.R_drewN | apply Kd.R_drew)); exact HO120.out) hb); have n4_ := Aside0.mk (Kd.R_lower (Kd.R_new' (Kd.R_new' ho0 (Kd.R_lt (by (with_reducible repeat (first | apply Kd.R_alloc | apply Kd.R_drewN | apply Kd.R_drew)); exact HO105.out))) (Kd.R_lt (by (with_reducible repeat (first | apply Kd.R_alloc | apply Kd.R_drewN | apply Kd.R_drew)); exact HO114.out))) (below_size (by repeat (first | (with_reducible first | exact HB.out | apply below_alloc | apply pw_below_drewN | apply below_drew1 | refine below_set ?_ GE101.out) | exact HB.out)))); have n5_ := Aside0.mk (blk_below (g := gb101) (o := .cells #[.int .i64 a1_0, .int .i64 a1_1, .int .i64 a1_2] 24 (0, 0)) (by (with_reducible repeat (first | refine blk_drewN ?_ _ | refine blk_drew ?_ | refine blk_alloc ?_ _)); exact BK101.out) hb); have n6_ := Aside0.mk (below_step (by repeat (first | (with_reducible first | exact HB.out | apply below_alloc | apply pw_below_drewN | apply below_drew1 | refine below_set ?_ GE101.out) | exact HB.out)) hb); clear HO105; clear HO111; clear HO114; clear HO120; clear BK101; clear HB; have HO105 := n0_; have HO111 := n1_; have HO114 := n2_; have HO120 := n3_; have HO124 := n4_; have BK101 := n5_; have HB := n6_; clear n0_ n1_ n2_ n3_ n4_ n5_ n6_; (try clear hb); (try clear hb2); (try clear hk); (try clear hi); (try clear ho0); obtain ⟨Ao33, co33, eo33⟩ := Kd.R_slice HO124.out; subst eo33) | ((with_reducible refine gate_callee (f := 20) rfl ?_); refine goesL_ (some 36) rfl rfl Try.func20 (by kernel_rfl) rfl #[.slice Ao28 t112.length co28, .slice Ao33 t122.length co33] rfl (by (try simp only [List.map_toArray, List.map_cons, List.map_nil]); first | done | rfl | (simp only [List.length_drop, List.length_take]; rfl)) ?_; (with_reducible refine (laws_eqRecS.calls k _ _ t112 _ _ t122 true _ ?side1 ?side2 ?side3 ?side4 A15.out).mono ?_); (case side1 => repeat (first | exact (Kd.R_reads' HO114.out).2.2 | (with_reducible refine Kd.C_alloc ?_ _) | (with_reducible refine Kd.C_drewN ?_ _) | (with_reducible refine Kd.C_drew ?_))); (case side2 => exact (Kd.R_reads' HO114.out).2.1); (case side3 => repeat (first | exact (Kd.R_reads' HO124.out).2.2 | (with_reducible refine Kd.C_alloc ?_ _) | (with_reducible refine Kd.C_drewN ?_ _) | (with_reducible refine Kd.C_drew ?_))); (case side4 => exact (Kd.R_reads' HO124.out).2.1); rintro e w34 ⟨rfl, hb⟩; refine ⟨_, rfl, ?_⟩; have n0_ := Aside0.mk (Kd.R_below (by (with_reducible repeat (first | apply Kd.R_alloc | apply Kd.R_drewN | apply Kd.R_drew)); exact HO105.out) hb); have n1_ := Aside0.mk (Kd.R_below (by (with_reducible repeat (first | apply Kd.R_alloc | apply Kd.R_drewN | apply Kd.R_drew)); exact HO111.out) hb); have n2_ := Aside0.mk (Kd.R_below (by (with_reducible repeat (first | apply Kd.R_alloc | apply Kd.R_drewN | apply Kd.R_drew)); exact HO114.out) hb); have n3_ := Aside0.mk (Kd.R_below (by (with_reducible repeat (first | apply Kd.R_alloc | apply Kd.R_drewN | apply Kd.R_drew)); exact HO120.out) hb); have n4_ := Aside0.mk (Kd.R_below (by (with_reducible repeat (first | apply Kd.R_alloc | apply Kd.R_drewN | apply Kd.R_drew)); exact HO124.out) hb); have n5_ := Aside0.mk (blk_below (g := gb101) (o := .cells #[.int .i64 a1_0, .int .i64 a1_1, .int .i64 a1_2] 24 (0, 0)) (by (with_reducible repeat (first | refine blk_drewN ?_ _ | refine blk_drew ?_ | refine blk_alloc ?_ _)); exact BK101.out) hb); have n6_ := Aside0.mk (below_step (by repeat (first | (with_reducible first | exact HB.out | apply below_alloc | apply pw_below_drewN | apply below_drew1 | refine below_set ?_ GE101.out) | exact HB.out)) hb); clear HO105; clear HO111; clear HO114; clear HO120; clear HO124; clear BK101; clear HB; have HO105 := n0_; have HO111 := n1_; have HO114 := n2_; have HO120 := n3_; have HO124 := n4_; have BK101 := n5_; have HB := n6_; clear n0_ n1_ n2_ n3_ n4_ n5_ n6_; (try clear hb); (try clear hb2); (try clear hk); (try clear hi)) | ((with_reducible refine gate_callee (f := 30) rfl ?_); refine goesL_ (some 40) rfl rfl Try.func30 (by kernel_rfl) rfl #[.slice Ao28 t112.length co28, .int .i64 1] rfl (by (try simp only [List.map_toArray, List.map_cons, List.map_nil]); first | done | rfl | (simp only [List.length_drop, List.length_take]; rfl)) ?_; (with_reducible refine (laws_markRecS.calls k (fun k_ => some k_ = (.slice Ao28 t112.length co28 : Value).ownBlock) (.slice Ao28 t112.length co28) t112 1 t126 t127 w _ ?side1 ?side2 A17.out).mono ?_); (case side1 => repeat (first | (with_reducible first | exact HB.out | apply below_alloc | apply pw_below_drewN | apply below_drew1 | refine below_set ?_ GE101.out) | exact HB.out)); (case side2 => exact Kd.R_tight rfl HO114.out); rintro e w35 ⟨rfl, hy0, hb, hkp⟩; refine ⟨_, rfl, ?_⟩; have n0_ := Aside0.mk (blk_kept (by (with_reducible repeat (first | refine blk_drewN ?_ _ | refine blk_drew ?_ | refine blk_alloc ?_ _)); exact BK101.out) hkp (fun hs_ => (fun e_ => (Kd.R_ne HO114.out BK101.out (by decide)) e_) hs_)); have n1_ := Aside0.mk (Kd.R_mono (ok' := fun k_ => some k_ ≠ (.slice Ao28 t112.length co28 : Value).ownBlock ∧ some k_ ≠ (.slice Ao33 t122.length co33 : Value).ownBlock) (Kd.R_keptB (HO105.out) hkp (fun k_ hk_ hs_ => (hk_.1.2) hs_)) (fun k_ hk_ => ⟨hk_.1.1.2, hk_.1.2⟩)); have n2_ := Aside0.mk (Kd.R_mono (ok' := fun k_ => some k_ ≠ (.slice Ao30 t118.length co30 : Value).ownBlock) (Kd.R_keptB ((Kd.R_apart' HO111.out (Kd.R_typed HO114.out) (by decide))) hkp (fun k_ hk_ hs_ => (hk_.2) hs_)) (fun k_ hk_ => hk_.1.1.2)); have n3_ := Aside0.mk (Kd.R_reok rfl hy0 (fun k_ e_ => HO114.out.1 k_ e_)); have n4_ := Aside0.mk (Kd.R_mono (ok' := fun k_ => some k_ ≠ (.slice Ao31 t109.length co31 : Value).ownBlock) (Kd.R_keptB ((Kd.R_apart' HO120.out (Kd.R_typed HO114.out) (by decide))) hkp (fun k_ hk_ hs_ => (hk_.2) hs_)) (fun k_ hk_ => hk_.1.1.2)); have n5_ := Aside0.mk (Kd.R_mono (ok' := fun k_ => some k_ ≠ (.slice Ao23 t103.length co23 : Value).ownBlock ∧ some k_ ≠ (.slice Ao28 t112.length co28 : Value).ownBlock) (Kd.R_keptB (HO124.out) hkp (fun k_ hk_ hs_ => (hk_.2) hs_)) (fun k_ hk_ => ⟨hk_.1.1.2, hk_.1.2⟩)); have n6_ := Aside0.mk (hb); clear BK101; clear HO105; clear HO111; clear HO114; clear HO120; clear HO124; clear HB; have BK101 := n0_; have HO105 := n1_; have HO111 := n2_; have HO114 := n3_; have HO120 := n4_; have HO124 := n5_; have HB := n6_; clear n0_ n1_ n2_ n3_ n4_ n5_ n6_; (try clear hb); (try clear hkp); (try clear hy0)))
        (try simp only [Act.put, List.setIfInBounds_toArray, List.set_cons_zero, List.set_cons_succ])
        go_cut [48] (fun v48 wc => ∃ (kq : Nat) (x48_17 : Bool), v48 = .bool x48_17 ∧ Aside0 (laws_FnExactReached.j0 kq l0 t109 t118 x48_17 a1_0 a1_1 a1_2 = some r) ∧ Aside0 (kq ≤ k) ∧ Aside0 (Kd.R (Kd.int .i64) 2 wc w.heap.size (fun k_ => some k_ ≠ ((.slice Ao30 t118.length co30) : Value).ownBlock) (.slice Ao31 t109.length co31) t109) ∧ Aside0 (Kd.R (Kd.int .i64) 2 wc w.heap.size (fun k_ => some k_ ≠ ((.slice Ao31 t109.length co31) : Value).ownBlock) (.slice Ao30 t118.length co30) t118) ∧ Aside0 (wc.heap[gb101]? = some (.cells #[.int .i64 a1_0, .int .i64 a1_1, .int .i64 a1_2] 24 (0, 0))) ∧ Aside0 (Below w.heap.size w wc))
        case first =>
          have H := HC18.out
          clear HC18
          by_cases c36 : t126 < 0
          · rw [if_pos c36] at H
            have c36b0 : decide (t126 < 0) = true := decide_eq_true c36
            clear c36
            (first | rw [c36b0] | (simp only [i64_w, i32_w]; rw [c36b0]) | skip)
            have H' := Aside0.mk H
            clear H
            go_wp2
            go_meet
            case rel => exact ⟨_, (true), (by first | rfl | (simp; done) | (simp [*]; done)), H', ⟨by first | omega | exact Nat.le_refl _⟩, ⟨by (with_reducible repeat (first | apply Kd.R_alloc | apply Kd.R_drewN | apply Kd.R_drew)); exact HO111.out⟩, ⟨by (with_reducible repeat (first | apply Kd.R_alloc | apply Kd.R_drewN | apply Kd.R_drew)); exact HO120.out⟩, ⟨by (with_reducible repeat (first | refine blk_drewN ?_ _ | refine blk_drew ?_ | refine blk_alloc ?_ _)); exact BK101.out⟩, ⟨by repeat (first | (with_reducible first | exact HB.out | apply below_alloc | apply pw_below_drewN | apply below_drew1 | refine below_set ?_ GE101.out) | exact HB.out)⟩⟩
          · rw [if_neg c36] at H
            have c36b0 : decide (t126 < 0) = false := decide_eq_false c36
            clear c36
            (first | rw [c36b0] | (simp only [i64_w, i32_w]; rw [c36b0]) | skip)
            replace H := Option.bind_eq_some_iff.mp H
            obtain ⟨t128, A370, H⟩ := H
            replace H : (laws_FnExactReached.j0 k l0 t109 t118 (!t128) a1_0 a1_1 a1_2) = some r := H
            have A37 := Aside0.mk A370
            clear A370
            have H' := Aside0.mk H
            clear H
            go_wp2_with (first | (go_at_call 29; (with_reducible refine (laws_eqInt64S.calls k _ _ t118 _ _ t109 t128 _ ?side1 ?side2 ?side3 ?side4 A37.out).mono ?_); (case side1 => repeat (first | exact (Kd.R_reads' HO120.out).2.2 | (with_reducible refine Kd.C_alloc ?_ _) | (with_reducible refine Kd.C_drewN ?_ _) | (with_reducible refine Kd.C_drew ?_))); (case side2 => exact (Kd.R_reads' HO120.out).2.1); (case side3 => repeat (first | exact (Kd.R_reads' HO111.out).2.2 | (with_reducible refine Kd.C_alloc ?_ _) | (with_reducible refine Kd.C_drewN ?_ _) | (with_reducible refine Kd.C_drew ?_))); (case side4 => exact (Kd.R_reads' HO111.out).2.1); rintro e w' ⟨rfl, ⟨nd, rfl⟩⟩))
            go_meet
            case rel => exact ⟨_, (!t128), (by first | rfl | (simp; done) | (simp [*]; done)), H', ⟨by first | omega | exact Nat.le_refl _⟩, ⟨by (with_reducible repeat (first | apply Kd.R_alloc | apply Kd.R_drewN | apply Kd.R_drew)); exact HO111.out⟩, ⟨by (with_reducible repeat (first | apply Kd.R_alloc | apply Kd.R_drewN | apply Kd.R_drew)); exact HO120.out⟩, ⟨by (with_reducible repeat (first | refine blk_drewN ?_ _ | refine blk_drew ?_ | refine blk_alloc ?_ _)); exact BK101.out⟩, ⟨by repeat (first | (with_reducible first | exact HB.out | apply below_alloc | apply pw_below_drewN | apply below_drew1 | refine below_set ?_ GE101.out) | exact HB.out)⟩⟩
        case rest =>
          clear HC18
          try clear c1
          try clear c2
          try clear p2
          try clear c3
          try clear c4
          try clear c4b0
          try clear c5
          try clear c13
          try clear c15
          try clear c16
          try clear c17
          try clear c18
          try clear c20
          try clear c29
          try clear c30
          try clear c36
          try clear c36b0
          try clear hcz26_0
          try clear hcz26_1
          try clear hcz26_2
          try clear hfz26_0
          try clear hfz26_1
          try clear hfz26_2
          obtain ⟨kq, x48_17, rfl, HA, HJ17, HO_6, HO_8, BK101, HB⟩ := hcut
          cases kq with
          | zero => exact absurd HA.out (by simp [laws_FnExactReached.j0])
          | succ kj17 =>
            have H := HA.out
            clear HA
            simp only [laws_FnExactReached.j0] at H
            by_cases c38 : x48_17 = true
            · subst c38
              have H1 : (some false) = some r := by rw [if_pos rfl] at H; exact H
              clear H
              have H := H1
              clear H1
              obtain rfl := Option.some.inj H
              exact absurd ht (by decide)
            · replace c38 := Bool.eq_false_iff.mpr c38
              subst c38
              have H1 : ((laws_markInt64S.f kj17 t118 1).bind fun bt129 => ((laws_heldInt64S.f kj17 bt129.2 1).bind fun t131 => (if t131 < 0 then (some false) else (if t131 = bt129.1 then ((laws_toRecS.f kj17 l0).bind fun t132 => ((laws_toFact.f a1_0 a1_1 a1_2).bind fun bt135 => ((impl_Reached.f t132 bt135.1 bt135.2.1 bt135.2.2).bind fun t138 => ((laws_eqInt64S.f kj17 t138 t109).bind fun t141 => (if t141 = true then ((laws_heldInt64S.f kj17 bt129.2 1).bind fun t142 => (if t142 < 0 then (some false) else (if t142 = bt129.1 then (some true) else (some false)))) else (some false)))))) else (some false))))) = some r := by rw [if_neg (show ¬ (false = true) by decide)] at H; exact H
              clear H
              have H := H1
              clear H1
              replace H := Option.bind_eq_some_iff.mp H
              obtain ⟨⟨t129, t130⟩, A390, H⟩ := H
              replace H : ((laws_heldInt64S.f kj17 t130 1).bind fun t131 => (if t131 < 0 then (some false) else (if t131 = t129 then ((laws_toRecS.f kj17 l0).bind fun t132 => ((laws_toFact.f a1_0 a1_1 a1_2).bind fun bt135 => ((impl_Reached.f t132 bt135.1 bt135.2.1 bt135.2.2).bind fun t138 => ((laws_eqInt64S.f kj17 t138 t109).bind fun t141 => (if t141 = true then ((laws_heldInt64S.f kj17 t130 1).bind fun t142 => (if t142 < 0 then (some false) else (if t142 = t129 then (some true) else (some false)))) else (some false)))))) else (some false)))) = some r := H
              have A39 := Aside0.mk A390
              clear A390
              replace H := Option.bind_eq_some_iff.mp H
              obtain ⟨t131, A400, H⟩ := H
              replace H : (if t131 < 0 then (some false) else (if t131 = t129 then ((laws_toRecS.f kj17 l0).bind fun t132 => ((laws_toFact.f a1_0 a1_1 a1_2).bind fun bt135 => ((impl_Reached.f t132 bt135.1 bt135.2.1 bt135.2.2).bind fun t138 => ((laws_eqInt64S.f kj17 t138 t109).bind fun t141 => (if t141 = true then ((laws_heldInt64S.f kj17 t130 1).bind fun t142 => (if t142 < 0 then (some false) else (if t142 = t129 then (some true) else (some false)))) else (some false)))))) else (some false))) = some r := H
              have A40 := Aside0.mk A400
              clear A400
              by_cases c41 : t131 < 0
              · rw [if_pos c41] at H
                have c41b0 : decide (t131 < 0) = true := decide_eq_true c41
                clear c41
                obtain rfl := Option.some.inj H
                exact absurd ht (by decide)
              · rw [if_neg c41] at H
                have c41b0 : decide (t131 < 0) = false := decide_eq_false c41
                clear c41
                by_cases c42 : t131 = t129
                · rw [if_pos c42] at H
                  have c42b0 : (t131 == t129) = true := beq_iff_eq.mpr c42
                  have c42b1 : (t131 != t129) = false := bne_eq_false_iff_eq.mpr c42
                  clear c42
                  replace H := Option.bind_eq_some_iff.mp H
                  obtain ⟨t132, A430, H⟩ := H
                  replace H : ((laws_toFact.f a1_0 a1_1 a1_2).bind fun bt135 => ((impl_Reached.f t132 bt135.1 bt135.2.1 bt135.2.2).bind fun t138 => ((laws_eqInt64S.f kj17 t138 t109).bind fun t141 => (if t141 = true then ((laws_heldInt64S.f kj17 t130 1).bind fun t142 => (if t142 < 0 then (some false) else (if t142 = t129 then (some true) else (some false)))) else (some false))))) = some r := H
                  have A43 := Aside0.mk A430
                  clear A430
                  replace H := Option.bind_eq_some_iff.mp H
                  obtain ⟨⟨t135, t136, t137⟩, A440, H⟩ := H
                  replace H : ((impl_Reached.f t132 t135 t136 t137).bind fun t138 => ((laws_eqInt64S.f kj17 t138 t109).bind fun t141 => (if t141 = true then ((laws_heldInt64S.f kj17 t130 1).bind fun t142 => (if t142 < 0 then (some false) else (if t142 = t129 then (some true) else (some false)))) else (some false)))) = some r := H
                  have A44 := Aside0.mk A440
                  clear A440
                  replace H := Option.bind_eq_some_iff.mp H
                  obtain ⟨t138, A450, H⟩ := H
                  replace H : ((laws_eqInt64S.f kj17 t138 t109).bind fun t141 => (if t141 = true then ((laws_heldInt64S.f kj17 t130 1).bind fun t142 => (if t142 < 0 then (some false) else (if t142 = t129 then (some true) else (some false)))) else (some false))) = some r := H
                  have A45 := Aside0.mk A450
                  clear A450
                  replace H := Option.bind_eq_some_iff.mp H
                  obtain ⟨t141, A460, H⟩ := H
                  replace H : (if t141 = true then ((laws_heldInt64S.f kj17 t130 1).bind fun t142 => (if t142 < 0 then (some false) else (if t142 = t129 then (some true) else (some false)))) else (some false)) = some r := H
                  have A46 := Aside0.mk A460
                  clear A460
                  by_cases c47 : t141 = true
                  · subst c47
                    have H1 : ((laws_heldInt64S.f kj17 t130 1).bind fun t142 => (if t142 < 0 then (some false) else (if t142 = t129 then (some true) else (some false)))) = some r := by rw [if_pos rfl] at H; exact H
                    clear H
                    have H := H1
                    clear H1
                    replace H := Option.bind_eq_some_iff.mp H
                    obtain ⟨t142, A480, H⟩ := H
                    replace H : (if t142 < 0 then (some false) else (if t142 = t129 then (some true) else (some false))) = some r := H
                    have A48 := Aside0.mk A480
                    clear A480
                    by_cases c49 : t142 < 0
                    · rw [if_pos c49] at H
                      have c49b0 : decide (t142 < 0) = true := decide_eq_true c49
                      clear c49
                      obtain rfl := Option.some.inj H
                      exact absurd ht (by decide)
                    · rw [if_neg c49] at H
                      have c49b0 : decide (t142 < 0) = false := decide_eq_false c49
                      clear c49
                      by_cases c50 : t142 = t129
                      · rw [if_pos c50] at H
                        have c50b0 : (t142 == t129) = true := beq_iff_eq.mpr c50
                        have c50b1 : (t142 != t129) = false := bne_eq_false_iff_eq.mpr c50
                        clear c50
                        clear ht
                        obtain rfl := Option.some.inj H
                        try go_wp2_with (first | ((with_reducible refine gate_callee (f := 31) rfl ?_); refine goesL_ (some 51) rfl rfl Try.func31 (by kernel_rfl) rfl #[.slice Ao30 t118.length co30, .int .i64 1] rfl (by (try simp only [List.map_toArray, List.map_cons, List.map_nil]); first | done | rfl | (simp only [List.length_drop, List.length_take]; rfl)) ?_; (with_reducible refine (laws_markInt64S.calls kj17 (fun k_ => some k_ = (.slice Ao30 t118.length co30 : Value).ownBlock) (.slice Ao30 t118.length co30) t118 1 t129 t130 w _ ?side1 ?side2 A39.out).mono ?_); (case side1 => repeat (first | (with_reducible first | exact HB.out | apply below_alloc | apply pw_below_drewN | apply below_drew1 | refine below_set ?_ GE101.out) | exact HB.out)); (case side2 => exact Kd.R_tight rfl HO_8.out); rintro e w51 ⟨rfl, hy0, hb, hkp⟩; refine ⟨_, rfl, ?_⟩; have n0_ := Aside0.mk (Kd.R_mono (ok' := fun k_ => some k_ ≠ (.slice Ao30 t118.length co30 : Value).ownBlock) (Kd.R_keptB (HO_6.out) hkp (fun k_ hk_ hs_ => (hk_) hs_)) (fun k_ hk_ => hk_.1)); have n1_ := Aside0.mk (Kd.R_reok rfl hy0 (fun k_ e_ => HO_8.out.1 k_ e_)); have n2_ := Aside0.mk (blk_kept (by (with_reducible repeat (first | refine blk_drewN ?_ _ | refine blk_drew ?_ | refine blk_alloc ?_ _)); exact BK101.out) hkp (fun hs_ => (fun e_ => (Kd.R_ne HO_8.out BK101.out (by decide)) e_) hs_)); have n3_ := Aside0.mk (hb); clear HO_6; clear HO_8; clear BK101; clear HB; have HO_6 := n0_; have HO_8 := n1_; have BK101 := n2_; have HB := n3_; clear n0_ n1_ n2_ n3_; (try clear hb); (try clear hkp); (try clear hy0)) | ((with_reducible refine gate_callee (f := 32) rfl ?_); refine goesL_ (some 54) rfl rfl Try.func32 (by kernel_rfl) rfl #[.slice Ao30 t130.length co30, .int .i64 1] rfl (by (try simp only [List.map_toArray, List.map_cons, List.map_nil]); first | done | (rw [show t130.length = t118.length from (Kd.R_reads' HO_8.out).1.symm] <;> rfl) | rfl | (simp only [List.length_drop, List.length_take]; rfl)) ?_; (with_reducible refine (laws_heldInt64S.calls kj17 _ _ t130 1 t131 _ ?side1 ?side2 A40.out).mono ?_); (case side1 => repeat (first | exact (Kd.R_reads' HO_8.out).2.2 | (with_reducible refine Kd.C_alloc ?_ _) | (with_reducible refine Kd.C_drewN ?_ _) | (with_reducible refine Kd.C_drew ?_))); (case side2 => rw [show t130.length = t118.length from (Kd.R_reads' HO_8.out).1.symm]; exact (Kd.R_reads' HO_8.out).2.1); rintro e w' ⟨rfl, ⟨nd, rfl⟩⟩; refine ⟨_, rfl, ?_⟩))
                        (try (rw [drewN_self w51]; generalize hq_ : World.drewN w51 _ = w51; have n0_ : Aside0 (Kd.R (Kd.int .i64) 2 w51 w.heap.size (fun k_ => some k_ ≠ (.slice Ao30 t118.length co30 : Value).ownBlock) (.slice Ao31 t109.length co31) t109) := ⟨by rw [← hq_]; exact (by (with_reducible repeat (first | apply Kd.R_alloc | apply Kd.R_drewN | apply Kd.R_drew)); exact HO_6.out)⟩; have n1_ : Aside0 (Kd.R (Kd.int .i64) 2 w51 w.heap.size (fun k_ => some k_ ≠ (.slice Ao31 t109.length co31 : Value).ownBlock) (.slice Ao30 t118.length co30) t130) := ⟨by rw [← hq_]; exact (by (with_reducible repeat (first | apply Kd.R_alloc | apply Kd.R_drewN | apply Kd.R_drew)); exact HO_8.out)⟩; have n2_ : Aside0 (w51.heap[gb101]? = some (.cells #[.int .i64 a1_0, .int .i64 a1_1, .int .i64 a1_2] 24 (0, 0))) := ⟨by rw [← hq_]; exact (by (with_reducible repeat (first | refine blk_drewN ?_ _ | refine blk_drew ?_ | refine blk_alloc ?_ _)); exact BK101.out)⟩; have n3_ : Aside0 (Below w.heap.size w w51) := ⟨by rw [← hq_]; exact (by repeat (first | (with_reducible first | exact HB.out | apply below_alloc | apply pw_below_drewN | apply below_drew1 | refine below_set ?_ GE101.out) | exact HB.out))⟩; clear HO_6 HO_8 BK101 HB hq_; have HO_6 := n0_; have HO_8 := n1_; have BK101 := n2_; have HB := n3_; clear n0_ n1_ n2_ n3_))
                        have n0_ := Aside0.mk (Kd.R_drew HO_6.out)
                        have n1_ := Aside0.mk (Kd.R_drew HO_8.out)
                        have n2_ := Aside0.mk (blk_drew BK101.out)
                        have n3_ := Aside0.mk (below_drew1 HB.out)
                        clear HO_6
                        clear HO_8
                        clear BK101
                        clear HB
                        have HO_6 := n0_
                        have HO_8 := n1_
                        have BK101 := n2_
                        have HB := n3_
                        clear n0_ n1_ n2_ n3_
                        refine start_ (n := 6) (S := fun w' => w'.cell? ⟨gb101, 0, none⟩ = some (.int .i64 a1_0) ∧ w'.cell? ⟨gb101, 1, none⟩ = some (.int .i64 a1_1) ∧ w'.cell? ⟨gb101, 2, none⟩ = some (.int .i64 a1_2)) (ds := []) (tf 0 6) (by kernel_rfl) rfl rfl ⟨(blk_cell BK101.out 0).trans rfl, (blk_cell BK101.out 1).trans rfl, (blk_cell BK101.out 2).trans rfl⟩ (fun hHeld => ?_)
                        generalize w51.drew = w52 at HO_6 HO_8 BK101 HB hHeld ⊢
                        refine pure_ (i := 0) (N := some 60) (v := ?_) (a' := ?_) (tf 1 5) rfl rfl (by kernel_rfl) (fun _ _ _ h => h) (Or.inl ⟨by rfl, ?_⟩) ?_ ?_
                        rotate_left; (focus intro w'; go_simp; with_reducible rfl)
                        rotate_left; (focus simp only [Act.put, List.setIfInBounds_toArray, List.set_cons_zero, List.set_cons_succ, i64_w, i32_w]; rfl)
                        refine take_ (i := 2) (N := some 62) (v := ?_) (a' := ?_) #[true, false, true, false, false, false] rfl rfl (by kernel_rfl) (fun _ _ _ h => h) (Or.inl ⟨by rfl, ?_⟩) hHeld ?_ ?_
                        rotate_left
                        · rintro w' ⟨s0, s1, s2⟩
                          go_simp
                          with_reducible rfl
                        rotate_left; (focus simp only [Act.put, List.setIfInBounds_toArray, List.set_cons_zero, List.set_cons_succ, i64_w, i32_w]; rfl)
                        refine one_ (i := 1) (N := some 61) (tf 3 3) rfl rfl (by kernel_rfl) (by decide) (fun K hK => ?_)
                        refine goes_ Try.func17 (by kernel_rfl) rfl #[.slice A0 l0.length c0] (by rfl) rfl rfl (by (try simp only [List.map_toArray, List.map_cons, List.map_nil]); first | done | rfl | (simp only [List.length_drop, List.length_take]; rfl)) ?_
                        with_reducible refine (laws_toRecS.calls kj17 _ _ l0 t132 _ ?side1 ?side2 A43.out).mono ?_
                        (case side1 => repeat (first | exact (Kd.C_below HR0.out HB.out) | (with_reducible refine Kd.C_alloc ?_ _) | (with_reducible refine Kd.C_drewN ?_ _) | (with_reducible refine Kd.C_drew ?_)))
                        (case side2 => exact HC0.out)
                        rintro e w53 ⟨v133, rfl, ho0, hb⟩
                        refine ⟨_, rfl, ?_⟩
                        have n0_ := Aside0.mk (Kd.R_below (by (with_reducible repeat (first | apply Kd.R_alloc | apply Kd.R_drewN | apply Kd.R_drew)); exact HO_6.out) hb)
                        have n1_ := Aside0.mk (Kd.R_below (by (with_reducible repeat (first | apply Kd.R_alloc | apply Kd.R_drewN | apply Kd.R_drew)); exact HO_8.out) hb)
                        have n2_ := Aside0.mk (Kd.R_lower ho0 (below_size (by repeat (first | (with_reducible first | exact HB.out | apply below_alloc | apply pw_below_drewN | apply below_drew1 | refine below_set ?_ GE101.out) | exact HB.out))))
                        have n3_ := Aside0.mk (blk_below (g := gb101) (o := .cells #[.int .i64 a1_0, .int .i64 a1_1, .int .i64 a1_2] 24 (0, 0)) (by (with_reducible repeat (first | refine blk_drewN ?_ _ | refine blk_drew ?_ | refine blk_alloc ?_ _)); exact BK101.out) hb)
                        have n4_ := Aside0.mk (below_step (by repeat (first | (with_reducible first | exact HB.out | apply below_alloc | apply pw_below_drewN | apply below_drew1 | refine below_set ?_ GE101.out) | exact HB.out)) hb)
                        clear HO_6
                        clear HO_8
                        clear BK101
                        clear HB
                        have HO_6 := n0_
                        have HO_8 := n1_
                        have HO134 := n2_
                        have BK101 := n3_
                        have HB := n4_
                        clear n0_ n1_ n2_ n3_ n4_
                        (try clear hb)
                        (try clear hb2)
                        (try clear hk)
                        (try clear hi)
                        (try clear ho0)
                        refine hK.out _ _ ⟨(blk_cell BK101.out 0).trans rfl, (blk_cell BK101.out 1).trans rfl, (blk_cell BK101.out 2).trans rfl⟩ (fun hHeld => ?_)
                        clear hK K
                        refine norm_ (a' := ?_) ?_ ?_
                        rotate_left
                        · show Act.put _ (some 61) _ = _
                          simp only [Act.put, List.setIfInBounds_toArray, List.set_cons_zero, List.set_cons_succ, i64_w, i32_w]
                          rfl
                        refine one_ (i := 3) (N := some 63) (tf 4 2) rfl rfl (by kernel_rfl) (by decide) (fun K hK => ?_)
                        refine goes_ Try.func18 (by kernel_rfl) rfl #[.agg #[.int .i64 a1_0, .int .i64 a1_1, .int .i64 a1_2]] (by rfl) rfl rfl (by (try simp only [List.map_toArray, List.map_cons, List.map_nil]); first | done | rfl | (simp only [List.length_drop, List.length_take]; rfl)) ?_
                        with_reducible refine (laws_toFact.calls a1_0 a1_1 a1_2 t135 t136 t137 _ A44.out).mono ?_
                        rintro e w54 ⟨rfl, hb⟩
                        refine ⟨_, rfl, ?_⟩
                        have n0_ := Aside0.mk (Kd.R_below (by (with_reducible repeat (first | apply Kd.R_alloc | apply Kd.R_drewN | apply Kd.R_drew)); exact HO_6.out) hb)
                        have n1_ := Aside0.mk (Kd.R_below (by (with_reducible repeat (first | apply Kd.R_alloc | apply Kd.R_drewN | apply Kd.R_drew)); exact HO_8.out) hb)
                        have n2_ := Aside0.mk (Kd.R_below (by (with_reducible repeat (first | apply Kd.R_alloc | apply Kd.R_drewN | apply Kd.R_drew)); exact HO134.out) hb)
                        have n3_ := Aside0.mk (blk_below (g := gb101) (o := .cells #[.int .i64 a1_0, .int .i64 a1_1, .int .i64 a1_2] 24 (0, 0)) (by (with_reducible repeat (first | refine blk_drewN ?_ _ | refine blk_drew ?_ | refine blk_alloc ?_ _)); exact BK101.out) hb)
                        have n4_ := Aside0.mk (below_step (by repeat (first | (with_reducible first | exact HB.out | apply below_alloc | apply pw_below_drewN | apply below_drew1 | refine below_set ?_ GE101.out) | exact HB.out)) hb)
                        clear HO_6
                        clear HO_8
                        clear HO134
                        clear BK101
                        clear HB
                        have HO_6 := n0_
                        have HO_8 := n1_
                        have HO134 := n2_
                        have BK101 := n3_
                        have HB := n4_
                        clear n0_ n1_ n2_ n3_ n4_
                        (try clear hb)
                        (try clear hb2)
                        (try clear hk)
                        (try clear hi)
                        obtain ⟨Ao55, co55, eo55⟩ := Kd.R_slice HO134.out
                        (first | subst eo55 | (injection eo55 with f1_ f2_ f3_; have f4_ := f1_.symm; have f5_ := f3_.symm; clear f1_ f2_ f3_; subst f4_; subst f5_))
                        refine hK.out _ _ ⟨(blk_cell BK101.out 0).trans rfl, (blk_cell BK101.out 1).trans rfl, (blk_cell BK101.out 2).trans rfl⟩ (fun hHeld => ?_)
                        clear hK K
                        refine norm_ (a' := ?_) ?_ ?_
                        rotate_left
                        · show Act.put _ (some 63) _ = _
                          simp only [Act.put, List.setIfInBounds_toArray, List.set_cons_zero, List.set_cons_succ, i64_w, i32_w]
                          rfl
                        refine one_ (i := 4) (N := some 64) (tf 5 1) rfl rfl (by kernel_rfl) (by decide) (fun K hK => ?_)
                        refine goes_ Try.func56 (by kernel_rfl) rfl #[.slice Ao55 t132.length co55, .agg #[.int .i64 t135, .int .i64 t136, .int .i64 t137]] (by rfl) rfl rfl (by (try simp only [List.map_toArray, List.map_cons, List.map_nil]); first | done | rfl | (simp only [List.length_drop, List.length_take]; rfl)) ?_
                        with_reducible refine (impl_Reached.calls _ _ t132 t135 t136 t137 t138 _ ?side1 ?side2 A45.out).mono ?_
                        (case side1 => repeat (first | exact (Kd.R_reads' HO134.out).2.2 | (with_reducible refine Kd.C_alloc ?_ _) | (with_reducible refine Kd.C_drewN ?_ _) | (with_reducible refine Kd.C_drew ?_)))
                        (case side2 => exact (Kd.R_reads' HO134.out).2.1)
                        rintro e w56 ⟨v139, rfl, ho0, hb⟩
                        refine ⟨_, rfl, ?_⟩
                        have n0_ := Aside0.mk (Kd.R_elder' (by (with_reducible repeat (first | apply Kd.R_alloc | apply Kd.R_drewN | apply Kd.R_drew)); exact HO_6.out) (Kd.R_base ho0) hb)
                        have n1_ := Aside0.mk (Kd.R_elder' (by (with_reducible repeat (first | apply Kd.R_alloc | apply Kd.R_drewN | apply Kd.R_drew)); exact HO_8.out) (Kd.R_base ho0) hb)
                        have n2_ := Aside0.mk (Kd.R_below (by (with_reducible repeat (first | apply Kd.R_alloc | apply Kd.R_drewN | apply Kd.R_drew)); exact HO134.out) hb)
                        have n3_ := Aside0.mk (Kd.R_lower (Kd.R_new' (Kd.R_new' ho0 (Kd.R_lt (by (with_reducible repeat (first | apply Kd.R_alloc | apply Kd.R_drewN | apply Kd.R_drew)); exact HO_6.out))) (Kd.R_lt (by (with_reducible repeat (first | apply Kd.R_alloc | apply Kd.R_drewN | apply Kd.R_drew)); exact HO_8.out))) (below_size (by repeat (first | (with_reducible first | exact HB.out | apply below_alloc | apply pw_below_drewN | apply below_drew1 | refine below_set ?_ GE101.out) | exact HB.out))))
                        have n4_ := Aside0.mk (blk_below (g := gb101) (o := .cells #[.int .i64 a1_0, .int .i64 a1_1, .int .i64 a1_2] 24 (0, 0)) (by (with_reducible repeat (first | refine blk_drewN ?_ _ | refine blk_drew ?_ | refine blk_alloc ?_ _)); exact BK101.out) hb)
                        have n5_ := Aside0.mk (below_step (by repeat (first | (with_reducible first | exact HB.out | apply below_alloc | apply pw_below_drewN | apply below_drew1 | refine below_set ?_ GE101.out) | exact HB.out)) hb)
                        clear HO_6
                        clear HO_8
                        clear HO134
                        clear BK101
                        clear HB
                        have HO_6 := n0_
                        have HO_8 := n1_
                        have HO134 := n2_
                        have HO140 := n3_
                        have BK101 := n4_
                        have HB := n5_
                        clear n0_ n1_ n2_ n3_ n4_ n5_
                        (try clear hb)
                        (try clear hb2)
                        (try clear hk)
                        (try clear hi)
                        (try clear ho0)
                        refine hK.out _ _ ⟨(blk_cell BK101.out 0).trans rfl, (blk_cell BK101.out 1).trans rfl, (blk_cell BK101.out 2).trans rfl⟩ (fun hHeld => ?_)
                        clear hK K
                        refine norm_ (a' := ?_) ?_ ?_
                        rotate_left
                        · show Act.put _ (some 64) _ = _
                          simp only [Act.put, List.setIfInBounds_toArray, List.set_cons_zero, List.set_cons_succ, i64_w, i32_w]
                          rfl
                        refine pure_ (i := 5) (N := some 12) (v := ?_) (a' := ?_) (tf 6 0) rfl rfl (by kernel_rfl) (fun _ _ _ h => h) (Or.inl ⟨by rfl, ?_⟩) ?_ ?_
                        rotate_left; (focus intro w'; go_simp; with_reducible rfl)
                        rotate_left; (focus simp only [Act.put, List.setIfInBounds_toArray, List.set_cons_zero, List.set_cons_succ, i64_w, i32_w]; rfl)
                        refine done_ (by kernel_rfl) ?_
                        obtain ⟨Ao57, co57, eo57⟩ := Kd.R_slice HO140.out
                        subst eo57
                        try go_wp2_with (first | ((with_reducible refine gate_callee (f := 29) rfl ?_); refine goesL_ (some 67) rfl rfl Try.func29 (by kernel_rfl) rfl #[.slice Ao57 t138.length co57, .slice Ao31 t109.length co31] rfl (by (try simp only [List.map_toArray, List.map_cons, List.map_nil]); first | done | rfl | (simp only [List.length_drop, List.length_take]; rfl)) ?_; (with_reducible refine (laws_eqInt64S.calls kj17 _ _ t138 _ _ t109 true _ ?side1 ?side2 ?side3 ?side4 A46.out).mono ?_); (case side1 => repeat (first | exact (Kd.R_reads' HO140.out).2.2 | (with_reducible refine Kd.C_alloc ?_ _) | (with_reducible refine Kd.C_drewN ?_ _) | (with_reducible refine Kd.C_drew ?_))); (case side2 => exact (Kd.R_reads' HO140.out).2.1); (case side3 => repeat (first | exact (Kd.R_reads' HO_6.out).2.2 | (with_reducible refine Kd.C_alloc ?_ _) | (with_reducible refine Kd.C_drewN ?_ _) | (with_reducible refine Kd.C_drew ?_))); (case side4 => exact (Kd.R_reads' HO_6.out).2.1); rintro e w' ⟨rfl, ⟨nd, rfl⟩⟩; refine ⟨_, rfl, ?_⟩) | ((with_reducible refine gate_callee (f := 32) rfl ?_); refine goesL_ (some 71) rfl rfl Try.func32 (by kernel_rfl) rfl #[.slice Ao30 t130.length co30, .int .i64 1] rfl (by (try simp only [List.map_toArray, List.map_cons, List.map_nil]); first | done | (rw [show t130.length = t118.length from (Kd.R_reads' HO_8.out).1.symm] <;> rfl) | rfl | (simp only [List.length_drop, List.length_take]; rfl)) ?_; (with_reducible refine (laws_heldInt64S.calls kj17 _ _ t130 1 t142 _ ?side1 ?side2 A48.out).mono ?_); (case side1 => repeat (first | exact (Kd.R_reads' HO_8.out).2.2 | (with_reducible refine Kd.C_alloc ?_ _) | (with_reducible refine Kd.C_drewN ?_ _) | (with_reducible refine Kd.C_drew ?_))); (case side2 => rw [show t130.length = t118.length from (Kd.R_reads' HO_8.out).1.symm]; exact (Kd.R_reads' HO_8.out).2.1); rintro e w' ⟨rfl, ⟨nd, rfl⟩⟩; refine ⟨_, rfl, ?_⟩))
                        go_ret
                        exact ⟨by first | rfl | (simp [errW_none, errW_some] <;> rfl) | (simp [*, errW_none, errW_some] <;> rfl), by repeat (first | (with_reducible first | exact HB.out | apply below_alloc | apply pw_below_drewN | apply below_drew1 | refine below_set ?_ GE101.out) | exact HB.out)⟩
                      · rw [if_neg c50] at H
                        have c50b0 : (t142 == t129) = false := beq_eq_false_iff_ne.mpr c50
                        have c50b1 : (t142 != t129) = true := bne_iff_ne.mpr c50
                        obtain rfl := Option.some.inj H
                        exact absurd ht (by decide)
                  · replace c47 := Bool.eq_false_iff.mpr c47
                    subst c47
                    have H1 : (some false) = some r := by rw [if_neg (show ¬ (false = true) by decide)] at H; exact H
                    clear H
                    have H := H1
                    clear H1
                    obtain rfl := Option.some.inj H
                    exact absurd ht (by decide)
                · rw [if_neg c42] at H
                  have c42b0 : (t131 == t129) = false := beq_eq_false_iff_ne.mpr c42
                  have c42b1 : (t131 != t129) = true := bne_iff_ne.mpr c42
                  obtain rfl := Option.some.inj H
                  exact absurd ht (by decide)
      · replace c16 := Bool.eq_false_iff.mpr c16
        subst c16
        have H1 : (some false) = some r := by rw [if_neg (show ¬ (false = true) by decide)] at H; exact H
        clear H
        have H := H1
        clear H1
        obtain rfl := Option.some.inj H
        exact absurd ht (by decide)
    · replace c13 := Bool.eq_false_iff.mpr c13
      subst c13
      have H1 : (some false) = some r := by rw [if_neg (show ¬ (false = true) by decide)] at H; exact H
      clear H
      have H := H1
      clear H1
      obtain rfl := Option.some.inj H
      exact absurd ht (by decide)

end Go.Proofs.Ytgcgdjldhjajaaa.A
/- Loops over lists, in plain Lean: a copy into a new row, a comparison of a row with itself. Conditions: the rows are no longer than a number of the machine can tell. -/
namespace Go.Proofs.Ytgcgdjldhjajaaa.Lst
open Go.RowKit
set_option linter.unusedVariables false
set_option linter.unusedSimpArgs false

theorem w1 (i : Int) (h0 : 0 ≤ i) (h : i < 4611686018427387904) : wrap64 (i + 1) = i + 1 := by unfold wrap64; omega
theorem w1n (i n : Nat) (hi : i < n) (hn : n ≤ 4611686018427387904) : wrap64 ((i : Int) + 1) = ((i + 1 : Nat) : Int) := by unfold wrap64; omega
theorem wr (i : Int) (h0 : -9223372036854775808 ≤ i) (h : i < 9223372036854775808) : wrap64 i = i := by unfold wrap64; omega
theorem toNat_ofNat (i : Nat) : ((i : Int)).toNat = i := rfl

theorem set_take {β : Type} (l : List β) (i : Nat) (b : β) (h : i < l.length) : (l.set i b).take (i + 1) = l.take i ++ [b] := by
  apply List.ext_getElem?
  intro j
  simp only [List.getElem?_take, List.getElem?_append, List.getElem?_set, List.length_take]
  by_cases h1 : j < i
  · rw [if_pos (by omega), if_neg (by omega), if_pos (by omega), if_pos h1]
  · by_cases h2 : j = i
    · subst h2
      rw [if_pos (by omega), if_pos rfl, if_pos h, if_neg (by omega)]
      simp [Nat.min_eq_left (Nat.le_of_lt h)]
    · rw [if_neg (by omega), if_neg (by omega)]
      rw [List.getElem?_eq_none]
      simp; omega

/-- A copy, element by element, into a row that is there. -/
theorem copy_from {α β : Type} (g : Nat → List α → List β → Int → Option (List β)) (z : α) (h : α → β) (l : List α) (hl : l.length ≤ 4611686018427387904)
    (hstep : ∀ (k : Nat) (x : List β) (i : Nat), i < l.length → i < x.length → g (k + 1) l x (i : Int) = g k l (x.set i (h (l.getD i z))) (wrap64 ((i : Int) + 1)))
    (hend : ∀ (k : Nat) (x : List β), g (k + 1) l x (l.length : Int) = some x) :
    ∀ (d k i : Nat) (x : List β), d + i = l.length → x.length = l.length → x.take i = (l.take i).map h → d < k → g k l x (i : Int) = some (l.map h) := by
  intro d
  induction d with
  | zero =>
    intro k i x hd hx ht hk
    obtain ⟨k, rfl⟩ : ∃ m, k = m + 1 := ⟨k - 1, by omega⟩
    obtain rfl : i = l.length := by omega
    rw [hend]
    rw [List.take_of_length_le (by omega), List.take_of_length_le (Nat.le_refl _)] at ht
    rw [ht]
  | succ d ih =>
    intro k i x hd hx ht hk
    obtain ⟨k, rfl⟩ : ∃ m, k = m + 1 := ⟨k - 1, by omega⟩
    rw [hstep k x i (by omega) (by omega), w1n i l.length (by omega) hl]
    refine ih k (i + 1) _ (by omega) (by simpa using hx) ?_ (by omega)
    rw [set_take x i _ (by omega), ht, List.take_succ_eq_append_getElem (by omega), List.map_append, List.getD_eq_getElem?_getD, List.getElem?_eq_getElem (by omega)]
    simp

theorem copy_all {α β : Type} (g : Nat → List α → List β → Int → Option (List β)) (z : α) (zb : β) (h : α → β) (l : List α) (hl : l.length ≤ 4611686018427387904)
    (hstep : ∀ (k : Nat) (x : List β) (i : Nat), i < l.length → i < x.length → g (k + 1) l x (i : Int) = g k l (x.set i (h (l.getD i z))) (wrap64 ((i : Int) + 1)))
    (hend : ∀ (k : Nat) (x : List β), g (k + 1) l x (l.length : Int) = some x) (k : Nat) (hk : l.length < k) : g k l (List.replicate l.length zb) 0 = some (l.map h) :=
  copy_from g z h l hl hstep hend l.length k 0 _ rfl (by simp) (by simp) hk

/-- A walk along a row that never leaves before the end. -/
theorem along {ρ : Type} (g : Nat → Int → Option ρ) (n : Nat) (hn : n ≤ 4611686018427387904) (r : ρ)
    (hstep : ∀ (k i : Nat), i < n → g (k + 1) (i : Int) = g k (wrap64 ((i : Int) + 1))) (hend : ∀ k : Nat, g (k + 1) (n : Int) = some r) :
    ∀ (d k i : Nat), d + i = n → d < k → g k (i : Int) = some r := by
  intro d
  induction d with
  | zero =>
    intro k i hd hk
    obtain ⟨k, rfl⟩ : ∃ m, k = m + 1 := ⟨k - 1, by omega⟩
    obtain rfl : i = n := by omega
    exact hend k
  | succ d ih =>
    intro k i hd hk
    obtain ⟨k, rfl⟩ : ∃ m, k = m + 1 := ⟨k - 1, by omega⟩
    rw [hstep k i (by omega), w1n i n (by omega) hn]
    exact ih k (i + 1) (by omega) (by omega)

theorem along_all {ρ : Type} (g : Nat → Int → Option ρ) (n : Nat) (hn : n ≤ 4611686018427387904) (r : ρ)
    (hstep : ∀ (k i : Nat), i < n → g (k + 1) (i : Int) = g k (wrap64 ((i : Int) + 1))) (hend : ∀ k : Nat, g (k + 1) (n : Int) = some r) (k : Nat) (hk : n < k) : g k 0 = some r :=
  along g n hn r hstep hend n k 0 (by omega) hk

/-- Element by element, each set to something of its number and of what it was. -/
theorem setting {β : Type} (g : Nat → List β → Int → Int → Option (Int × List β)) (z : β) (F : Int → β → β) (c : Int) (n : Nat) (hn : n ≤ 4611686018427387904)
    (hstep : ∀ (k : Nat) (x : List β) (m : Int) (i : Nat), x.length = n → i < n → 0 ≤ m → m ≤ 1000000000000 → g (k + 1) x m (i : Int) = g k (x.set i (F m (x.getD i z))) (m + c) (wrap64 ((i : Int) + 1)))
    (hend : ∀ (k : Nat) (x : List β) (m : Int), x.length = n → g (k + 1) x m (n : Int) = some (m, x)) (hc : 0 ≤ c) :
    ∀ (d k i : Nat) (x : List β) (m : Int), d + i = n → x.length = n → d < k → 0 ≤ m → m + c * d ≤ 1000000000000 →
      ∃ y, g k x m (i : Int) = some (m + c * d, y) ∧ y.length = n ∧ (∀ j, j < i → y.getD j z = x.getD j z) ∧ ∀ j, i ≤ j → j < n → y.getD j z = F (m + c * (j - i : Nat)) (x.getD j z) := by
  intro d
  induction d with
  | zero =>
    intro k i x m hd hx hk h0 h1
    obtain ⟨k, rfl⟩ : ∃ q, k = q + 1 := ⟨k - 1, by omega⟩
    obtain rfl : i = n := by omega
    exact ⟨x, by rw [hend k x m hx]; simp, hx, fun j _ => rfl, fun j h2 h3 => by omega⟩
  | succ d ih =>
    intro k i x m hd hx hk h0 h1
    obtain ⟨k, rfl⟩ : ∃ q, k = q + 1 := ⟨k - 1, by omega⟩
    have hcd : 0 ≤ c * (d : Int) := Int.mul_nonneg hc (by omega)
    have e1 : c * ((d + 1 : Nat) : Int) = c * (d : Int) + c := by rw [show ((d + 1 : Nat) : Int) = (d : Int) + 1 from rfl, Int.mul_add, Int.mul_one]
    rw [e1] at h1
    rw [hstep k x m i hx (by omega) h0 (by omega), w1n i n (by omega) hn]
    obtain ⟨y, h2, h3, h4, h5⟩ := ih k (i + 1) (x.set i (F m (x.getD i z))) (m + c) (by omega) (by simpa using hx) (by omega) (by omega) (by omega)
    refine ⟨y, by rw [h2, e1]; congr 2; omega, h3, fun j hj => ?_, fun j hj hjn => ?_⟩
    · rw [h4 j (by omega)]
      simp only [List.getD_eq_getElem?_getD, List.getElem?_set]
      rw [if_neg (by omega)]
    · by_cases e : j = i
      · subst e
        rw [h4 j (by omega)]
        simp only [List.getD_eq_getElem?_getD, List.getElem?_set]
        rw [if_pos trivial, if_pos (by omega)]
        simp
      · rw [h5 j (by omega) hjn]
        have e2 : m + c + c * ((j - (i + 1) : Nat) : Int) = m + c * ((j - i : Nat) : Int) := by
          have : ((j - i : Nat) : Int) = ((j - (i + 1) : Nat) : Int) + 1 := by omega
          rw [this, Int.mul_add, Int.mul_one]
          omega
        rw [e2]
        congr 1
        simp only [List.getD_eq_getElem?_getD, List.getElem?_set]
        rw [if_neg (by omega)]
/-- A walk that counts up as it goes. -/
theorem holding {ρ : Type} (g : Nat → Int → Int → Option ρ) (n : Nat) (hn : n ≤ 4611686018427387904) (m c : Int) (r : ρ)
    (hstep : ∀ (k i : Nat), i < n → g (k + 1) (m + c * i) (i : Int) = g k (m + c * ((i + 1 : Nat) : Int)) (wrap64 ((i : Int) + 1))) (hend : ∀ k : Nat, g (k + 1) (m + c * n) (n : Int) = some r) :
    ∀ (d k i : Nat), d + i = n → d < k → g k (m + c * i) (i : Int) = some r := by
  intro d
  induction d with
  | zero =>
    intro k i hd hk
    obtain ⟨k, rfl⟩ : ∃ q, k = q + 1 := ⟨k - 1, by omega⟩
    obtain rfl : i = n := by omega
    exact hend k
  | succ d ih =>
    intro k i hd hk
    obtain ⟨k, rfl⟩ : ∃ q, k = q + 1 := ⟨k - 1, by omega⟩
    rw [hstep k i (by omega), w1n i n (by omega) hn]
    exact ih k (i + 1) (by omega) (by omega)

theorem map_id_of {α : Type} (l : List α) (f : α → α) (h : ∀ x, f x = x) : l.map f = l := by
  induction l with
  | nil => rfl
  | cons a l ih => rw [List.map_cons, h, ih]
end Go.Proofs.Ytgcgdjldhjajaaa.Lst
/- The plain statement that is left of the law FnExactReached, over numbers and lists. -/
namespace Go.Proofs.Ytgcgdjldhjajaaa.A
open Go.RowKit Go.Proofs.YtgcgdjldhjajaaaW.PrintWords Go.Proofs.YtgcgdjldhjajaaaW.PrintLast
def Pure_FnExactReached : Prop := ∀ (l0 : List (S80)) (a1_0 : Int) (a1_1 : Int) (a1_2 : Int), (l0.length ≤ maxLen ∧ ∀ q1 ∈ l0, ((Lit.int .i64 q1.f0).wf = true ∧ ((Lit.int .i64 q1.f1).wf = true ∧ ((Lit.int .i64 q1.f2).wf = true ∧ ((Lit.int .i64 q1.f3).wf = true ∧ ((Lit.int .i64 q1.f4).wf = true ∧ (Lit.int .i64 q1.f5).wf = true)))))) → ((Lit.int .i64 a1_0).wf = true ∧ ((Lit.int .i64 a1_1).wf = true ∧ (Lit.int .i64 a1_2).wf = true)) → ∃ k, laws_FnExactReached.f k l0 a1_0 a1_1 a1_2 = some true
end Go.Proofs.Ytgcgdjldhjajaaa.A
/- What is right of records, as the reference tells it and as the program does. -/
namespace Go.Proofs.Ytgcgdjldhjajaaa.A
open Go.RowKit Go.Proofs.Ytgcgdjldhjajaaa Go.Proofs.YtgcgdjldhjajaaaW.PrintWords Go.Proofs.YtgcgdjldhjajaaaW.PrintLast Go.Proofs.YtgcgdjldhjajaaaW.PrintMore
set_option linter.unusedVariables false
set_option linter.unusedSimpArgs false
theorem s_is (n lo hi : Int) : spec_l02Is.f n lo hi = some (decide (lo ≤ n ∧ n ≤ hi)) := by
  unfold spec_l02Is.f; by_cases h : n ≥ lo
  · rw [if_pos h]; congr 1; simp; omega
  · rw [if_neg h]; congr 1; simp; omega
theorem s_time (n : Int) : spec_l03Time.f n = some (timeB n) := by
  unfold spec_l03Time.f; rw [s_is]; rfl
theorem s_node (n : Int) : spec_l04Node.f n = some (nodeB n) := by
  unfold spec_l04Node.f; rw [s_is]; rfl
theorem s_recRight (a b c d e f : Int) : spec_RecRight.f a b c d e f = some (recB a b c d e f) := by
  unfold spec_RecRight.f recB
  simp only [s_node, s_time, s_is, Option.bind_some]
  cases timeB a
  · rfl
  cases nodeB b
  · rfl
  simp only [if_true, Bool.true_and]
  by_cases h1 : c = 1
  · rw [if_pos h1, if_pos h1]
    cases timeB d <;> by_cases h2 : e = 0 <;> simp [h2]
  rw [if_neg h1, if_neg h1]
  by_cases h2 : c = 2
  · rw [if_pos h2, if_pos h2]
    by_cases h3 : d = 0 <;> by_cases h4 : e = 0 <;> simp [h3, h4]
  rw [if_neg h2, if_neg h2]
  by_cases h3 : c = 3
  · rw [if_pos h3, if_pos h3]
    cases timeB d <;> cases nodeB e <;> simp
  rw [if_neg h3, if_neg h3]
  by_cases h4 : c = 4
  · rw [if_pos h4, if_pos h4]
    cases timeB d <;> cases nodeB e <;> simp
  rw [if_neg h4, if_neg h4]
  by_cases h5 : c = 5
  · rw [if_pos h5, if_pos h5]
    unfold factB
    cases nodeB d <;> cases timeB e <;> simp
  rw [if_neg h5, if_neg h5]
  by_cases h6 : c = 6
  · rw [if_pos h6, if_pos h6]
    cases nodeB d <;> by_cases h7 : e = 0 <;> simp [h7]
  rw [if_neg h6, if_neg h6]
/-- Records that are right, and not too many. -/
def okRecs (l : List S78) : Bool := decide (l.length ≤ 400) && l.all recOk
theorem i_recs (l : List S78) : impl_areRecs.f l = some (okRecs l) := rfl
theorem s_recs (l : List S78) (k : Nat) (hk : l.length < k) : spec_l12Recs.f k l = some (okRecs l) := by
  unfold spec_l12Recs.f okRecs
  by_cases h : l.length ≤ 400
  · rw [if_neg (by omega)]
    have key : ∀ (d k i : Nat), d + i = l.length → d < k → spec_l12Recs.l0 k l (i : Int) = some ((l.drop i).all recOk) := by
      intro d
      induction d with
      | zero =>
        intro k i hd hk
        obtain ⟨k, rfl⟩ : ∃ m, k = m + 1 := ⟨k - 1, by omega⟩
        simp only [spec_l12Recs.l0]
        rw [if_neg (by omega), List.drop_of_length_le (by omega)]
        rfl
      | succ d ih =>
        intro k i hd hk
        obtain ⟨k, rfl⟩ : ∃ m, k = m + 1 := ⟨k - 1, by omega⟩
        have hi : i < l.length := by omega
        simp only [spec_l12Recs.l0]
        rw [if_pos (by omega), if_pos (by omega), rd_nat_Rec l i hi, s_recRight]
        simp only [Option.bind_some]
        rw [List.drop_eq_getElem_cons hi, List.all_cons]
        show (if recOk l[i] = true then _ else _) = _
        cases hq : recOk l[i]
        · rfl
        · rw [if_pos rfl, Lst.w1n i l.length hi (by omega), ih k (i + 1) (by omega) (by omega)]
          rfl
    have := key l.length k 0 (by omega) hk
    rw [show ((0 : Nat) : Int) = 0 from rfl] at this
    rw [this]
    simp [h]
  · rw [if_pos (by omega)]
    simp [h]
end Go.Proofs.Ytgcgdjldhjajaaa.A
/- Copies of records, their comparison and their size. -/
namespace Go.Proofs.Ytgcgdjldhjajaaa.A
open Go.RowKit Go.Proofs.Ytgcgdjldhjajaaa Go.Proofs.YtgcgdjldhjajaaaW.PrintWords Go.Proofs.YtgcgdjldhjajaaaW.PrintLast Go.Proofs.YtgcgdjldhjajaaaW.PrintMore
set_option linter.unusedVariables false
set_option linter.unusedSimpArgs false
def cvR (x : S80) : S78 := ⟨x.f0, x.f1, x.f2, x.f3, x.f4, x.f5⟩
theorem toR (l : List S80) (hl : l.length ≤ 1048576) (k : Nat) (hk : l.length < k) : laws_toRecS.f k l = some (l.map cvR) := by
  unfold laws_toRecS.f
  rw [if_pos (by omega), if_pos (by omega)]
  refine Lst.copy_all laws_toRecS.l0 z80 z78 cvR l (by omega) ?_ ?_ k hk
  · intro k x i h1 h2
    simp only [laws_toRecS.l0]
    rw [if_pos (by omega), if_pos (by omega)]
    simp only [laws_toRec.f, Option.bind_some]
    rw [if_pos (by omega)]
    rfl
  · intro k x
    simp only [laws_toRecS.l0]
    rw [if_neg (by omega)]
theorem eqR (l : List S78) (hl : l.length ≤ 1048576) (k : Nat) (hk : l.length < k) : laws_eqRecS.f k l l = some true := by
  unfold laws_eqRecS.f
  rw [if_pos rfl]
  refine Lst.along_all (fun k i => laws_eqRecS.l0 k l l i) l.length (by omega) true ?_ ?_ k hk
  · intro k i h1
    simp only [laws_eqRecS.l0]
    rw [if_pos (by omega), if_pos (by omega), if_pos (by omega)]
    simp [laws_eqRec.f]
  · intro k
    simp only [laws_eqRecS.l0]
    rw [if_neg (by omega)]
theorem szR (l : List S80) (hl : l.length ≤ maxLen) : laws_szRecS.f l 1048576 = some (if l.length ≤ 1048576 then 1048576 - (l.length : Int) else -1) := by
  unfold laws_szRecS.f
  unfold maxLen at hl
  have e' : wrap64 (1048576 - (l.length : Int)) = 1048576 - (l.length : Int) := by unfold wrap64; omega
  rw [e']
  by_cases h : l.length ≤ 1048576
  · rw [if_neg (by omega), if_pos h]
  · rw [if_pos (by omega), if_neg h]
end Go.Proofs.Ytgcgdjldhjajaaa.A
/- What the law's marks come to. -/
namespace Go.Proofs.Ytgcgdjldhjajaaa.A
open Go.RowKit Go.Proofs.Ytgcgdjldhjajaaa Go.Proofs.YtgcgdjldhjajaaaW.PrintWords Go.Proofs.YtgcgdjldhjajaaaW.PrintLast Go.Proofs.YtgcgdjldhjajaaaW.PrintMore
set_option linter.unusedVariables false
set_option linter.unusedSimpArgs false
theorem eqI (l : List Int) (hl : l.length ≤ 1048576) (k : Nat) (hk : l.length < k) : laws_eqInt64S.f k l l = some true := by
  unfold laws_eqInt64S.f
  rw [if_pos rfl]
  refine Lst.along_all (fun k i => laws_eqInt64S.l0 k l l i) l.length (by omega) true ?_ ?_ k hk
  · intro k i h1
    simp only [laws_eqInt64S.l0]
    rw [if_pos (by omega), if_pos (by omega), if_pos (by omega), if_true]
  · intro k
    simp only [laws_eqInt64S.l0]
    rw [if_neg (by omega)]
theorem rd_getD (l : List Int) (i : Nat) : rd l (i : Int) = l.getD i 0 := rfl
/-- What is marked is held. -/
theorem markI (l : List Int) (hl : l.length ≤ 1048576) (k : Nat) (hk : l.length < k) : ∃ y : List Int, laws_markInt64S.f k l 1 = some (1 + (l.length : Int), y) ∧ ∀ k, l.length < k → laws_heldInt64S.f k y 1 = some (1 + (l.length : Int)) := by
  obtain ⟨y, h1, h2, _, h4⟩ := Lst.setting laws_markInt64S.l0 0 (fun m _ => m) 1 l.length (by omega) (by
      intro k x m i hx hi h0 h1
      simp only [laws_markInt64S.l0]
      rw [if_pos (by omega), if_pos (by omega), Lst.wr (m + 1) (by omega) (by omega)]
      rfl) (by
      intro k x m hx
      simp only [laws_markInt64S.l0]
      rw [if_neg (by omega)]) (by omega) l.length k 0 l 1 (by omega) rfl hk (by omega) (by omega)
  refine ⟨y, ?_, fun k hk => ?_⟩
  · unfold laws_markInt64S.f
    rw [show (0 : Int) = ((0 : Nat) : Int) from rfl, h1, Int.one_mul]
  · unfold laws_heldInt64S.f
    have := Lst.holding (fun k m i => laws_heldInt64S.l0 k y m i) l.length (by omega) 1 1 (1 + (l.length : Int)) (by
      intro k i hi
      simp only [laws_heldInt64S.l0]
      rw [if_pos (by omega), if_pos (by omega), rd_getD, h4 i (by omega) hi]
      simp only [Nat.sub_zero, if_true]
      rw [Lst.wr _ (by omega) (by omega)]
      congr 1) (by
      intro k
      simp only [laws_heldInt64S.l0]
      rw [if_neg (by omega), Int.one_mul]) l.length k 0 (by omega) hk
    simpa using this
theorem markR (l : List S78) (hl : l.length ≤ 1048576) (k : Nat) (hk : l.length < k) : ∃ y : List S78, laws_markRecS.f k l 1 = some (1 + 6 * (l.length : Int), y) := by
  obtain ⟨y, h1, _⟩ := Lst.setting laws_markRecS.l0 z78 (fun m _ => ⟨m, m + 1, m + 2, m + 3, m + 4, m + 5⟩) 6 l.length (by omega) (by
      intro k x m i hx hi h0 h1
      have w : ∀ j : Int, 0 ≤ j → j ≤ 10 → wrap64 (m + j + 1) = m + (j + 1) := fun j _ _ => by unfold wrap64; omega
      have w1 : wrap64 (m + 1) = m + 1 := by unfold wrap64; omega
      have w2 : wrap64 (m + 1 + 1) = m + 2 := by unfold wrap64; omega
      have w3 : wrap64 (m + 2 + 1) = m + 3 := by unfold wrap64; omega
      have w4 : wrap64 (m + 3 + 1) = m + 4 := by unfold wrap64; omega
      have w5 : wrap64 (m + 4 + 1) = m + 5 := by unfold wrap64; omega
      have w6 : wrap64 (m + 5 + 1) = m + 6 := by unfold wrap64; omega
      have g : ∀ (x : List S78) (v : S78), i < x.length → rd_T78 (x.set i v) (i : Int) = v := fun x v hx => by
        rw [rd_nat_Rec _ i (by simpa using hx)]
        simp
      simp only [laws_markRecS.l0]
      rw [if_pos (by omega), if_pos (by omega)]
      simp only [Option.bind_some, Int.toNat_natCast, w1, w2, w3, w4, w5, w6]
      rw [g x _ (by omega)]
      simp only [List.set_set]
      rw [g x _ (by omega)]
      simp only [List.set_set]
      rw [g x _ (by omega)]
      simp only [List.set_set]
      rw [g x _ (by omega)]
      simp only [List.set_set]
      try rw [g x _ (by omega)]
      try simp only [List.set_set]) (by
      intro k x m hx
      simp only [laws_markRecS.l0]
      rw [if_neg (by omega)]) (by omega) l.length k 0 l 1 (by omega) rfl hk (by omega) (by omega)
  exact ⟨y, by unfold laws_markRecS.f; rw [show (0 : Int) = ((0 : Nat) : Int) from rfl, h1]⟩
end Go.Proofs.Ytgcgdjldhjajaaa.A
/- Rising rows of nodes, as the reference puts them together. -/
namespace Go.Proofs.Ytgcgdjldhjajaaa.A
open Go.RowKit Go.Proofs.Ytgcgdjldhjajaaa Go.Proofs.YtgcgdjldhjajaaaW.PrintWords Go.Proofs.YtgcgdjldhjajaaaW.PrintLast Go.Proofs.YtgcgdjldhjajaaaW.PrintMore
set_option linter.unusedVariables false
set_option linter.unusedSimpArgs false
theorem has_loop (l : List Int) (n : Int) (hL : l.length ≤ 400) : ∀ (d k i : Nat), i + d = l.length → d < k → (∀ t (h : t < l.length), t < i → l[t] ≠ n) → spec_l02Has.l0 k l n (i : Int) = some (l.contains n) := by
  intro d
  induction d with
  | zero =>
    intro k i hi hk h
    obtain ⟨k, rfl⟩ : ∃ m, k = m + 1 := ⟨k - 1, by omega⟩
    simp only [spec_l02Has.l0]
    rw [if_neg (by omega)]
    have : l.contains n = false := by
      rw [Bool.eq_false_iff]
      intro hc
      rw [List.contains_iff_mem] at hc
      obtain ⟨t, ht, e⟩ := List.getElem_of_mem hc
      exact h t ht (by omega) e
    rw [this]
  | succ d ih =>
    intro k i hi hk h
    obtain ⟨k, rfl⟩ : ∃ m, k = m + 1 := ⟨k - 1, by omega⟩
    have hlt : i < l.length := by omega
    simp only [spec_l02Has.l0]
    rw [if_pos (by omega), if_pos (by omega), rd_nat l i hlt]
    by_cases e : l[i] = n
    · rw [if_pos e]
      have : l.contains n = true := by rw [List.contains_iff_mem, ← e]; exact List.getElem_mem hlt
      rw [this]
    · rw [if_neg e, Lst.w1n i l.length hlt (by omega)]
      refine ih k (i + 1) (by omega) (by omega) (fun t ht hti => ?_)
      by_cases e2 : t = i
      · subst e2; exact e
      · exact h t ht (by omega)
theorem s_has (l : List Int) (n : Int) (hL : l.length ≤ 400) (k : Nat) (hk : l.length < k) : spec_l02Has.f k l n = some (l.contains n) :=
  has_loop l n hL l.length k 0 (by omega) hk (fun t _ h => absurd h (Nat.not_lt_zero _))
theorem put_loop (l : List Int) (n : Int) (hL : l.length ≤ 400) (hr : Rising l) : ∀ (d k i : Nat), i + d = l.length → d < k → (∀ t (h : t < l.length), t < i → l[t] < n) → spec_l02Put.l0 k l n (i : Int) = some (putAt l (lowOf l n) n) := by
  intro d
  induction d with
  | zero =>
    intro k i hi hk h
    obtain ⟨k, rfl⟩ : ∃ m, k = m + 1 := ⟨k - 1, by omega⟩
    have e : lowOf l n = i := lowOf_eq l n i (by omega) h (fun t ht hle => by omega)
    simp only [spec_l02Put.l0]
    rw [if_neg (by omega)]
    simp only [Option.bind_some, Int.toNat_natCast, List.nil_append, List.length_nil]
    rw [if_pos (by omega), if_pos (by omega), if_pos (by rw [List.length_take]; omega), if_pos (by rw [List.length_take]; omega), if_pos (by simp only [List.length_append, List.length_take, List.length_drop, List.length_cons, List.length_nil]; omega), e]
    unfold putAt
    simp
  | succ d ih =>
    intro k i hi hk h
    obtain ⟨k, rfl⟩ : ∃ m, k = m + 1 := ⟨k - 1, by omega⟩
    have hlt : i < l.length := by omega
    simp only [spec_l02Put.l0]
    rw [if_pos (by omega), if_pos (by omega), rd_nat l i hlt]
    by_cases c : l[i] < n
    · rw [if_pos c, Lst.w1n i l.length hlt (by omega)]
      refine ih k (i + 1) (by omega) (by omega) (fun t ht hti => ?_)
      by_cases e2 : t = i
      · subst e2; exact c
      · exact h t ht (by omega)
    · rw [if_neg c]
      have e : lowOf l n = i := lowOf_eq l n i (by omega) h (fun t ht hle => by
        by_cases e2 : t = i
        · subst e2; omega
        · have := List.pairwise_iff_getElem.1 hr i t hlt ht (by omega)
          omega)
      simp only [Option.bind_some, Int.toNat_natCast, List.nil_append, List.length_nil]
      rw [if_pos (by omega), if_pos (by rw [List.length_take]; omega), if_pos (by rw [List.length_take]; omega), if_pos (by simp only [List.length_append, List.length_take, List.length_drop, List.length_cons, List.length_nil]; omega), e]
      unfold putAt
      simp
theorem s_put (l : List Int) (n : Int) (hL : l.length ≤ 400) (hr : Rising l) (k : Nat) (hk : l.length < k) : spec_l02Put.f k l n = some (setIns l n) := by
  unfold spec_l02Put.f setIns
  rw [s_has l n hL k hk]
  simp only [Option.bind_some, List.nil_append, List.length_nil]
  cases l.contains n
  · rw [if_neg (by simp), if_neg (by simp)]
    exact put_loop l n hL hr l.length k 0 (by omega) hk (fun t _ h => absurd h (Nat.not_lt_zero _))
  · rw [if_pos rfl, if_pos rfl, if_pos (by omega)]
theorem okRecs_400 (l : List S78) (h : okRecs l = true) : l.length ≤ 400 := by
  unfold okRecs at h
  rw [Bool.and_eq_true] at h
  exact of_decide_eq_true h.1
theorem nodesP_le (p : S78 → Bool) (l : List S78) (i : Nat) (hi : i ≤ l.length) : (nodesP p (l.take i)).length ≤ i := by
  have := (nodesP_good p (l.take i)).2
  rw [List.length_take] at this
  omega
theorem nodesP_whole (p : S78 → Bool) (l : List S78) (i : Nat) (hi : l.length ≤ i) : nodesP p (l.take i) = nodesP p l := by rw [List.take_of_length_le hi]
end Go.Proofs.Ytgcgdjldhjajaaa.A
/- Reached of the program and of the reference come to the same nodes. -/
namespace Go.Proofs.Ytgcgdjldhjajaaa.A
open Go.RowKit Go.Proofs.Ytgcgdjldhjajaaa Go.Proofs.YtgcgdjldhjajaaaW.PrintWords Go.Proofs.YtgcgdjldhjajaaaW.PrintLast Go.Proofs.YtgcgdjldhjajaaaW.PrintMore
set_option linter.unusedVariables false
set_option linter.unusedSimpArgs false
theorem s_fact (n i s : Int) : spec_FactRight.f n i s = some (factB n i s) := by
  unfold spec_FactRight.f factB
  simp only [s_node, s_time, s_is, Option.bind_some]
  cases nodeB n <;> cases timeB i <;> rfl
theorem s_says (n i s : Int) (x : S78) : spec_l18Says.f x.f0 x.f1 x.f2 x.f3 x.f4 x.f5 n i s = some (sayB n i s x) := by
  unfold spec_l18Says.f sayB
  by_cases h1 : x.f2 = 1
  · have h5 : ¬ x.f2 = 5 := by omega
    rw [if_pos h1, if_neg h5, if_pos h1]
    simp [Bool.decide_and]
    rfl
  · rw [if_neg h1, if_neg h1]
    by_cases h5 : x.f2 = 5
    · rw [if_pos h5, if_pos h5]
      congr 1
      rw [Bool.eq_iff_iff]
      simp
      omega
    · rw [if_neg h5, if_neg h5]
theorem reach_loop (l : List S78) (n i s : Int) (hl : l.length ≤ 400) (hr : okRecs l = true) (hf : factB n i s = true) : ∀ (d k j : Nat), j + d = l.length → l.length + 2 * d + 2 < k → spec_Reached.l0 k l (nodesP (sayB n i s) (l.take j)) (j : Int) n i s = some (nodesP (sayB n i s) l) := by
  intro d
  induction d with
  | zero =>
    intro k j hj hk
    obtain ⟨m, rfl⟩ : ∃ m, k = m + 1 + 1 := ⟨k - 2, by omega⟩
    simp only [spec_Reached.l0]
    rw [if_neg (by omega)]
    simp only [spec_Reached.j1]
    rw [nodesP_whole _ l j (by omega)]
    rfl
  | succ d ih =>
    intro k j hj hk
    obtain ⟨m, rfl⟩ : ∃ m, k = m + 1 + 1 := ⟨k - 2, by omega⟩
    have hlt : j < l.length := by omega
    have hsn := nodesP_snoc (sayB n i s) l j hlt
    simp only [spec_Reached.l0]
    rw [if_pos (by omega), s_recs l _ (by omega), hr]
    simp only [Option.bind_some, if_true]
    rw [s_fact, hf]
    simp only [Option.bind_some, spec_Reached.j1, if_true]
    rw [if_pos (by omega), if_pos (by omega), s_says, rd_nat_Rec l j hlt]
    simp only [Option.bind_some]
    by_cases hc : sayB n i s l[j] = true
    · rw [if_pos hc] at hsn ⊢
      rw [s_put _ _ (by have := nodesP_le (sayB n i s) l j (by omega); omega) (nodesP_good _ _).1 _ (by have := nodesP_le (sayB n i s) l j (by omega); omega)]
      simp only [Option.bind_some]
      rw [Lst.w1n j l.length hlt (by omega), ← hsn]
      exact ih m (j + 1) (by omega) (by omega)
    · rw [if_neg hc] at hsn ⊢
      rw [Lst.w1n j l.length hlt (by omega), ← hsn]
      exact ih m (j + 1) (by omega) (by omega)
def reachR (l : List S78) (n i s : Int) : List Int := if okRecs l = true then (if factB n i s = true then nodesP (sayB n i s) l else []) else []
theorem reachR_len (l : List S78) (n i s : Int) : (reachR l n i s).length ≤ l.length := by
  unfold reachR
  split
  · split
    · exact (nodesP_good _ _).2
    · simp
  · simp
theorem reach_spec (l : List S78) (n i s : Int) (k : Nat) (hk : 3 * l.length + 10 < k) : spec_Reached.f k l n i s = some (reachR l n i s) := by
  unfold spec_Reached.f reachR
  by_cases hr : okRecs l = true
  · have hl := okRecs_400 l hr
    rw [if_pos hr]
    by_cases hf : factB n i s = true
    · rw [if_pos hf]
      exact reach_loop l n i s hl hr hf l.length k 0 (by omega) (by omega)
    · rw [if_neg hf]
      obtain ⟨m, rfl⟩ : ∃ m, k = m + 1 + 1 := ⟨k - 2, by omega⟩
      have hf' : factB n i s = false := by simpa using hf
      simp only [spec_Reached.l0]
      by_cases h0 : (0 : Int) < (l.length : Int)
      · rw [if_pos h0, s_recs l _ (by omega), hr]
        simp only [Option.bind_some, if_true]
        rw [s_fact, hf']
        simp only [Option.bind_some, spec_Reached.j1]
        rfl
      · rw [if_neg h0]
        rfl
  · rw [if_neg hr]
    obtain ⟨m, rfl⟩ : ∃ m, k = m + 1 + 1 := ⟨k - 2, by omega⟩
    have hr' : okRecs l = false := by simpa using hr
    simp only [spec_Reached.l0]
    by_cases h0 : (0 : Int) < (l.length : Int)
    · rw [if_pos h0, s_recs l _ (by omega), hr']
      simp only [Option.bind_some, spec_Reached.j1]
      rfl
    · rw [if_neg h0]
      rfl
theorem reach_impl (l : List S78) (n i s : Int) : impl_Reached.f l n i s = some (reachR l n i s) := rfl
theorem pure_Reached : Pure_FnExactReached := by
  intro l n i s h _
  by_cases hb : l.length ≤ 1048576
  · obtain ⟨K, hK⟩ : ∃ K : Nat, 3 * l.length + 1000 ≤ K := ⟨_, Nat.le_refl _⟩
    refine ⟨K + 1, ?_⟩
    unfold laws_FnExactReached.f
    rw [szR l h.1]
    simp only [Option.bind_some, hb, if_true]
    rw [if_neg (by omega), toR l hb _ (by omega)]
    have hm : (l.map cvR).length = l.length := by simp
    have ht : ∀ k, l.length < k → laws_toRecS.f k l = some (l.map cvR) := fun k hk => toR l hb k hk
    generalize l.map cvR = m at hm ht
    have hs := reachR_len m n i s
    have e0 : laws_toFact.f n i s = some (n, i, s) := rfl
    obtain ⟨y, hy⟩ := markR m (by omega) (K + 1) (by omega)
    obtain ⟨z, hz, hz2⟩ := markI (reachR m n i s) (by omega) K (by omega)
    simp only [Option.bind_some, e0]
    rw [reach_spec m n i s _ (by omega)]
    simp only [Option.bind_some]
    rw [reach_impl m n i s]
    simp only [Option.bind_some]
    rw [eqI _ (by omega) _ (by omega)]
    simp only [Option.bind_some, if_true]
    rw [eqR m (by omega) _ (by omega)]
    simp only [Option.bind_some, if_true]
    rw [hy]
    simp only [Option.bind_some]
    rw [if_neg (by omega)]
    simp only [laws_FnExactReached.j0]
    rw [hz]
    simp only [Option.bind_some, Bool.not_true, if_false, Bool.false_eq_true]
    rw [hz2 _ (by omega)]
    simp only [Option.bind_some, if_true]
    rw [if_neg (by omega), ht _ (by omega)]
    simp only [Option.bind_some, e0]
    rw [reach_impl m n i s]
    simp only [Option.bind_some]
    rw [eqI _ (by omega) _ (by omega)]
    simp only [Option.bind_some, if_true]
    rw [if_neg (by omega)]
  · refine ⟨1, ?_⟩
    unfold laws_FnExactReached.f
    rw [szR l h.1]
    simp [hb]
end Go.Proofs.Ytgcgdjldhjajaaa.A
namespace Go.Proofs.Ytgcgdjldhjajaaa.Pure
theorem FnExactReached : A.Pure_FnExactReached := A.pure_Reached
end Go.Proofs.Ytgcgdjldhjajaaa.Pure
