-- Merged by bundle.py out of 1 printed and hand-written texts of this claim.
import Derived.Test.YtfjdlggdnnghhaaRows
import Derived.Test.YtfjdlggdnnghhaaZFnExactTimesJoina
import Derived.Test.YtfjdlggdnnghhaaZFnExactTimesJoind
import Derived.Test.YtfjdlggdnnghhaaZFnExactTimesJoine
import Derived.WalkKit
import Derived.ProofKit
import Derived.OpenShut
import Derived.ShutString
import Derived.ChangeOld
import Derived.Below
import Derived.SizedLaws
import Derived.Carry
/- The row of FnExactTimesJoin: for every input the law returns true and each argument reads behind the call as it read before. Conditions: none. -/
namespace Go.Proofs.Ytfjdlggdnnghhaa.fnExactTimesJoin
open Go.ChangeShapes Go.WideShapes Go.ChangeAt Go.RowKit Go.Proofs.Ytfjdlggdnnghhaa Go.Proofs.Ytfjdlggdnnghhaa.D1 Go.Proofs.YtfjdlggdnnghhaaW.PrintWords
open Go.ChangeMaps (open_string shut_string)
set_option linter.unusedVariables false
theorem own : ownKnob Try.prog.godebug = none := by kernel_rfl
theorem laidOut : laidOutB Try.prog = true := by kernel_rfl
theorem op0 : Opn.Opens Try.prog 24 (Kd.pair (Kd.int .i64) (Kd.pair (Kd.int .i64) (Kd.pair (Kd.int .i64) (Kd.pair (Kd.int .i64) (Kd.pair (Kd.int .i64) (Kd.slice 2 (Kd.int .i64))))))) (fun x => ((Lit.int .i64 x.1).wf = true ∧ ((Lit.int .i64 x.2.1).wf = true ∧ ((Lit.int .i64 x.2.2.1).wf = true ∧ ((Lit.int .i64 x.2.2.2.1).wf = true ∧ ((Lit.int .i64 x.2.2.2.2.1).wf = true ∧ (x.2.2.2.2.2.length ≤ maxLen ∧ ∀ q3 ∈ x.2.2.2.2.2, (Lit.int .i64 q3).wf = true))))))) := by
  have h := (Opn.o_struct Try.underlying24 rfl (by kernel_rfl) (Opn.f_cons (off2 := 1) rfl (by kernel_rfl) (by kernel_rfl) (Opn.o_int Try.underlying2) (Opn.f_cons (off2 := 2) rfl (by kernel_rfl) (by kernel_rfl) (Opn.o_int Try.underlying2) (Opn.f_cons (off2 := 3) rfl (by kernel_rfl) (by kernel_rfl) (Opn.o_int Try.underlying2) (Opn.f_cons (off2 := 4) rfl (by kernel_rfl) (by kernel_rfl) (Opn.o_int Try.underlying2) (Opn.f_cons (off2 := 5) rfl (by kernel_rfl) (by kernel_rfl) (Opn.o_int Try.underlying2) (Opn.f_one rfl (by kernel_rfl) (Opn.o_slice Try.underlying22 (by kernel_rfl) (Opn.o_int Try.underlying2)))))))))
  exact h
theorem op1 : Opn.Opens Try.prog 24 (Kd.pair (Kd.int .i64) (Kd.pair (Kd.int .i64) (Kd.pair (Kd.int .i64) (Kd.pair (Kd.int .i64) (Kd.pair (Kd.int .i64) (Kd.slice 2 (Kd.int .i64))))))) (fun x => ((Lit.int .i64 x.1).wf = true ∧ ((Lit.int .i64 x.2.1).wf = true ∧ ((Lit.int .i64 x.2.2.1).wf = true ∧ ((Lit.int .i64 x.2.2.2.1).wf = true ∧ ((Lit.int .i64 x.2.2.2.2.1).wf = true ∧ (x.2.2.2.2.2.length ≤ maxLen ∧ ∀ q4 ∈ x.2.2.2.2.2, (Lit.int .i64 q4).wf = true))))))) := by
  have h := (Opn.o_struct Try.underlying24 rfl (by kernel_rfl) (Opn.f_cons (off2 := 1) rfl (by kernel_rfl) (by kernel_rfl) (Opn.o_int Try.underlying2) (Opn.f_cons (off2 := 2) rfl (by kernel_rfl) (by kernel_rfl) (Opn.o_int Try.underlying2) (Opn.f_cons (off2 := 3) rfl (by kernel_rfl) (by kernel_rfl) (Opn.o_int Try.underlying2) (Opn.f_cons (off2 := 4) rfl (by kernel_rfl) (by kernel_rfl) (Opn.o_int Try.underlying2) (Opn.f_cons (off2 := 5) rfl (by kernel_rfl) (by kernel_rfl) (Opn.o_int Try.underlying2) (Opn.f_one rfl (by kernel_rfl) (Opn.o_slice Try.underlying22 (by kernel_rfl) (Opn.o_int Try.underlying2)))))))))
  exact h
set_option maxRecDepth 100000 in
set_option maxHeartbeats 2000000 in
theorem lifted (os : Os) (started : os.Started) (H : Type) (enc : TypeId × Value → H) :
    ReturnsInHanded {} Try.checked os 3 .any (Rows.fnExactTimesJoinSpec.pre6 enc Try.prog Try.f3 Rows.fnExactTimesJoinRow.domain false) (Rows.fnExactTimesJoinSpec.post enc Try.prog Try.f3 false true false false) := by
  refine returnsInHanded_of_change_sized (C := Try.checked) own started (by kernel_rfl) Try.func3
    (ChangeSpec.witness6 (enc := enc) (C := Try.checked) false ⟨#[], #[.agg #[.int .i64 0, .int .i64 0, .int .i64 0, .int .i64 0, .int .i64 0, .slice none 0 0], .agg #[.int .i64 0, .int .i64 0, .int .i64 0, .int .i64 0, .int .i64 0, .slice none 0 0]], []⟩ 8 (by kernel_rfl) (by kernel_rfl) (by kernel_rfl) (by kernel_rfl)) ?_
  intro W base args ds gs before hval0 hW hcnd hsz0 _
  have hsz : (DataW.weightsEach Try.prog (Try.f3.params.toList ++ Rows.fnExactTimesJoinSpec.plain.varTypes Try.prog) (ds ++ gs)).all (· ≤ reachBytes) = true := hsz0
  have hval : ∀ (j : Nat) t v, Try.f3.params[j]? = some t → args[j]? = some v → Value.okWide Try.prog W .any base t v := hval0
  have hW' := hW
  obtain ⟨p, q, hA0, hV, rfl, hfz, hnd⟩ := hW
  have hA : DataW.TrodAll enc Try.prog W 0 (fun _ => true) true Try.f3.params.toList args.toList ds p := hA0
  rw [Try.params3] at hA hval hsz
  obtain ⟨v0, vs0, d0, ds0, p0, q0, hargs, rfl, rfl, h0, r0⟩ := trodAll_cons hA
  obtain ⟨v1, vs1, d1, ds1, p1, q1, rfl, rfl, rfl, h1, r1⟩ := trodAll_cons r0
  obtain ⟨rfl, rfl, rfl⟩ := trodAll_nil r1
  obtain rfl : args = #[v0, v1] := by cases args; simp_all
  obtain ⟨rfl, rfl⟩ := trodVars_none hV
  have k0 := h0
  have lt0 : ∀ x ∈ p0, x.block < W.heap.size := by obtain ⟨m, hm⟩ := k0; exact DataW.trod_lt m _ _ _ hm
  obtain ⟨cs0, x0, rfl, hk0, hg0⟩ := Opn.val_struct op0 Try.underlying24 (hval 0 24 v0 rfl rfl) h0
  obtain ⟨a0_0, a0_1, a0_2, a0_3, a0_4, l0_5⟩ := x0
  obtain ⟨_, _, rfl, rfl, ⟨_, _, rfl, rfl, ⟨_, _, rfl, rfl, ⟨_, _, rfl, rfl, ⟨_, _, rfl, rfl, ⟨A0_5, c0_5, rfl, hc0_5, hr0_5⟩⟩⟩⟩⟩⟩ := hk0
  have k1 := h1
  have lt1 : ∀ x ∈ p1, x.block < W.heap.size := by obtain ⟨m, hm⟩ := k1; exact DataW.trod_lt m _ _ _ hm
  obtain ⟨cs1, x1, rfl, hk1, hg1⟩ := Opn.val_struct op1 Try.underlying24 (hval 1 24 v1 rfl rfl) h1
  obtain ⟨a1_0, a1_1, a1_2, a1_3, a1_4, l1_5⟩ := x1
  obtain ⟨_, _, rfl, rfl, ⟨_, _, rfl, rfl, ⟨_, _, rfl, rfl, ⟨_, _, rfl, rfl, ⟨_, _, rfl, rfl, ⟨A1_5, c1_5, rfl, hc1_5, hr1_5⟩⟩⟩⟩⟩⟩ := hk1
  clear hA0 hval0 hsz0 hsz
  have hp := Pure.FnExactTimesJoin a0_0 a0_1 a0_2 a0_3 a0_4 l0_5 a1_0 a1_1 a1_2 a1_3 a1_4 l1_5 hg0 hg1
  obtain ⟨k, hp⟩ := hp
  refine (laws_FnExactTimesJoin.calls k a0_0 a0_1 a0_2 a0_3 a0_4 A0_5 c0_5 l0_5 a1_0 a1_1 a1_2 a1_3 a1_4 A1_5 c1_5 l1_5 true W hr0_5 hc0_5 hr1_5 hc1_5 rfl hp).mono fun e W' ⟨he, bel⟩ => ?_
  subst he
  exact ⟨_, rfl, _, _, _, [], _, [], hW', trodAll_mk1 (shut_bool Try.underlying4 _), (trodAll_cons_mk (Below.trod laidOut (by kernel_rfl) (of_decide_eq_true (by kernel_rfl)) k0 bel lt0) (trodAll_cons_mk (Below.trod laidOut (by kernel_rfl) (of_decide_eq_true (by kernel_rfl)) k1 bel lt1) trodAll_mk0)), rfl, bel.frame _, fun h => by cases h⟩
theorem over : Rows.fnExactTimesJoinRow.holds Try.pinned (OpenSpec.ofChange Rows.fnExactTimesJoinSpec) :=
  OpenClaim.holds_of_wide 3 Try.f3 rfl rfl rfl rfl rfl rfl rfl ⟨rfl, rfl, rfl, rfl, rfl⟩ rfl rfl rfl rfl rfl (by kernel_rfl) Try.func3 (by kernel_rfl)
    (of_decide_eq_true (by kernel_rfl)) (by unfold Func.isWrapper; first | (rw [if_pos (by decide +kernel)]; kernel_rfl) | (rw [if_neg (by decide +kernel)]; exact ⟨rfl, rfl⟩))
    (fun os started H enc _ => lifted os started H enc)
theorem proved : Rows.FnExactTimesJoinSaid := over
#print axioms proved
end Go.Proofs.Ytfjdlggdnnghhaa.fnExactTimesJoin
namespace Go.Proofs.Ytfjdlggdnnghhaa
/-- The row, under a short name, for the claim. -/
theorem fnExactTimesJoin_holds : Rows.FnExactTimesJoinSaid := fnExactTimesJoin.proved
end Go.Proofs.Ytfjdlggdnnghhaa
