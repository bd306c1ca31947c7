-- Merged by bundle.py out of 1 printed and hand-written texts of this claim.
import Derived.Test.YtgcgdjldhjajaaaRows
import Derived.Test.YtgcgdjldhjajaaaZFnExactTimesOfa
import Derived.Test.YtgcgdjldhjajaaaZFnExactTimesOfd
import Derived.WalkKit
import Derived.ProofKit
import Derived.OpenShut
import Derived.ShutString
import Derived.ChangeOld
import Derived.Below
import Derived.SizedLaws
import Derived.Carry
/- The row of FnExactTimesOf: for every input the law returns true and each argument reads behind the call as it read before. Conditions: none. -/
namespace Go.Proofs.Ytgcgdjldhjajaaa.fnExactTimesOf
open Go.ChangeShapes Go.WideShapes Go.ChangeAt Go.RowKit Go.Proofs.Ytgcgdjldhjajaaa Go.Proofs.Ytgcgdjldhjajaaa.A Go.Proofs.YtgcgdjldhjajaaaW.PrintWords
open Go.ChangeMaps (open_string shut_string)
set_option linter.unusedVariables false
theorem own : ownKnob Try.prog.godebug = none := by kernel_rfl
theorem laidOut : laidOutB Try.prog = true := by kernel_rfl
theorem op0 : Opn.Opens Try.prog 22 (Kd.slice 80 k80) (fun x => (x.length ≤ maxLen ∧ ∀ q2 ∈ x, ((Lit.int .i64 q2.f0).wf = true ∧ ((Lit.int .i64 q2.f1).wf = true ∧ ((Lit.int .i64 q2.f2).wf = true ∧ ((Lit.int .i64 q2.f3).wf = true ∧ ((Lit.int .i64 q2.f4).wf = true ∧ (Lit.int .i64 q2.f5).wf = true))))))) := by
  have h := (Opn.o_slice Try.underlying22 (by kernel_rfl) (Opn.o_iso (fun x : S80 => (x.f0, x.f1, x.f2, x.f3, x.f4, x.f5)) (fun y => ⟨y.1, y.2.1, y.2.2.1, y.2.2.2.1, y.2.2.2.2.1, y.2.2.2.2.2⟩) (fun _ => rfl) (Opn.o_struct Try.underlying80 rfl (by kernel_rfl) (Opn.f_cons (off2 := 1) rfl (by kernel_rfl) (by kernel_rfl) (Opn.o_int Try.underlying2) (Opn.f_cons (off2 := 2) rfl (by kernel_rfl) (by kernel_rfl) (Opn.o_int Try.underlying2) (Opn.f_cons (off2 := 3) rfl (by kernel_rfl) (by kernel_rfl) (Opn.o_int Try.underlying2) (Opn.f_cons (off2 := 4) rfl (by kernel_rfl) (by kernel_rfl) (Opn.o_int Try.underlying2) (Opn.f_cons (off2 := 5) rfl (by kernel_rfl) (by kernel_rfl) (Opn.o_int Try.underlying2) (Opn.f_one rfl (by kernel_rfl) (Opn.o_int Try.underlying2))))))))))
  exact h
set_option maxRecDepth 100000 in
set_option maxHeartbeats 2000000 in
theorem lifted (os : Os) (started : os.Started) (H : Type) (enc : TypeId × Value → H) :
    ReturnsInHanded {} Try.checked os 10 .any (Rows.fnExactTimesOfSpec.pre6 enc Try.prog Try.f10 Rows.fnExactTimesOfRow.domain false) (Rows.fnExactTimesOfSpec.post enc Try.prog Try.f10 false true false false) := by
  refine returnsInHanded_of_change_sized (C := Try.checked) own started (by kernel_rfl) Try.func10
    (ChangeSpec.witness6 (enc := enc) (C := Try.checked) false ⟨#[], #[.slice none 0 0], []⟩ 8 (by kernel_rfl) (by kernel_rfl) (by kernel_rfl) (by kernel_rfl)) ?_
  intro W base args ds gs before hval0 hW hcnd hsz0 _
  have hsz : (DataW.weightsEach Try.prog (Try.f10.params.toList ++ Rows.fnExactTimesOfSpec.plain.varTypes Try.prog) (ds ++ gs)).all (· ≤ reachBytes) = true := hsz0
  have hval : ∀ (j : Nat) t v, Try.f10.params[j]? = some t → args[j]? = some v → Value.okWide Try.prog W .any base t v := hval0
  have hW' := hW
  obtain ⟨p, q, hA0, hV, rfl, hfz, hnd⟩ := hW
  have hA : DataW.TrodAll enc Try.prog W 0 (fun _ => true) true Try.f10.params.toList args.toList ds p := hA0
  rw [Try.params10] at hA hval hsz
  obtain ⟨v0, vs0, d0, ds0, p0, q0, hargs, rfl, rfl, h0, r0⟩ := trodAll_cons hA
  obtain ⟨rfl, rfl, rfl⟩ := trodAll_nil r0
  obtain rfl : args = #[v0] := by cases args; simp_all
  obtain ⟨rfl, rfl⟩ := trodVars_none hV
  have k0 := h0
  have lt0 : ∀ x ∈ p0, x.block < W.heap.size := by obtain ⟨m, hm⟩ := k0; exact DataW.trod_lt m _ _ _ hm
  obtain ⟨A0, c0, l0, rfl, hc0, hr0, hg0⟩ := Opn.val_slice op0 Try.underlying22 (hval 0 22 v0 rfl rfl) h0
  clear hA0 hval0 hsz0 hsz
  have hp := Pure.FnExactTimesOf l0 hg0
  obtain ⟨k, hp⟩ := hp
  refine (laws_FnExactTimesOf.calls k A0 c0 l0 true W hr0 hc0 rfl hp).mono fun e W' ⟨he, bel⟩ => ?_
  subst he
  exact ⟨_, rfl, _, _, _, [], _, [], hW', trodAll_mk1 (shut_bool Try.underlying4 _), (trodAll_cons_mk (Below.trod laidOut (by kernel_rfl) (of_decide_eq_true (by kernel_rfl)) k0 bel lt0) trodAll_mk0), rfl, bel.frame _, fun h => by cases h⟩
theorem over : Rows.fnExactTimesOfRow.holds Try.pinned (OpenSpec.ofChange Rows.fnExactTimesOfSpec) :=
  OpenClaim.holds_of_wide 10 Try.f10 rfl rfl rfl rfl rfl rfl rfl ⟨rfl, rfl, rfl, rfl, rfl⟩ rfl rfl rfl rfl rfl (by kernel_rfl) Try.func10 (by kernel_rfl)
    (of_decide_eq_true (by kernel_rfl)) (by unfold Func.isWrapper; first | (rw [if_pos (by decide +kernel)]; kernel_rfl) | (rw [if_neg (by decide +kernel)]; exact ⟨rfl, rfl⟩))
    (fun os started H enc _ => lifted os started H enc)
theorem proved : Rows.FnExactTimesOfSaid := over
#print axioms proved
end Go.Proofs.Ytgcgdjldhjajaaa.fnExactTimesOf
namespace Go.Proofs.Ytgcgdjldhjajaaa
/-- The row, under a short name, for the claim. -/
theorem fnExactTimesOf_holds : Rows.FnExactTimesOfSaid := fnExactTimesOf.proved
end Go.Proofs.Ytgcgdjldhjajaaa
