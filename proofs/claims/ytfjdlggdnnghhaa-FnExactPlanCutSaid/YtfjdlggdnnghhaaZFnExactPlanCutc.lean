-- Merged by bundle.py out of 8 printed and hand-written texts of this claim.
import Derived.Test.YtfjdlggdnnghhaaZFnExactPlanCuta
import Derived.Test.YtfjdlggdnnghhaaZFnExactPlanCutb
import Derived.RowKit
namespace Go.Proofs.Ytfjdlggdnnghhaa.A
open Go.RowKit Go.Proofs.YtfjdlggdnnghhaaW.PrintWords Go.Proofs.YtfjdlggdnnghhaaW.PrintLast Go.Proofs.YtfjdlggdnnghhaaW.PrintMore
attribute [local go_sem] max2_int min2_int max_two min_two max_three min_three max_four min_four   -- for this text's walks alone
set_option linter.unusedVariables false
set_option linter.unusedSimpArgs false

/-! ### laws_markItemS: function 33 -/
def laws_markItemS.l0 : Nat → List (S111) → Int → Int → Option (Int × (List (S111)))
  | 0, _, _, _ => none
  | k + 1, x0, x1, x5 => if x5 < (x0.length : Int) then (if 0 ≤ x5 then ((some (x0.set (x5 : Int).toNat (⟨x1, (rd_T111 x0 x5).f1, (rd_T111 x0 x5).f2, (rd_T111 x0 x5).f3⟩ : S111) : List (S111))).bind fun y101 => ((some (y101.set (x5 : Int).toNat (⟨(rd_T111 y101 x5).f0, wrap64 (x1 + 1), (rd_T111 y101 x5).f2, (rd_T111 y101 x5).f3⟩ : S111) : List (S111))).bind fun y102 => ((some (y102.set (x5 : Int).toNat (⟨(rd_T111 y102 x5).f0, (rd_T111 y102 x5).f1, wrap64 ((wrap64 (x1 + 1)) + 1), (rd_T111 y102 x5).f3⟩ : S111) : List (S111))).bind fun y103 => (laws_markItemS.l0 k (y103.set (x5 : Int).toNat (⟨(rd_T111 y103 x5).f0, (rd_T111 y103 x5).f1, (rd_T111 y103 x5).f2, wrap64 ((wrap64 ((wrap64 (x1 + 1)) + 1)) + 1)⟩ : S111)) (wrap64 ((wrap64 ((wrap64 ((wrap64 (x1 + 1)) + 1)) + 1)) + 1)) (wrap64 (x5 + 1)))))) else (none)) else (some (x1, x0))
def laws_markItemS.f (k : Nat) (l0 : List (S111)) (a1 : Int) : Option (Int × (List (S111))) := laws_markItemS.l0 k l0 a1 0
theorem laws_markItemS.mono_l : ∀ k, (∀ y0 y1 y2, LeO (laws_markItemS.l0 k y0 y1 y2) (laws_markItemS.l0 (k + 1) y0 y1 y2))
  | 0 => fun _ _ _ r h => by simp [laws_markItemS.l0] at h
  | k + 1 => by
    have ih0 := laws_markItemS.mono_l k
    · intro y0 y1 y2
      unfold laws_markItemS.l0
      repeat' first
      | (with_reducible exact ih0 _ _ _)
      | (with_reducible exact LeO.refl _)
      | (with_reducible exact LeO.none _)
      | (with_reducible refine LeO.ite ?_ ?_)
      | (with_reducible refine LeO.bind ?_ (fun _ => ?_))
      | exact ih0 _ _ _
      | exact LeO.none _
      | refine LeO.ite ?_ ?_
      | refine LeO.bind ?_ (fun _ => ?_)
theorem laws_markItemS.mono : ∀ a0 a1 k, LeO (laws_markItemS.f k a0 a1) (laws_markItemS.f (k + 1) a0 a1) := by
  intro a0 a1 k
  have ih0 := laws_markItemS.mono_l k
  unfold laws_markItemS.f
  repeat' first
      | (with_reducible exact ih0 _ _ _)
      | (with_reducible exact LeO.refl _)
      | (with_reducible exact LeO.none _)
      | (with_reducible refine LeO.ite ?_ ?_)
      | (with_reducible refine LeO.bind ?_ (fun _ => ?_))
      | exact ih0 _ _ _
      | exact LeO.none _
      | refine LeO.ite ?_ ?_
      | refine LeO.bind ?_ (fun _ => ?_)
set_option maxHeartbeats 8000000 in
set_option maxRecDepth 100000 in
theorem laws_markItemS.calls (k : Nat) (P0_ : Nat → Prop) (u9000_ : Value) (l0 : List (S111)) (a1 : Int) (r1 : Int) (r2 : List (S111)) (w0 w : World) (hB : Below w0.heap.size w0 w) (ho0 : Kd.R k111 111 w w0.heap.size P0_ u9000_ l0) (h : laws_markItemS.f k l0 a1 = some (r1, r2)) :
    Calls Try.prog 33 #[u9000_, .int .i64 a1] w fun e w' => e = .returned (.int .i64 r1) ∧ Kd.R k111 111 w' w0.heap.size (fun k_ => (P0_ k_ ∨ w.heap.size ≤ k_)) u9000_ r2 ∧ Below w0.heap.size w0 w' ∧ Kept w w' (fun k_ => P0_ k_) := by
  have HO0 := Aside0.mk (show Kd.R k111 111 w w0.heap.size (fun k_ => (P0_ k_ ∨ w.heap.size ≤ k_)) u9000_ l0 from Kd.R_mono ho0 (fun k_ hk => (.inl hk)))
  have HK := Aside0.mk (Kept.refl w (fun k_ => P0_ k_))
  have HW0 := Aside0.mk hB.size
  have HB := Aside0.mk hB
  clear hB
  have H : (laws_markItemS.l0 k l0 a1 0) = some (r1, r2) := h
  clear h
  have H' := Aside0.mk H
  clear H
  go_enter Try.func33, Try.ntmps33
  go_wp2
  go_loopg [1, 5] k (fun kq v1 v5 w' => ∃ (x0_1 : List (S111)) (x1_1 : Int) (x5_1 : Int), v1 = .int .i64 x1_1 ∧ v5 = .int .i64 x5_1 ∧ Aside0 (laws_markItemS.l0 kq x0_1 x1_1 x5_1 = some (r1, r2)) ∧ Aside0 (kq ≤ k) ∧ Aside0 (Kd.R k111 111 w' w0.heap.size (fun k_ => (P0_ k_ ∨ w.heap.size ≤ k_)) u9000_ x0_1) ∧ Aside0 (Kept w w' (fun k_ => P0_ k_)) ∧ Aside0 (Below w0.heap.size w0 w'))
  case atStart => exact ⟨(l0), (a1), (0), (by first | rfl | (simp; done) | (simp [*]; done)), (by first | rfl | (simp; done) | (simp [*]; done)), H', ⟨Nat.le_refl _⟩, ⟨by (with_reducible repeat (first | apply Kd.R_alloc | apply Kd.R_drewN | apply Kd.R_drew)); exact HO0.out⟩, ⟨by repeat (first | (with_reducible first | exact HK.out | apply Kept.alloc | apply Kept.drewN | apply Kept.drew) | exact HK.out)⟩, ⟨by repeat (first | (with_reducible first | exact HB.out | apply below_alloc | apply pw_below_drewN | apply below_drew1) | exact HB.out)⟩⟩
  case round =>
    clear H'
    try clear p2
    obtain ⟨x0_1, x1_1, x5_1, rfl, rfl, HA, HK1, HO_0, HK, HB⟩ := hrel
    cases gk with
    | zero => exact absurd HA.out (by simp [laws_markItemS.l0])
    | succ k1 =>
      have H := HA.out
      clear HA
      simp only [laws_markItemS.l0] at H
      by_cases c3 : x5_1 < (x0_1.length : Int)
      · rw [if_pos c3] at H
        have c3b0 : decide (x5_1 < (x0_1.length : Int)) = true := decide_eq_true c3
        clear c3
        by_cases c4 : 0 ≤ x5_1
        · rw [if_pos c4] at H
          have c4b0 : decide (0 ≤ x5_1) = true := decide_eq_true c4
          clear c4
          obtain ⟨y101, hy101⟩ : ∃ y_ : List (S111), y_ = (x0_1.set (x5_1 : Int).toNat (⟨x1_1, (rd_T111 x0_1 x5_1).f1, (rd_T111 x0_1 x5_1).f2, (rd_T111 x0_1 x5_1).f3⟩ : S111)) := ⟨_, rfl⟩
          replace H : ((some (y101.set (x5_1 : Int).toNat (⟨(rd_T111 y101 x5_1).f0, wrap64 (x1_1 + 1), (rd_T111 y101 x5_1).f2, (rd_T111 y101 x5_1).f3⟩ : S111) : List (S111))).bind fun y102 => ((some (y102.set (x5_1 : Int).toNat (⟨(rd_T111 y102 x5_1).f0, (rd_T111 y102 x5_1).f1, wrap64 ((wrap64 (x1_1 + 1)) + 1), (rd_T111 y102 x5_1).f3⟩ : S111) : List (S111))).bind fun y103 => (laws_markItemS.l0 k1 (y103.set (x5_1 : Int).toNat (⟨(rd_T111 y103 x5_1).f0, (rd_T111 y103 x5_1).f1, (rd_T111 y103 x5_1).f2, wrap64 ((wrap64 ((wrap64 (x1_1 + 1)) + 1)) + 1)⟩ : S111)) (wrap64 ((wrap64 ((wrap64 ((wrap64 (x1_1 + 1)) + 1)) + 1)) + 1)) (wrap64 (x5_1 + 1))))) = some (r1, r2) := by first | (rw [hy101]; with_reducible exact H) | (have H2_ := (Option.bind_some _ _).symm.trans H; rw [hy101]; with_reducible exact H2_) | (have H2_ := (Option.bind_some _ _).symm.trans H; with_reducible exact H2_) | with_reducible exact H | (rw [hy101]; exact H) | exact H
          have Ny101 := Aside0.mk hy101
          clear hy101
          obtain ⟨y102, hy102⟩ : ∃ y_ : List (S111), y_ = (y101.set (x5_1 : Int).toNat (⟨(rd_T111 y101 x5_1).f0, wrap64 (x1_1 + 1), (rd_T111 y101 x5_1).f2, (rd_T111 y101 x5_1).f3⟩ : S111)) := ⟨_, rfl⟩
          replace H : ((some (y102.set (x5_1 : Int).toNat (⟨(rd_T111 y102 x5_1).f0, (rd_T111 y102 x5_1).f1, wrap64 ((wrap64 (x1_1 + 1)) + 1), (rd_T111 y102 x5_1).f3⟩ : S111) : List (S111))).bind fun y103 => (laws_markItemS.l0 k1 (y103.set (x5_1 : Int).toNat (⟨(rd_T111 y103 x5_1).f0, (rd_T111 y103 x5_1).f1, (rd_T111 y103 x5_1).f2, wrap64 ((wrap64 ((wrap64 (x1_1 + 1)) + 1)) + 1)⟩ : S111)) (wrap64 ((wrap64 ((wrap64 ((wrap64 (x1_1 + 1)) + 1)) + 1)) + 1)) (wrap64 (x5_1 + 1)))) = some (r1, r2) := by first | (rw [hy102]; with_reducible exact H) | (have H2_ := (Option.bind_some _ _).symm.trans H; rw [hy102]; with_reducible exact H2_) | (have H2_ := (Option.bind_some _ _).symm.trans H; with_reducible exact H2_) | with_reducible exact H | (rw [hy102]; exact H) | exact H
          have Ny102 := Aside0.mk hy102
          clear hy102
          obtain ⟨y103, hy103⟩ : ∃ y_ : List (S111), y_ = (y102.set (x5_1 : Int).toNat (⟨(rd_T111 y102 x5_1).f0, (rd_T111 y102 x5_1).f1, wrap64 ((wrap64 (x1_1 + 1)) + 1), (rd_T111 y102 x5_1).f3⟩ : S111)) := ⟨_, rfl⟩
          replace H : (laws_markItemS.l0 k1 (y103.set (x5_1 : Int).toNat (⟨(rd_T111 y103 x5_1).f0, (rd_T111 y103 x5_1).f1, (rd_T111 y103 x5_1).f2, wrap64 ((wrap64 ((wrap64 (x1_1 + 1)) + 1)) + 1)⟩ : S111)) (wrap64 ((wrap64 ((wrap64 ((wrap64 (x1_1 + 1)) + 1)) + 1)) + 1)) (wrap64 (x5_1 + 1))) = some (r1, r2) := by first | (rw [hy103]; with_reducible exact H) | (have H2_ := (Option.bind_some _ _).symm.trans H; rw [hy103]; with_reducible exact H2_) | (have H2_ := (Option.bind_some _ _).symm.trans H; with_reducible exact H2_) | with_reducible exact H | (rw [hy103]; exact H) | exact H
          have Ny103 := Aside0.mk hy103
          clear hy103
          obtain ⟨y104, hy104⟩ : ∃ y_ : List (S111), y_ = (y103.set (x5_1 : Int).toNat (⟨(rd_T111 y103 x5_1).f0, (rd_T111 y103 x5_1).f1, (rd_T111 y103 x5_1).f2, wrap64 ((wrap64 ((wrap64 (x1_1 + 1)) + 1)) + 1)⟩ : S111)) := ⟨_, rfl⟩
          replace H : (laws_markItemS.l0 k1 y104 (wrap64 ((wrap64 ((wrap64 ((wrap64 (x1_1 + 1)) + 1)) + 1)) + 1)) (wrap64 (x5_1 + 1))) = some (r1, r2) := by first | (rw [hy104]; with_reducible exact H) | (have H2_ := (Option.bind_some _ _).symm.trans H; rw [hy104]; with_reducible exact H2_) | (have H2_ := (Option.bind_some _ _).symm.trans H; with_reducible exact H2_) | with_reducible exact H | (rw [hy104]; exact H) | exact H
          have Ny104 := Aside0.mk hy104
          clear hy104
          have H' := Aside0.mk H
          clear H
          obtain ⟨Ao9, co9, eo9⟩ := Kd.R_slice HO_0.out
          subst eo9
          have p5 : 0 ≤ (x5_1 : Int) := of_decide_eq_true (by first | (with_reducible assumption) | assumption)
          have q5 : (x5_1 : Int) < ((x0_1.length : Int) : Int) := of_decide_eq_true (by first | (with_reducible assumption) | assumption)
          obtain ⟨go5, co5, eo5, gb5, gl5, cl5, HG5⟩ := Kd.R_form HO_0.out (by omega)
          (first | cases eo5 | (injection eo5 with ea_ en_ ec_; (first | subst ea_ | (injection ea_ with ea_; subst ea_)); subst ec_; clear en_))
          have GB5 := Aside0.mk gb5
          have GG5 := Aside0.mk HG5
          clear gb5 gl5 HG5
          have HMgo5 := Aside0.mk (show (P0_ go5 ∨ w.heap.size ≤ go5) from (HO_0.out.1 _ rfl))
          obtain ⟨ce5, hcl5, hM5, hcc5, hfr5⟩ := Kd.R_elem HO_0.out z111 (x5_1 : Int) p5 q5
          obtain rfl := k111_openM hM5
          have hx5_0 : wr.cell? ⟨go5, (x5_1 : Int).toNat * 4, none⟩ = some (.int .i64 ((rd_T111 x0_1 x5_1).f0)) := hcc5 0 _ rfl
          have hx5_1 : wr.cell? ⟨go5, (x5_1 : Int).toNat * 4 + 1, none⟩ = some (.int .i64 ((rd_T111 x0_1 x5_1).f1)) := hcc5 1 _ rfl
          have hx5_2 : wr.cell? ⟨go5, (x5_1 : Int).toNat * 4 + 2, none⟩ = some (.int .i64 ((rd_T111 x0_1 x5_1).f2)) := hcc5 2 _ rfl
          have hx5_3 : wr.cell? ⟨go5, (x5_1 : Int).toNat * 4 + 3, none⟩ = some (.int .i64 ((rd_T111 x0_1 x5_1).f3)) := hcc5 3 _ rfl
          have hf5_0 : wr.frozen? ⟨go5, (x5_1 : Int).toNat * 4, none⟩ = false := hfr5 0
          have hf5_1 : wr.frozen? ⟨go5, (x5_1 : Int).toNat * 4 + 1, none⟩ = false := hfr5 1
          have hf5_2 : wr.frozen? ⟨go5, (x5_1 : Int).toNat * 4 + 2, none⟩ = false := hfr5 2
          have hf5_3 : wr.frozen? ⟨go5, (x5_1 : Int).toNat * 4 + 3, none⟩ = false := hfr5 3
          clear hcl5 hcc5 hfr5 hM5
          replace p5 := eq_true p5
          replace q5 := eq_true q5
          have HX10 := Aside0.mk (show Kd.R k111 111 wr w0.heap.size (fun k_ => (P0_ k_ ∨ w.heap.size ≤ k_)) (.slice (some ⟨go5, 0, none⟩) x0_1.length co9) x0_1 from (by (with_reducible repeat (first | apply Kd.R_alloc | apply Kd.R_drewN | apply Kd.R_drew)); exact HO_0.out))
          obtain ⟨ce10, hcl10, hM10, hcc10, hfr10⟩ := Kd.R_elem HX10.out z111 (x5_1 : Int) (of_decide_eq_true (by first | (with_reducible assumption) | assumption)) (by have h_ : (x5_1 : Int) < ((x0_1.length : Int) : Int) := of_decide_eq_true (by first | (with_reducible assumption) | assumption); first | exact h_ | (have e_ := (Kd.R_reads' HO_0.out).1; omega) | simpa using h_)
          obtain rfl := k111_openM hM10
          have HP10 := Kd.R_seg HX10.out (x5_1 : Int) (of_decide_eq_true (by first | (with_reducible assumption) | assumption)) (by have h_ : (x5_1 : Int) < ((x0_1.length : Int) : Int) := of_decide_eq_true (by first | (with_reducible assumption) | assumption); first | exact h_ | (have e_ := (Kd.R_reads' HO_0.out).1; omega) | simpa using h_) (seg := [.int .i64 x1_1]) (j := 0) hcl10 hcc10 (show 1 ≤ 4 from by decide) (x' := (⟨x1_1, (rd_T111 x0_1 x5_1).f1, (rd_T111 x0_1 x5_1).f2, (rd_T111 x0_1 x5_1).f3⟩ : S111)) (k111_mkM _ _ _ (⟨x1_1, (rd_T111 x0_1 x5_1).f1, (rd_T111 x0_1 x5_1).f2, (rd_T111 x0_1 x5_1).f3⟩ : S111) ) (fun _ hk => hk)
          have hx10_0 := hcc10 0 _ rfl
          (try simp only [show (k111).sz = 4 from rfl, Nat.mul_one, Nat.add_zero] at hx10_0)
          have hf10_0 := hfr10 0
          (try simp only [show (k111).sz = 4 from rfl, Nat.mul_one, Nat.add_zero] at hf10_0)
          clear hcl10 hcc10 hfr10 hM10
          go_wp2_with (first | ((with_reducible refine gate_store (t := 2) (p := 16) rfl ?_); refine store_event (t := 2) (p := 16) (v := ?vo_w11) (w1 := (wr.setCell ⟨go5, (x5_1 : Int).toNat * 4, none⟩ (.int .i64 x1_1))) ?hg ?ho ?hn ?hr ?_; (case ho => rfl); (case hg => rfl); (case hn => rfl); (case hr => first | (go_simp; done) | (go_simp; rfl)); intro w11 hw; have hg : wr.grownBy w11 (some go5) := (by rw [hw]; exact HP10.2); have hp_ : Kd.R k111 111 w11 w0.heap.size (fun k_ => (P0_ k_ ∨ w.heap.size ≤ k_)) (.slice (some ⟨go5, 0, none⟩) x0_1.length co9) y101 := (by rw [hw, Ny101.out]; exact HP10.1); clear HP10; have n0_ := Aside0.mk (hp_); have n1_ := Aside0.mk ((by rw [hw]; exact below_set (HB.out) GB5.out : Below w0.heap.size w0 w11)); have n2_ := Aside0.mk (Kept.of_grown (S := (fun k_ => P0_ k_)) hg (by repeat (first | (with_reducible first | exact HK.out | apply Kept.alloc | apply Kept.drewN | apply Kept.drew) | exact HK.out)) (fun k_ e_ => (HO_0.out.1 k_ e_))); clear HO_0; clear HB; clear HK; have HO_0 := n0_; have HB := n1_; have HK := n2_; clear n0_ n1_ n2_; clear hg hw hp_; have p6 : 0 ≤ (x5_1 : Int) := of_decide_eq_true (by first | (with_reducible assumption) | assumption); have q6 : (x5_1 : Int) < ((x0_1.length : Int) : Int) := of_decide_eq_true (by first | (with_reducible assumption) | assumption); obtain ⟨ce6, hcl6, hM6, hcc6, hfr6⟩ := Kd.R_elem HO_0.out z111 (x5_1 : Int) p6 q6; obtain rfl := k111_openM hM6; have hx6_0 : w11.cell? ⟨go5, (x5_1 : Int).toNat * 4, none⟩ = some (.int .i64 ((rd_T111 y101 x5_1).f0)) := hcc6 0 _ rfl; have hx6_1 : w11.cell? ⟨go5, (x5_1 : Int).toNat * 4 + 1, none⟩ = some (.int .i64 ((rd_T111 y101 x5_1).f1)) := hcc6 1 _ rfl; have hx6_2 : w11.cell? ⟨go5, (x5_1 : Int).toNat * 4 + 2, none⟩ = some (.int .i64 ((rd_T111 y101 x5_1).f2)) := hcc6 2 _ rfl; have hx6_3 : w11.cell? ⟨go5, (x5_1 : Int).toNat * 4 + 3, none⟩ = some (.int .i64 ((rd_T111 y101 x5_1).f3)) := hcc6 3 _ rfl; have hf6_0 : w11.frozen? ⟨go5, (x5_1 : Int).toNat * 4, none⟩ = false := hfr6 0; have hf6_1 : w11.frozen? ⟨go5, (x5_1 : Int).toNat * 4 + 1, none⟩ = false := hfr6 1; have hf6_2 : w11.frozen? ⟨go5, (x5_1 : Int).toNat * 4 + 2, none⟩ = false := hfr6 2; have hf6_3 : w11.frozen? ⟨go5, (x5_1 : Int).toNat * 4 + 3, none⟩ = false := hfr6 3; clear hcl6 hcc6 hfr6 hM6; replace p6 := eq_true p6; replace q6 := eq_true q6; have HX12 := Aside0.mk (show Kd.R k111 111 w11 w0.heap.size (fun k_ => (P0_ k_ ∨ w.heap.size ≤ k_)) (.slice (some ⟨go5, 0, none⟩) x0_1.length co9) y101 from (by (with_reducible repeat (first | apply Kd.R_alloc | apply Kd.R_drewN | apply Kd.R_drew)); exact HO_0.out)); obtain ⟨ce12, hcl12, hM12, hcc12, hfr12⟩ := Kd.R_elem HX12.out z111 (x5_1 : Int) (of_decide_eq_true (by first | (with_reducible assumption) | assumption)) (by have h_ : (x5_1 : Int) < ((x0_1.length : Int) : Int) := of_decide_eq_true (by first | (with_reducible assumption) | assumption); first | exact h_ | (have e_ := (Kd.R_reads' HO_0.out).1; omega) | simpa using h_); obtain rfl := k111_openM hM12; have HP12 := Kd.R_seg HX12.out (x5_1 : Int) (of_decide_eq_true (by first | (with_reducible assumption) | assumption)) (by have h_ : (x5_1 : Int) < ((x0_1.length : Int) : Int) := of_decide_eq_true (by first | (with_reducible assumption) | assumption); first | exact h_ | (have e_ := (Kd.R_reads' HO_0.out).1; omega) | simpa using h_) (seg := [.int .i64 (wrap64 (x1_1 + 1))]) (j := 1) hcl12 hcc12 (show 2 ≤ 4 from by decide) (x' := (⟨(rd_T111 y101 x5_1).f0, wrap64 (x1_1 + 1), (rd_T111 y101 x5_1).f2, (rd_T111 y101 x5_1).f3⟩ : S111)) (k111_mkM _ _ _ (⟨(rd_T111 y101 x5_1).f0, wrap64 (x1_1 + 1), (rd_T111 y101 x5_1).f2, (rd_T111 y101 x5_1).f3⟩ : S111) ) (fun _ hk => hk); have hx12_1 := hcc12 1 _ rfl; (try simp only [show (k111).sz = 4 from rfl, Nat.mul_one, Nat.add_zero] at hx12_1); have hf12_1 := hfr12 1; (try simp only [show (k111).sz = 4 from rfl, Nat.mul_one, Nat.add_zero] at hf12_1); clear hcl12 hcc12 hfr12 hM12) | ((with_reducible refine gate_store (t := 2) (p := 23) rfl ?_); refine store_event (t := 2) (p := 23) (v := ?vo_w13) (w1 := (w11.setCell ⟨go5, (x5_1 : Int).toNat * 4 + 1, none⟩ (.int .i64 (wrap64 (x1_1 + 1))))) ?hg ?ho ?hn ?hr ?_; (case ho => rfl); (case hg => rfl); (case hn => rfl); (case hr => first | (go_simp; done) | (go_simp; rfl)); intro w13 hw; have hg : w11.grownBy w13 (some go5) := (by rw [hw]; exact HP12.2); have hp_ : Kd.R k111 111 w13 w0.heap.size (fun k_ => (P0_ k_ ∨ w.heap.size ≤ k_)) (.slice (some ⟨go5, 0, none⟩) x0_1.length co9) y102 := (by rw [hw, Ny102.out]; exact HP12.1); clear HP12; have n0_ := Aside0.mk (hp_); have n1_ := Aside0.mk ((by rw [hw]; exact below_set (HB.out) GB5.out : Below w0.heap.size w0 w13)); have n2_ := Aside0.mk (Kept.of_grown (S := (fun k_ => P0_ k_)) hg (by repeat (first | (with_reducible first | exact HK.out | apply Kept.alloc | apply Kept.drewN | apply Kept.drew) | exact HK.out)) (fun k_ e_ => (HO_0.out.1 k_ e_))); clear HO_0; clear HB; clear HK; have HO_0 := n0_; have HB := n1_; have HK := n2_; clear n0_ n1_ n2_; clear hg hw hp_; have p7 : 0 ≤ (x5_1 : Int) := of_decide_eq_true (by first | (with_reducible assumption) | assumption); have q7 : (x5_1 : Int) < ((x0_1.length : Int) : Int) := of_decide_eq_true (by first | (with_reducible assumption) | assumption); obtain ⟨ce7, hcl7, hM7, hcc7, hfr7⟩ := Kd.R_elem HO_0.out z111 (x5_1 : Int) p7 q7; obtain rfl := k111_openM hM7; have hx7_0 : w13.cell? ⟨go5, (x5_1 : Int).toNat * 4, none⟩ = some (.int .i64 ((rd_T111 y102 x5_1).f0)) := hcc7 0 _ rfl; have hx7_1 : w13.cell? ⟨go5, (x5_1 : Int).toNat * 4 + 1, none⟩ = some (.int .i64 ((rd_T111 y102 x5_1).f1)) := hcc7 1 _ rfl; have hx7_2 : w13.cell? ⟨go5, (x5_1 : Int).toNat * 4 + 2, none⟩ = some (.int .i64 ((rd_T111 y102 x5_1).f2)) := hcc7 2 _ rfl; have hx7_3 : w13.cell? ⟨go5, (x5_1 : Int).toNat * 4 + 3, none⟩ = some (.int .i64 ((rd_T111 y102 x5_1).f3)) := hcc7 3 _ rfl; have hf7_0 : w13.frozen? ⟨go5, (x5_1 : Int).toNat * 4, none⟩ = false := hfr7 0; have hf7_1 : w13.frozen? ⟨go5, (x5_1 : Int).toNat * 4 + 1, none⟩ = false := hfr7 1; have hf7_2 : w13.frozen? ⟨go5, (x5_1 : Int).toNat * 4 + 2, none⟩ = false := hfr7 2; have hf7_3 : w13.frozen? ⟨go5, (x5_1 : Int).toNat * 4 + 3, none⟩ = false := hfr7 3; clear hcl7 hcc7 hfr7 hM7; replace p7 := eq_true p7; replace q7 := eq_true q7; have HX14 := Aside0.mk (show Kd.R k111 111 w13 w0.heap.size (fun k_ => (P0_ k_ ∨ w.heap.size ≤ k_)) (.slice (some ⟨go5, 0, none⟩) x0_1.length co9) y102 from (by (with_reducible repeat (first | apply Kd.R_alloc | apply Kd.R_drewN | apply Kd.R_drew)); exact HO_0.out)); obtain ⟨ce14, hcl14, hM14, hcc14, hfr14⟩ := Kd.R_elem HX14.out z111 (x5_1 : Int) (of_decide_eq_true (by first | (with_reducible assumption) | assumption)) (by have h_ : (x5_1 : Int) < ((x0_1.length : Int) : Int) := of_decide_eq_true (by first | (with_reducible assumption) | assumption); first | exact h_ | (have e_ := (Kd.R_reads' HO_0.out).1; omega) | simpa using h_); obtain rfl := k111_openM hM14; have HP14 := Kd.R_seg HX14.out (x5_1 : Int) (of_decide_eq_true (by first | (with_reducible assumption) | assumption)) (by have h_ : (x5_1 : Int) < ((x0_1.length : Int) : Int) := of_decide_eq_true (by first | (with_reducible assumption) | assumption); first | exact h_ | (have e_ := (Kd.R_reads' HO_0.out).1; omega) | simpa using h_) (seg := [.int .i64 (wrap64 ((wrap64 (x1_1 + 1)) + 1))]) (j := 2) hcl14 hcc14 (show 3 ≤ 4 from by decide) (x' := (⟨(rd_T111 y102 x5_1).f0, (rd_T111 y102 x5_1).f1, wrap64 ((wrap64 (x1_1 + 1)) + 1), (rd_T111 y102 x5_1).f3⟩ : S111)) (k111_mkM _ _ _ (⟨(rd_T111 y102 x5_1).f0, (rd_T111 y102 x5_1).f1, wrap64 ((wrap64 (x1_1 + 1)) + 1), (rd_T111 y102 x5_1).f3⟩ : S111) ) (fun _ hk => hk); have hx14_2 := hcc14 2 _ rfl; (try simp only [show (k111).sz = 4 from rfl, Nat.mul_one, Nat.add_zero] at hx14_2); have hf14_2 := hfr14 2; (try simp only [show (k111).sz = 4 from rfl, Nat.mul_one, Nat.add_zero] at hf14_2); clear hcl14 hcc14 hfr14 hM14) | ((with_reducible refine gate_store (t := 2) (p := 30) rfl ?_); refine store_event (t := 2) (p := 30) (v := ?vo_w15) (w1 := (w13.setCell ⟨go5, (x5_1 : Int).toNat * 4 + 2, none⟩ (.int .i64 (wrap64 ((wrap64 (x1_1 + 1)) + 1))))) ?hg ?ho ?hn ?hr ?_; (case ho => rfl); (case hg => rfl); (case hn => rfl); (case hr => first | (go_simp; done) | (go_simp; rfl)); intro w15 hw; have hg : w13.grownBy w15 (some go5) := (by rw [hw]; exact HP14.2); have hp_ : Kd.R k111 111 w15 w0.heap.size (fun k_ => (P0_ k_ ∨ w.heap.size ≤ k_)) (.slice (some ⟨go5, 0, none⟩) x0_1.length co9) y103 := (by rw [hw, Ny103.out]; exact HP14.1); clear HP14; have n0_ := Aside0.mk (hp_); have n1_ := Aside0.mk ((by rw [hw]; exact below_set (HB.out) GB5.out : Below w0.heap.size w0 w15)); have n2_ := Aside0.mk (Kept.of_grown (S := (fun k_ => P0_ k_)) hg (by repeat (first | (with_reducible first | exact HK.out | apply Kept.alloc | apply Kept.drewN | apply Kept.drew) | exact HK.out)) (fun k_ e_ => (HO_0.out.1 k_ e_))); clear HO_0; clear HB; clear HK; have HO_0 := n0_; have HB := n1_; have HK := n2_; clear n0_ n1_ n2_; clear hg hw hp_; have p8 : 0 ≤ (x5_1 : Int) := of_decide_eq_true (by first | (with_reducible assumption) | assumption); have q8 : (x5_1 : Int) < ((x0_1.length : Int) : Int) := of_decide_eq_true (by first | (with_reducible assumption) | assumption); obtain ⟨ce8, hcl8, hM8, hcc8, hfr8⟩ := Kd.R_elem HO_0.out z111 (x5_1 : Int) p8 q8; obtain rfl := k111_openM hM8; have hx8_0 : w15.cell? ⟨go5, (x5_1 : Int).toNat * 4, none⟩ = some (.int .i64 ((rd_T111 y103 x5_1).f0)) := hcc8 0 _ rfl; have hx8_1 : w15.cell? ⟨go5, (x5_1 : Int).toNat * 4 + 1, none⟩ = some (.int .i64 ((rd_T111 y103 x5_1).f1)) := hcc8 1 _ rfl; have hx8_2 : w15.cell? ⟨go5, (x5_1 : Int).toNat * 4 + 2, none⟩ = some (.int .i64 ((rd_T111 y103 x5_1).f2)) := hcc8 2 _ rfl; have hx8_3 : w15.cell? ⟨go5, (x5_1 : Int).toNat * 4 + 3, none⟩ = some (.int .i64 ((rd_T111 y103 x5_1).f3)) := hcc8 3 _ rfl; have hf8_0 : w15.frozen? ⟨go5, (x5_1 : Int).toNat * 4, none⟩ = false := hfr8 0; have hf8_1 : w15.frozen? ⟨go5, (x5_1 : Int).toNat * 4 + 1, none⟩ = false := hfr8 1; have hf8_2 : w15.frozen? ⟨go5, (x5_1 : Int).toNat * 4 + 2, none⟩ = false := hfr8 2; have hf8_3 : w15.frozen? ⟨go5, (x5_1 : Int).toNat * 4 + 3, none⟩ = false := hfr8 3; clear hcl8 hcc8 hfr8 hM8; replace p8 := eq_true p8; replace q8 := eq_true q8; have HX16 := Aside0.mk (show Kd.R k111 111 w15 w0.heap.size (fun k_ => (P0_ k_ ∨ w.heap.size ≤ k_)) (.slice (some ⟨go5, 0, none⟩) x0_1.length co9) y103 from (by (with_reducible repeat (first | apply Kd.R_alloc | apply Kd.R_drewN | apply Kd.R_drew)); exact HO_0.out)); obtain ⟨ce16, hcl16, hM16, hcc16, hfr16⟩ := Kd.R_elem HX16.out z111 (x5_1 : Int) (of_decide_eq_true (by first | (with_reducible assumption) | assumption)) (by have h_ : (x5_1 : Int) < ((x0_1.length : Int) : Int) := of_decide_eq_true (by first | (with_reducible assumption) | assumption); first | exact h_ | (have e_ := (Kd.R_reads' HO_0.out).1; omega) | simpa using h_); obtain rfl := k111_openM hM16; have HP16 := Kd.R_seg HX16.out (x5_1 : Int) (of_decide_eq_true (by first | (with_reducible assumption) | assumption)) (by have h_ : (x5_1 : Int) < ((x0_1.length : Int) : Int) := of_decide_eq_true (by first | (with_reducible assumption) | assumption); first | exact h_ | (have e_ := (Kd.R_reads' HO_0.out).1; omega) | simpa using h_) (seg := [.int .i64 (wrap64 ((wrap64 ((wrap64 (x1_1 + 1)) + 1)) + 1))]) (j := 3) hcl16 hcc16 (show 4 ≤ 4 from by decide) (x' := (⟨(rd_T111 y103 x5_1).f0, (rd_T111 y103 x5_1).f1, (rd_T111 y103 x5_1).f2, wrap64 ((wrap64 ((wrap64 (x1_1 + 1)) + 1)) + 1)⟩ : S111)) (k111_mkM _ _ _ (⟨(rd_T111 y103 x5_1).f0, (rd_T111 y103 x5_1).f1, (rd_T111 y103 x5_1).f2, wrap64 ((wrap64 ((wrap64 (x1_1 + 1)) + 1)) + 1)⟩ : S111) ) (fun _ hk => hk); have hx16_3 := hcc16 3 _ rfl; (try simp only [show (k111).sz = 4 from rfl, Nat.mul_one, Nat.add_zero] at hx16_3); have hf16_3 := hfr16 3; (try simp only [show (k111).sz = 4 from rfl, Nat.mul_one, Nat.add_zero] at hf16_3); clear hcl16 hcc16 hfr16 hM16) | ((with_reducible refine gate_store (t := 2) (p := 37) rfl ?_); refine store_event (t := 2) (p := 37) (v := ?vo_w17) (w1 := (w15.setCell ⟨go5, (x5_1 : Int).toNat * 4 + 3, none⟩ (.int .i64 (wrap64 ((wrap64 ((wrap64 (x1_1 + 1)) + 1)) + 1))))) ?hg ?ho ?hn ?hr ?_; (case ho => rfl); (case hg => rfl); (case hn => rfl); (case hr => first | (go_simp; done) | (go_simp; rfl)); intro w17 hw; have hg : w15.grownBy w17 (some go5) := (by rw [hw]; exact HP16.2); have hp_ : Kd.R k111 111 w17 w0.heap.size (fun k_ => (P0_ k_ ∨ w.heap.size ≤ k_)) (.slice (some ⟨go5, 0, none⟩) x0_1.length co9) y104 := (by rw [hw, Ny104.out]; exact HP16.1); clear HP16; have n0_ := Aside0.mk (hp_); have n1_ := Aside0.mk ((by rw [hw]; exact below_set (HB.out) GB5.out : Below w0.heap.size w0 w17)); have n2_ := Aside0.mk (Kept.of_grown (S := (fun k_ => P0_ k_)) hg (by repeat (first | (with_reducible first | exact HK.out | apply Kept.alloc | apply Kept.drewN | apply Kept.drew) | exact HK.out)) (fun k_ e_ => (HO_0.out.1 k_ e_))); clear HO_0; clear HB; clear HK; have HO_0 := n0_; have HB := n1_; have HK := n2_; clear n0_ n1_ n2_; clear hg hw hp_))
          go_roundg k1
          case measure => have := HK1.out; omega
          case rel => exact ⟨(y104), (wrap64 ((wrap64 ((wrap64 ((wrap64 (x1_1 + 1)) + 1)) + 1)) + 1)), (wrap64 (x5_1 + 1)), (by first | rfl | (simp; done) | (simp [*]; done)), (by first | rfl | (simp; done) | (simp [*]; done)), H', ⟨by have := HK1.out; omega⟩, ⟨by (with_reducible repeat (first | apply Kd.R_alloc | apply Kd.R_drewN | apply Kd.R_drew)); exact HO_0.out⟩, ⟨by repeat (first | (with_reducible first | exact HK.out | apply Kept.alloc | apply Kept.drewN | apply Kept.drew) | exact HK.out)⟩, ⟨by repeat (first | (with_reducible first | exact HB.out | apply below_alloc | apply pw_below_drewN | apply below_drew1) | exact HB.out)⟩⟩
        · rw [if_neg c4] at H
          exact absurd H (by simp)
      · rw [if_neg c3] at H
        have c3b0 : decide (x5_1 < (x0_1.length : Int)) = false := decide_eq_false c3
        clear c3
        simp only [Option.some.injEq, Prod.mk.injEq] at H
        obtain ⟨rfl, rfl⟩ := H
        obtain ⟨Ao18, co18, eo18⟩ := Kd.R_slice HO_0.out
        subst eo18
        go_wp2
        go_ret
        exact ⟨by first | rfl | (simp [errW_none, errW_some] <;> rfl) | (simp [*, errW_none, errW_some] <;> rfl), by (with_reducible repeat (first | apply Kd.R_alloc | apply Kd.R_drewN | apply Kd.R_drew)); exact HO_0.out, by repeat (first | (with_reducible first | exact HB.out | apply below_alloc | apply pw_below_drewN | apply below_drew1) | exact HB.out), by repeat (first | (with_reducible first | exact HK.out | apply Kept.alloc | apply Kept.drewN | apply Kept.drew) | exact HK.out)⟩

end Go.Proofs.Ytfjdlggdnnghhaa.A
namespace Go.Proofs.Ytfjdlggdnnghhaa.A
open Go.RowKit Go.Proofs.YtfjdlggdnnghhaaW.PrintWords Go.Proofs.YtfjdlggdnnghhaaW.PrintLast Go.Proofs.YtfjdlggdnnghhaaW.PrintMore
attribute [local go_sem] max2_int min2_int max_two min_two max_three min_three max_four min_four   -- for this text's walks alone
set_option linter.unusedVariables false
set_option linter.unusedSimpArgs false

/-! ### laws_markPlanOut: function 34 -/
def laws_markPlanOut.f (k : Nat) (l0_0 : List (S111)) (l0_1 : List (S111)) (a0_2 : Int) (a0_3 : Int) (a1 : Int) : Option (Int × (List (S111)) × (List (S111))) := (laws_markItemS.f k l0_0 a1).bind fun bt102 => ((laws_markItemS.f k l0_1 bt102.1).bind fun bt104 => (some (bt104.1, bt102.2, bt104.2)))
theorem laws_markPlanOut.mono : ∀ a0 a1 a2 a3 a4 k, LeO (laws_markPlanOut.f k a0 a1 a2 a3 a4) (laws_markPlanOut.f (k + 1) a0 a1 a2 a3 a4) := by
  intro a0 a1 a2 a3 a4 k
  unfold laws_markPlanOut.f
  repeat' first
      | (with_reducible exact laws_markItemS.mono _ _ _)
      | (with_reducible exact LeO.refl _)
      | (with_reducible exact LeO.none _)
      | (with_reducible refine LeO.ite ?_ ?_)
      | (with_reducible refine LeO.bind ?_ (fun _ => ?_))
      | exact laws_markItemS.mono _ _ _
      | exact LeO.none _
      | refine LeO.ite ?_ ?_
      | refine LeO.bind ?_ (fun _ => ?_)
set_option maxHeartbeats 8000000 in
set_option maxRecDepth 100000 in
theorem laws_markPlanOut.calls (k : Nat) (P0_0_ : Nat → Prop) (u9000_ : Value) (l0_0 : List (S111)) (P0_1_ : Nat → Prop) (u9001_ : Value) (l0_1 : List (S111)) (a0_2 : Int) (a0_3 : Int) (a1 : Int) (r1 : Int) (r2 : List (S111)) (r3 : List (S111)) (w0 w : World) (hB : Below w0.heap.size w0 w) (ho0_0 : Kd.R k111 111 w w0.heap.size P0_0_ u9000_ l0_0) (hp0_0_0_1 : ∀ k_, P0_0_ k_ → ¬ P0_1_ k_) (ho0_1 : Kd.R k111 111 w w0.heap.size P0_1_ u9001_ l0_1) (hp0_1_0_0 : ∀ k_, P0_1_ k_ → ¬ P0_0_ k_) (h : laws_markPlanOut.f k l0_0 l0_1 a0_2 a0_3 a1 = some (r1, r2, r3)) :
    Calls Try.prog 34 #[.agg #[u9000_, u9001_, .int .i64 a0_2, .int .i64 a0_3], .int .i64 a1] w fun e w' => e = .returned (.int .i64 r1) ∧ Kd.R k111 111 w' w0.heap.size (fun k_ => ((P0_0_ k_ ∨ P0_1_ k_) ∨ w.heap.size ≤ k_)) u9000_ r2 ∧ Kd.R k111 111 w' w0.heap.size (fun k_ => ((P0_0_ k_ ∨ P0_1_ k_) ∨ w.heap.size ≤ k_)) u9001_ r3 ∧ Below w0.heap.size w0 w' ∧ Kept w w' (fun k_ => P0_0_ k_ ∨ P0_1_ k_) := by
  have hu47 := Try.underlying47
  have HO0_0 := Aside0.mk (show Kd.R k111 111 w w0.heap.size (fun k_ => ((P0_0_ k_ ∨ P0_1_ k_) ∨ w.heap.size ≤ k_) ∧ some k_ ≠ (u9001_ : Value).ownBlock) u9000_ l0_0 from Kd.R_mono ho0_0 (fun k_ hk => ⟨(.inl (.inl hk)), fun e_ => hp0_0_0_1 k_ hk (ho0_1.1 k_ e_.symm)⟩))
  have HO0_1 := Aside0.mk (show Kd.R k111 111 w w0.heap.size (fun k_ => ((P0_0_ k_ ∨ P0_1_ k_) ∨ w.heap.size ≤ k_) ∧ some k_ ≠ (u9000_ : Value).ownBlock) u9001_ l0_1 from Kd.R_mono ho0_1 (fun k_ hk => ⟨(.inl (.inr hk)), fun e_ => hp0_1_0_0 k_ hk (ho0_0.1 k_ e_.symm)⟩))
  have HK := Aside0.mk (Kept.refl w (fun k_ => P0_0_ k_ ∨ P0_1_ k_))
  have HW0 := Aside0.mk hB.size
  have HB := Aside0.mk hB
  clear hB
  have H : ((laws_markItemS.f k l0_0 a1).bind fun bt102 => ((laws_markItemS.f k l0_1 bt102.1).bind fun bt104 => (some (bt104.1, bt102.2, bt104.2)))) = some (r1, r2, r3) := h
  clear h
  replace H := Option.bind_eq_some_iff.mp H
  obtain ⟨⟨t102, t103⟩, A30, H⟩ := H
  replace H : ((laws_markItemS.f k l0_1 t102).bind fun bt104 => (some (bt104.1, t103, bt104.2))) = some (r1, r2, r3) := H
  have A3 := Aside0.mk A30
  clear A30
  replace H := Option.bind_eq_some_iff.mp H
  obtain ⟨⟨t104, t105⟩, A40, H⟩ := H
  replace H : (some (t104, t103, t105)) = some (r1, r2, r3) := H
  have A4 := Aside0.mk A40
  clear A40
  simp only [Option.some.injEq, Prod.mk.injEq] at H
  obtain ⟨rfl, rfl, rfl⟩ := H
  obtain ⟨Ao5, co5, eo5⟩ := Kd.R_slice HO0_0.out
  subst eo5
  obtain ⟨Ao6, co6, eo6⟩ := Kd.R_slice HO0_1.out
  subst eo6
  go_enter Try.func34, Try.ntmps34
  go_wp2_with (first | ((with_reducible refine gate_dst (N := 2) rfl ?_); refine box_event ?hg (N := 2) ?hd (cs := #[.slice Ao5 l0_0.length co5, .slice Ao6 l0_1.length co6, .int .i64 a0_2, .int .i64 a0_3]) (t := 47) ?hr ?_; (case hd => rfl); (case hg => rfl); (case hr => first | (go_simp; done) | (go_simp; rfl)); intro gb101 hg w7 hbox hb; have n0_ := Aside0.mk (Kd.R_below (by (with_reducible repeat (first | apply Kd.R_alloc | apply Kd.R_drewN | apply Kd.R_drew)); exact HO0_0.out) hb); have n1_ := Aside0.mk (Kd.R_below (by (with_reducible repeat (first | apply Kd.R_alloc | apply Kd.R_drewN | apply Kd.R_drew)); exact HO0_1.out) hb); have n2_ := Aside0.mk (Kept.below (S := (fun k_ => P0_0_ k_ ∨ P0_1_ k_)) (by repeat (first | (with_reducible first | exact HK.out | apply Kept.alloc | apply Kept.drewN | apply Kept.drew) | exact HK.out)) hb); have n3_ := Aside0.mk (below_step (by repeat (first | (with_reducible first | exact HB.out | apply below_alloc | apply pw_below_drewN | apply below_drew1) | exact HB.out)) hb); have n4_ := Aside0.mk (hbox); have n5_ := Aside0.mk ((by rw [hg]; exact (by first | exact HK.out.1 | exact (show Kept w _ (fun k_ => P0_0_ k_ ∨ P0_1_ k_) from by repeat (first | (with_reducible first | exact HK.out | apply Kept.alloc | apply Kept.drewN | apply Kept.drew) | exact HK.out)).1) : w.heap.size ≤ gb101)); have n6_ := Aside0.mk ((by rw [hg]; exact (below_size (by repeat (first | (with_reducible first | exact HB.out | apply below_alloc | apply pw_below_drewN | apply below_drew1) | exact HB.out))) : w0.heap.size ≤ gb101)); clear HO0_0; clear HO0_1; clear HK; clear HB; have HO0_0 := n0_; have HO0_1 := n1_; have HK := n2_; have HB := n3_; have BK101 := n4_; have GW101 := n5_; have GE101 := n6_; clear n0_ n1_ n2_ n3_ n4_ n5_ n6_; clear hb hbox hg; have hcz8_0 : w7.cell? ⟨gb101, 0, none⟩ = some (.slice Ao5 l0_0.length co5) := (blk_cell BK101.out 0).trans rfl; have hcz8_1 : w7.cell? ⟨gb101, 1, none⟩ = some (.slice Ao6 l0_1.length co6) := (blk_cell BK101.out 1).trans rfl; have hcz8_2 : w7.cell? ⟨gb101, 2, none⟩ = some (.int .i64 a0_2) := (blk_cell BK101.out 2).trans rfl; have hcz8_3 : w7.cell? ⟨gb101, 3, none⟩ = some (.int .i64 a0_3) := (blk_cell BK101.out 3).trans rfl; have hfz8_0 := blk_frozen BK101.out 0; have hfz8_1 := blk_frozen BK101.out 1; have hfz8_2 := blk_frozen BK101.out 2; have hfz8_3 := blk_frozen BK101.out 3) | ((with_reducible refine gate_callee (f := 33) rfl ?_); refine goesL_ (some 8) rfl rfl Try.func33 (by kernel_rfl) rfl #[.slice Ao5 l0_0.length co5, .int .i64 a1] rfl (by (try simp only [List.map_toArray, List.map_cons, List.map_nil]); first | done | rfl | (simp only [List.length_drop, List.length_take]; rfl)) ?_; (with_reducible refine (laws_markItemS.calls k (fun k_ => some k_ = (.slice Ao5 l0_0.length co5 : Value).ownBlock) (.slice Ao5 l0_0.length co5) l0_0 a1 t102 t103 w0 _ ?side1 ?side2 A3.out).mono ?_); (case side1 => repeat (first | (with_reducible first | exact HB.out | apply below_alloc | apply pw_below_drewN | apply below_drew1 | refine below_set ?_ GE101.out) | exact HB.out)); (case side2 => exact Kd.R_tight rfl HO0_0.out); rintro e w9 ⟨rfl, hy0, hb, hkp⟩; refine ⟨_, rfl, ?_⟩; have n0_ := Aside0.mk (Kd.R_reok rfl hy0 (fun k_ e_ => HO0_0.out.1 k_ e_)); have n1_ := Aside0.mk (Kd.R_mono (ok' := fun k_ => ((P0_0_ k_ ∨ P0_1_ k_) ∨ w.heap.size ≤ k_) ∧ some k_ ≠ (.slice Ao5 l0_0.length co5 : Value).ownBlock) (Kd.R_keptB (HO0_1.out) hkp (fun k_ hk_ hs_ => (hk_.2) hs_)) (fun k_ hk_ => ⟨hk_.1.1, hk_.1.2⟩)); have n2_ := Aside0.mk (blk_kept (by (with_reducible repeat (first | refine blk_drewN ?_ _ | refine blk_drew ?_ | refine blk_alloc ?_ _)); exact BK101.out) hkp (fun hs_ => (fun e_ => (Kd.R_ne HO0_0.out BK101.out (by decide)) e_) hs_)); have n3_ := Aside0.mk (Kept.then_ (S := (fun k_ => P0_0_ k_ ∨ P0_1_ k_)) (by repeat (first | (with_reducible first | exact HK.out | apply Kept.alloc | apply Kept.drewN | apply Kept.drew | refine Kept.setCell ?_ (.inr GW101.out) _) | exact HK.out)) hkp (fun k_ hs_ => (fun e_ => (HO0_0.out.1 k_ e_.symm).1) hs_)); have n4_ := Aside0.mk (hb); clear HO0_0; clear HO0_1; clear BK101; clear HK; clear HB; have HO0_0 := n0_; have HO0_1 := n1_; have BK101 := n2_; have HK := n3_; have HB := n4_; clear n0_ n1_ n2_ n3_ n4_; (try clear hb); (try clear hkp); (try clear hy0); have hcz10_0 : w9.cell? ⟨gb101, 0, none⟩ = some (.slice Ao5 l0_0.length co5) := (blk_cell BK101.out 0).trans rfl; have hcz10_1 : w9.cell? ⟨gb101, 1, none⟩ = some (.slice Ao6 l0_1.length co6) := (blk_cell BK101.out 1).trans rfl; have hcz10_2 : w9.cell? ⟨gb101, 2, none⟩ = some (.int .i64 a0_2) := (blk_cell BK101.out 2).trans rfl; have hcz10_3 : w9.cell? ⟨gb101, 3, none⟩ = some (.int .i64 a0_3) := (blk_cell BK101.out 3).trans rfl; have hfz10_0 := blk_frozen BK101.out 0; have hfz10_1 := blk_frozen BK101.out 1; have hfz10_2 := blk_frozen BK101.out 2; have hfz10_3 := blk_frozen BK101.out 3) | ((with_reducible refine gate_callee (f := 33) rfl ?_); refine goesL_ (some 12) rfl rfl Try.func33 (by kernel_rfl) rfl #[.slice Ao6 l0_1.length co6, .int .i64 t102] rfl (by (try simp only [List.map_toArray, List.map_cons, List.map_nil]); first | done | rfl | (simp only [List.length_drop, List.length_take]; rfl)) ?_; (with_reducible refine (laws_markItemS.calls k (fun k_ => some k_ = (.slice Ao6 l0_1.length co6 : Value).ownBlock) (.slice Ao6 l0_1.length co6) l0_1 t102 t104 t105 w0 _ ?side1 ?side2 A4.out).mono ?_); (case side1 => repeat (first | (with_reducible first | exact HB.out | apply below_alloc | apply pw_below_drewN | apply below_drew1 | refine below_set ?_ GE101.out) | exact HB.out)); (case side2 => exact Kd.R_tight rfl HO0_1.out); rintro e w11 ⟨rfl, hy0, hb, hkp⟩; refine ⟨_, rfl, ?_⟩; have n0_ := Aside0.mk (Kd.R_mono (ok' := fun k_ => ((P0_0_ k_ ∨ P0_1_ k_) ∨ w.heap.size ≤ k_) ∧ some k_ ≠ (.slice Ao6 l0_1.length co6 : Value).ownBlock) (Kd.R_keptB (HO0_0.out) hkp (fun k_ hk_ hs_ => (hk_.2) hs_)) (fun k_ hk_ => ⟨hk_.1.1, hk_.1.2⟩)); have n1_ := Aside0.mk (Kd.R_reok rfl hy0 (fun k_ e_ => HO0_1.out.1 k_ e_)); have n2_ := Aside0.mk (blk_kept (by (with_reducible repeat (first | refine blk_drewN ?_ _ | refine blk_drew ?_ | refine blk_alloc ?_ _)); exact BK101.out) hkp (fun hs_ => (fun e_ => (Kd.R_ne HO0_1.out BK101.out (by decide)) e_) hs_)); have n3_ := Aside0.mk (Kept.then_ (S := (fun k_ => P0_0_ k_ ∨ P0_1_ k_)) (by repeat (first | (with_reducible first | exact HK.out | apply Kept.alloc | apply Kept.drewN | apply Kept.drew | refine Kept.setCell ?_ (.inr GW101.out) _) | exact HK.out)) hkp (fun k_ hs_ => (fun e_ => (HO0_1.out.1 k_ e_.symm).1) hs_)); have n4_ := Aside0.mk (hb); clear HO0_0; clear HO0_1; clear BK101; clear HK; clear HB; have HO0_0 := n0_; have HO0_1 := n1_; have BK101 := n2_; have HK := n3_; have HB := n4_; clear n0_ n1_ n2_ n3_ n4_; (try clear hb); (try clear hkp); (try clear hy0)))
  go_ret
  exact ⟨by first | rfl | (simp [errW_none, errW_some] <;> rfl) | (simp [*, errW_none, errW_some] <;> rfl), by (with_reducible repeat (first | apply Kd.R_alloc | apply Kd.R_drewN | apply Kd.R_drew)); exact Kd.R_mono HO0_0.out (fun _ hk => hk.1), by (with_reducible repeat (first | apply Kd.R_alloc | apply Kd.R_drewN | apply Kd.R_drew)); exact Kd.R_mono HO0_1.out (fun _ hk => hk.1), by repeat (first | (with_reducible first | exact HB.out | apply below_alloc | apply pw_below_drewN | apply below_drew1 | refine below_set ?_ GE101.out) | exact HB.out), by repeat (first | (with_reducible first | exact HK.out | apply Kept.alloc | apply Kept.drewN | apply Kept.drew | refine Kept.setCell ?_ (.inr GW101.out) _) | exact HK.out)⟩

end Go.Proofs.Ytfjdlggdnnghhaa.A
namespace Go.Proofs.Ytfjdlggdnnghhaa.A
open Go.RowKit Go.Proofs.YtfjdlggdnnghhaaW.PrintWords Go.Proofs.YtfjdlggdnnghhaaW.PrintLast Go.Proofs.YtfjdlggdnnghhaaW.PrintMore
attribute [local go_sem] max2_int min2_int max_two min_two max_three min_three max_four min_four   -- for this text's walks alone
set_option linter.unusedVariables false
set_option linter.unusedSimpArgs false

/-! ### laws_heldItemS: function 92 -/
def laws_heldItemS.l0 : Nat → List (S111) → Int → Int → Option (Int)
  | 0, _, _, _ => none
  | k + 1, x0, x1, x5 => if x5 < (x0.length : Int) then (if 0 ≤ x5 then (if ((rd_T111 x0 x5).f0) = x1 then (if ((rd_T111 x0 x5).f1) = (wrap64 (x1 + 1)) then (if ((rd_T111 x0 x5).f2) = (wrap64 ((wrap64 (x1 + 1)) + 1)) then (if ((rd_T111 x0 x5).f3) = (wrap64 ((wrap64 ((wrap64 (x1 + 1)) + 1)) + 1)) then (laws_heldItemS.l0 k x0 (wrap64 ((wrap64 ((wrap64 ((wrap64 (x1 + 1)) + 1)) + 1)) + 1)) (wrap64 (x5 + 1))) else (some (-1))) else (some (-1))) else (some (-1))) else (some (-1))) else (none)) else (some x1)
def laws_heldItemS.f (k : Nat) (l0 : List (S111)) (a1 : Int) : Option (Int) := laws_heldItemS.l0 k l0 a1 0
theorem laws_heldItemS.mono_l : ∀ k, (∀ y0 y1 y2, LeO (laws_heldItemS.l0 k y0 y1 y2) (laws_heldItemS.l0 (k + 1) y0 y1 y2))
  | 0 => fun _ _ _ r h => by simp [laws_heldItemS.l0] at h
  | k + 1 => by
    have ih0 := laws_heldItemS.mono_l k
    · intro y0 y1 y2
      unfold laws_heldItemS.l0
      repeat' first
      | (with_reducible exact ih0 _ _ _)
      | (with_reducible exact LeO.refl _)
      | (with_reducible exact LeO.none _)
      | (with_reducible refine LeO.ite ?_ ?_)
      | (with_reducible refine LeO.bind ?_ (fun _ => ?_))
      | exact ih0 _ _ _
      | exact LeO.none _
      | refine LeO.ite ?_ ?_
      | refine LeO.bind ?_ (fun _ => ?_)
theorem laws_heldItemS.mono : ∀ a0 a1 k, LeO (laws_heldItemS.f k a0 a1) (laws_heldItemS.f (k + 1) a0 a1) := by
  intro a0 a1 k
  have ih0 := laws_heldItemS.mono_l k
  unfold laws_heldItemS.f
  repeat' first
      | (with_reducible exact ih0 _ _ _)
      | (with_reducible exact LeO.refl _)
      | (with_reducible exact LeO.none _)
      | (with_reducible refine LeO.ite ?_ ?_)
      | (with_reducible refine LeO.bind ?_ (fun _ => ?_))
      | exact ih0 _ _ _
      | exact LeO.none _
      | refine LeO.ite ?_ ?_
      | refine LeO.bind ?_ (fun _ => ?_)
set_option maxHeartbeats 8000000 in
set_option maxRecDepth 100000 in
theorem laws_heldItemS.calls (k : Nat) (A0 : Option Addr) (c0 : Nat) (l0 : List (S111)) (a1 : Int) (r : Int) (w : World) (hr0 : Kd.C k111 w A0 l0.length l0) (hc0 : l0.length ≤ c0) (h : laws_heldItemS.f k l0 a1 = some r) :
    Calls Try.prog 92 #[.slice A0 l0.length c0, .int .i64 a1] w fun e w' => e = .returned (.int .i64 r) ∧ Drawn0 w w' := by
  have HR0 := Aside0.mk hr0
  have HC0 := Aside0.mk hc0
  clear hr0 hc0
  have H : (laws_heldItemS.l0 k l0 a1 0) = some r := h
  clear h
  have H' := Aside0.mk H
  clear H
  go_enter Try.func92, Try.ntmps92
  go_wp2
  go_loopg [1, 5] k (fun kq v1 v5 w' => ∃ (x1_1 : Int) (x5_1 : Int), v1 = .int .i64 x1_1 ∧ v5 = .int .i64 x5_1 ∧ Aside0 (laws_heldItemS.l0 kq l0 x1_1 x5_1 = some r) ∧ Aside0 (kq ≤ k) ∧ Drawn0 w w')
  case atStart => exact ⟨(a1), (0), (by first | rfl | (simp; done) | (simp [*]; done)), (by first | rfl | (simp; done) | (simp [*]; done)), H', ⟨Nat.le_refl _⟩, by repeat (first | exact Drawn0.refl _ | apply Drawn0.step)⟩
  case round =>
    clear H'
    try clear p2
    obtain ⟨x1_1, x5_1, rfl, rfl, HA, HK1, ⟨m1, rfl⟩⟩ := hrel
    cases gk with
    | zero => exact absurd HA.out (by simp [laws_heldItemS.l0])
    | succ k1 =>
      have H := HA.out
      clear HA
      simp only [laws_heldItemS.l0] at H
      by_cases c3 : x5_1 < (l0.length : Int)
      · rw [if_pos c3] at H
        have c3b0 : decide (x5_1 < (l0.length : Int)) = true := decide_eq_true c3
        clear c3
        by_cases c4 : 0 ≤ x5_1
        · rw [if_pos c4] at H
          have c4b0 : decide (0 ≤ x5_1) = true := decide_eq_true c4
          clear c4
          by_cases c5 : ((rd_T111 l0 x5_1).f0) = x1_1
          · rw [if_pos c5] at H
            have c5b0 : (((rd_T111 l0 x5_1).f0) == x1_1) = true := beq_iff_eq.mpr c5
            have c5b1 : (((rd_T111 l0 x5_1).f0) != x1_1) = false := bne_eq_false_iff_eq.mpr c5
            clear c5
            by_cases c6 : ((rd_T111 l0 x5_1).f1) = (wrap64 (x1_1 + 1))
            · rw [if_pos c6] at H
              have c6b0 : (((rd_T111 l0 x5_1).f1) == (wrap64 (x1_1 + 1))) = true := beq_iff_eq.mpr c6
              have c6b1 : (((rd_T111 l0 x5_1).f1) != (wrap64 (x1_1 + 1))) = false := bne_eq_false_iff_eq.mpr c6
              clear c6
              by_cases c7 : ((rd_T111 l0 x5_1).f2) = (wrap64 ((wrap64 (x1_1 + 1)) + 1))
              · rw [if_pos c7] at H
                have c7b0 : (((rd_T111 l0 x5_1).f2) == (wrap64 ((wrap64 (x1_1 + 1)) + 1))) = true := beq_iff_eq.mpr c7
                have c7b1 : (((rd_T111 l0 x5_1).f2) != (wrap64 ((wrap64 (x1_1 + 1)) + 1))) = false := bne_eq_false_iff_eq.mpr c7
                clear c7
                by_cases c8 : ((rd_T111 l0 x5_1).f3) = (wrap64 ((wrap64 ((wrap64 (x1_1 + 1)) + 1)) + 1))
                · rw [if_pos c8] at H
                  have c8b0 : (((rd_T111 l0 x5_1).f3) == (wrap64 ((wrap64 ((wrap64 (x1_1 + 1)) + 1)) + 1))) = true := beq_iff_eq.mpr c8
                  have c8b1 : (((rd_T111 l0 x5_1).f3) != (wrap64 ((wrap64 ((wrap64 (x1_1 + 1)) + 1)) + 1))) = false := bne_eq_false_iff_eq.mpr c8
                  clear c8
                  have H' := Aside0.mk H
                  clear H
                  have p101 : 0 ≤ (x5_1 : Int) := of_decide_eq_true (by first | (with_reducible assumption) | assumption)
                  have q101 : x5_1 < (l0.length : Int) := of_decide_eq_true (by first | (with_reducible assumption) | assumption)
                  obtain ⟨ad101, e101, hx101_0, hx101_1, hx101_2, hx101_3⟩ := at_T111 HR0.out x5_1 p101 q101
                  cases e101
                  replace p101 := eq_true p101
                  replace q101 := eq_true q101
                  have p102 : 0 ≤ (x5_1 : Int) := of_decide_eq_true (by first | (with_reducible assumption) | assumption)
                  have q102 : x5_1 < (l0.length : Int) := of_decide_eq_true (by first | (with_reducible assumption) | assumption)
                  obtain ⟨ad102, e102, hx102_0, hx102_1, hx102_2, hx102_3⟩ := at_T111 HR0.out x5_1 p102 q102
                  obtain rfl : ad101 = ad102 := (by injection e102)
                  replace p102 := eq_true p102
                  replace q102 := eq_true q102
                  have p103 : 0 ≤ (x5_1 : Int) := of_decide_eq_true (by first | (with_reducible assumption) | assumption)
                  have q103 : x5_1 < (l0.length : Int) := of_decide_eq_true (by first | (with_reducible assumption) | assumption)
                  obtain ⟨ad103, e103, hx103_0, hx103_1, hx103_2, hx103_3⟩ := at_T111 HR0.out x5_1 p103 q103
                  obtain rfl : ad101 = ad103 := (by injection e103)
                  replace p103 := eq_true p103
                  replace q103 := eq_true q103
                  have p104 : 0 ≤ (x5_1 : Int) := of_decide_eq_true (by first | (with_reducible assumption) | assumption)
                  have q104 : x5_1 < (l0.length : Int) := of_decide_eq_true (by first | (with_reducible assumption) | assumption)
                  obtain ⟨ad104, e104, hx104_0, hx104_1, hx104_2, hx104_3⟩ := at_T111 HR0.out x5_1 p104 q104
                  obtain rfl : ad101 = ad104 := (by injection e104)
                  replace p104 := eq_true p104
                  replace q104 := eq_true q104
                  go_wp2
                  go_roundg k1
                  case measure => have := HK1.out; omega
                  case rel => exact ⟨(wrap64 ((wrap64 ((wrap64 ((wrap64 (x1_1 + 1)) + 1)) + 1)) + 1)), (wrap64 (x5_1 + 1)), (by first | rfl | (simp; done) | (simp [*]; done)), (by first | rfl | (simp; done) | (simp [*]; done)), H', ⟨by have := HK1.out; omega⟩, by repeat (first | exact Drawn0.refl _ | apply Drawn0.step)⟩
                · rw [if_neg c8] at H
                  have c8b0 : (((rd_T111 l0 x5_1).f3) == (wrap64 ((wrap64 ((wrap64 (x1_1 + 1)) + 1)) + 1))) = false := beq_eq_false_iff_ne.mpr c8
                  have c8b1 : (((rd_T111 l0 x5_1).f3) != (wrap64 ((wrap64 ((wrap64 (x1_1 + 1)) + 1)) + 1))) = true := bne_iff_ne.mpr c8
                  obtain rfl := Option.some.inj H
                  have p101 : 0 ≤ (x5_1 : Int) := of_decide_eq_true (by first | (with_reducible assumption) | assumption)
                  have q101 : x5_1 < (l0.length : Int) := of_decide_eq_true (by first | (with_reducible assumption) | assumption)
                  obtain ⟨ad101, e101, hx101_0, hx101_1, hx101_2, hx101_3⟩ := at_T111 HR0.out x5_1 p101 q101
                  cases e101
                  replace p101 := eq_true p101
                  replace q101 := eq_true q101
                  have p102 : 0 ≤ (x5_1 : Int) := of_decide_eq_true (by first | (with_reducible assumption) | assumption)
                  have q102 : x5_1 < (l0.length : Int) := of_decide_eq_true (by first | (with_reducible assumption) | assumption)
                  obtain ⟨ad102, e102, hx102_0, hx102_1, hx102_2, hx102_3⟩ := at_T111 HR0.out x5_1 p102 q102
                  obtain rfl : ad101 = ad102 := (by injection e102)
                  replace p102 := eq_true p102
                  replace q102 := eq_true q102
                  have p103 : 0 ≤ (x5_1 : Int) := of_decide_eq_true (by first | (with_reducible assumption) | assumption)
                  have q103 : x5_1 < (l0.length : Int) := of_decide_eq_true (by first | (with_reducible assumption) | assumption)
                  obtain ⟨ad103, e103, hx103_0, hx103_1, hx103_2, hx103_3⟩ := at_T111 HR0.out x5_1 p103 q103
                  obtain rfl : ad101 = ad103 := (by injection e103)
                  replace p103 := eq_true p103
                  replace q103 := eq_true q103
                  have p104 : 0 ≤ (x5_1 : Int) := of_decide_eq_true (by first | (with_reducible assumption) | assumption)
                  have q104 : x5_1 < (l0.length : Int) := of_decide_eq_true (by first | (with_reducible assumption) | assumption)
                  obtain ⟨ad104, e104, hx104_0, hx104_1, hx104_2, hx104_3⟩ := at_T111 HR0.out x5_1 p104 q104
                  obtain rfl : ad101 = ad104 := (by injection e104)
                  replace p104 := eq_true p104
                  replace q104 := eq_true q104
                  go_wp2
                  go_ret
                  exact ⟨by first | rfl | (simp; done) | (simp [*]; done), by repeat (first | exact Drawn0.refl _ | apply Drawn0.step)⟩
              · rw [if_neg c7] at H
                have c7b0 : (((rd_T111 l0 x5_1).f2) == (wrap64 ((wrap64 (x1_1 + 1)) + 1))) = false := beq_eq_false_iff_ne.mpr c7
                have c7b1 : (((rd_T111 l0 x5_1).f2) != (wrap64 ((wrap64 (x1_1 + 1)) + 1))) = true := bne_iff_ne.mpr c7
                obtain rfl := Option.some.inj H
                have p101 : 0 ≤ (x5_1 : Int) := of_decide_eq_true (by first | (with_reducible assumption) | assumption)
                have q101 : x5_1 < (l0.length : Int) := of_decide_eq_true (by first | (with_reducible assumption) | assumption)
                obtain ⟨ad101, e101, hx101_0, hx101_1, hx101_2, hx101_3⟩ := at_T111 HR0.out x5_1 p101 q101
                cases e101
                replace p101 := eq_true p101
                replace q101 := eq_true q101
                have p102 : 0 ≤ (x5_1 : Int) := of_decide_eq_true (by first | (with_reducible assumption) | assumption)
                have q102 : x5_1 < (l0.length : Int) := of_decide_eq_true (by first | (with_reducible assumption) | assumption)
                obtain ⟨ad102, e102, hx102_0, hx102_1, hx102_2, hx102_3⟩ := at_T111 HR0.out x5_1 p102 q102
                obtain rfl : ad101 = ad102 := (by injection e102)
                replace p102 := eq_true p102
                replace q102 := eq_true q102
                have p103 : 0 ≤ (x5_1 : Int) := of_decide_eq_true (by first | (with_reducible assumption) | assumption)
                have q103 : x5_1 < (l0.length : Int) := of_decide_eq_true (by first | (with_reducible assumption) | assumption)
                obtain ⟨ad103, e103, hx103_0, hx103_1, hx103_2, hx103_3⟩ := at_T111 HR0.out x5_1 p103 q103
                obtain rfl : ad101 = ad103 := (by injection e103)
                replace p103 := eq_true p103
                replace q103 := eq_true q103
                go_wp2
                go_ret
                exact ⟨by first | rfl | (simp; done) | (simp [*]; done), by repeat (first | exact Drawn0.refl _ | apply Drawn0.step)⟩
            · rw [if_neg c6] at H
              have c6b0 : (((rd_T111 l0 x5_1).f1) == (wrap64 (x1_1 + 1))) = false := beq_eq_false_iff_ne.mpr c6
              have c6b1 : (((rd_T111 l0 x5_1).f1) != (wrap64 (x1_1 + 1))) = true := bne_iff_ne.mpr c6
              obtain rfl := Option.some.inj H
              have p101 : 0 ≤ (x5_1 : Int) := of_decide_eq_true (by first | (with_reducible assumption) | assumption)
              have q101 : x5_1 < (l0.length : Int) := of_decide_eq_true (by first | (with_reducible assumption) | assumption)
              obtain ⟨ad101, e101, hx101_0, hx101_1, hx101_2, hx101_3⟩ := at_T111 HR0.out x5_1 p101 q101
              cases e101
              replace p101 := eq_true p101
              replace q101 := eq_true q101
              have p102 : 0 ≤ (x5_1 : Int) := of_decide_eq_true (by first | (with_reducible assumption) | assumption)
              have q102 : x5_1 < (l0.length : Int) := of_decide_eq_true (by first | (with_reducible assumption) | assumption)
              obtain ⟨ad102, e102, hx102_0, hx102_1, hx102_2, hx102_3⟩ := at_T111 HR0.out x5_1 p102 q102
              obtain rfl : ad101 = ad102 := (by injection e102)
              replace p102 := eq_true p102
              replace q102 := eq_true q102
              go_wp2
              go_ret
              exact ⟨by first | rfl | (simp; done) | (simp [*]; done), by repeat (first | exact Drawn0.refl _ | apply Drawn0.step)⟩
          · rw [if_neg c5] at H
            have c5b0 : (((rd_T111 l0 x5_1).f0) == x1_1) = false := beq_eq_false_iff_ne.mpr c5
            have c5b1 : (((rd_T111 l0 x5_1).f0) != x1_1) = true := bne_iff_ne.mpr c5
            obtain rfl := Option.some.inj H
            have p101 : 0 ≤ (x5_1 : Int) := of_decide_eq_true (by first | (with_reducible assumption) | assumption)
            have q101 : x5_1 < (l0.length : Int) := of_decide_eq_true (by first | (with_reducible assumption) | assumption)
            obtain ⟨ad101, e101, hx101_0, hx101_1, hx101_2, hx101_3⟩ := at_T111 HR0.out x5_1 p101 q101
            cases e101
            replace p101 := eq_true p101
            replace q101 := eq_true q101
            go_wp2
            go_ret
            exact ⟨by first | rfl | (simp; done) | (simp [*]; done), by repeat (first | exact Drawn0.refl _ | apply Drawn0.step)⟩
        · rw [if_neg c4] at H
          exact absurd H (by simp)
      · rw [if_neg c3] at H
        have c3b0 : decide (x5_1 < (l0.length : Int)) = false := decide_eq_false c3
        clear c3
        obtain rfl := Option.some.inj H
        go_wp2
        go_ret
        exact ⟨by first | rfl | (simp; done) | (simp [*]; done), by repeat (first | exact Drawn0.refl _ | apply Drawn0.step)⟩

end Go.Proofs.Ytfjdlggdnnghhaa.A
namespace Go.Proofs.Ytfjdlggdnnghhaa.A
open Go.RowKit Go.Proofs.YtfjdlggdnnghhaaW.PrintWords Go.Proofs.YtfjdlggdnnghhaaW.PrintLast Go.Proofs.YtfjdlggdnnghhaaW.PrintMore
attribute [local go_sem] max2_int min2_int max_two min_two max_three min_three max_four min_four   -- for this text's walks alone
set_option linter.unusedVariables false
set_option linter.unusedSimpArgs false

/-! ### laws_heldPlanOut: function 35 -/
def laws_heldPlanOut.f (k : Nat) (l0_0 : List (S111)) (l0_1 : List (S111)) (a0_2 : Int) (a0_3 : Int) (a1 : Int) : Option (Int) := (laws_heldItemS.f k l0_0 a1).bind fun t102 => (if t102 < 0 then (some (-1)) else ((laws_heldItemS.f k l0_1 t102).bind fun t103 => (if t103 < 0 then (some (-1)) else (some t103))))
theorem laws_heldPlanOut.mono : ∀ a0 a1 a2 a3 a4 k, LeO (laws_heldPlanOut.f k a0 a1 a2 a3 a4) (laws_heldPlanOut.f (k + 1) a0 a1 a2 a3 a4) := by
  intro a0 a1 a2 a3 a4 k
  unfold laws_heldPlanOut.f
  repeat' first
      | (with_reducible exact laws_heldItemS.mono _ _ _)
      | (with_reducible exact LeO.refl _)
      | (with_reducible exact LeO.none _)
      | (with_reducible refine LeO.ite ?_ ?_)
      | (with_reducible refine LeO.bind ?_ (fun _ => ?_))
      | exact laws_heldItemS.mono _ _ _
      | exact LeO.none _
      | refine LeO.ite ?_ ?_
      | refine LeO.bind ?_ (fun _ => ?_)
set_option maxHeartbeats 8000000 in
set_option maxRecDepth 100000 in
theorem laws_heldPlanOut.calls (k : Nat) (A0_0 : Option Addr) (c0_0 : Nat) (l0_0 : List (S111)) (A0_1 : Option Addr) (c0_1 : Nat) (l0_1 : List (S111)) (a0_2 : Int) (a0_3 : Int) (a1 : Int) (r : Int) (w : World) (hr0_0 : Kd.C k111 w A0_0 l0_0.length l0_0) (hc0_0 : l0_0.length ≤ c0_0) (hr0_1 : Kd.C k111 w A0_1 l0_1.length l0_1) (hc0_1 : l0_1.length ≤ c0_1) (h : laws_heldPlanOut.f k l0_0 l0_1 a0_2 a0_3 a1 = some r) :
    Calls Try.prog 35 #[.agg #[.slice A0_0 l0_0.length c0_0, .slice A0_1 l0_1.length c0_1, .int .i64 a0_2, .int .i64 a0_3], .int .i64 a1] w fun e w' => e = .returned (.int .i64 r) ∧ Below w.heap.size w w' := by
  have hu47 := Try.underlying47
  have HR0_0 := Aside0.mk hr0_0
  have HC0_0 := Aside0.mk hc0_0
  clear hr0_0 hc0_0
  have HR0_1 := Aside0.mk hr0_1
  have HC0_1 := Aside0.mk hc0_1
  clear hr0_1 hc0_1
  have HB := Aside0.mk (Below.refl w.heap.size w)
  have H : ((laws_heldItemS.f k l0_0 a1).bind fun t102 => (if t102 < 0 then (some (-1)) else ((laws_heldItemS.f k l0_1 t102).bind fun t103 => (if t103 < 0 then (some (-1)) else (some t103))))) = some r := h
  clear h
  replace H := Option.bind_eq_some_iff.mp H
  obtain ⟨t102, A30, H⟩ := H
  replace H : (if t102 < 0 then (some (-1)) else ((laws_heldItemS.f k l0_1 t102).bind fun t103 => (if t103 < 0 then (some (-1)) else (some t103)))) = some r := H
  have A3 := Aside0.mk A30
  clear A30
  by_cases c4 : t102 < 0
  · rw [if_pos c4] at H
    have c4b0 : decide (t102 < 0) = true := decide_eq_true c4
    clear c4
    obtain rfl := Option.some.inj H
    go_enter Try.func35, Try.ntmps35
    go_wp2_with (first | ((with_reducible refine gate_dst (N := 2) rfl ?_); refine box_event ?hg (N := 2) ?hd (cs := #[.slice A0_0 l0_0.length c0_0, .slice A0_1 l0_1.length c0_1, .int .i64 a0_2, .int .i64 a0_3]) (t := 47) ?hr ?_; (case hd => rfl); (case hg => rfl); (case hr => first | (go_simp; done) | (go_simp; rfl)); intro gb101 hg w5 hbox hb; have n0_ := Aside0.mk (below_step (by repeat (first | (with_reducible first | exact HB.out | apply below_alloc | apply pw_below_drewN | apply below_drew1) | exact HB.out)) hb); have n1_ := Aside0.mk (hbox); have n2_ := Aside0.mk ((by rw [hg]; exact (below_size (by repeat (first | (with_reducible first | exact HB.out | apply below_alloc | apply pw_below_drewN | apply below_drew1) | exact HB.out))) : w.heap.size ≤ gb101)); have n3_ := Aside0.mk ((by rw [hg]; exact (below_size (by repeat (first | (with_reducible first | exact HB.out | apply below_alloc | apply pw_below_drewN | apply below_drew1) | exact HB.out))) : w.heap.size ≤ gb101)); clear HB; have HB := n0_; have BK101 := n1_; have GW101 := n2_; have GE101 := n3_; clear n0_ n1_ n2_ n3_; clear hb hbox hg; have hcz6_0 : w5.cell? ⟨gb101, 0, none⟩ = some (.slice A0_0 l0_0.length c0_0) := (blk_cell BK101.out 0).trans rfl; have hcz6_1 : w5.cell? ⟨gb101, 1, none⟩ = some (.slice A0_1 l0_1.length c0_1) := (blk_cell BK101.out 1).trans rfl; have hcz6_2 : w5.cell? ⟨gb101, 2, none⟩ = some (.int .i64 a0_2) := (blk_cell BK101.out 2).trans rfl; have hcz6_3 : w5.cell? ⟨gb101, 3, none⟩ = some (.int .i64 a0_3) := (blk_cell BK101.out 3).trans rfl; have hfz6_0 := blk_frozen BK101.out 0; have hfz6_1 := blk_frozen BK101.out 1; have hfz6_2 := blk_frozen BK101.out 2; have hfz6_3 := blk_frozen BK101.out 3) | ((with_reducible refine gate_callee (f := 92) rfl ?_); refine goesL_ (some 8) rfl rfl Try.func92 (by kernel_rfl) rfl #[.slice A0_0 l0_0.length c0_0, .int .i64 a1] rfl (by (try simp only [List.map_toArray, List.map_cons, List.map_nil]); first | done | rfl | (simp only [List.length_drop, List.length_take]; rfl)) ?_; (with_reducible refine (laws_heldItemS.calls k _ _ l0_0 a1 t102 _ ?side1 ?side2 A3.out).mono ?_); (case side1 => repeat (first | exact (Kd.C_below HR0_0.out HB.out) | (with_reducible refine Kd.C_alloc ?_ _) | (with_reducible refine Kd.C_drewN ?_ _) | (with_reducible refine Kd.C_drew ?_))); (case side2 => exact HC0_0.out); rintro e w' ⟨rfl, ⟨nd, rfl⟩⟩; refine ⟨_, rfl, ?_⟩))
    go_ret
    exact ⟨by first | rfl | (simp [errW_none, errW_some] <;> rfl) | (simp [*, errW_none, errW_some] <;> rfl), by repeat (first | (with_reducible first | exact HB.out | apply below_alloc | apply pw_below_drewN | apply below_drew1 | refine below_set ?_ GE101.out) | exact HB.out)⟩
  · rw [if_neg c4] at H
    have c4b0 : decide (t102 < 0) = false := decide_eq_false c4
    clear c4
    replace H := Option.bind_eq_some_iff.mp H
    obtain ⟨t103, A70, H⟩ := H
    replace H : (if t103 < 0 then (some (-1)) else (some t103)) = some r := H
    have A7 := Aside0.mk A70
    clear A70
    by_cases c8 : t103 < 0
    · rw [if_pos c8] at H
      have c8b0 : decide (t103 < 0) = true := decide_eq_true c8
      clear c8
      obtain rfl := Option.some.inj H
      go_enter Try.func35, Try.ntmps35
      go_wp2_with (first | ((with_reducible refine gate_dst (N := 2) rfl ?_); refine box_event ?hg (N := 2) ?hd (cs := #[.slice A0_0 l0_0.length c0_0, .slice A0_1 l0_1.length c0_1, .int .i64 a0_2, .int .i64 a0_3]) (t := 47) ?hr ?_; (case hd => rfl); (case hg => rfl); (case hr => first | (go_simp; done) | (go_simp; rfl)); intro gb101 hg w9 hbox hb; have n0_ := Aside0.mk (below_step (by repeat (first | (with_reducible first | exact HB.out | apply below_alloc | apply pw_below_drewN | apply below_drew1) | exact HB.out)) hb); have n1_ := Aside0.mk (hbox); have n2_ := Aside0.mk ((by rw [hg]; exact (below_size (by repeat (first | (with_reducible first | exact HB.out | apply below_alloc | apply pw_below_drewN | apply below_drew1) | exact HB.out))) : w.heap.size ≤ gb101)); have n3_ := Aside0.mk ((by rw [hg]; exact (below_size (by repeat (first | (with_reducible first | exact HB.out | apply below_alloc | apply pw_below_drewN | apply below_drew1) | exact HB.out))) : w.heap.size ≤ gb101)); clear HB; have HB := n0_; have BK101 := n1_; have GW101 := n2_; have GE101 := n3_; clear n0_ n1_ n2_ n3_; clear hb hbox hg; have hcz10_0 : w9.cell? ⟨gb101, 0, none⟩ = some (.slice A0_0 l0_0.length c0_0) := (blk_cell BK101.out 0).trans rfl; have hcz10_1 : w9.cell? ⟨gb101, 1, none⟩ = some (.slice A0_1 l0_1.length c0_1) := (blk_cell BK101.out 1).trans rfl; have hcz10_2 : w9.cell? ⟨gb101, 2, none⟩ = some (.int .i64 a0_2) := (blk_cell BK101.out 2).trans rfl; have hcz10_3 : w9.cell? ⟨gb101, 3, none⟩ = some (.int .i64 a0_3) := (blk_cell BK101.out 3).trans rfl; have hfz10_0 := blk_frozen BK101.out 0; have hfz10_1 := blk_frozen BK101.out 1; have hfz10_2 := blk_frozen BK101.out 2; have hfz10_3 := blk_frozen BK101.out 3) | ((with_reducible refine gate_callee (f := 92) rfl ?_); refine goesL_ (some 8) rfl rfl Try.func92 (by kernel_rfl) rfl #[.slice A0_0 l0_0.length c0_0, .int .i64 a1] rfl (by (try simp only [List.map_toArray, List.map_cons, List.map_nil]); first | done | rfl | (simp only [List.length_drop, List.length_take]; rfl)) ?_; (with_reducible refine (laws_heldItemS.calls k _ _ l0_0 a1 t102 _ ?side1 ?side2 A3.out).mono ?_); (case side1 => repeat (first | exact (Kd.C_below HR0_0.out HB.out) | (with_reducible refine Kd.C_alloc ?_ _) | (with_reducible refine Kd.C_drewN ?_ _) | (with_reducible refine Kd.C_drew ?_))); (case side2 => exact HC0_0.out); rintro e w' ⟨rfl, ⟨nd, rfl⟩⟩; refine ⟨_, rfl, ?_⟩) | ((with_reducible refine gate_callee (f := 92) rfl ?_); refine goesL_ (some 14) rfl rfl Try.func92 (by kernel_rfl) rfl #[.slice A0_1 l0_1.length c0_1, .int .i64 t102] rfl (by (try simp only [List.map_toArray, List.map_cons, List.map_nil]); first | done | rfl | (simp only [List.length_drop, List.length_take]; rfl)) ?_; (with_reducible refine (laws_heldItemS.calls k _ _ l0_1 t102 t103 _ ?side1 ?side2 A7.out).mono ?_); (case side1 => repeat (first | exact (Kd.C_below HR0_1.out (by repeat (first | (with_reducible first | exact HB.out | apply below_alloc | apply pw_below_drewN | apply below_drew1 | refine below_set ?_ GE101.out) | exact HB.out))) | (with_reducible refine Kd.C_alloc ?_ _) | (with_reducible refine Kd.C_drewN ?_ _) | (with_reducible refine Kd.C_drew ?_))); (case side2 => exact HC0_1.out); rintro e w' ⟨rfl, ⟨nd, rfl⟩⟩; refine ⟨_, rfl, ?_⟩))
      go_ret
      exact ⟨by first | rfl | (simp [errW_none, errW_some] <;> rfl) | (simp [*, errW_none, errW_some] <;> rfl), by repeat (first | (with_reducible first | exact HB.out | apply below_alloc | apply pw_below_drewN | apply below_drew1 | refine below_set ?_ GE101.out) | exact HB.out)⟩
    · rw [if_neg c8] at H
      have c8b0 : decide (t103 < 0) = false := decide_eq_false c8
      clear c8
      obtain rfl := Option.some.inj H
      go_enter Try.func35, Try.ntmps35
      go_wp2_with (first | ((with_reducible refine gate_dst (N := 2) rfl ?_); refine box_event ?hg (N := 2) ?hd (cs := #[.slice A0_0 l0_0.length c0_0, .slice A0_1 l0_1.length c0_1, .int .i64 a0_2, .int .i64 a0_3]) (t := 47) ?hr ?_; (case hd => rfl); (case hg => rfl); (case hr => first | (go_simp; done) | (go_simp; rfl)); intro gb101 hg w11 hbox hb; have n0_ := Aside0.mk (below_step (by repeat (first | (with_reducible first | exact HB.out | apply below_alloc | apply pw_below_drewN | apply below_drew1) | exact HB.out)) hb); have n1_ := Aside0.mk (hbox); have n2_ := Aside0.mk ((by rw [hg]; exact (below_size (by repeat (first | (with_reducible first | exact HB.out | apply below_alloc | apply pw_below_drewN | apply below_drew1) | exact HB.out))) : w.heap.size ≤ gb101)); have n3_ := Aside0.mk ((by rw [hg]; exact (below_size (by repeat (first | (with_reducible first | exact HB.out | apply below_alloc | apply pw_below_drewN | apply below_drew1) | exact HB.out))) : w.heap.size ≤ gb101)); clear HB; have HB := n0_; have BK101 := n1_; have GW101 := n2_; have GE101 := n3_; clear n0_ n1_ n2_ n3_; clear hb hbox hg; have hcz12_0 : w11.cell? ⟨gb101, 0, none⟩ = some (.slice A0_0 l0_0.length c0_0) := (blk_cell BK101.out 0).trans rfl; have hcz12_1 : w11.cell? ⟨gb101, 1, none⟩ = some (.slice A0_1 l0_1.length c0_1) := (blk_cell BK101.out 1).trans rfl; have hcz12_2 : w11.cell? ⟨gb101, 2, none⟩ = some (.int .i64 a0_2) := (blk_cell BK101.out 2).trans rfl; have hcz12_3 : w11.cell? ⟨gb101, 3, none⟩ = some (.int .i64 a0_3) := (blk_cell BK101.out 3).trans rfl; have hfz12_0 := blk_frozen BK101.out 0; have hfz12_1 := blk_frozen BK101.out 1; have hfz12_2 := blk_frozen BK101.out 2; have hfz12_3 := blk_frozen BK101.out 3) | ((with_reducible refine gate_callee (f := 92) rfl ?_); refine goesL_ (some 8) rfl rfl Try.func92 (by kernel_rfl) rfl #[.slice A0_0 l0_0.length c0_0, .int .i64 a1] rfl (by (try simp only [List.map_toArray, List.map_cons, List.map_nil]); first | done | rfl | (simp only [List.length_drop, List.length_take]; rfl)) ?_; (with_reducible refine (laws_heldItemS.calls k _ _ l0_0 a1 t102 _ ?side1 ?side2 A3.out).mono ?_); (case side1 => repeat (first | exact (Kd.C_below HR0_0.out HB.out) | (with_reducible refine Kd.C_alloc ?_ _) | (with_reducible refine Kd.C_drewN ?_ _) | (with_reducible refine Kd.C_drew ?_))); (case side2 => exact HC0_0.out); rintro e w' ⟨rfl, ⟨nd, rfl⟩⟩; refine ⟨_, rfl, ?_⟩) | ((with_reducible refine gate_callee (f := 92) rfl ?_); refine goesL_ (some 14) rfl rfl Try.func92 (by kernel_rfl) rfl #[.slice A0_1 l0_1.length c0_1, .int .i64 t102] rfl (by (try simp only [List.map_toArray, List.map_cons, List.map_nil]); first | done | rfl | (simp only [List.length_drop, List.length_take]; rfl)) ?_; (with_reducible refine (laws_heldItemS.calls k _ _ l0_1 t102 t103 _ ?side1 ?side2 A7.out).mono ?_); (case side1 => repeat (first | exact (Kd.C_below HR0_1.out (by repeat (first | (with_reducible first | exact HB.out | apply below_alloc | apply pw_below_drewN | apply below_drew1 | refine below_set ?_ GE101.out) | exact HB.out))) | (with_reducible refine Kd.C_alloc ?_ _) | (with_reducible refine Kd.C_drewN ?_ _) | (with_reducible refine Kd.C_drew ?_))); (case side2 => exact HC0_1.out); rintro e w' ⟨rfl, ⟨nd, rfl⟩⟩; refine ⟨_, rfl, ?_⟩))
      go_ret
      exact ⟨by first | rfl | (simp [errW_none, errW_some] <;> rfl) | (simp [*, errW_none, errW_some] <;> rfl), by repeat (first | (with_reducible first | exact HB.out | apply below_alloc | apply pw_below_drewN | apply below_drew1 | refine below_set ?_ GE101.out) | exact HB.out)⟩

end Go.Proofs.Ytfjdlggdnnghhaa.A
namespace Go.Proofs.Ytfjdlggdnnghhaa.A
open Go.RowKit Go.Proofs.YtfjdlggdnnghhaaW.PrintWords Go.Proofs.YtfjdlggdnnghhaaW.PrintLast Go.Proofs.YtfjdlggdnnghhaaW.PrintMore
attribute [local go_sem] max2_int min2_int max_two min_two max_three min_three max_four min_four   -- for this text's walks alone
set_option linter.unusedVariables false
set_option linter.unusedSimpArgs false

/-! ### laws_FnExactPlanCut: function 6 -/
def laws_FnExactPlanCut.j0 : Nat → List (S114) → Int → Bool → List (S111) → List (S111) → Int → Int → List (S111) → List (S111) → Int → Int → Option (Bool)
  | 0, _, _, _, _, _, _, _, _, _, _, _ => none
  | k + 1, x0, x1, x46, x114000, x114001, x114002, x114003, x126000, x126001, x126002, x126003 => if x46 = true then (some false) else ((laws_markPlanOut.f k x126000 x126001 x126002 x126003 1).bind fun bt134 => ((laws_heldPlanOut.f k bt134.2.1 bt134.2.2 x126002 x126003 1).bind fun t137 => (if t137 < 0 then (some false) else (if t137 = bt134.1 then ((laws_toItemS.f k x0).bind fun t138 => ((impl_PlanCut.f k t138 x1).bind fun bt141 => ((laws_eqPlanOut.f k bt141.1 bt141.2.1 bt141.2.2.1 bt141.2.2.2 x114000 x114001 x114002 x114003).bind fun t150 => (if t150 = true then ((laws_heldPlanOut.f k bt134.2.1 bt134.2.2 x126002 x126003 1).bind fun t151 => (if t151 < 0 then (some false) else (if t151 = bt134.1 then (some true) else (some false)))) else (some false))))) else (some false)))))
def laws_FnExactPlanCut.f (k : Nat) (l0 : List (S114)) (a1 : Int) : Option (Bool) := (laws_szItemS.f l0 1048576).bind fun t101 => (if t101 < 0 then (some true) else ((laws_toItemS.f k l0).bind fun t102 => ((spec_PlanCut.f k t102 a1).bind fun bt105 => ((laws_toItemS.f k l0).bind fun t114 => ((impl_PlanCut.f k t114 a1).bind fun bt117 => ((laws_eqPlanOut.f k bt117.1 bt117.2.1 bt117.2.2.1 bt117.2.2.2 bt105.1 bt105.2.1 bt105.2.2.1 bt105.2.2.2).bind fun t126 => (if t126 = true then ((laws_toItemS.f k l0).bind fun t127 => ((laws_eqItemS.f k t114 t127).bind fun t130 => (if t130 = true then ((laws_markItemS.f k t114 1).bind fun bt131 => (if bt131.1 < 0 then (laws_FnExactPlanCut.j0 k l0 a1 true bt105.1 bt105.2.1 bt105.2.2.1 bt105.2.2.2 bt117.1 bt117.2.1 bt117.2.2.1 bt117.2.2.2) else ((laws_eqPlanOut.f k bt117.1 bt117.2.1 bt117.2.2.1 bt117.2.2.2 bt105.1 bt105.2.1 bt105.2.2.1 bt105.2.2.2).bind fun t133 => (laws_FnExactPlanCut.j0 k l0 a1 (!t133) bt105.1 bt105.2.1 bt105.2.2.1 bt105.2.2.2 bt117.1 bt117.2.1 bt117.2.2.1 bt117.2.2.2)))) else (some false)))) else (some false))))))))
theorem laws_FnExactPlanCut.mono_l : ∀ k, (∀ y0 y1 y2 y3 y4 y5 y6 y7 y8 y9 y10, LeO (laws_FnExactPlanCut.j0 k y0 y1 y2 y3 y4 y5 y6 y7 y8 y9 y10) (laws_FnExactPlanCut.j0 (k + 1) y0 y1 y2 y3 y4 y5 y6 y7 y8 y9 y10))
  | 0 => fun _ _ _ _ _ _ _ _ _ _ _ r h => by simp [laws_FnExactPlanCut.j0] at h
  | k + 1 => by
    have ih0 := laws_FnExactPlanCut.mono_l k
    · intro y0 y1 y2 y3 y4 y5 y6 y7 y8 y9 y10
      unfold laws_FnExactPlanCut.j0
      repeat' first
      | (with_reducible exact ih0 _ _ _ _ _ _ _ _ _ _ _)
      | (with_reducible exact impl_PlanCut.mono _ _ _)
      | (with_reducible exact laws_eqItemS.mono _ _ _)
      | (with_reducible exact laws_eqPlanOut.mono _ _ _ _ _ _ _ _ _)
      | (with_reducible exact laws_heldPlanOut.mono _ _ _ _ _ _)
      | (with_reducible exact laws_markItemS.mono _ _ _)
      | (with_reducible exact laws_markPlanOut.mono _ _ _ _ _ _)
      | (with_reducible exact laws_toItemS.mono _ _)
      | (with_reducible exact spec_PlanCut.mono _ _ _)
      | (with_reducible exact LeO.refl _)
      | (with_reducible exact LeO.none _)
      | (with_reducible refine LeO.ite ?_ ?_)
      | (with_reducible refine LeO.bind ?_ (fun _ => ?_))
      | exact ih0 _ _ _ _ _ _ _ _ _ _ _
      | exact impl_PlanCut.mono _ _ _
      | exact laws_eqItemS.mono _ _ _
      | exact laws_eqPlanOut.mono _ _ _ _ _ _ _ _ _
      | exact laws_heldPlanOut.mono _ _ _ _ _ _
      | exact laws_markItemS.mono _ _ _
      | exact laws_markPlanOut.mono _ _ _ _ _ _
      | exact laws_toItemS.mono _ _
      | exact spec_PlanCut.mono _ _ _
      | exact LeO.none _
      | refine LeO.ite ?_ ?_
      | refine LeO.bind ?_ (fun _ => ?_)
theorem laws_FnExactPlanCut.mono : ∀ a0 a1 k, LeO (laws_FnExactPlanCut.f k a0 a1) (laws_FnExactPlanCut.f (k + 1) a0 a1) := by
  intro a0 a1 k
  have ih0 := laws_FnExactPlanCut.mono_l k
  unfold laws_FnExactPlanCut.f
  repeat' first
      | (with_reducible exact ih0 _ _ _ _ _ _ _ _ _ _ _)
      | (with_reducible exact impl_PlanCut.mono _ _ _)
      | (with_reducible exact laws_eqItemS.mono _ _ _)
      | (with_reducible exact laws_eqPlanOut.mono _ _ _ _ _ _ _ _ _)
      | (with_reducible exact laws_heldPlanOut.mono _ _ _ _ _ _)
      | (with_reducible exact laws_markItemS.mono _ _ _)
      | (with_reducible exact laws_markPlanOut.mono _ _ _ _ _ _)
      | (with_reducible exact laws_toItemS.mono _ _)
      | (with_reducible exact spec_PlanCut.mono _ _ _)
      | (with_reducible exact LeO.refl _)
      | (with_reducible exact LeO.none _)
      | (with_reducible refine LeO.ite ?_ ?_)
      | (with_reducible refine LeO.bind ?_ (fun _ => ?_))
      | exact ih0 _ _ _ _ _ _ _ _ _ _ _
      | exact impl_PlanCut.mono _ _ _
      | exact laws_eqItemS.mono _ _ _
      | exact laws_eqPlanOut.mono _ _ _ _ _ _ _ _ _
      | exact laws_heldPlanOut.mono _ _ _ _ _ _
      | exact laws_markItemS.mono _ _ _
      | exact laws_markPlanOut.mono _ _ _ _ _ _
      | exact laws_toItemS.mono _ _
      | exact spec_PlanCut.mono _ _ _
      | exact LeO.none _
      | refine LeO.ite ?_ ?_
      | refine LeO.bind ?_ (fun _ => ?_)
set_option maxHeartbeats 8000000 in
set_option maxRecDepth 100000 in
theorem laws_FnExactPlanCut.calls (k : Nat) (A0 : Option Addr) (c0 : Nat) (l0 : List (S114)) (a1 : Int) (r : Bool) (w : World) (hr0 : Kd.C k114 w A0 l0.length l0) (hc0 : l0.length ≤ c0) (ht : r = true) (h : laws_FnExactPlanCut.f k l0 a1 = some r) :
    Calls Try.prog 6 #[.slice A0 l0.length c0, .int .i64 a1] w fun e w' => e = .returned (.bool r) ∧ Below w.heap.size w w' := by
  have hu47 := Try.underlying47
  have HR0 := Aside0.mk hr0
  have HC0 := Aside0.mk hc0
  clear hr0 hc0
  have HB := Aside0.mk (Below.refl w.heap.size w)
  have H : ((laws_szItemS.f l0 1048576).bind fun t101 => (if t101 < 0 then (some true) else ((laws_toItemS.f k l0).bind fun t102 => ((spec_PlanCut.f k t102 a1).bind fun bt105 => ((laws_toItemS.f k l0).bind fun t114 => ((impl_PlanCut.f k t114 a1).bind fun bt117 => ((laws_eqPlanOut.f k bt117.1 bt117.2.1 bt117.2.2.1 bt117.2.2.2 bt105.1 bt105.2.1 bt105.2.2.1 bt105.2.2.2).bind fun t126 => (if t126 = true then ((laws_toItemS.f k l0).bind fun t127 => ((laws_eqItemS.f k t114 t127).bind fun t130 => (if t130 = true then ((laws_markItemS.f k t114 1).bind fun bt131 => (if bt131.1 < 0 then (laws_FnExactPlanCut.j0 k l0 a1 true bt105.1 bt105.2.1 bt105.2.2.1 bt105.2.2.2 bt117.1 bt117.2.1 bt117.2.2.1 bt117.2.2.2) else ((laws_eqPlanOut.f k bt117.1 bt117.2.1 bt117.2.2.1 bt117.2.2.2 bt105.1 bt105.2.1 bt105.2.2.1 bt105.2.2.2).bind fun t133 => (laws_FnExactPlanCut.j0 k l0 a1 (!t133) bt105.1 bt105.2.1 bt105.2.2.1 bt105.2.2.2 bt117.1 bt117.2.1 bt117.2.2.1 bt117.2.2.2)))) else (some false)))) else (some false))))))))) = some r := h
  clear h
  replace H := Option.bind_eq_some_iff.mp H
  obtain ⟨t101, A30, H⟩ := H
  replace H : (if t101 < 0 then (some true) else ((laws_toItemS.f k l0).bind fun t102 => ((spec_PlanCut.f k t102 a1).bind fun bt105 => ((laws_toItemS.f k l0).bind fun t114 => ((impl_PlanCut.f k t114 a1).bind fun bt117 => ((laws_eqPlanOut.f k bt117.1 bt117.2.1 bt117.2.2.1 bt117.2.2.2 bt105.1 bt105.2.1 bt105.2.2.1 bt105.2.2.2).bind fun t126 => (if t126 = true then ((laws_toItemS.f k l0).bind fun t127 => ((laws_eqItemS.f k t114 t127).bind fun t130 => (if t130 = true then ((laws_markItemS.f k t114 1).bind fun bt131 => (if bt131.1 < 0 then (laws_FnExactPlanCut.j0 k l0 a1 true bt105.1 bt105.2.1 bt105.2.2.1 bt105.2.2.2 bt117.1 bt117.2.1 bt117.2.2.1 bt117.2.2.2) else ((laws_eqPlanOut.f k bt117.1 bt117.2.1 bt117.2.2.1 bt117.2.2.2 bt105.1 bt105.2.1 bt105.2.2.1 bt105.2.2.2).bind fun t133 => (laws_FnExactPlanCut.j0 k l0 a1 (!t133) bt105.1 bt105.2.1 bt105.2.2.1 bt105.2.2.2 bt117.1 bt117.2.1 bt117.2.2.1 bt117.2.2.2)))) else (some false)))) else (some false)))))))) = some r := H
  have A3 := Aside0.mk A30
  clear A30
  by_cases c4 : t101 < 0
  · rw [if_pos c4] at H
    have c4b0 : decide (t101 < 0) = true := decide_eq_true c4
    clear c4
    clear ht
    obtain rfl := Option.some.inj H
    go_enter Try.func6, Try.ntmps6
    go_wp2_with (first | ((with_reducible refine gate_callee (f := 27) rfl ?_); refine goesL_ (some 15) rfl rfl Try.func27 (by kernel_rfl) rfl #[.slice A0 l0.length c0, .int .i64 1048576] rfl (by (try simp only [List.map_toArray, List.map_cons, List.map_nil]); first | done | rfl | (simp only [List.length_drop, List.length_take]; rfl)) ?_; (with_reducible refine (laws_szItemS.calls _ _ l0 1048576 t101 _ ?side1 ?side2 A3.out).mono ?_); (case side1 => repeat (first | exact HR0.out | (with_reducible refine Kd.C_alloc ?_ _) | (with_reducible refine Kd.C_drewN ?_ _) | (with_reducible refine Kd.C_drew ?_))); (case side2 => exact HC0.out); rintro e w' ⟨rfl, ⟨nd, rfl⟩⟩; refine ⟨_, rfl, ?_⟩))
    go_ret
    exact ⟨by first | rfl | (simp [errW_none, errW_some] <;> rfl) | (simp [*, errW_none, errW_some] <;> rfl), by repeat (first | (with_reducible first | exact HB.out | apply below_alloc | apply pw_below_drewN | apply below_drew1) | exact HB.out)⟩
  · rw [if_neg c4] at H
    have c4b0 : decide (t101 < 0) = false := decide_eq_false c4
    clear c4
    replace H := Option.bind_eq_some_iff.mp H
    obtain ⟨t102, A50, H⟩ := H
    replace H : ((spec_PlanCut.f k t102 a1).bind fun bt105 => ((laws_toItemS.f k l0).bind fun t114 => ((impl_PlanCut.f k t114 a1).bind fun bt117 => ((laws_eqPlanOut.f k bt117.1 bt117.2.1 bt117.2.2.1 bt117.2.2.2 bt105.1 bt105.2.1 bt105.2.2.1 bt105.2.2.2).bind fun t126 => (if t126 = true then ((laws_toItemS.f k l0).bind fun t127 => ((laws_eqItemS.f k t114 t127).bind fun t130 => (if t130 = true then ((laws_markItemS.f k t114 1).bind fun bt131 => (if bt131.1 < 0 then (laws_FnExactPlanCut.j0 k l0 a1 true bt105.1 bt105.2.1 bt105.2.2.1 bt105.2.2.2 bt117.1 bt117.2.1 bt117.2.2.1 bt117.2.2.2) else ((laws_eqPlanOut.f k bt117.1 bt117.2.1 bt117.2.2.1 bt117.2.2.2 bt105.1 bt105.2.1 bt105.2.2.1 bt105.2.2.2).bind fun t133 => (laws_FnExactPlanCut.j0 k l0 a1 (!t133) bt105.1 bt105.2.1 bt105.2.2.1 bt105.2.2.2 bt117.1 bt117.2.1 bt117.2.2.1 bt117.2.2.2)))) else (some false)))) else (some false)))))) = some r := H
    have A5 := Aside0.mk A50
    clear A50
    replace H := Option.bind_eq_some_iff.mp H
    obtain ⟨⟨t105, t108, t111, t112⟩, A60, H⟩ := H
    replace H : ((laws_toItemS.f k l0).bind fun t114 => ((impl_PlanCut.f k t114 a1).bind fun bt117 => ((laws_eqPlanOut.f k bt117.1 bt117.2.1 bt117.2.2.1 bt117.2.2.2 t105 t108 t111 t112).bind fun t126 => (if t126 = true then ((laws_toItemS.f k l0).bind fun t127 => ((laws_eqItemS.f k t114 t127).bind fun t130 => (if t130 = true then ((laws_markItemS.f k t114 1).bind fun bt131 => (if bt131.1 < 0 then (laws_FnExactPlanCut.j0 k l0 a1 true t105 t108 t111 t112 bt117.1 bt117.2.1 bt117.2.2.1 bt117.2.2.2) else ((laws_eqPlanOut.f k bt117.1 bt117.2.1 bt117.2.2.1 bt117.2.2.2 t105 t108 t111 t112).bind fun t133 => (laws_FnExactPlanCut.j0 k l0 a1 (!t133) t105 t108 t111 t112 bt117.1 bt117.2.1 bt117.2.2.1 bt117.2.2.2)))) else (some false)))) else (some false))))) = some r := H
    have A6 := Aside0.mk A60
    clear A60
    replace H := Option.bind_eq_some_iff.mp H
    obtain ⟨t114, A70, H⟩ := H
    replace H : ((impl_PlanCut.f k t114 a1).bind fun bt117 => ((laws_eqPlanOut.f k bt117.1 bt117.2.1 bt117.2.2.1 bt117.2.2.2 t105 t108 t111 t112).bind fun t126 => (if t126 = true then ((laws_toItemS.f k l0).bind fun t127 => ((laws_eqItemS.f k t114 t127).bind fun t130 => (if t130 = true then ((laws_markItemS.f k t114 1).bind fun bt131 => (if bt131.1 < 0 then (laws_FnExactPlanCut.j0 k l0 a1 true t105 t108 t111 t112 bt117.1 bt117.2.1 bt117.2.2.1 bt117.2.2.2) else ((laws_eqPlanOut.f k bt117.1 bt117.2.1 bt117.2.2.1 bt117.2.2.2 t105 t108 t111 t112).bind fun t133 => (laws_FnExactPlanCut.j0 k l0 a1 (!t133) t105 t108 t111 t112 bt117.1 bt117.2.1 bt117.2.2.1 bt117.2.2.2)))) else (some false)))) else (some false)))) = some r := H
    have A7 := Aside0.mk A70
    clear A70
    replace H := Option.bind_eq_some_iff.mp H
    obtain ⟨⟨t117, t120, t123, t124⟩, A80, H⟩ := H
    replace H : ((laws_eqPlanOut.f k t117 t120 t123 t124 t105 t108 t111 t112).bind fun t126 => (if t126 = true then ((laws_toItemS.f k l0).bind fun t127 => ((laws_eqItemS.f k t114 t127).bind fun t130 => (if t130 = true then ((laws_markItemS.f k t114 1).bind fun bt131 => (if bt131.1 < 0 then (laws_FnExactPlanCut.j0 k l0 a1 true t105 t108 t111 t112 t117 t120 t123 t124) else ((laws_eqPlanOut.f k t117 t120 t123 t124 t105 t108 t111 t112).bind fun t133 => (laws_FnExactPlanCut.j0 k l0 a1 (!t133) t105 t108 t111 t112 t117 t120 t123 t124)))) else (some false)))) else (some false))) = some r := H
    have A8 := Aside0.mk A80
    clear A80
    replace H := Option.bind_eq_some_iff.mp H
    obtain ⟨t126, A90, H⟩ := H
    replace H : (if t126 = true then ((laws_toItemS.f k l0).bind fun t127 => ((laws_eqItemS.f k t114 t127).bind fun t130 => (if t130 = true then ((laws_markItemS.f k t114 1).bind fun bt131 => (if bt131.1 < 0 then (laws_FnExactPlanCut.j0 k l0 a1 true t105 t108 t111 t112 t117 t120 t123 t124) else ((laws_eqPlanOut.f k t117 t120 t123 t124 t105 t108 t111 t112).bind fun t133 => (laws_FnExactPlanCut.j0 k l0 a1 (!t133) t105 t108 t111 t112 t117 t120 t123 t124)))) else (some false)))) else (some false)) = some r := H
    have A9 := Aside0.mk A90
    clear A90
    by_cases c10 : t126 = true
    · subst c10
      have H1 : ((laws_toItemS.f k l0).bind fun t127 => ((laws_eqItemS.f k t114 t127).bind fun t130 => (if t130 = true then ((laws_markItemS.f k t114 1).bind fun bt131 => (if bt131.1 < 0 then (laws_FnExactPlanCut.j0 k l0 a1 true t105 t108 t111 t112 t117 t120 t123 t124) else ((laws_eqPlanOut.f k t117 t120 t123 t124 t105 t108 t111 t112).bind fun t133 => (laws_FnExactPlanCut.j0 k l0 a1 (!t133) t105 t108 t111 t112 t117 t120 t123 t124)))) else (some false)))) = some r := by rw [if_pos rfl] at H; exact H
      clear H
      have H := H1
      clear H1
      replace H := Option.bind_eq_some_iff.mp H
      obtain ⟨t127, A110, H⟩ := H
      replace H : ((laws_eqItemS.f k t114 t127).bind fun t130 => (if t130 = true then ((laws_markItemS.f k t114 1).bind fun bt131 => (if bt131.1 < 0 then (laws_FnExactPlanCut.j0 k l0 a1 true t105 t108 t111 t112 t117 t120 t123 t124) else ((laws_eqPlanOut.f k t117 t120 t123 t124 t105 t108 t111 t112).bind fun t133 => (laws_FnExactPlanCut.j0 k l0 a1 (!t133) t105 t108 t111 t112 t117 t120 t123 t124)))) else (some false))) = some r := H
      have A11 := Aside0.mk A110
      clear A110
      replace H := Option.bind_eq_some_iff.mp H
      obtain ⟨t130, A120, H⟩ := H
      replace H : (if t130 = true then ((laws_markItemS.f k t114 1).bind fun bt131 => (if bt131.1 < 0 then (laws_FnExactPlanCut.j0 k l0 a1 true t105 t108 t111 t112 t117 t120 t123 t124) else ((laws_eqPlanOut.f k t117 t120 t123 t124 t105 t108 t111 t112).bind fun t133 => (laws_FnExactPlanCut.j0 k l0 a1 (!t133) t105 t108 t111 t112 t117 t120 t123 t124)))) else (some false)) = some r := H
      have A12 := Aside0.mk A120
      clear A120
      by_cases c13 : t130 = true
      · subst c13
        have H1 : ((laws_markItemS.f k t114 1).bind fun bt131 => (if bt131.1 < 0 then (laws_FnExactPlanCut.j0 k l0 a1 true t105 t108 t111 t112 t117 t120 t123 t124) else ((laws_eqPlanOut.f k t117 t120 t123 t124 t105 t108 t111 t112).bind fun t133 => (laws_FnExactPlanCut.j0 k l0 a1 (!t133) t105 t108 t111 t112 t117 t120 t123 t124)))) = some r := by rw [if_pos rfl] at H; exact H
        clear H
        have H := H1
        clear H1
        replace H := Option.bind_eq_some_iff.mp H
        obtain ⟨⟨t131, t132⟩, A140, H⟩ := H
        replace H : (if t131 < 0 then (laws_FnExactPlanCut.j0 k l0 a1 true t105 t108 t111 t112 t117 t120 t123 t124) else ((laws_eqPlanOut.f k t117 t120 t123 t124 t105 t108 t111 t112).bind fun t133 => (laws_FnExactPlanCut.j0 k l0 a1 (!t133) t105 t108 t111 t112 t117 t120 t123 t124))) = some r := H
        have A14 := Aside0.mk A140
        clear A140
        have HC15 := Aside0.mk H
        clear H
        go_enter Try.func6, Try.ntmps6
        go_upto_region 14 with (first | ((with_reducible refine gate_callee (f := 27) rfl ?_); refine goesL_ (some 15) rfl rfl Try.func27 (by kernel_rfl) rfl #[.slice A0 l0.length c0, .int .i64 1048576] rfl (by (try simp only [List.map_toArray, List.map_cons, List.map_nil]); first | done | rfl | (simp only [List.length_drop, List.length_take]; rfl)) ?_; (with_reducible refine (laws_szItemS.calls _ _ l0 1048576 t101 _ ?side1 ?side2 A3.out).mono ?_); (case side1 => repeat (first | exact HR0.out | (with_reducible refine Kd.C_alloc ?_ _) | (with_reducible refine Kd.C_drewN ?_ _) | (with_reducible refine Kd.C_drew ?_))); (case side2 => exact HC0.out); rintro e w' ⟨rfl, ⟨nd, rfl⟩⟩; refine ⟨_, rfl, ?_⟩) | ((with_reducible refine gate_callee (f := 29) rfl ?_); refine goesL_ (some 19) rfl rfl Try.func29 (by kernel_rfl) rfl #[.slice A0 l0.length c0] rfl (by (try simp only [List.map_toArray, List.map_cons, List.map_nil]); first | done | rfl | (simp only [List.length_drop, List.length_take]; rfl)) ?_; (with_reducible refine (laws_toItemS.calls k _ _ l0 t102 _ ?side1 ?side2 A5.out).mono ?_); (case side1 => repeat (first | exact HR0.out | (with_reducible refine Kd.C_alloc ?_ _) | (with_reducible refine Kd.C_drewN ?_ _) | (with_reducible refine Kd.C_drew ?_))); (case side2 => exact HC0.out); rintro e w16 ⟨v103, rfl, ho0, hb⟩; refine ⟨_, rfl, ?_⟩; have n0_ := Aside0.mk (Kd.R_lower ho0 (below_size (by repeat (first | (with_reducible first | exact HB.out | apply below_alloc | apply pw_below_drewN | apply below_drew1) | exact HB.out)))); have n1_ := Aside0.mk (below_step (by repeat (first | (with_reducible first | exact HB.out | apply below_alloc | apply pw_below_drewN | apply below_drew1) | exact HB.out)) hb); clear HB; have HO104 := n0_; have HB := n1_; clear n0_ n1_; (try clear hb); (try clear hb2); (try clear hk); (try clear hi); (try clear ho0); obtain ⟨Ao17, co17, eo17⟩ := Kd.R_slice HO104.out; subst eo17) | ((with_reducible refine gate_callee (f := 28) rfl ?_); refine goesL_ (some 21) rfl rfl Try.func28 (by kernel_rfl) rfl #[.slice Ao17 t102.length co17, .int .i64 a1] rfl (by (try simp only [List.map_toArray, List.map_cons, List.map_nil]); first | done | rfl | (simp only [List.length_drop, List.length_take]; rfl)) ?_; (with_reducible refine (spec_PlanCut.calls k _ _ t102 a1 t105 t108 t111 t112 _ ?side1 ?side2 A6.out).mono ?_); (case side1 => repeat (first | exact (Kd.R_reads' HO104.out).2.2 | (with_reducible refine Kd.C_alloc ?_ _) | (with_reducible refine Kd.C_drewN ?_ _) | (with_reducible refine Kd.C_drew ?_))); (case side2 => exact (Kd.R_reads' HO104.out).2.1); rintro e w18 ⟨v106, v109, rfl, ho0, ho1, hb⟩; refine ⟨_, rfl, ?_⟩; have n0_ := Aside0.mk (Kd.R_mono (Kd.R_told (Kd.R_told (Kd.R_old (by (with_reducible repeat (first | apply Kd.R_alloc | apply Kd.R_drewN | apply Kd.R_drew)); exact HO104.out) hb) (Kd.R_base ho0)) (Kd.R_base ho1)) (fun _ h_ => h_.1)); have n1_ := Aside0.mk (Kd.R_lower (Kd.R_new' ho0 (Kd.R_lt (by (with_reducible repeat (first | apply Kd.R_alloc | apply Kd.R_drewN | apply Kd.R_drew)); exact HO104.out))) (below_size (by repeat (first | (with_reducible first | exact HB.out | apply below_alloc | apply pw_below_drewN | apply below_drew1) | exact HB.out)))); have n2_ := Aside0.mk (Kd.R_lower (Kd.R_new' ho1 (Kd.R_lt (by (with_reducible repeat (first | apply Kd.R_alloc | apply Kd.R_drewN | apply Kd.R_drew)); exact HO104.out))) (below_size (by repeat (first | (with_reducible first | exact HB.out | apply below_alloc | apply pw_below_drewN | apply below_drew1) | exact HB.out)))); have n3_ := Aside0.mk (below_step (by repeat (first | (with_reducible first | exact HB.out | apply below_alloc | apply pw_below_drewN | apply below_drew1) | exact HB.out)) hb); clear HO104; clear HB; have HO104 := n0_; have HO107 := n1_; have HO110 := n2_; have HB := n3_; clear n0_ n1_ n2_ n3_; (try clear hb); (try clear hb2); (try clear hk); (try clear hi); (try clear ho0); (try clear ho1)) | ((with_reducible refine gate_dst (N := 6) rfl ?_); refine box_event ?hg (N := 6) ?hd (cs := #[.slice none 0 0, .slice none 0 0, .int .i64 0, .int .i64 0]) (t := 47) ?hr ?_; (case hd => rfl); (case hg => rfl); (case hr => first | (go_simp; done) | (go_simp; rfl)); intro gb113 hg w19 hbox hb; have n0_ := Aside0.mk (Kd.R_below (by (with_reducible repeat (first | apply Kd.R_alloc | apply Kd.R_drewN | apply Kd.R_drew)); exact HO104.out) hb); have n1_ := Aside0.mk (Kd.R_below (by (with_reducible repeat (first | apply Kd.R_alloc | apply Kd.R_drewN | apply Kd.R_drew)); exact HO107.out) hb); have n2_ := Aside0.mk (Kd.R_below (by (with_reducible repeat (first | apply Kd.R_alloc | apply Kd.R_drewN | apply Kd.R_drew)); exact HO110.out) hb); have n3_ := Aside0.mk (below_step (by repeat (first | (with_reducible first | exact HB.out | apply below_alloc | apply pw_below_drewN | apply below_drew1) | exact HB.out)) hb); have n4_ := Aside0.mk (hbox); have n5_ := Aside0.mk ((by rw [hg]; exact (below_size (by repeat (first | (with_reducible first | exact HB.out | apply below_alloc | apply pw_below_drewN | apply below_drew1) | exact HB.out))) : w.heap.size ≤ gb113)); have n6_ := Aside0.mk ((by rw [hg]; exact (below_size (by repeat (first | (with_reducible first | exact HB.out | apply below_alloc | apply pw_below_drewN | apply below_drew1) | exact HB.out))) : w.heap.size ≤ gb113)); clear HO104; clear HO107; clear HO110; clear HB; have HO104 := n0_; have HO107 := n1_; have HO110 := n2_; have HB := n3_; have BK113 := n4_; have GW113 := n5_; have GE113 := n6_; clear n0_ n1_ n2_ n3_ n4_ n5_ n6_; clear hb hbox hg; obtain ⟨Ao20, co20, eo20⟩ := Kd.R_slice HO107.out; subst eo20; have hcz21_0 : w19.cell? ⟨gb113, 0, none⟩ = some (.slice none 0 0) := (blk_cell BK113.out 0).trans rfl; have hcz21_1 : w19.cell? ⟨gb113, 1, none⟩ = some (.slice none 0 0) := (blk_cell BK113.out 1).trans rfl; have hcz21_2 : w19.cell? ⟨gb113, 2, none⟩ = some (.int .i64 0) := (blk_cell BK113.out 2).trans rfl; have hcz21_3 : w19.cell? ⟨gb113, 3, none⟩ = some (.int .i64 0) := (blk_cell BK113.out 3).trans rfl; have hfz21_0 := blk_frozen BK113.out 0; have hfz21_1 := blk_frozen BK113.out 1; have hfz21_2 := blk_frozen BK113.out 2; have hfz21_3 := blk_frozen BK113.out 3; obtain ⟨Ao22, co22, eo22⟩ := Kd.R_slice HO110.out; subst eo22) | ((with_reducible refine gate_callee (f := 29) rfl ?_); refine goesL_ (some 23) rfl rfl Try.func29 (by kernel_rfl) rfl #[.slice A0 l0.length c0] rfl (by (try simp only [List.map_toArray, List.map_cons, List.map_nil]); first | done | rfl | (simp only [List.length_drop, List.length_take]; rfl)) ?_; (with_reducible refine (laws_toItemS.calls k _ _ l0 t114 _ ?side1 ?side2 A7.out).mono ?_); (case side1 => exact Kd.C_below HR0.out (by repeat (first | (with_reducible first | exact HB.out | apply below_alloc | apply pw_below_drewN | apply below_drew1 | refine below_set ?_ GE113.out) | exact HB.out))); (case side2 => exact HC0.out); rintro e w23 ⟨v115, rfl, ho0, hb⟩; refine ⟨_, rfl, ?_⟩; have n0_ := Aside0.mk (Kd.R_elder' (by (with_reducible repeat (first | apply Kd.R_alloc | apply Kd.R_drewN | apply Kd.R_drew)); exact (Kd.R_mono (Kd.R_far (p := ⟨gb113, 3, none⟩) (Kd.R_far (p := ⟨gb113, 2, none⟩) (Kd.R_far (p := ⟨gb113, 1, none⟩) (Kd.R_far (p := ⟨gb113, 0, none⟩) (Kd.R_types HO104.out BK113.out (by decide)) (fun _ hk => hk.2) (.slice Ao20 t105.length co20)) (fun _ hk => hk.2) (.slice Ao22 t108.length co22)) (fun _ hk => hk.2) (.int .i64 t111)) (fun _ hk => hk.2) (.int .i64 t112)) (fun _ h_ => h_.1))) (Kd.R_base ho0) hb); have n1_ := Aside0.mk (Kd.R_elder' (by (with_reducible repeat (first | apply Kd.R_alloc | apply Kd.R_drewN | apply Kd.R_drew)); exact (Kd.R_mono (Kd.R_far (p := ⟨gb113, 3, none⟩) (Kd.R_far (p := ⟨gb113, 2, none⟩) (Kd.R_far (p := ⟨gb113, 1, none⟩) (Kd.R_far (p := ⟨gb113, 0, none⟩) (Kd.R_types HO107.out BK113.out (by decide)) (fun _ hk => hk.2) (.slice Ao20 t105.length co20)) (fun _ hk => hk.2) (.slice Ao22 t108.length co22)) (fun _ hk => hk.2) (.int .i64 t111)) (fun _ hk => hk.2) (.int .i64 t112)) (fun _ h_ => h_.1))) (Kd.R_base ho0) hb); have n2_ := Aside0.mk (Kd.R_elder' (by (with_reducible repeat (first | apply Kd.R_alloc | apply Kd.R_drewN | apply Kd.R_drew)); exact (Kd.R_mono (Kd.R_far (p := ⟨gb113, 3, none⟩) (Kd.R_far (p := ⟨gb113, 2, none⟩) (Kd.R_far (p := ⟨gb113, 1, none⟩) (Kd.R_far (p := ⟨gb113, 0, none⟩) (Kd.R_types HO110.out BK113.out (by decide)) (fun _ hk => hk.2) (.slice Ao20 t105.length co20)) (fun _ hk => hk.2) (.slice Ao22 t108.length co22)) (fun _ hk => hk.2) (.int .i64 t111)) (fun _ hk => hk.2) (.int .i64 t112)) (fun _ h_ => h_.1))) (Kd.R_base ho0) hb); have n3_ := Aside0.mk (Kd.R_lower (Kd.R_new' (Kd.R_new' (Kd.R_new' ho0 (Kd.R_lt (by (with_reducible repeat (first | apply Kd.R_alloc | apply Kd.R_drewN | apply Kd.R_drew)); exact (Kd.R_mono (Kd.R_far (p := ⟨gb113, 3, none⟩) (Kd.R_far (p := ⟨gb113, 2, none⟩) (Kd.R_far (p := ⟨gb113, 1, none⟩) (Kd.R_far (p := ⟨gb113, 0, none⟩) (Kd.R_types HO104.out BK113.out (by decide)) (fun _ hk => hk.2) (.slice Ao20 t105.length co20)) (fun _ hk => hk.2) (.slice Ao22 t108.length co22)) (fun _ hk => hk.2) (.int .i64 t111)) (fun _ hk => hk.2) (.int .i64 t112)) (fun _ h_ => h_.1))))) (Kd.R_lt (by (with_reducible repeat (first | apply Kd.R_alloc | apply Kd.R_drewN | apply Kd.R_drew)); exact (Kd.R_mono (Kd.R_far (p := ⟨gb113, 3, none⟩) (Kd.R_far (p := ⟨gb113, 2, none⟩) (Kd.R_far (p := ⟨gb113, 1, none⟩) (Kd.R_far (p := ⟨gb113, 0, none⟩) (Kd.R_types HO107.out BK113.out (by decide)) (fun _ hk => hk.2) (.slice Ao20 t105.length co20)) (fun _ hk => hk.2) (.slice Ao22 t108.length co22)) (fun _ hk => hk.2) (.int .i64 t111)) (fun _ hk => hk.2) (.int .i64 t112)) (fun _ h_ => h_.1))))) (Kd.R_lt (by (with_reducible repeat (first | apply Kd.R_alloc | apply Kd.R_drewN | apply Kd.R_drew)); exact (Kd.R_mono (Kd.R_far (p := ⟨gb113, 3, none⟩) (Kd.R_far (p := ⟨gb113, 2, none⟩) (Kd.R_far (p := ⟨gb113, 1, none⟩) (Kd.R_far (p := ⟨gb113, 0, none⟩) (Kd.R_types HO110.out BK113.out (by decide)) (fun _ hk => hk.2) (.slice Ao20 t105.length co20)) (fun _ hk => hk.2) (.slice Ao22 t108.length co22)) (fun _ hk => hk.2) (.int .i64 t111)) (fun _ hk => hk.2) (.int .i64 t112)) (fun _ h_ => h_.1))))) (below_size (by repeat (first | (with_reducible first | exact HB.out | apply below_alloc | apply pw_below_drewN | apply below_drew1 | refine below_set ?_ GE113.out) | exact HB.out)))); have n4_ := Aside0.mk (blk_below (g := gb113) (o := .cells #[.slice Ao20 t105.length co20, .slice Ao22 t108.length co22, .int .i64 t111, .int .i64 t112] 47 (0, 0)) (by (with_reducible repeat (first | refine blk_drewN ?_ _ | refine blk_drew ?_ | refine blk_alloc ?_ _)); refine blk_put (cs := #[.slice Ao20 t105.length co20, .slice Ao22 t108.length co22, .int .i64 t111, .int .i64 0]) ?_ 3 _ rfl; (with_reducible repeat (first | refine blk_drewN ?_ _ | refine blk_drew ?_ | refine blk_alloc ?_ _)); refine blk_put (cs := #[.slice Ao20 t105.length co20, .slice Ao22 t108.length co22, .int .i64 0, .int .i64 0]) ?_ 2 _ rfl; (with_reducible repeat (first | refine blk_drewN ?_ _ | refine blk_drew ?_ | refine blk_alloc ?_ _)); refine blk_put (cs := #[.slice Ao20 t105.length co20, .slice none 0 0, .int .i64 0, .int .i64 0]) ?_ 1 _ rfl; (with_reducible repeat (first | refine blk_drewN ?_ _ | refine blk_drew ?_ | refine blk_alloc ?_ _)); refine blk_put (cs := #[.slice none 0 0, .slice none 0 0, .int .i64 0, .int .i64 0]) ?_ 0 _ rfl; (with_reducible repeat (first | refine blk_drewN ?_ _ | refine blk_drew ?_ | refine blk_alloc ?_ _)); exact BK113.out) hb); have n5_ := Aside0.mk (below_step (by repeat (first | (with_reducible first | exact HB.out | apply below_alloc | apply pw_below_drewN | apply below_drew1 | refine below_set ?_ GE113.out) | exact HB.out)) hb); clear HO104; clear HO107; clear HO110; clear BK113; clear HB; have HO104 := n0_; have HO107 := n1_; have HO110 := n2_; have HO116 := n3_; have BK113 := n4_; have HB := n5_; clear n0_ n1_ n2_ n3_ n4_ n5_; (try clear hb); (try clear hb2); (try clear hk); (try clear hi); (try clear ho0); obtain ⟨Ao24, co24, eo24⟩ := Kd.R_slice HO116.out; subst eo24) | ((with_reducible refine gate_callee (f := 30) rfl ?_); refine goesL_ (some 26) rfl rfl Try.func30 (by kernel_rfl) rfl #[.slice Ao24 t114.length co24, .int .i64 a1] rfl (by (try simp only [List.map_toArray, List.map_cons, List.map_nil]); first | done | rfl | (simp only [List.length_drop, List.length_take]; rfl)) ?_; (with_reducible refine (impl_PlanCut.calls k _ _ t114 a1 t117 t120 t123 t124 _ ?side1 ?side2 A8.out).mono ?_); (case side1 => repeat (first | exact (Kd.R_reads' HO116.out).2.2 | (with_reducible refine Kd.C_alloc ?_ _) | (with_reducible refine Kd.C_drewN ?_ _) | (with_reducible refine Kd.C_drew ?_))); (case side2 => exact (Kd.R_reads' HO116.out).2.1); rintro e w25 ⟨v118, v121, rfl, ho0, ho1, hb⟩; refine ⟨_, rfl, ?_⟩; have n0_ := Aside0.mk (Kd.R_mono (Kd.R_told (Kd.R_told (Kd.R_old (by (with_reducible repeat (first | apply Kd.R_alloc | apply Kd.R_drewN | apply Kd.R_drew)); exact HO104.out) hb) (Kd.R_base ho0)) (Kd.R_base ho1)) (fun _ h_ => h_.1)); have n1_ := Aside0.mk (Kd.R_mono (Kd.R_told (Kd.R_told (Kd.R_old (by (with_reducible repeat (first | apply Kd.R_alloc | apply Kd.R_drewN | apply Kd.R_drew)); exact HO107.out) hb) (Kd.R_base ho0)) (Kd.R_base ho1)) (fun _ h_ => h_.1)); have n2_ := Aside0.mk (Kd.R_mono (Kd.R_told (Kd.R_told (Kd.R_old (by (with_reducible repeat (first | apply Kd.R_alloc | apply Kd.R_drewN | apply Kd.R_drew)); exact HO110.out) hb) (Kd.R_base ho0)) (Kd.R_base ho1)) (fun _ h_ => h_.1)); have n3_ := Aside0.mk (Kd.R_mono (Kd.R_told (Kd.R_told (Kd.R_old (by (with_reducible repeat (first | apply Kd.R_alloc | apply Kd.R_drewN | apply Kd.R_drew)); exact HO116.out) hb) (Kd.R_base ho0)) (Kd.R_base ho1)) (fun _ h_ => h_.1)); have n4_ := Aside0.mk (Kd.R_lower (Kd.R_new' (Kd.R_new' (Kd.R_new' (Kd.R_new' ho0 (Kd.R_lt (by (with_reducible repeat (first | apply Kd.R_alloc | apply Kd.R_drewN | apply Kd.R_drew)); exact HO104.out))) (Kd.R_lt (by (with_reducible repeat (first | apply Kd.R_alloc | apply Kd.R_drewN | apply Kd.R_drew)); exact HO107.out))) (Kd.R_lt (by (with_reducible repeat (first | apply Kd.R_alloc | apply Kd.R_drewN | apply Kd.R_drew)); exact HO110.out))) (Kd.R_lt (by (with_reducible repeat (first | apply Kd.R_alloc | apply Kd.R_drewN | apply Kd.R_drew)); exact HO116.out))) (below_size (by repeat (first | (with_reducible first | exact HB.out | apply below_alloc | apply pw_below_drewN | apply below_drew1 | refine below_set ?_ GE113.out) | exact HB.out)))); have n5_ := Aside0.mk (Kd.R_lower (Kd.R_new' (Kd.R_new' (Kd.R_new' (Kd.R_new' ho1 (Kd.R_lt (by (with_reducible repeat (first | apply Kd.R_alloc | apply Kd.R_drewN | apply Kd.R_drew)); exact HO104.out))) (Kd.R_lt (by (with_reducible repeat (first | apply Kd.R_alloc | apply Kd.R_drewN | apply Kd.R_drew)); exact HO107.out))) (Kd.R_lt (by (with_reducible repeat (first | apply Kd.R_alloc | apply Kd.R_drewN | apply Kd.R_drew)); exact HO110.out))) (Kd.R_lt (by (with_reducible repeat (first | apply Kd.R_alloc | apply Kd.R_drewN | apply Kd.R_drew)); exact HO116.out))) (below_size (by repeat (first | (with_reducible first | exact HB.out | apply below_alloc | apply pw_below_drewN | apply below_drew1 | refine below_set ?_ GE113.out) | exact HB.out)))); have n6_ := Aside0.mk (blk_below (g := gb113) (o := .cells #[.slice Ao20 t105.length co20, .slice Ao22 t108.length co22, .int .i64 t111, .int .i64 t112] 47 (0, 0)) (by (with_reducible repeat (first | refine blk_drewN ?_ _ | refine blk_drew ?_ | refine blk_alloc ?_ _)); exact BK113.out) hb); have n7_ := Aside0.mk (below_step (by repeat (first | (with_reducible first | exact HB.out | apply below_alloc | apply pw_below_drewN | apply below_drew1 | refine below_set ?_ GE113.out) | exact HB.out)) hb); clear HO104; clear HO107; clear HO110; clear HO116; clear BK113; clear HB; have HO104 := n0_; have HO107 := n1_; have HO110 := n2_; have HO116 := n3_; have HO119 := n4_; have HO122 := n5_; have BK113 := n6_; have HB := n7_; clear n0_ n1_ n2_ n3_ n4_ n5_ n6_ n7_; (try clear hb); (try clear hb2); (try clear hk); (try clear hi); (try clear ho0); (try clear ho1)) | ((with_reducible refine gate_dst (N := 8) rfl ?_); refine box_event ?hg (N := 8) ?hd (cs := #[.slice none 0 0, .slice none 0 0, .int .i64 0, .int .i64 0]) (t := 47) ?hr ?_; (case hd => rfl); (case hg => rfl); (case hr => first | (go_simp; done) | (go_simp; rfl)); intro gb125 hg w26 hbox hb; have n0_ := Aside0.mk (Kd.R_below (by (with_reducible repeat (first | apply Kd.R_alloc | apply Kd.R_drewN | apply Kd.R_drew)); exact HO104.out) hb); have n1_ := Aside0.mk (Kd.R_below (by (with_reducible repeat (first | apply Kd.R_alloc | apply Kd.R_drewN | apply Kd.R_drew)); exact HO107.out) hb); have n2_ := Aside0.mk (Kd.R_below (by (with_reducible repeat (first | apply Kd.R_alloc | apply Kd.R_drewN | apply Kd.R_drew)); exact HO110.out) hb); have n3_ := Aside0.mk (Kd.R_below (by (with_reducible repeat (first | apply Kd.R_alloc | apply Kd.R_drewN | apply Kd.R_drew)); exact HO116.out) hb); have n4_ := Aside0.mk (Kd.R_below (by (with_reducible repeat (first | apply Kd.R_alloc | apply Kd.R_drewN | apply Kd.R_drew)); exact HO119.out) hb); have n5_ := Aside0.mk (Kd.R_below (by (with_reducible repeat (first | apply Kd.R_alloc | apply Kd.R_drewN | apply Kd.R_drew)); exact HO122.out) hb); have n6_ := Aside0.mk (blk_below (g := gb113) (o := .cells #[.slice Ao20 t105.length co20, .slice Ao22 t108.length co22, .int .i64 t111, .int .i64 t112] 47 (0, 0)) (by (with_reducible repeat (first | refine blk_drewN ?_ _ | refine blk_drew ?_ | refine blk_alloc ?_ _)); exact BK113.out) hb); have n7_ := Aside0.mk (below_step (by repeat (first | (with_reducible first | exact HB.out | apply below_alloc | apply pw_below_drewN | apply below_drew1 | refine below_set ?_ GE113.out) | exact HB.out)) hb); have n8_ := Aside0.mk (hbox); have n9_ := Aside0.mk ((by rw [hg]; exact (below_size (by repeat (first | (with_reducible first | exact HB.out | apply below_alloc | apply pw_below_drewN | apply below_drew1 | refine below_set ?_ GE113.out) | exact HB.out))) : w.heap.size ≤ gb125)); have n10_ := Aside0.mk ((by rw [hg]; exact (below_size (by repeat (first | (with_reducible first | exact HB.out | apply below_alloc | apply pw_below_drewN | apply below_drew1 | refine below_set ?_ GE113.out) | exact HB.out))) : w.heap.size ≤ gb125)); have n11_ := Aside0.mk ((by rw [hg]; exact Nat.ne_of_lt (blk_lt (g := gb113) (o := .cells #[.slice Ao20 t105.length co20, .slice Ao22 t108.length co22, .int .i64 t111, .int .i64 t112] 47 (0, 0)) (by (with_reducible repeat (first | refine blk_drewN ?_ _ | refine blk_drew ?_ | refine blk_alloc ?_ _)); exact BK113.out)) : gb113 ≠ gb125)); have n12_ := Aside0.mk ((by rw [hg]; exact Nat.ne_of_gt (blk_lt (g := gb113) (o := .cells #[.slice Ao20 t105.length co20, .slice Ao22 t108.length co22, .int .i64 t111, .int .i64 t112] 47 (0, 0)) (by (with_reducible repeat (first | refine blk_drewN ?_ _ | refine blk_drew ?_ | refine blk_alloc ?_ _)); exact BK113.out)) : gb125 ≠ gb113)); clear HO104; clear HO107; clear HO110; clear HO116; clear HO119; clear HO122; clear BK113; clear HB; have HO104 := n0_; have HO107 := n1_; have HO110 := n2_; have HO116 := n3_; have HO119 := n4_; have HO122 := n5_; have BK113 := n6_; have HB := n7_; have BK125 := n8_; have GW125 := n9_; have GE125 := n10_; have NB113_125 := n11_; have NB125_113 := n12_; clear n0_ n1_ n2_ n3_ n4_ n5_ n6_ n7_ n8_ n9_ n10_ n11_ n12_; clear hb hbox hg; obtain ⟨Ao27, co27, eo27⟩ := Kd.R_slice HO119.out; subst eo27; have hnb28 := NB125_113.out; have hnc28 := NB113_125.out; have hcz29_0 : w26.cell? ⟨gb125, 0, none⟩ = some (.slice none 0 0) := (blk_cell BK125.out 0).trans rfl; have hcz29_1 : w26.cell? ⟨gb125, 1, none⟩ = some (.slice none 0 0) := (blk_cell BK125.out 1).trans rfl; have hcz29_2 : w26.cell? ⟨gb125, 2, none⟩ = some (.int .i64 0) := (blk_cell BK125.out 2).trans rfl; have hcz29_3 : w26.cell? ⟨gb125, 3, none⟩ = some (.int .i64 0) := (blk_cell BK125.out 3).trans rfl; have hfz29_0 := blk_frozen BK125.out 0; have hfz29_1 := blk_frozen BK125.out 1; have hfz29_2 := blk_frozen BK125.out 2; have hfz29_3 := blk_frozen BK125.out 3; obtain ⟨Ao30, co30, eo30⟩ := Kd.R_slice HO122.out; subst eo30; have hcz31_0 : w26.cell? ⟨gb113, 0, none⟩ = some (.slice Ao20 t105.length co20) := (blk_cell BK113.out 0).trans rfl; have hcz31_1 : w26.cell? ⟨gb113, 1, none⟩ = some (.slice Ao22 t108.length co22) := (blk_cell BK113.out 1).trans rfl; have hcz31_2 : w26.cell? ⟨gb113, 2, none⟩ = some (.int .i64 t111) := (blk_cell BK113.out 2).trans rfl; have hcz31_3 : w26.cell? ⟨gb113, 3, none⟩ = some (.int .i64 t112) := (blk_cell BK113.out 3).trans rfl; have hfz31_0 := blk_frozen BK113.out 0; have hfz31_1 := blk_frozen BK113.out 1; have hfz31_2 := blk_frozen BK113.out 2; have hfz31_3 := blk_frozen BK113.out 3) | ((with_reducible refine gate_callee (f := 31) rfl ?_); refine goesL_ (some 29) rfl rfl Try.func31 (by kernel_rfl) rfl #[.agg #[.slice Ao27 t117.length co27, .slice Ao30 t120.length co30, .int .i64 t123, .int .i64 t124], .agg #[.slice Ao20 t105.length co20, .slice Ao22 t108.length co22, .int .i64 t111, .int .i64 t112]] rfl (by (try simp only [List.map_toArray, List.map_cons, List.map_nil]); first | done | rfl | (simp only [List.length_drop, List.length_take]; rfl)) ?_; (with_reducible refine (laws_eqPlanOut.calls k _ _ t117 _ _ t120 t123 t124 _ _ t105 _ _ t108 t111 t112 true _ ?side1 ?side2 ?side3 ?side4 ?side5 ?side6 ?side7 ?side8 A9.out).mono ?_); (case side1 => refine (Kd.R_reads' (e := 111) (base := w.heap.size) (ok := fun k_ => ((((some k_ ≠ (.slice Ao30 t120.length co30 : Value).ownBlock ∧ some k_ ≠ (.slice Ao17 t102.length co17 : Value).ownBlock) ∧ some k_ ≠ (.slice Ao20 t105.length co20 : Value).ownBlock) ∧ some k_ ≠ (.slice Ao22 t108.length co22 : Value).ownBlock) ∧ some k_ ≠ (.slice Ao24 t114.length co24 : Value).ownBlock)) (n := t117.length) (c := co27) ?_).2.2; exact (by (with_reducible repeat (first | apply Kd.R_alloc | apply Kd.R_drewN | apply Kd.R_drew)); exact (Kd.R_mono (Kd.R_far (p := ⟨gb125, 3, none⟩) (Kd.R_far (p := ⟨gb125, 2, none⟩) (Kd.R_far (p := ⟨gb125, 1, none⟩) (Kd.R_far (p := ⟨gb125, 0, none⟩) (Kd.R_types HO119.out BK125.out (by decide)) (fun _ hk => hk.2) (.slice Ao27 t117.length co27)) (fun _ hk => hk.2) (.slice Ao30 t120.length co30)) (fun _ hk => hk.2) (.int .i64 t123)) (fun _ hk => hk.2) (.int .i64 t124)) (fun _ h_ => h_.1)))); (case side2 => exact (Kd.R_reads' HO119.out).2.1); (case side3 => refine (Kd.R_reads' (e := 111) (base := w.heap.size) (ok := fun k_ => ((((some k_ ≠ (.slice Ao27 t117.length co27 : Value).ownBlock ∧ some k_ ≠ (.slice Ao17 t102.length co17 : Value).ownBlock) ∧ some k_ ≠ (.slice Ao20 t105.length co20 : Value).ownBlock) ∧ some k_ ≠ (.slice Ao22 t108.length co22 : Value).ownBlock) ∧ some k_ ≠ (.slice Ao24 t114.length co24 : Value).ownBlock)) (n := t120.length) (c := co30) ?_).2.2; exact (by (with_reducible repeat (first | apply Kd.R_alloc | apply Kd.R_drewN | apply Kd.R_drew)); exact (Kd.R_mono (Kd.R_far (p := ⟨gb125, 3, none⟩) (Kd.R_far (p := ⟨gb125, 2, none⟩) (Kd.R_far (p := ⟨gb125, 1, none⟩) (Kd.R_far (p := ⟨gb125, 0, none⟩) (Kd.R_types HO122.out BK125.out (by decide)) (fun _ hk => hk.2) (.slice Ao27 t117.length co27)) (fun _ hk => hk.2) (.slice Ao30 t120.length co30)) (fun _ hk => hk.2) (.int .i64 t123)) (fun _ hk => hk.2) (.int .i64 t124)) (fun _ h_ => h_.1)))); (case side4 => exact (Kd.R_reads' HO122.out).2.1); (case side5 => refine (Kd.R_reads' (e := 111) (base := w.heap.size) (ok := fun k_ => ((((some k_ ≠ (.slice Ao22 t108.length co22 : Value).ownBlock ∧ some k_ ≠ (.slice Ao17 t102.length co17 : Value).ownBlock) ∧ some k_ ≠ (.slice Ao24 t114.length co24 : Value).ownBlock) ∧ some k_ ≠ (.slice Ao27 t117.length co27 : Value).ownBlock) ∧ some k_ ≠ (.slice Ao30 t120.length co30 : Value).ownBlock)) (n := t105.length) (c := co20) ?_).2.2; exact (by (with_reducible repeat (first | apply Kd.R_alloc | apply Kd.R_drewN | apply Kd.R_drew)); exact (Kd.R_mono (Kd.R_far (p := ⟨gb125, 3, none⟩) (Kd.R_far (p := ⟨gb125, 2, none⟩) (Kd.R_far (p := ⟨gb125, 1, none⟩) (Kd.R_far (p := ⟨gb125, 0, none⟩) (Kd.R_types HO107.out BK125.out (by decide)) (fun _ hk => hk.2) (.slice Ao27 t117.length co27)) (fun _ hk => hk.2) (.slice Ao30 t120.length co30)) (fun _ hk => hk.2) (.int .i64 t123)) (fun _ hk => hk.2) (.int .i64 t124)) (fun _ h_ => h_.1)))); (case side6 => exact (Kd.R_reads' HO107.out).2.1); (case side7 => refine (Kd.R_reads' (e := 111) (base := w.heap.size) (ok := fun k_ => ((((some k_ ≠ (.slice Ao20 t105.length co20 : Value).ownBlock ∧ some k_ ≠ (.slice Ao17 t102.length co17 : Value).ownBlock) ∧ some k_ ≠ (.slice Ao24 t114.length co24 : Value).ownBlock) ∧ some k_ ≠ (.slice Ao27 t117.length co27 : Value).ownBlock) ∧ some k_ ≠ (.slice Ao30 t120.length co30 : Value).ownBlock)) (n := t108.length) (c := co22) ?_).2.2; exact (by (with_reducible repeat (first | apply Kd.R_alloc | apply Kd.R_drewN | apply Kd.R_drew)); exact (Kd.R_mono (Kd.R_far (p := ⟨gb125, 3, none⟩) (Kd.R_far (p := ⟨gb125, 2, none⟩) (Kd.R_far (p := ⟨gb125, 1, none⟩) (Kd.R_far (p := ⟨gb125, 0, none⟩) (Kd.R_types HO110.out BK125.out (by decide)) (fun _ hk => hk.2) (.slice Ao27 t117.length co27)) (fun _ hk => hk.2) (.slice Ao30 t120.length co30)) (fun _ hk => hk.2) (.int .i64 t123)) (fun _ hk => hk.2) (.int .i64 t124)) (fun _ h_ => h_.1)))); (case side8 => exact (Kd.R_reads' HO110.out).2.1); rintro e w32 ⟨rfl, hb⟩; refine ⟨_, rfl, ?_⟩; have n0_ := Aside0.mk (Kd.R_below (by (with_reducible repeat (first | apply Kd.R_alloc | apply Kd.R_drewN | apply Kd.R_drew)); exact (Kd.R_mono (Kd.R_far (p := ⟨gb125, 3, none⟩) (Kd.R_far (p := ⟨gb125, 2, none⟩) (Kd.R_far (p := ⟨gb125, 1, none⟩) (Kd.R_far (p := ⟨gb125, 0, none⟩) (Kd.R_types HO104.out BK125.out (by decide)) (fun _ hk => hk.2) (.slice Ao27 t117.length co27)) (fun _ hk => hk.2) (.slice Ao30 t120.length co30)) (fun _ hk => hk.2) (.int .i64 t123)) (fun _ hk => hk.2) (.int .i64 t124)) (fun _ h_ => h_.1))) hb); have n1_ := Aside0.mk (Kd.R_below (by (with_reducible repeat (first | apply Kd.R_alloc | apply Kd.R_drewN | apply Kd.R_drew)); exact (Kd.R_mono (Kd.R_far (p := ⟨gb125, 3, none⟩) (Kd.R_far (p := ⟨gb125, 2, none⟩) (Kd.R_far (p := ⟨gb125, 1, none⟩) (Kd.R_far (p := ⟨gb125, 0, none⟩) (Kd.R_types HO107.out BK125.out (by decide)) (fun _ hk => hk.2) (.slice Ao27 t117.length co27)) (fun _ hk => hk.2) (.slice Ao30 t120.length co30)) (fun _ hk => hk.2) (.int .i64 t123)) (fun _ hk => hk.2) (.int .i64 t124)) (fun _ h_ => h_.1))) hb); have n2_ := Aside0.mk (Kd.R_below (by (with_reducible repeat (first | apply Kd.R_alloc | apply Kd.R_drewN | apply Kd.R_drew)); exact (Kd.R_mono (Kd.R_far (p := ⟨gb125, 3, none⟩) (Kd.R_far (p := ⟨gb125, 2, none⟩) (Kd.R_far (p := ⟨gb125, 1, none⟩) (Kd.R_far (p := ⟨gb125, 0, none⟩) (Kd.R_types HO110.out BK125.out (by decide)) (fun _ hk => hk.2) (.slice Ao27 t117.length co27)) (fun _ hk => hk.2) (.slice Ao30 t120.length co30)) (fun _ hk => hk.2) (.int .i64 t123)) (fun _ hk => hk.2) (.int .i64 t124)) (fun _ h_ => h_.1))) hb); have n3_ := Aside0.mk (Kd.R_below (by (with_reducible repeat (first | apply Kd.R_alloc | apply Kd.R_drewN | apply Kd.R_drew)); exact (Kd.R_mono (Kd.R_far (p := ⟨gb125, 3, none⟩) (Kd.R_far (p := ⟨gb125, 2, none⟩) (Kd.R_far (p := ⟨gb125, 1, none⟩) (Kd.R_far (p := ⟨gb125, 0, none⟩) (Kd.R_types HO116.out BK125.out (by decide)) (fun _ hk => hk.2) (.slice Ao27 t117.length co27)) (fun _ hk => hk.2) (.slice Ao30 t120.length co30)) (fun _ hk => hk.2) (.int .i64 t123)) (fun _ hk => hk.2) (.int .i64 t124)) (fun _ h_ => h_.1))) hb); have n4_ := Aside0.mk (Kd.R_below (by (with_reducible repeat (first | apply Kd.R_alloc | apply Kd.R_drewN | apply Kd.R_drew)); exact (Kd.R_mono (Kd.R_far (p := ⟨gb125, 3, none⟩) (Kd.R_far (p := ⟨gb125, 2, none⟩) (Kd.R_far (p := ⟨gb125, 1, none⟩) (Kd.R_far (p := ⟨gb125, 0, none⟩) (Kd.R_types HO119.out BK125.out (by decide)) (fun _ hk => hk.2) (.slice Ao27 t117.length co27)) (fun _ hk => hk.2) (.slice Ao30 t120.length co30)) (fun _ hk => hk.2) (.int .i64 t123)) (fun _ hk => hk.2) (.int .i64 t124)) (fun _ h_ => h_.1))) hb); have n5_ := Aside0.mk (Kd.R_below (by (with_reducible repeat (first | apply Kd.R_alloc | apply Kd.R_drewN | apply Kd.R_drew)); exact (Kd.R_mono (Kd.R_far (p := ⟨gb125, 3, none⟩) (Kd.R_far (p := ⟨gb125, 2, none⟩) (Kd.R_far (p := ⟨gb125, 1, none⟩) (Kd.R_far (p := ⟨gb125, 0, none⟩) (Kd.R_types HO122.out BK125.out (by decide)) (fun _ hk => hk.2) (.slice Ao27 t117.length co27)) (fun _ hk => hk.2) (.slice Ao30 t120.length co30)) (fun _ hk => hk.2) (.int .i64 t123)) (fun _ hk => hk.2) (.int .i64 t124)) (fun _ h_ => h_.1))) hb); have n6_ := Aside0.mk (blk_below (g := gb113) (o := .cells #[.slice Ao20 t105.length co20, .slice Ao22 t108.length co22, .int .i64 t111, .int .i64 t112] 47 (0, 0)) (by (with_reducible repeat (first | refine blk_drewN ?_ _ | refine blk_drew ?_ | refine blk_alloc ?_ _)); refine blk_far ?_ NB113_125.out _; (with_reducible repeat (first | refine blk_drewN ?_ _ | refine blk_drew ?_ | refine blk_alloc ?_ _)); refine blk_far ?_ NB113_125.out _; (with_reducible repeat (first | refine blk_drewN ?_ _ | refine blk_drew ?_ | refine blk_alloc ?_ _)); refine blk_far ?_ NB113_125.out _; (with_reducible repeat (first | refine blk_drewN ?_ _ | refine blk_drew ?_ | refine blk_alloc ?_ _)); refine blk_far ?_ NB113_125.out _; (with_reducible repeat (first | refine blk_drewN ?_ _ | refine blk_drew ?_ | refine blk_alloc ?_ _)); exact BK113.out) hb); have n7_ := Aside0.mk (blk_below (g := gb125) (o := .cells #[.slice Ao27 t117.length co27, .slice Ao30 t120.length co30, .int .i64 t123, .int .i64 t124] 47 (0, 0)) (by (with_reducible repeat (first | refine blk_drewN ?_ _ | refine blk_drew ?_ | refine blk_alloc ?_ _)); refine blk_put (cs := #[.slice Ao27 t117.length co27, .slice Ao30 t120.length co30, .int .i64 t123, .int .i64 0]) ?_ 3 _ rfl; (with_reducible repeat (first | refine blk_drewN ?_ _ | refine blk_drew ?_ | refine blk_alloc ?_ _)); refine blk_put (cs := #[.slice Ao27 t117.length co27, .slice Ao30 t120.length co30, .int .i64 0, .int .i64 0]) ?_ 2 _ rfl; (with_reducible repeat (first | refine blk_drewN ?_ _ | refine blk_drew ?_ | refine blk_alloc ?_ _)); refine blk_put (cs := #[.slice Ao27 t117.length co27, .slice none 0 0, .int .i64 0, .int .i64 0]) ?_ 1 _ rfl; (with_reducible repeat (first | refine blk_drewN ?_ _ | refine blk_drew ?_ | refine blk_alloc ?_ _)); refine blk_put (cs := #[.slice none 0 0, .slice none 0 0, .int .i64 0, .int .i64 0]) ?_ 0 _ rfl; (with_reducible repeat (first | refine blk_drewN ?_ _ | refine blk_drew ?_ | refine blk_alloc ?_ _)); exact BK125.out) hb); have n8_ := Aside0.mk (below_step (by repeat (first | (with_reducible first | exact HB.out | apply below_alloc | apply pw_below_drewN | apply below_drew1 | refine below_set ?_ GE113.out | refine below_set ?_ GE125.out) | exact HB.out)) hb); clear HO104; clear HO107; clear HO110; clear HO116; clear HO119; clear HO122; clear BK113; clear BK125; clear HB; have HO104 := n0_; have HO107 := n1_; have HO110 := n2_; have HO116 := n3_; have HO119 := n4_; have HO122 := n5_; have BK113 := n6_; have BK125 := n7_; have HB := n8_; clear n0_ n1_ n2_ n3_ n4_ n5_ n6_ n7_ n8_; (try clear hb); (try clear hb2); (try clear hk); (try clear hi)) | ((with_reducible refine gate_callee (f := 29) rfl ?_); refine goesL_ (some 33) rfl rfl Try.func29 (by kernel_rfl) rfl #[.slice A0 l0.length c0] rfl (by (try simp only [List.map_toArray, List.map_cons, List.map_nil]); first | done | rfl | (simp only [List.length_drop, List.length_take]; rfl)) ?_; (with_reducible refine (laws_toItemS.calls k _ _ l0 t127 _ ?side1 ?side2 A11.out).mono ?_); (case side1 => repeat (first | exact (Kd.C_below HR0.out HB.out) | (with_reducible refine Kd.C_alloc ?_ _) | (with_reducible refine Kd.C_drewN ?_ _) | (with_reducible refine Kd.C_drew ?_))); (case side2 => exact HC0.out); rintro e w33 ⟨v128, rfl, ho0, hb⟩; refine ⟨_, rfl, ?_⟩; have n0_ := Aside0.mk (Kd.R_elder' (by (with_reducible repeat (first | apply Kd.R_alloc | apply Kd.R_drewN | apply Kd.R_drew)); exact HO104.out) (Kd.R_base ho0) hb); have n1_ := Aside0.mk (Kd.R_elder' (by (with_reducible repeat (first | apply Kd.R_alloc | apply Kd.R_drewN | apply Kd.R_drew)); exact HO107.out) (Kd.R_base ho0) hb); have n2_ := Aside0.mk (Kd.R_elder' (by (with_reducible repeat (first | apply Kd.R_alloc | apply Kd.R_drewN | apply Kd.R_drew)); exact HO110.out) (Kd.R_base ho0) hb); have n3_ := Aside0.mk (Kd.R_elder' (by (with_reducible repeat (first | apply Kd.R_alloc | apply Kd.R_drewN | apply Kd.R_drew)); exact HO116.out) (Kd.R_base ho0) hb); have n4_ := Aside0.mk (Kd.R_elder' (by (with_reducible repeat (first | apply Kd.R_alloc | apply Kd.R_drewN | apply Kd.R_drew)); exact HO119.out) (Kd.R_base ho0) hb); have n5_ := Aside0.mk (Kd.R_elder' (by (with_reducible repeat (first | apply Kd.R_alloc | apply Kd.R_drewN | apply Kd.R_drew)); exact HO122.out) (Kd.R_base ho0) hb); have n6_ := Aside0.mk (Kd.R_lower (Kd.R_new' (Kd.R_new' (Kd.R_new' (Kd.R_new' (Kd.R_new' (Kd.R_new' ho0 (Kd.R_lt (by (with_reducible repeat (first | apply Kd.R_alloc | apply Kd.R_drewN | apply Kd.R_drew)); exact HO104.out))) (Kd.R_lt (by (with_reducible repeat (first | apply Kd.R_alloc | apply Kd.R_drewN | apply Kd.R_drew)); exact HO107.out))) (Kd.R_lt (by (with_reducible repeat (first | apply Kd.R_alloc | apply Kd.R_drewN | apply Kd.R_drew)); exact HO110.out))) (Kd.R_lt (by (with_reducible repeat (first | apply Kd.R_alloc | apply Kd.R_drewN | apply Kd.R_drew)); exact HO116.out))) (Kd.R_lt (by (with_reducible repeat (first | apply Kd.R_alloc | apply Kd.R_drewN | apply Kd.R_drew)); exact HO119.out))) (Kd.R_lt (by (with_reducible repeat (first | apply Kd.R_alloc | apply Kd.R_drewN | apply Kd.R_drew)); exact HO122.out))) (below_size (by repeat (first | (with_reducible first | exact HB.out | apply below_alloc | apply pw_below_drewN | apply below_drew1 | refine below_set ?_ GE113.out | refine below_set ?_ GE125.out) | exact HB.out)))); have n7_ := Aside0.mk (blk_below (g := gb113) (o := .cells #[.slice Ao20 t105.length co20, .slice Ao22 t108.length co22, .int .i64 t111, .int .i64 t112] 47 (0, 0)) (by (with_reducible repeat (first | refine blk_drewN ?_ _ | refine blk_drew ?_ | refine blk_alloc ?_ _)); exact BK113.out) hb); have n8_ := Aside0.mk (blk_below (g := gb125) (o := .cells #[.slice Ao27 t117.length co27, .slice Ao30 t120.length co30, .int .i64 t123, .int .i64 t124] 47 (0, 0)) (by (with_reducible repeat (first | refine blk_drewN ?_ _ | refine blk_drew ?_ | refine blk_alloc ?_ _)); exact BK125.out) hb); have n9_ := Aside0.mk (below_step (by repeat (first | (with_reducible first | exact HB.out | apply below_alloc | apply pw_below_drewN | apply below_drew1 | refine below_set ?_ GE113.out | refine below_set ?_ GE125.out) | exact HB.out)) hb); clear HO104; clear HO107; clear HO110; clear HO116; clear HO119; clear HO122; clear BK113; clear BK125; clear HB; have HO104 := n0_; have HO107 := n1_; have HO110 := n2_; have HO116 := n3_; have HO119 := n4_; have HO122 := n5_; have HO129 := n6_; have BK113 := n7_; have BK125 := n8_; have HB := n9_; clear n0_ n1_ n2_ n3_ n4_ n5_ n6_ n7_ n8_ n9_; (try clear hb); (try clear hb2); (try clear hk); (try clear hi); (try clear ho0); obtain ⟨Ao34, co34, eo34⟩ := Kd.R_slice HO129.out; subst eo34) | ((with_reducible refine gate_callee (f := 32) rfl ?_); refine goesL_ (some 34) rfl rfl Try.func32 (by kernel_rfl) rfl #[.slice Ao24 t114.length co24, .slice Ao34 t127.length co34] rfl (by (try simp only [List.map_toArray, List.map_cons, List.map_nil]); first | done | rfl | (simp only [List.length_drop, List.length_take]; rfl)) ?_; (with_reducible refine (laws_eqItemS.calls k _ _ t114 _ _ t127 true _ ?side1 ?side2 ?side3 ?side4 A12.out).mono ?_); (case side1 => repeat (first | exact (Kd.R_reads' HO116.out).2.2 | (with_reducible refine Kd.C_alloc ?_ _) | (with_reducible refine Kd.C_drewN ?_ _) | (with_reducible refine Kd.C_drew ?_))); (case side2 => exact (Kd.R_reads' HO116.out).2.1); (case side3 => repeat (first | exact (Kd.R_reads' HO129.out).2.2 | (with_reducible refine Kd.C_alloc ?_ _) | (with_reducible refine Kd.C_drewN ?_ _) | (with_reducible refine Kd.C_drew ?_))); (case side4 => exact (Kd.R_reads' HO129.out).2.1); rintro e w35 ⟨rfl, hb⟩; refine ⟨_, rfl, ?_⟩; have n0_ := Aside0.mk (Kd.R_below (by (with_reducible repeat (first | apply Kd.R_alloc | apply Kd.R_drewN | apply Kd.R_drew)); exact HO104.out) hb); have n1_ := Aside0.mk (Kd.R_below (by (with_reducible repeat (first | apply Kd.R_alloc | apply Kd.R_drewN | apply Kd.R_drew)); exact HO107.out) hb); have n2_ := Aside0.mk (Kd.R_below (by (with_reducible repeat (first | apply Kd.R_alloc | apply Kd.R_drewN | apply Kd.R_drew)); exact HO110.out) hb); have n3_ := Aside0.mk (Kd.R_below (by (with_reducible repeat (first | apply Kd.R_alloc | apply Kd.R_drewN | apply Kd.R_drew)); exact HO116.out) hb); have n4_ := Aside0.mk (Kd.R_below (by (with_reducible repeat (first | apply Kd.R_alloc | apply Kd.R_drewN | apply Kd.R_drew)); exact HO119.out) hb); have n5_ := Aside0.mk (Kd.R_below (by (with_reducible repeat (first | apply Kd.R_alloc | apply Kd.R_drewN | apply Kd.R_drew)); exact HO122.out) hb); have n6_ := Aside0.mk (Kd.R_below (by (with_reducible repeat (first | apply Kd.R_alloc | apply Kd.R_drewN | apply Kd.R_drew)); exact HO129.out) hb); have n7_ := Aside0.mk (blk_below (g := gb113) (o := .cells #[.slice Ao20 t105.length co20, .slice Ao22 t108.length co22, .int .i64 t111, .int .i64 t112] 47 (0, 0)) (by (with_reducible repeat (first | refine blk_drewN ?_ _ | refine blk_drew ?_ | refine blk_alloc ?_ _)); exact BK113.out) hb); have n8_ := Aside0.mk (blk_below (g := gb125) (o := .cells #[.slice Ao27 t117.length co27, .slice Ao30 t120.length co30, .int .i64 t123, .int .i64 t124] 47 (0, 0)) (by (with_reducible repeat (first | refine blk_drewN ?_ _ | refine blk_drew ?_ | refine blk_alloc ?_ _)); exact BK125.out) hb); have n9_ := Aside0.mk (below_step (by repeat (first | (with_reducible first | exact HB.out | apply below_alloc | apply pw_below_drewN | apply below_drew1 | refine below_set ?_ GE113.out | refine below_set ?_ GE125.out) | exact HB.out)) hb); clear HO104; clear HO107; clear HO110; clear HO116; clear HO119; clear HO122; clear HO129; clear BK113; clear BK125; clear HB; have HO104 := n0_; have HO107 := n1_; have HO110 := n2_; have HO116 := n3_; have HO119 := n4_; have HO122 := n5_; have HO129 := n6_; have BK113 := n7_; have BK125 := n8_; have HB := n9_; clear n0_ n1_ n2_ n3_ n4_ n5_ n6_ n7_ n8_ n9_; (try clear hb); (try clear hb2); (try clear hk); (try clear hi)) | ((with_reducible refine gate_callee (f := 33) rfl ?_); refine goesL_ (some 38) rfl rfl Try.func33 (by kernel_rfl) rfl #[.slice Ao24 t114.length co24, .int .i64 1] rfl (by (try simp only [List.map_toArray, List.map_cons, List.map_nil]); first | done | rfl | (simp only [List.length_drop, List.length_take]; rfl)) ?_; (with_reducible refine (laws_markItemS.calls k (fun k_ => some k_ = (.slice Ao24 t114.length co24 : Value).ownBlock) (.slice Ao24 t114.length co24) t114 1 t131 t132 w _ ?side1 ?side2 A14.out).mono ?_); (case side1 => repeat (first | (with_reducible first | exact HB.out | apply below_alloc | apply pw_below_drewN | apply below_drew1 | refine below_set ?_ GE113.out | refine below_set ?_ GE125.out) | exact HB.out)); (case side2 => exact Kd.R_tight rfl HO116.out); rintro e w36 ⟨rfl, hy0, hb, hkp⟩; refine ⟨_, rfl, ?_⟩; have n0_ := Aside0.mk (Kd.R_mono (ok' := fun k_ => some k_ ≠ (.slice Ao20 t105.length co20 : Value).ownBlock ∧ some k_ ≠ (.slice Ao22 t108.length co22 : Value).ownBlock ∧ some k_ ≠ (.slice Ao24 t114.length co24 : Value).ownBlock ∧ some k_ ≠ (.slice Ao27 t117.length co27 : Value).ownBlock ∧ some k_ ≠ (.slice Ao30 t120.length co30 : Value).ownBlock ∧ some k_ ≠ (.slice Ao34 t127.length co34 : Value).ownBlock) (Kd.R_keptB (HO104.out) hkp (fun k_ hk_ hs_ => (hk_.1.1.1.2) hs_)) (fun k_ hk_ => ⟨hk_.1.1.1.1.1.1.2, hk_.1.1.1.1.1.2, hk_.1.1.1.1.2, hk_.1.1.1.2, hk_.1.1.2, hk_.1.2⟩)); have n1_ := Aside0.mk (Kd.R_mono (ok' := fun k_ => some k_ ≠ (.slice Ao17 t102.length co17 : Value).ownBlock ∧ some k_ ≠ (.slice Ao22 t108.length co22 : Value).ownBlock ∧ some k_ ≠ (.slice Ao24 t114.length co24 : Value).ownBlock ∧ some k_ ≠ (.slice Ao27 t117.length co27 : Value).ownBlock ∧ some k_ ≠ (.slice Ao30 t120.length co30 : Value).ownBlock ∧ some k_ ≠ (.slice Ao34 t127.length co34 : Value).ownBlock) (Kd.R_keptB (HO107.out) hkp (fun k_ hk_ hs_ => (hk_.1.1.1.2) hs_)) (fun k_ hk_ => ⟨hk_.1.1.1.1.1.2, hk_.1.1.1.1.1.1, hk_.1.1.1.1.2, hk_.1.1.1.2, hk_.1.1.2, hk_.1.2⟩)); have n2_ := Aside0.mk (Kd.R_mono (ok' := fun k_ => some k_ ≠ (.slice Ao17 t102.length co17 : Value).ownBlock ∧ some k_ ≠ (.slice Ao20 t105.length co20 : Value).ownBlock ∧ some k_ ≠ (.slice Ao24 t114.length co24 : Value).ownBlock ∧ some k_ ≠ (.slice Ao27 t117.length co27 : Value).ownBlock ∧ some k_ ≠ (.slice Ao30 t120.length co30 : Value).ownBlock ∧ some k_ ≠ (.slice Ao34 t127.length co34 : Value).ownBlock) (Kd.R_keptB (HO110.out) hkp (fun k_ hk_ hs_ => (hk_.1.1.1.2) hs_)) (fun k_ hk_ => ⟨hk_.1.1.1.1.1.2, hk_.1.1.1.1.1.1, hk_.1.1.1.1.2, hk_.1.1.1.2, hk_.1.1.2, hk_.1.2⟩)); have n3_ := Aside0.mk (blk_kept (by (with_reducible repeat (first | refine blk_drewN ?_ _ | refine blk_drew ?_ | refine blk_alloc ?_ _)); exact BK113.out) hkp (fun hs_ => (fun e_ => (Kd.R_ne HO116.out BK113.out (by decide)) e_) hs_)); have n4_ := Aside0.mk (Kd.R_reok rfl hy0 (fun k_ e_ => HO116.out.1 k_ e_)); have n5_ := Aside0.mk (Kd.R_mono (ok' := fun k_ => some k_ ≠ (.slice Ao17 t102.length co17 : Value).ownBlock ∧ some k_ ≠ (.slice Ao20 t105.length co20 : Value).ownBlock ∧ some k_ ≠ (.slice Ao22 t108.length co22 : Value).ownBlock ∧ some k_ ≠ (.slice Ao24 t114.length co24 : Value).ownBlock ∧ some k_ ≠ (.slice Ao30 t120.length co30 : Value).ownBlock ∧ some k_ ≠ (.slice Ao34 t127.length co34 : Value).ownBlock) (Kd.R_keptB (HO119.out) hkp (fun k_ hk_ hs_ => (hk_.1.2) hs_)) (fun k_ hk_ => ⟨hk_.1.1.1.1.1.2, hk_.1.1.1.1.2, hk_.1.1.1.2, hk_.1.1.2, hk_.1.1.1.1.1.1, hk_.1.2⟩)); have n6_ := Aside0.mk (Kd.R_mono (ok' := fun k_ => some k_ ≠ (.slice Ao17 t102.length co17 : Value).ownBlock ∧ some k_ ≠ (.slice Ao20 t105.length co20 : Value).ownBlock ∧ some k_ ≠ (.slice Ao22 t108.length co22 : Value).ownBlock ∧ some k_ ≠ (.slice Ao24 t114.length co24 : Value).ownBlock ∧ some k_ ≠ (.slice Ao27 t117.length co27 : Value).ownBlock ∧ some k_ ≠ (.slice Ao34 t127.length co34 : Value).ownBlock) (Kd.R_keptB (HO122.out) hkp (fun k_ hk_ hs_ => (hk_.1.2) hs_)) (fun k_ hk_ => ⟨hk_.1.1.1.1.1.2, hk_.1.1.1.1.2, hk_.1.1.1.2, hk_.1.1.2, hk_.1.1.1.1.1.1, hk_.1.2⟩)); have n7_ := Aside0.mk (blk_kept (by (with_reducible repeat (first | refine blk_drewN ?_ _ | refine blk_drew ?_ | refine blk_alloc ?_ _)); exact BK125.out) hkp (fun hs_ => (fun e_ => (Kd.R_ne HO116.out BK125.out (by decide)) e_) hs_)); have n8_ := Aside0.mk (Kd.R_mono (ok' := fun k_ => some k_ ≠ (.slice Ao17 t102.length co17 : Value).ownBlock ∧ some k_ ≠ (.slice Ao20 t105.length co20 : Value).ownBlock ∧ some k_ ≠ (.slice Ao22 t108.length co22 : Value).ownBlock ∧ some k_ ≠ (.slice Ao24 t114.length co24 : Value).ownBlock ∧ some k_ ≠ (.slice Ao27 t117.length co27 : Value).ownBlock ∧ some k_ ≠ (.slice Ao30 t120.length co30 : Value).ownBlock) (Kd.R_keptB (HO129.out) hkp (fun k_ hk_ hs_ => (hk_.1.1.2) hs_)) (fun k_ hk_ => ⟨hk_.1.1.1.1.1.1.2, hk_.1.1.1.1.1.2, hk_.1.1.1.1.2, hk_.1.1.1.2, hk_.1.1.2, hk_.1.2⟩)); have n9_ := Aside0.mk (hb); clear HO104; clear HO107; clear HO110; clear BK113; clear HO116; clear HO119; clear HO122; clear BK125; clear HO129; clear HB; have HO104 := n0_; have HO107 := n1_; have HO110 := n2_; have BK113 := n3_; have HO116 := n4_; have HO119 := n5_; have HO122 := n6_; have BK125 := n7_; have HO129 := n8_; have HB := n9_; clear n0_ n1_ n2_ n3_ n4_ n5_ n6_ n7_ n8_ n9_; (try clear hb); (try clear hkp); (try clear hy0)))
        (try simp only [Act.put, List.setIfInBounds_toArray, List.set_cons_zero, List.set_cons_succ])
        go_cut [46] (fun v46 wc => ∃ (kq : Nat) (x46_14 : Bool), v46 = .bool x46_14 ∧ Aside0 (laws_FnExactPlanCut.j0 kq l0 a1 x46_14 t105 t108 t111 t112 t117 t120 t123 t124 = some r) ∧ Aside0 (kq ≤ k) ∧ Aside0 (Kd.R k111 111 wc w.heap.size (fun k_ => some k_ ≠ ((.slice Ao22 t108.length co22) : Value).ownBlock ∧ some k_ ≠ ((.slice Ao27 t117.length co27) : Value).ownBlock ∧ some k_ ≠ ((.slice Ao30 t120.length co30) : Value).ownBlock) (.slice Ao20 t105.length co20) t105) ∧ Aside0 (Kd.R k111 111 wc w.heap.size (fun k_ => some k_ ≠ ((.slice Ao20 t105.length co20) : Value).ownBlock ∧ some k_ ≠ ((.slice Ao27 t117.length co27) : Value).ownBlock ∧ some k_ ≠ ((.slice Ao30 t120.length co30) : Value).ownBlock) (.slice Ao22 t108.length co22) t108) ∧ Aside0 (Kd.R k111 111 wc w.heap.size (fun k_ => some k_ ≠ ((.slice Ao20 t105.length co20) : Value).ownBlock ∧ some k_ ≠ ((.slice Ao22 t108.length co22) : Value).ownBlock ∧ some k_ ≠ ((.slice Ao30 t120.length co30) : Value).ownBlock) (.slice Ao27 t117.length co27) t117) ∧ Aside0 (Kd.R k111 111 wc w.heap.size (fun k_ => some k_ ≠ ((.slice Ao20 t105.length co20) : Value).ownBlock ∧ some k_ ≠ ((.slice Ao22 t108.length co22) : Value).ownBlock ∧ some k_ ≠ ((.slice Ao27 t117.length co27) : Value).ownBlock) (.slice Ao30 t120.length co30) t120) ∧ Aside0 (wc.heap[gb113]? = some (.cells #[(.slice Ao20 t105.length co20), (.slice Ao22 t108.length co22), .int .i64 t111, .int .i64 t112] 47 (0, 0))) ∧ Aside0 (wc.heap[gb125]? = some (.cells #[(.slice Ao27 t117.length co27), (.slice Ao30 t120.length co30), .int .i64 t123, .int .i64 t124] 47 (0, 0))) ∧ Aside0 (Below w.heap.size w wc))
        case first =>
          have H := HC15.out
          clear HC15
          by_cases c37 : t131 < 0
          · rw [if_pos c37] at H
            have c37b0 : decide (t131 < 0) = true := decide_eq_true c37
            clear c37
            (first | rw [c37b0] | (simp only [i64_w, i32_w]; rw [c37b0]) | skip)
            have H' := Aside0.mk H
            clear H
            go_wp2
            go_meet
            case rel => exact ⟨_, (true), (by first | rfl | (simp; done) | (simp [*]; done)), H', ⟨by first | omega | exact Nat.le_refl _⟩, ⟨by (with_reducible repeat (first | apply Kd.R_alloc | apply Kd.R_drewN | apply Kd.R_drew)); exact Kd.R_mono HO107.out (fun _ hk => ⟨hk.2.1, ⟨hk.2.2.2.1, hk.2.2.2.2.1⟩⟩)⟩, ⟨by (with_reducible repeat (first | apply Kd.R_alloc | apply Kd.R_drewN | apply Kd.R_drew)); exact Kd.R_mono HO110.out (fun _ hk => ⟨hk.2.1, ⟨hk.2.2.2.1, hk.2.2.2.2.1⟩⟩)⟩, ⟨by (with_reducible repeat (first | apply Kd.R_alloc | apply Kd.R_drewN | apply Kd.R_drew)); exact Kd.R_mono HO119.out (fun _ hk => ⟨hk.2.1, ⟨hk.2.2.1, hk.2.2.2.2.1⟩⟩)⟩, ⟨by (with_reducible repeat (first | apply Kd.R_alloc | apply Kd.R_drewN | apply Kd.R_drew)); exact Kd.R_mono HO122.out (fun _ hk => ⟨hk.2.1, ⟨hk.2.2.1, hk.2.2.2.2.1⟩⟩)⟩, ⟨by (with_reducible repeat (first | refine blk_drewN ?_ _ | refine blk_drew ?_ | refine blk_alloc ?_ _)); exact BK113.out⟩, ⟨by (with_reducible repeat (first | refine blk_drewN ?_ _ | refine blk_drew ?_ | refine blk_alloc ?_ _)); exact BK125.out⟩, ⟨by repeat (first | (with_reducible first | exact HB.out | apply below_alloc | apply pw_below_drewN | apply below_drew1 | refine below_set ?_ GE113.out | refine below_set ?_ GE125.out) | exact HB.out)⟩⟩
          · rw [if_neg c37] at H
            have c37b0 : decide (t131 < 0) = false := decide_eq_false c37
            clear c37
            (first | rw [c37b0] | (simp only [i64_w, i32_w]; rw [c37b0]) | skip)
            replace H := Option.bind_eq_some_iff.mp H
            obtain ⟨t133, A380, H⟩ := H
            replace H : (laws_FnExactPlanCut.j0 k l0 a1 (!t133) t105 t108 t111 t112 t117 t120 t123 t124) = some r := H
            have A38 := Aside0.mk A380
            clear A380
            have H' := Aside0.mk H
            clear H
            have hnb39 := NB125_113.out
            have hnc39 := NB113_125.out
            have hcz40_0 : w36.cell? ⟨gb125, 0, none⟩ = some (.slice Ao27 t117.length co27) := (blk_cell BK125.out 0).trans rfl
            have hcz40_1 : w36.cell? ⟨gb125, 1, none⟩ = some (.slice Ao30 t120.length co30) := (blk_cell BK125.out 1).trans rfl
            have hcz40_2 : w36.cell? ⟨gb125, 2, none⟩ = some (.int .i64 t123) := (blk_cell BK125.out 2).trans rfl
            have hcz40_3 : w36.cell? ⟨gb125, 3, none⟩ = some (.int .i64 t124) := (blk_cell BK125.out 3).trans rfl
            have hfz40_0 := blk_frozen BK125.out 0
            have hfz40_1 := blk_frozen BK125.out 1
            have hfz40_2 := blk_frozen BK125.out 2
            have hfz40_3 := blk_frozen BK125.out 3
            have hcz41_0 : w36.cell? ⟨gb113, 0, none⟩ = some (.slice Ao20 t105.length co20) := (blk_cell BK113.out 0).trans rfl
            have hcz41_1 : w36.cell? ⟨gb113, 1, none⟩ = some (.slice Ao22 t108.length co22) := (blk_cell BK113.out 1).trans rfl
            have hcz41_2 : w36.cell? ⟨gb113, 2, none⟩ = some (.int .i64 t111) := (blk_cell BK113.out 2).trans rfl
            have hcz41_3 : w36.cell? ⟨gb113, 3, none⟩ = some (.int .i64 t112) := (blk_cell BK113.out 3).trans rfl
            have hfz41_0 := blk_frozen BK113.out 0
            have hfz41_1 := blk_frozen BK113.out 1
            have hfz41_2 := blk_frozen BK113.out 2
            have hfz41_3 := blk_frozen BK113.out 3
            go_wp2_with (first | (go_at_call 31; (with_reducible refine (laws_eqPlanOut.calls k _ _ t117 _ _ t120 t123 t124 _ _ t105 _ _ t108 t111 t112 t133 _ ?side1 ?side2 ?side3 ?side4 ?side5 ?side6 ?side7 ?side8 A38.out).mono ?_); (case side1 => repeat (first | exact (Kd.R_reads' HO119.out).2.2 | (with_reducible refine Kd.C_alloc ?_ _) | (with_reducible refine Kd.C_drewN ?_ _) | (with_reducible refine Kd.C_drew ?_))); (case side2 => exact (Kd.R_reads' HO119.out).2.1); (case side3 => repeat (first | exact (Kd.R_reads' HO122.out).2.2 | (with_reducible refine Kd.C_alloc ?_ _) | (with_reducible refine Kd.C_drewN ?_ _) | (with_reducible refine Kd.C_drew ?_))); (case side4 => exact (Kd.R_reads' HO122.out).2.1); (case side5 => repeat (first | exact (Kd.R_reads' HO107.out).2.2 | (with_reducible refine Kd.C_alloc ?_ _) | (with_reducible refine Kd.C_drewN ?_ _) | (with_reducible refine Kd.C_drew ?_))); (case side6 => exact (Kd.R_reads' HO107.out).2.1); (case side7 => repeat (first | exact (Kd.R_reads' HO110.out).2.2 | (with_reducible refine Kd.C_alloc ?_ _) | (with_reducible refine Kd.C_drewN ?_ _) | (with_reducible refine Kd.C_drew ?_))); (case side8 => exact (Kd.R_reads' HO110.out).2.1); rintro e w42 ⟨rfl, hb⟩; have n0_ := Aside0.mk (Kd.R_below (by (with_reducible repeat (first | apply Kd.R_alloc | apply Kd.R_drewN | apply Kd.R_drew)); exact HO104.out) hb); have n1_ := Aside0.mk (Kd.R_below (by (with_reducible repeat (first | apply Kd.R_alloc | apply Kd.R_drewN | apply Kd.R_drew)); exact HO107.out) hb); have n2_ := Aside0.mk (Kd.R_below (by (with_reducible repeat (first | apply Kd.R_alloc | apply Kd.R_drewN | apply Kd.R_drew)); exact HO110.out) hb); have n3_ := Aside0.mk (Kd.R_below (by (with_reducible repeat (first | apply Kd.R_alloc | apply Kd.R_drewN | apply Kd.R_drew)); exact HO116.out) hb); have n4_ := Aside0.mk (Kd.R_below (by (with_reducible repeat (first | apply Kd.R_alloc | apply Kd.R_drewN | apply Kd.R_drew)); exact HO119.out) hb); have n5_ := Aside0.mk (Kd.R_below (by (with_reducible repeat (first | apply Kd.R_alloc | apply Kd.R_drewN | apply Kd.R_drew)); exact HO122.out) hb); have n6_ := Aside0.mk (Kd.R_below (by (with_reducible repeat (first | apply Kd.R_alloc | apply Kd.R_drewN | apply Kd.R_drew)); exact HO129.out) hb); have n7_ := Aside0.mk (blk_below (g := gb113) (o := .cells #[.slice Ao20 t105.length co20, .slice Ao22 t108.length co22, .int .i64 t111, .int .i64 t112] 47 (0, 0)) (by (with_reducible repeat (first | refine blk_drewN ?_ _ | refine blk_drew ?_ | refine blk_alloc ?_ _)); exact BK113.out) hb); have n8_ := Aside0.mk (blk_below (g := gb125) (o := .cells #[.slice Ao27 t117.length co27, .slice Ao30 t120.length co30, .int .i64 t123, .int .i64 t124] 47 (0, 0)) (by (with_reducible repeat (first | refine blk_drewN ?_ _ | refine blk_drew ?_ | refine blk_alloc ?_ _)); exact BK125.out) hb); have n9_ := Aside0.mk (below_step (by repeat (first | (with_reducible first | exact HB.out | apply below_alloc | apply pw_below_drewN | apply below_drew1 | refine below_set ?_ GE113.out | refine below_set ?_ GE125.out) | exact HB.out)) hb); clear HO104; clear HO107; clear HO110; clear HO116; clear HO119; clear HO122; clear HO129; clear BK113; clear BK125; clear HB; have HO104 := n0_; have HO107 := n1_; have HO110 := n2_; have HO116 := n3_; have HO119 := n4_; have HO122 := n5_; have HO129 := n6_; have BK113 := n7_; have BK125 := n8_; have HB := n9_; clear n0_ n1_ n2_ n3_ n4_ n5_ n6_ n7_ n8_ n9_; (try clear hb); (try clear hb2); (try clear hk); (try clear hi)))
            go_meet
            case rel => exact ⟨_, (!t133), (by first | rfl | (simp; done) | (simp [*]; done)), H', ⟨by first | omega | exact Nat.le_refl _⟩, ⟨by (with_reducible repeat (first | apply Kd.R_alloc | apply Kd.R_drewN | apply Kd.R_drew)); exact Kd.R_mono HO107.out (fun _ hk => ⟨hk.2.1, ⟨hk.2.2.2.1, hk.2.2.2.2.1⟩⟩)⟩, ⟨by (with_reducible repeat (first | apply Kd.R_alloc | apply Kd.R_drewN | apply Kd.R_drew)); exact Kd.R_mono HO110.out (fun _ hk => ⟨hk.2.1, ⟨hk.2.2.2.1, hk.2.2.2.2.1⟩⟩)⟩, ⟨by (with_reducible repeat (first | apply Kd.R_alloc | apply Kd.R_drewN | apply Kd.R_drew)); exact Kd.R_mono HO119.out (fun _ hk => ⟨hk.2.1, ⟨hk.2.2.1, hk.2.2.2.2.1⟩⟩)⟩, ⟨by (with_reducible repeat (first | apply Kd.R_alloc | apply Kd.R_drewN | apply Kd.R_drew)); exact Kd.R_mono HO122.out (fun _ hk => ⟨hk.2.1, ⟨hk.2.2.1, hk.2.2.2.2.1⟩⟩)⟩, ⟨by (with_reducible repeat (first | refine blk_drewN ?_ _ | refine blk_drew ?_ | refine blk_alloc ?_ _)); exact BK113.out⟩, ⟨by (with_reducible repeat (first | refine blk_drewN ?_ _ | refine blk_drew ?_ | refine blk_alloc ?_ _)); exact BK125.out⟩, ⟨by repeat (first | (with_reducible first | exact HB.out | apply below_alloc | apply pw_below_drewN | apply below_drew1 | refine below_set ?_ GE113.out | refine below_set ?_ GE125.out) | exact HB.out)⟩⟩
        case rest =>
          clear HC15
          try clear c1
          try clear c2
          try clear p2
          try clear c3
          try clear c4
          try clear c4b0
          try clear c6
          try clear c10
          try clear c13
          try clear c27
          try clear c28
          try clear c29
          try clear c30
          try clear c31
          try clear c32
          try clear c33
          try clear c37
          try clear c37b0
          try clear c39
          try clear hcz21_0
          try clear hcz21_1
          try clear hcz21_2
          try clear hcz21_3
          try clear hcz29_0
          try clear hcz29_1
          try clear hcz29_2
          try clear hcz29_3
          try clear hcz31_0
          try clear hcz31_1
          try clear hcz31_2
          try clear hcz31_3
          try clear hcz40_0
          try clear hcz40_1
          try clear hcz40_2
          try clear hcz40_3
          try clear hcz41_0
          try clear hcz41_1
          try clear hcz41_2
          try clear hcz41_3
          try clear hfz21_0
          try clear hfz21_1
          try clear hfz21_2
          try clear hfz21_3
          try clear hfz29_0
          try clear hfz29_1
          try clear hfz29_2
          try clear hfz29_3
          try clear hfz31_0
          try clear hfz31_1
          try clear hfz31_2
          try clear hfz31_3
          try clear hfz40_0
          try clear hfz40_1
          try clear hfz40_2
          try clear hfz40_3
          try clear hfz41_0
          try clear hfz41_1
          try clear hfz41_2
          try clear hfz41_3
          obtain ⟨kq, x46_14, rfl, HA, HJ14, HO_114000, HO_114001, HO_126000, HO_126001, BK113, BK125, HB⟩ := hcut
          cases kq with
          | zero => exact absurd HA.out (by simp [laws_FnExactPlanCut.j0])
          | succ kj14 =>
            have H := HA.out
            clear HA
            simp only [laws_FnExactPlanCut.j0] at H
            by_cases c43 : x46_14 = true
            · subst c43
              have H1 : (some false) = some r := by rw [if_pos rfl] at H; exact H
              clear H
              have H := H1
              clear H1
              obtain rfl := Option.some.inj H
              exact absurd ht (by decide)
            · replace c43 := Bool.eq_false_iff.mpr c43
              subst c43
              have H1 : ((laws_markPlanOut.f kj14 t117 t120 t123 t124 1).bind fun bt134 => ((laws_heldPlanOut.f kj14 bt134.2.1 bt134.2.2 t123 t124 1).bind fun t137 => (if t137 < 0 then (some false) else (if t137 = bt134.1 then ((laws_toItemS.f kj14 l0).bind fun t138 => ((impl_PlanCut.f kj14 t138 a1).bind fun bt141 => ((laws_eqPlanOut.f kj14 bt141.1 bt141.2.1 bt141.2.2.1 bt141.2.2.2 t105 t108 t111 t112).bind fun t150 => (if t150 = true then ((laws_heldPlanOut.f kj14 bt134.2.1 bt134.2.2 t123 t124 1).bind fun t151 => (if t151 < 0 then (some false) else (if t151 = bt134.1 then (some true) else (some false)))) else (some false))))) else (some false))))) = some r := by rw [if_neg (show ¬ (false = true) by decide)] at H; exact H
              clear H
              have H := H1
              clear H1
              replace H := Option.bind_eq_some_iff.mp H
              obtain ⟨⟨t134, t135, t136⟩, A440, H⟩ := H
              replace H : ((laws_heldPlanOut.f kj14 t135 t136 t123 t124 1).bind fun t137 => (if t137 < 0 then (some false) else (if t137 = t134 then ((laws_toItemS.f kj14 l0).bind fun t138 => ((impl_PlanCut.f kj14 t138 a1).bind fun bt141 => ((laws_eqPlanOut.f kj14 bt141.1 bt141.2.1 bt141.2.2.1 bt141.2.2.2 t105 t108 t111 t112).bind fun t150 => (if t150 = true then ((laws_heldPlanOut.f kj14 t135 t136 t123 t124 1).bind fun t151 => (if t151 < 0 then (some false) else (if t151 = t134 then (some true) else (some false)))) else (some false))))) else (some false)))) = some r := H
              have A44 := Aside0.mk A440
              clear A440
              replace H := Option.bind_eq_some_iff.mp H
              obtain ⟨t137, A450, H⟩ := H
              replace H : (if t137 < 0 then (some false) else (if t137 = t134 then ((laws_toItemS.f kj14 l0).bind fun t138 => ((impl_PlanCut.f kj14 t138 a1).bind fun bt141 => ((laws_eqPlanOut.f kj14 bt141.1 bt141.2.1 bt141.2.2.1 bt141.2.2.2 t105 t108 t111 t112).bind fun t150 => (if t150 = true then ((laws_heldPlanOut.f kj14 t135 t136 t123 t124 1).bind fun t151 => (if t151 < 0 then (some false) else (if t151 = t134 then (some true) else (some false)))) else (some false))))) else (some false))) = some r := H
              have A45 := Aside0.mk A450
              clear A450
              by_cases c46 : t137 < 0
              · rw [if_pos c46] at H
                have c46b0 : decide (t137 < 0) = true := decide_eq_true c46
                clear c46
                obtain rfl := Option.some.inj H
                exact absurd ht (by decide)
              · rw [if_neg c46] at H
                have c46b0 : decide (t137 < 0) = false := decide_eq_false c46
                clear c46
                by_cases c47 : t137 = t134
                · rw [if_pos c47] at H
                  have c47b0 : (t137 == t134) = true := beq_iff_eq.mpr c47
                  have c47b1 : (t137 != t134) = false := bne_eq_false_iff_eq.mpr c47
                  clear c47
                  replace H := Option.bind_eq_some_iff.mp H
                  obtain ⟨t138, A480, H⟩ := H
                  replace H : ((impl_PlanCut.f kj14 t138 a1).bind fun bt141 => ((laws_eqPlanOut.f kj14 bt141.1 bt141.2.1 bt141.2.2.1 bt141.2.2.2 t105 t108 t111 t112).bind fun t150 => (if t150 = true then ((laws_heldPlanOut.f kj14 t135 t136 t123 t124 1).bind fun t151 => (if t151 < 0 then (some false) else (if t151 = t134 then (some true) else (some false)))) else (some false)))) = some r := H
                  have A48 := Aside0.mk A480
                  clear A480
                  replace H := Option.bind_eq_some_iff.mp H
                  obtain ⟨⟨t141, t144, t147, t148⟩, A490, H⟩ := H
                  replace H : ((laws_eqPlanOut.f kj14 t141 t144 t147 t148 t105 t108 t111 t112).bind fun t150 => (if t150 = true then ((laws_heldPlanOut.f kj14 t135 t136 t123 t124 1).bind fun t151 => (if t151 < 0 then (some false) else (if t151 = t134 then (some true) else (some false)))) else (some false))) = some r := H
                  have A49 := Aside0.mk A490
                  clear A490
                  replace H := Option.bind_eq_some_iff.mp H
                  obtain ⟨t150, A500, H⟩ := H
                  replace H : (if t150 = true then ((laws_heldPlanOut.f kj14 t135 t136 t123 t124 1).bind fun t151 => (if t151 < 0 then (some false) else (if t151 = t134 then (some true) else (some false)))) else (some false)) = some r := H
                  have A50 := Aside0.mk A500
                  clear A500
                  by_cases c51 : t150 = true
                  · subst c51
                    have H1 : ((laws_heldPlanOut.f kj14 t135 t136 t123 t124 1).bind fun t151 => (if t151 < 0 then (some false) else (if t151 = t134 then (some true) else (some false)))) = some r := by rw [if_pos rfl] at H; exact H
                    clear H
                    have H := H1
                    clear H1
                    replace H := Option.bind_eq_some_iff.mp H
                    obtain ⟨t151, A520, H⟩ := H
                    replace H : (if t151 < 0 then (some false) else (if t151 = t134 then (some true) else (some false))) = some r := H
                    have A52 := Aside0.mk A520
                    clear A520
                    by_cases c53 : t151 < 0
                    · rw [if_pos c53] at H
                      have c53b0 : decide (t151 < 0) = true := decide_eq_true c53
                      clear c53
                      obtain rfl := Option.some.inj H
                      exact absurd ht (by decide)
                    · rw [if_neg c53] at H
                      have c53b0 : decide (t151 < 0) = false := decide_eq_false c53
                      clear c53
                      by_cases c54 : t151 = t134
                      · rw [if_pos c54] at H
                        have c54b0 : (t151 == t134) = true := beq_iff_eq.mpr c54
                        have c54b1 : (t151 != t134) = false := bne_eq_false_iff_eq.mpr c54
                        clear c54
                        clear ht
                        obtain rfl := Option.some.inj H
                        have hnb55 := NB125_113.out
                        have hnc55 := NB113_125.out
                        have hcz56_0 : wc.cell? ⟨gb125, 0, none⟩ = some (.slice Ao27 t117.length co27) := (blk_cell BK125.out 0).trans rfl
                        have hcz56_1 : wc.cell? ⟨gb125, 1, none⟩ = some (.slice Ao30 t120.length co30) := (blk_cell BK125.out 1).trans rfl
                        have hcz56_2 : wc.cell? ⟨gb125, 2, none⟩ = some (.int .i64 t123) := (blk_cell BK125.out 2).trans rfl
                        have hcz56_3 : wc.cell? ⟨gb125, 3, none⟩ = some (.int .i64 t124) := (blk_cell BK125.out 3).trans rfl
                        have hfz56_0 := blk_frozen BK125.out 0
                        have hfz56_1 := blk_frozen BK125.out 1
                        have hfz56_2 := blk_frozen BK125.out 2
                        have hfz56_3 := blk_frozen BK125.out 3
                        go_wp2_with (first | ((with_reducible refine gate_callee (f := 34) rfl ?_); refine goesL_ (some 49) rfl rfl Try.func34 (by kernel_rfl) rfl #[.agg #[.slice Ao27 t117.length co27, .slice Ao30 t120.length co30, .int .i64 t123, .int .i64 t124], .int .i64 1] rfl (by (try simp only [List.map_toArray, List.map_cons, List.map_nil]); first | done | rfl | (simp only [List.length_drop, List.length_take]; rfl)) ?_; (with_reducible refine (laws_markPlanOut.calls kj14 (fun k_ => some k_ = (.slice Ao27 t117.length co27 : Value).ownBlock) (.slice Ao27 t117.length co27) t117 (fun k_ => some k_ = (.slice Ao30 t120.length co30 : Value).ownBlock) (.slice Ao30 t120.length co30) t120 t123 t124 1 t134 t135 t136 w _ ?side1 ?side2 ?side3 ?side4 ?side5 A44.out).mono ?_); (case side1 => repeat (first | (with_reducible first | exact HB.out | apply below_alloc | apply pw_below_drewN | apply below_drew1 | refine below_set ?_ GE113.out | refine below_set ?_ GE125.out) | exact HB.out)); (case side2 => exact Kd.R_tight rfl HO_126000.out); (case side3 => exact fun k_ e_ => (HO_126000.out.1 k_ e_.symm).2.2); (case side4 => exact Kd.R_tight rfl HO_126001.out); (case side5 => exact fun k_ e_ => (HO_126001.out.1 k_ e_.symm).2.2); rintro e w57 ⟨rfl, hy0, hy1, hb, hkp⟩; refine ⟨_, rfl, ?_⟩; have n0_ := Aside0.mk (Kd.R_mono (ok' := fun k_ => some k_ ≠ (.slice Ao22 t108.length co22 : Value).ownBlock ∧ some k_ ≠ (.slice Ao27 t117.length co27 : Value).ownBlock ∧ some k_ ≠ (.slice Ao30 t120.length co30 : Value).ownBlock) (Kd.R_keptB (HO_114000.out) hkp (fun k_ hk_ hs_ => Or.elim hs_ (fun e_ => (hk_.2.1) e_) (fun e_ => (hk_.2.2) e_))) (fun k_ hk_ => ⟨hk_.1.1, hk_.1.2.1, hk_.1.2.2⟩)); have n1_ := Aside0.mk (Kd.R_mono (ok' := fun k_ => some k_ ≠ (.slice Ao20 t105.length co20 : Value).ownBlock ∧ some k_ ≠ (.slice Ao27 t117.length co27 : Value).ownBlock ∧ some k_ ≠ (.slice Ao30 t120.length co30 : Value).ownBlock) (Kd.R_keptB (HO_114001.out) hkp (fun k_ hk_ hs_ => Or.elim hs_ (fun e_ => (hk_.2.1) e_) (fun e_ => (hk_.2.2) e_))) (fun k_ hk_ => ⟨hk_.1.1, hk_.1.2.1, hk_.1.2.2⟩)); have n2_ := Aside0.mk (Kd.R_reok rfl hy0 (fun k_ e_ => HO_126000.out.1 k_ e_)); have n3_ := Aside0.mk (Kd.R_reok rfl hy1 (fun k_ e_ => HO_126001.out.1 k_ e_)); have n4_ := Aside0.mk (blk_kept (by (with_reducible repeat (first | refine blk_drewN ?_ _ | refine blk_drew ?_ | refine blk_alloc ?_ _)); exact BK113.out) hkp (fun hs_ => Or.elim hs_ (fun e_ => (fun e_ => (Kd.R_ne HO_126000.out BK113.out (by decide)) e_) e_) (fun e_ => (fun e_ => (Kd.R_ne HO_126001.out BK113.out (by decide)) e_) e_))); have n5_ := Aside0.mk (blk_kept (by (with_reducible repeat (first | refine blk_drewN ?_ _ | refine blk_drew ?_ | refine blk_alloc ?_ _)); exact BK125.out) hkp (fun hs_ => Or.elim hs_ (fun e_ => (fun e_ => (Kd.R_ne HO_126000.out BK125.out (by decide)) e_) e_) (fun e_ => (fun e_ => (Kd.R_ne HO_126001.out BK125.out (by decide)) e_) e_))); have n6_ := Aside0.mk (hb); clear HO_114000; clear HO_114001; clear HO_126000; clear HO_126001; clear BK113; clear BK125; clear HB; have HO_114000 := n0_; have HO_114001 := n1_; have HO_126000 := n2_; have HO_126001 := n3_; have BK113 := n4_; have BK125 := n5_; have HB := n6_; clear n0_ n1_ n2_ n3_ n4_ n5_ n6_; (try clear hb); (try clear hkp); (try clear hy0); (try clear hy1); have hcz58_0 : w57.cell? ⟨gb125, 0, none⟩ = some (.slice Ao27 t117.length co27) := (blk_cell BK125.out 0).trans rfl; have hcz58_1 : w57.cell? ⟨gb125, 1, none⟩ = some (.slice Ao30 t120.length co30) := (blk_cell BK125.out 1).trans rfl; have hcz58_2 : w57.cell? ⟨gb125, 2, none⟩ = some (.int .i64 t123) := (blk_cell BK125.out 2).trans rfl; have hcz58_3 : w57.cell? ⟨gb125, 3, none⟩ = some (.int .i64 t124) := (blk_cell BK125.out 3).trans rfl; have hfz58_0 := blk_frozen BK125.out 0; have hfz58_1 := blk_frozen BK125.out 1; have hfz58_2 := blk_frozen BK125.out 2; have hfz58_3 := blk_frozen BK125.out 3) | ((with_reducible refine gate_callee (f := 35) rfl ?_); refine goesL_ (some 52) rfl rfl Try.func35 (by kernel_rfl) rfl #[.agg #[.slice Ao27 t135.length co27, .slice Ao30 t136.length co30, .int .i64 t123, .int .i64 t124], .int .i64 1] rfl (by (try simp only [List.map_toArray, List.map_cons, List.map_nil]); first | done | (rw [show t135.length = t117.length from (Kd.R_reads' HO_126000.out).1.symm, show t136.length = t120.length from (Kd.R_reads' HO_126001.out).1.symm] <;> rfl) | rfl | (simp only [List.length_drop, List.length_take]; rfl)) ?_; (with_reducible refine (laws_heldPlanOut.calls kj14 _ _ t135 _ _ t136 t123 t124 1 t137 _ ?side1 ?side2 ?side3 ?side4 A45.out).mono ?_); (case side1 => repeat (first | exact (Kd.R_reads' HO_126000.out).2.2 | (with_reducible refine Kd.C_alloc ?_ _) | (with_reducible refine Kd.C_drewN ?_ _) | (with_reducible refine Kd.C_drew ?_))); (case side2 => rw [show t135.length = t117.length from (Kd.R_reads' HO_126000.out).1.symm]; exact (Kd.R_reads' HO_126000.out).2.1); (case side3 => repeat (first | exact (Kd.R_reads' HO_126001.out).2.2 | (with_reducible refine Kd.C_alloc ?_ _) | (with_reducible refine Kd.C_drewN ?_ _) | (with_reducible refine Kd.C_drew ?_))); (case side4 => rw [show t136.length = t120.length from (Kd.R_reads' HO_126001.out).1.symm]; exact (Kd.R_reads' HO_126001.out).2.1); rintro e w59 ⟨rfl, hb⟩; refine ⟨_, rfl, ?_⟩; have n0_ := Aside0.mk (Kd.R_below (by (with_reducible repeat (first | apply Kd.R_alloc | apply Kd.R_drewN | apply Kd.R_drew)); exact HO_114000.out) hb); have n1_ := Aside0.mk (Kd.R_below (by (with_reducible repeat (first | apply Kd.R_alloc | apply Kd.R_drewN | apply Kd.R_drew)); exact HO_114001.out) hb); have n2_ := Aside0.mk (Kd.R_below (by (with_reducible repeat (first | apply Kd.R_alloc | apply Kd.R_drewN | apply Kd.R_drew)); exact HO_126000.out) hb); have n3_ := Aside0.mk (Kd.R_below (by (with_reducible repeat (first | apply Kd.R_alloc | apply Kd.R_drewN | apply Kd.R_drew)); exact HO_126001.out) hb); have n4_ := Aside0.mk (blk_below (g := gb113) (o := .cells #[.slice Ao20 t105.length co20, .slice Ao22 t108.length co22, .int .i64 t111, .int .i64 t112] 47 (0, 0)) (by (with_reducible repeat (first | refine blk_drewN ?_ _ | refine blk_drew ?_ | refine blk_alloc ?_ _)); exact BK113.out) hb); have n5_ := Aside0.mk (blk_below (g := gb125) (o := .cells #[.slice Ao27 t117.length co27, .slice Ao30 t120.length co30, .int .i64 t123, .int .i64 t124] 47 (0, 0)) (by (with_reducible repeat (first | refine blk_drewN ?_ _ | refine blk_drew ?_ | refine blk_alloc ?_ _)); exact BK125.out) hb); have n6_ := Aside0.mk (below_step (by repeat (first | (with_reducible first | exact HB.out | apply below_alloc | apply pw_below_drewN | apply below_drew1 | refine below_set ?_ GE113.out | refine below_set ?_ GE125.out) | exact HB.out)) hb); clear HO_114000; clear HO_114001; clear HO_126000; clear HO_126001; clear BK113; clear BK125; clear HB; have HO_114000 := n0_; have HO_114001 := n1_; have HO_126000 := n2_; have HO_126001 := n3_; have BK113 := n4_; have BK125 := n5_; have HB := n6_; clear n0_ n1_ n2_ n3_ n4_ n5_ n6_; (try clear hb); (try clear hb2); (try clear hk); (try clear hi)) | ((with_reducible refine gate_callee (f := 29) rfl ?_); refine goesL_ (some 59) rfl rfl Try.func29 (by kernel_rfl) rfl #[.slice A0 l0.length c0] rfl (by (try simp only [List.map_toArray, List.map_cons, List.map_nil]); first | done | rfl | (simp only [List.length_drop, List.length_take]; rfl)) ?_; (with_reducible refine (laws_toItemS.calls kj14 _ _ l0 t138 _ ?side1 ?side2 A48.out).mono ?_); (case side1 => repeat (first | exact (Kd.C_below HR0.out HB.out) | (with_reducible refine Kd.C_alloc ?_ _) | (with_reducible refine Kd.C_drewN ?_ _) | (with_reducible refine Kd.C_drew ?_))); (case side2 => exact HC0.out); rintro e w60 ⟨v139, rfl, ho0, hb⟩; refine ⟨_, rfl, ?_⟩; have n0_ := Aside0.mk (Kd.R_elder' (by (with_reducible repeat (first | apply Kd.R_alloc | apply Kd.R_drewN | apply Kd.R_drew)); exact HO_114000.out) (Kd.R_base ho0) hb); have n1_ := Aside0.mk (Kd.R_elder' (by (with_reducible repeat (first | apply Kd.R_alloc | apply Kd.R_drewN | apply Kd.R_drew)); exact HO_114001.out) (Kd.R_base ho0) hb); have n2_ := Aside0.mk (Kd.R_elder' (by (with_reducible repeat (first | apply Kd.R_alloc | apply Kd.R_drewN | apply Kd.R_drew)); exact HO_126000.out) (Kd.R_base ho0) hb); have n3_ := Aside0.mk (Kd.R_elder' (by (with_reducible repeat (first | apply Kd.R_alloc | apply Kd.R_drewN | apply Kd.R_drew)); exact HO_126001.out) (Kd.R_base ho0) hb); have n4_ := Aside0.mk (Kd.R_lower (Kd.R_new' (Kd.R_new' (Kd.R_new' (Kd.R_new' ho0 (Kd.R_lt (by (with_reducible repeat (first | apply Kd.R_alloc | apply Kd.R_drewN | apply Kd.R_drew)); exact HO_114000.out))) (Kd.R_lt (by (with_reducible repeat (first | apply Kd.R_alloc | apply Kd.R_drewN | apply Kd.R_drew)); exact HO_114001.out))) (Kd.R_lt (by (with_reducible repeat (first | apply Kd.R_alloc | apply Kd.R_drewN | apply Kd.R_drew)); exact HO_126000.out))) (Kd.R_lt (by (with_reducible repeat (first | apply Kd.R_alloc | apply Kd.R_drewN | apply Kd.R_drew)); exact HO_126001.out))) (below_size (by repeat (first | (with_reducible first | exact HB.out | apply below_alloc | apply pw_below_drewN | apply below_drew1 | refine below_set ?_ GE113.out | refine below_set ?_ GE125.out) | exact HB.out)))); have n5_ := Aside0.mk (blk_below (g := gb113) (o := .cells #[.slice Ao20 t105.length co20, .slice Ao22 t108.length co22, .int .i64 t111, .int .i64 t112] 47 (0, 0)) (by (with_reducible repeat (first | refine blk_drewN ?_ _ | refine blk_drew ?_ | refine blk_alloc ?_ _)); exact BK113.out) hb); have n6_ := Aside0.mk (blk_below (g := gb125) (o := .cells #[.slice Ao27 t117.length co27, .slice Ao30 t120.length co30, .int .i64 t123, .int .i64 t124] 47 (0, 0)) (by (with_reducible repeat (first | refine blk_drewN ?_ _ | refine blk_drew ?_ | refine blk_alloc ?_ _)); exact BK125.out) hb); have n7_ := Aside0.mk (below_step (by repeat (first | (with_reducible first | exact HB.out | apply below_alloc | apply pw_below_drewN | apply below_drew1 | refine below_set ?_ GE113.out | refine below_set ?_ GE125.out) | exact HB.out)) hb); clear HO_114000; clear HO_114001; clear HO_126000; clear HO_126001; clear BK113; clear BK125; clear HB; have HO_114000 := n0_; have HO_114001 := n1_; have HO_126000 := n2_; have HO_126001 := n3_; have HO140 := n4_; have BK113 := n5_; have BK125 := n6_; have HB := n7_; clear n0_ n1_ n2_ n3_ n4_ n5_ n6_ n7_; (try clear hb); (try clear hb2); (try clear hk); (try clear hi); (try clear ho0); obtain ⟨Ao61, co61, eo61⟩ := Kd.R_slice HO140.out; subst eo61) | ((with_reducible refine gate_callee (f := 30) rfl ?_); refine goesL_ (some 61) rfl rfl Try.func30 (by kernel_rfl) rfl #[.slice Ao61 t138.length co61, .int .i64 a1] rfl (by (try simp only [List.map_toArray, List.map_cons, List.map_nil]); first | done | rfl | (simp only [List.length_drop, List.length_take]; rfl)) ?_; (with_reducible refine (impl_PlanCut.calls kj14 _ _ t138 a1 t141 t144 t147 t148 _ ?side1 ?side2 A49.out).mono ?_); (case side1 => repeat (first | exact (Kd.R_reads' HO140.out).2.2 | (with_reducible refine Kd.C_alloc ?_ _) | (with_reducible refine Kd.C_drewN ?_ _) | (with_reducible refine Kd.C_drew ?_))); (case side2 => exact (Kd.R_reads' HO140.out).2.1); rintro e w62 ⟨v142, v145, rfl, ho0, ho1, hb⟩; refine ⟨_, rfl, ?_⟩; have n0_ := Aside0.mk (Kd.R_mono (Kd.R_told (Kd.R_told (Kd.R_old (by (with_reducible repeat (first | apply Kd.R_alloc | apply Kd.R_drewN | apply Kd.R_drew)); exact HO_114000.out) hb) (Kd.R_base ho0)) (Kd.R_base ho1)) (fun _ h_ => h_.1)); have n1_ := Aside0.mk (Kd.R_mono (Kd.R_told (Kd.R_told (Kd.R_old (by (with_reducible repeat (first | apply Kd.R_alloc | apply Kd.R_drewN | apply Kd.R_drew)); exact HO_114001.out) hb) (Kd.R_base ho0)) (Kd.R_base ho1)) (fun _ h_ => h_.1)); have n2_ := Aside0.mk (Kd.R_mono (Kd.R_told (Kd.R_told (Kd.R_old (by (with_reducible repeat (first | apply Kd.R_alloc | apply Kd.R_drewN | apply Kd.R_drew)); exact HO_126000.out) hb) (Kd.R_base ho0)) (Kd.R_base ho1)) (fun _ h_ => h_.1)); have n3_ := Aside0.mk (Kd.R_mono (Kd.R_told (Kd.R_told (Kd.R_old (by (with_reducible repeat (first | apply Kd.R_alloc | apply Kd.R_drewN | apply Kd.R_drew)); exact HO_126001.out) hb) (Kd.R_base ho0)) (Kd.R_base ho1)) (fun _ h_ => h_.1)); have n4_ := Aside0.mk (Kd.R_mono (Kd.R_told (Kd.R_told (Kd.R_old (by (with_reducible repeat (first | apply Kd.R_alloc | apply Kd.R_drewN | apply Kd.R_drew)); exact HO140.out) hb) (Kd.R_base ho0)) (Kd.R_base ho1)) (fun _ h_ => h_.1)); have n5_ := Aside0.mk (Kd.R_lower (Kd.R_new' (Kd.R_new' (Kd.R_new' (Kd.R_new' (Kd.R_new' ho0 (Kd.R_lt (by (with_reducible repeat (first | apply Kd.R_alloc | apply Kd.R_drewN | apply Kd.R_drew)); exact HO_114000.out))) (Kd.R_lt (by (with_reducible repeat (first | apply Kd.R_alloc | apply Kd.R_drewN | apply Kd.R_drew)); exact HO_114001.out))) (Kd.R_lt (by (with_reducible repeat (first | apply Kd.R_alloc | apply Kd.R_drewN | apply Kd.R_drew)); exact HO_126000.out))) (Kd.R_lt (by (with_reducible repeat (first | apply Kd.R_alloc | apply Kd.R_drewN | apply Kd.R_drew)); exact HO_126001.out))) (Kd.R_lt (by (with_reducible repeat (first | apply Kd.R_alloc | apply Kd.R_drewN | apply Kd.R_drew)); exact HO140.out))) (below_size (by repeat (first | (with_reducible first | exact HB.out | apply below_alloc | apply pw_below_drewN | apply below_drew1 | refine below_set ?_ GE113.out | refine below_set ?_ GE125.out) | exact HB.out)))); have n6_ := Aside0.mk (Kd.R_lower (Kd.R_new' (Kd.R_new' (Kd.R_new' (Kd.R_new' (Kd.R_new' ho1 (Kd.R_lt (by (with_reducible repeat (first | apply Kd.R_alloc | apply Kd.R_drewN | apply Kd.R_drew)); exact HO_114000.out))) (Kd.R_lt (by (with_reducible repeat (first | apply Kd.R_alloc | apply Kd.R_drewN | apply Kd.R_drew)); exact HO_114001.out))) (Kd.R_lt (by (with_reducible repeat (first | apply Kd.R_alloc | apply Kd.R_drewN | apply Kd.R_drew)); exact HO_126000.out))) (Kd.R_lt (by (with_reducible repeat (first | apply Kd.R_alloc | apply Kd.R_drewN | apply Kd.R_drew)); exact HO_126001.out))) (Kd.R_lt (by (with_reducible repeat (first | apply Kd.R_alloc | apply Kd.R_drewN | apply Kd.R_drew)); exact HO140.out))) (below_size (by repeat (first | (with_reducible first | exact HB.out | apply below_alloc | apply pw_below_drewN | apply below_drew1 | refine below_set ?_ GE113.out | refine below_set ?_ GE125.out) | exact HB.out)))); have n7_ := Aside0.mk (blk_below (g := gb113) (o := .cells #[.slice Ao20 t105.length co20, .slice Ao22 t108.length co22, .int .i64 t111, .int .i64 t112] 47 (0, 0)) (by (with_reducible repeat (first | refine blk_drewN ?_ _ | refine blk_drew ?_ | refine blk_alloc ?_ _)); exact BK113.out) hb); have n8_ := Aside0.mk (blk_below (g := gb125) (o := .cells #[.slice Ao27 t117.length co27, .slice Ao30 t120.length co30, .int .i64 t123, .int .i64 t124] 47 (0, 0)) (by (with_reducible repeat (first | refine blk_drewN ?_ _ | refine blk_drew ?_ | refine blk_alloc ?_ _)); exact BK125.out) hb); have n9_ := Aside0.mk (below_step (by repeat (first | (with_reducible first | exact HB.out | apply below_alloc | apply pw_below_drewN | apply below_drew1 | refine below_set ?_ GE113.out | refine below_set ?_ GE125.out) | exact HB.out)) hb); clear HO_114000; clear HO_114001; clear HO_126000; clear HO_126001; clear HO140; clear BK113; clear BK125; clear HB; have HO_114000 := n0_; have HO_114001 := n1_; have HO_126000 := n2_; have HO_126001 := n3_; have HO140 := n4_; have HO143 := n5_; have HO146 := n6_; have BK113 := n7_; have BK125 := n8_; have HB := n9_; clear n0_ n1_ n2_ n3_ n4_ n5_ n6_ n7_ n8_ n9_; (try clear hb); (try clear hb2); (try clear hk); (try clear hi); (try clear ho0); (try clear ho1)) | ((with_reducible refine gate_dst (N := 12) rfl ?_); refine box_event ?hg (N := 12) ?hd (cs := #[.slice none 0 0, .slice none 0 0, .int .i64 0, .int .i64 0]) (t := 47) ?hr ?_; (case hd => rfl); (case hg => rfl); (case hr => first | (go_simp; done) | (go_simp; rfl)); intro gb149 hg w63 hbox hb; have n0_ := Aside0.mk (Kd.R_below (by (with_reducible repeat (first | apply Kd.R_alloc | apply Kd.R_drewN | apply Kd.R_drew)); exact HO_114000.out) hb); have n1_ := Aside0.mk (Kd.R_below (by (with_reducible repeat (first | apply Kd.R_alloc | apply Kd.R_drewN | apply Kd.R_drew)); exact HO_114001.out) hb); have n2_ := Aside0.mk (Kd.R_below (by (with_reducible repeat (first | apply Kd.R_alloc | apply Kd.R_drewN | apply Kd.R_drew)); exact HO_126000.out) hb); have n3_ := Aside0.mk (Kd.R_below (by (with_reducible repeat (first | apply Kd.R_alloc | apply Kd.R_drewN | apply Kd.R_drew)); exact HO_126001.out) hb); have n4_ := Aside0.mk (Kd.R_below (by (with_reducible repeat (first | apply Kd.R_alloc | apply Kd.R_drewN | apply Kd.R_drew)); exact HO140.out) hb); have n5_ := Aside0.mk (Kd.R_below (by (with_reducible repeat (first | apply Kd.R_alloc | apply Kd.R_drewN | apply Kd.R_drew)); exact HO143.out) hb); have n6_ := Aside0.mk (Kd.R_below (by (with_reducible repeat (first | apply Kd.R_alloc | apply Kd.R_drewN | apply Kd.R_drew)); exact HO146.out) hb); have n7_ := Aside0.mk (blk_below (g := gb113) (o := .cells #[.slice Ao20 t105.length co20, .slice Ao22 t108.length co22, .int .i64 t111, .int .i64 t112] 47 (0, 0)) (by (with_reducible repeat (first | refine blk_drewN ?_ _ | refine blk_drew ?_ | refine blk_alloc ?_ _)); exact BK113.out) hb); have n8_ := Aside0.mk (blk_below (g := gb125) (o := .cells #[.slice Ao27 t117.length co27, .slice Ao30 t120.length co30, .int .i64 t123, .int .i64 t124] 47 (0, 0)) (by (with_reducible repeat (first | refine blk_drewN ?_ _ | refine blk_drew ?_ | refine blk_alloc ?_ _)); exact BK125.out) hb); have n9_ := Aside0.mk (below_step (by repeat (first | (with_reducible first | exact HB.out | apply below_alloc | apply pw_below_drewN | apply below_drew1 | refine below_set ?_ GE113.out | refine below_set ?_ GE125.out) | exact HB.out)) hb); have n10_ := Aside0.mk (hbox); have n11_ := Aside0.mk ((by rw [hg]; exact (below_size (by repeat (first | (with_reducible first | exact HB.out | apply below_alloc | apply pw_below_drewN | apply below_drew1 | refine below_set ?_ GE113.out | refine below_set ?_ GE125.out) | exact HB.out))) : w.heap.size ≤ gb149)); have n12_ := Aside0.mk ((by rw [hg]; exact (below_size (by repeat (first | (with_reducible first | exact HB.out | apply below_alloc | apply pw_below_drewN | apply below_drew1 | refine below_set ?_ GE113.out | refine below_set ?_ GE125.out) | exact HB.out))) : w.heap.size ≤ gb149)); have n13_ := Aside0.mk ((by rw [hg]; exact Nat.ne_of_lt (blk_lt (g := gb113) (o := .cells #[.slice Ao20 t105.length co20, .slice Ao22 t108.length co22, .int .i64 t111, .int .i64 t112] 47 (0, 0)) (by (with_reducible repeat (first | refine blk_drewN ?_ _ | refine blk_drew ?_ | refine blk_alloc ?_ _)); exact BK113.out)) : gb113 ≠ gb149)); have n14_ := Aside0.mk ((by rw [hg]; exact Nat.ne_of_gt (blk_lt (g := gb113) (o := .cells #[.slice Ao20 t105.length co20, .slice Ao22 t108.length co22, .int .i64 t111, .int .i64 t112] 47 (0, 0)) (by (with_reducible repeat (first | refine blk_drewN ?_ _ | refine blk_drew ?_ | refine blk_alloc ?_ _)); exact BK113.out)) : gb149 ≠ gb113)); have n15_ := Aside0.mk ((by rw [hg]; exact Nat.ne_of_lt (blk_lt (g := gb125) (o := .cells #[.slice Ao27 t117.length co27, .slice Ao30 t120.length co30, .int .i64 t123, .int .i64 t124] 47 (0, 0)) (by (with_reducible repeat (first | refine blk_drewN ?_ _ | refine blk_drew ?_ | refine blk_alloc ?_ _)); exact BK125.out)) : gb125 ≠ gb149)); have n16_ := Aside0.mk ((by rw [hg]; exact Nat.ne_of_gt (blk_lt (g := gb125) (o := .cells #[.slice Ao27 t117.length co27, .slice Ao30 t120.length co30, .int .i64 t123, .int .i64 t124] 47 (0, 0)) (by (with_reducible repeat (first | refine blk_drewN ?_ _ | refine blk_drew ?_ | refine blk_alloc ?_ _)); exact BK125.out)) : gb149 ≠ gb125)); clear HO_114000; clear HO_114001; clear HO_126000; clear HO_126001; clear HO140; clear HO143; clear HO146; clear BK113; clear BK125; clear HB; have HO_114000 := n0_; have HO_114001 := n1_; have HO_126000 := n2_; have HO_126001 := n3_; have HO140 := n4_; have HO143 := n5_; have HO146 := n6_; have BK113 := n7_; have BK125 := n8_; have HB := n9_; have BK149 := n10_; have GW149 := n11_; have GE149 := n12_; have NB113_149 := n13_; have NB149_113 := n14_; have NB125_149 := n15_; have NB149_125 := n16_; clear n0_ n1_ n2_ n3_ n4_ n5_ n6_ n7_ n8_ n9_ n10_ n11_ n12_ n13_ n14_ n15_ n16_; clear hb hbox hg; obtain ⟨Ao64, co64, eo64⟩ := Kd.R_slice HO143.out; subst eo64; have hnb65 := NB149_113.out; have hnc65 := NB113_149.out; have hnb66 := NB149_125.out; have hnc66 := NB125_149.out; have hcz67_0 : w63.cell? ⟨gb149, 0, none⟩ = some (.slice none 0 0) := (blk_cell BK149.out 0).trans rfl; have hcz67_1 : w63.cell? ⟨gb149, 1, none⟩ = some (.slice none 0 0) := (blk_cell BK149.out 1).trans rfl; have hcz67_2 : w63.cell? ⟨gb149, 2, none⟩ = some (.int .i64 0) := (blk_cell BK149.out 2).trans rfl; have hcz67_3 : w63.cell? ⟨gb149, 3, none⟩ = some (.int .i64 0) := (blk_cell BK149.out 3).trans rfl; have hfz67_0 := blk_frozen BK149.out 0; have hfz67_1 := blk_frozen BK149.out 1; have hfz67_2 := blk_frozen BK149.out 2; have hfz67_3 := blk_frozen BK149.out 3; obtain ⟨Ao68, co68, eo68⟩ := Kd.R_slice HO146.out; subst eo68; have hcz69_0 : w63.cell? ⟨gb113, 0, none⟩ = some (.slice Ao20 t105.length co20) := (blk_cell BK113.out 0).trans rfl; have hcz69_1 : w63.cell? ⟨gb113, 1, none⟩ = some (.slice Ao22 t108.length co22) := (blk_cell BK113.out 1).trans rfl; have hcz69_2 : w63.cell? ⟨gb113, 2, none⟩ = some (.int .i64 t111) := (blk_cell BK113.out 2).trans rfl; have hcz69_3 : w63.cell? ⟨gb113, 3, none⟩ = some (.int .i64 t112) := (blk_cell BK113.out 3).trans rfl; have hfz69_0 := blk_frozen BK113.out 0; have hfz69_1 := blk_frozen BK113.out 1; have hfz69_2 := blk_frozen BK113.out 2; have hfz69_3 := blk_frozen BK113.out 3) | ((with_reducible refine gate_callee (f := 31) rfl ?_); refine goesL_ (some 64) rfl rfl Try.func31 (by kernel_rfl) rfl #[.agg #[.slice Ao64 t141.length co64, .slice Ao68 t144.length co68, .int .i64 t147, .int .i64 t148], .agg #[.slice Ao20 t105.length co20, .slice Ao22 t108.length co22, .int .i64 t111, .int .i64 t112]] rfl (by (try simp only [List.map_toArray, List.map_cons, List.map_nil]); first | done | rfl | (simp only [List.length_drop, List.length_take]; rfl)) ?_; (with_reducible refine (laws_eqPlanOut.calls kj14 _ _ t141 _ _ t144 t147 t148 _ _ t105 _ _ t108 t111 t112 true _ ?side1 ?side2 ?side3 ?side4 ?side5 ?side6 ?side7 ?side8 A50.out).mono ?_); (case side1 => refine (Kd.R_reads' (e := 111) (base := w.heap.size) (ok := fun k_ => (((((some k_ ≠ (.slice Ao68 t144.length co68 : Value).ownBlock ∧ some k_ ≠ (.slice Ao20 t105.length co20 : Value).ownBlock) ∧ some k_ ≠ (.slice Ao22 t108.length co22 : Value).ownBlock) ∧ some k_ ≠ (.slice Ao27 t117.length co27 : Value).ownBlock) ∧ some k_ ≠ (.slice Ao30 t120.length co30 : Value).ownBlock) ∧ some k_ ≠ (.slice Ao61 t138.length co61 : Value).ownBlock)) (n := t141.length) (c := co64) ?_).2.2; exact (by (with_reducible repeat (first | apply Kd.R_alloc | apply Kd.R_drewN | apply Kd.R_drew)); exact (Kd.R_mono (Kd.R_far (p := ⟨gb149, 3, none⟩) (Kd.R_far (p := ⟨gb149, 2, none⟩) (Kd.R_far (p := ⟨gb149, 1, none⟩) (Kd.R_far (p := ⟨gb149, 0, none⟩) (Kd.R_types HO143.out BK149.out (by decide)) (fun _ hk => hk.2) (.slice Ao64 t141.length co64)) (fun _ hk => hk.2) (.slice Ao68 t144.length co68)) (fun _ hk => hk.2) (.int .i64 t147)) (fun _ hk => hk.2) (.int .i64 t148)) (fun _ h_ => h_.1)))); (case side2 => exact (Kd.R_reads' HO143.out).2.1); (case side3 => refine (Kd.R_reads' (e := 111) (base := w.heap.size) (ok := fun k_ => (((((some k_ ≠ (.slice Ao64 t141.length co64 : Value).ownBlock ∧ some k_ ≠ (.slice Ao20 t105.length co20 : Value).ownBlock) ∧ some k_ ≠ (.slice Ao22 t108.length co22 : Value).ownBlock) ∧ some k_ ≠ (.slice Ao27 t117.length co27 : Value).ownBlock) ∧ some k_ ≠ (.slice Ao30 t120.length co30 : Value).ownBlock) ∧ some k_ ≠ (.slice Ao61 t138.length co61 : Value).ownBlock)) (n := t144.length) (c := co68) ?_).2.2; exact (by (with_reducible repeat (first | apply Kd.R_alloc | apply Kd.R_drewN | apply Kd.R_drew)); exact (Kd.R_mono (Kd.R_far (p := ⟨gb149, 3, none⟩) (Kd.R_far (p := ⟨gb149, 2, none⟩) (Kd.R_far (p := ⟨gb149, 1, none⟩) (Kd.R_far (p := ⟨gb149, 0, none⟩) (Kd.R_types HO146.out BK149.out (by decide)) (fun _ hk => hk.2) (.slice Ao64 t141.length co64)) (fun _ hk => hk.2) (.slice Ao68 t144.length co68)) (fun _ hk => hk.2) (.int .i64 t147)) (fun _ hk => hk.2) (.int .i64 t148)) (fun _ h_ => h_.1)))); (case side4 => exact (Kd.R_reads' HO146.out).2.1); (case side5 => refine (Kd.R_reads' (e := 111) (base := w.heap.size) (ok := fun k_ => ((((some k_ ≠ (.slice Ao22 t108.length co22 : Value).ownBlock ∧ (some k_ ≠ (.slice Ao27 t117.length co27 : Value).ownBlock ∧ some k_ ≠ (.slice Ao30 t120.length co30 : Value).ownBlock)) ∧ some k_ ≠ (.slice Ao61 t138.length co61 : Value).ownBlock) ∧ some k_ ≠ (.slice Ao64 t141.length co64 : Value).ownBlock) ∧ some k_ ≠ (.slice Ao68 t144.length co68 : Value).ownBlock)) (n := t105.length) (c := co20) ?_).2.2; exact (by (with_reducible repeat (first | apply Kd.R_alloc | apply Kd.R_drewN | apply Kd.R_drew)); exact (Kd.R_mono (Kd.R_far (p := ⟨gb149, 3, none⟩) (Kd.R_far (p := ⟨gb149, 2, none⟩) (Kd.R_far (p := ⟨gb149, 1, none⟩) (Kd.R_far (p := ⟨gb149, 0, none⟩) (Kd.R_types HO_114000.out BK149.out (by decide)) (fun _ hk => hk.2) (.slice Ao64 t141.length co64)) (fun _ hk => hk.2) (.slice Ao68 t144.length co68)) (fun _ hk => hk.2) (.int .i64 t147)) (fun _ hk => hk.2) (.int .i64 t148)) (fun _ h_ => h_.1)))); (case side6 => exact (Kd.R_reads' HO_114000.out).2.1); (case side7 => refine (Kd.R_reads' (e := 111) (base := w.heap.size) (ok := fun k_ => ((((some k_ ≠ (.slice Ao20 t105.length co20 : Value).ownBlock ∧ (some k_ ≠ (.slice Ao27 t117.length co27 : Value).ownBlock ∧ some k_ ≠ (.slice Ao30 t120.length co30 : Value).ownBlock)) ∧ some k_ ≠ (.slice Ao61 t138.length co61 : Value).ownBlock) ∧ some k_ ≠ (.slice Ao64 t141.length co64 : Value).ownBlock) ∧ some k_ ≠ (.slice Ao68 t144.length co68 : Value).ownBlock)) (n := t108.length) (c := co22) ?_).2.2; exact (by (with_reducible repeat (first | apply Kd.R_alloc | apply Kd.R_drewN | apply Kd.R_drew)); exact (Kd.R_mono (Kd.R_far (p := ⟨gb149, 3, none⟩) (Kd.R_far (p := ⟨gb149, 2, none⟩) (Kd.R_far (p := ⟨gb149, 1, none⟩) (Kd.R_far (p := ⟨gb149, 0, none⟩) (Kd.R_types HO_114001.out BK149.out (by decide)) (fun _ hk => hk.2) (.slice Ao64 t141.length co64)) (fun _ hk => hk.2) (.slice Ao68 t144.length co68)) (fun _ hk => hk.2) (.int .i64 t147)) (fun _ hk => hk.2) (.int .i64 t148)) (fun _ h_ => h_.1)))); (case side8 => exact (Kd.R_reads' HO_114001.out).2.1); rintro e w70 ⟨rfl, hb⟩; refine ⟨_, rfl, ?_⟩; have n0_ := Aside0.mk (Kd.R_below (by (with_reducible repeat (first | apply Kd.R_alloc | apply Kd.R_drewN | apply Kd.R_drew)); exact (Kd.R_mono (Kd.R_far (p := ⟨gb149, 3, none⟩) (Kd.R_far (p := ⟨gb149, 2, none⟩) (Kd.R_far (p := ⟨gb149, 1, none⟩) (Kd.R_far (p := ⟨gb149, 0, none⟩) (Kd.R_types HO_114000.out BK149.out (by decide)) (fun _ hk => hk.2) (.slice Ao64 t141.length co64)) (fun _ hk => hk.2) (.slice Ao68 t144.length co68)) (fun _ hk => hk.2) (.int .i64 t147)) (fun _ hk => hk.2) (.int .i64 t148)) (fun _ h_ => h_.1))) hb); have n1_ := Aside0.mk (Kd.R_below (by (with_reducible repeat (first | apply Kd.R_alloc | apply Kd.R_drewN | apply Kd.R_drew)); exact (Kd.R_mono (Kd.R_far (p := ⟨gb149, 3, none⟩) (Kd.R_far (p := ⟨gb149, 2, none⟩) (Kd.R_far (p := ⟨gb149, 1, none⟩) (Kd.R_far (p := ⟨gb149, 0, none⟩) (Kd.R_types HO_114001.out BK149.out (by decide)) (fun _ hk => hk.2) (.slice Ao64 t141.length co64)) (fun _ hk => hk.2) (.slice Ao68 t144.length co68)) (fun _ hk => hk.2) (.int .i64 t147)) (fun _ hk => hk.2) (.int .i64 t148)) (fun _ h_ => h_.1))) hb); have n2_ := Aside0.mk (Kd.R_below (by (with_reducible repeat (first | apply Kd.R_alloc | apply Kd.R_drewN | apply Kd.R_drew)); exact (Kd.R_mono (Kd.R_far (p := ⟨gb149, 3, none⟩) (Kd.R_far (p := ⟨gb149, 2, none⟩) (Kd.R_far (p := ⟨gb149, 1, none⟩) (Kd.R_far (p := ⟨gb149, 0, none⟩) (Kd.R_types HO_126000.out BK149.out (by decide)) (fun _ hk => hk.2) (.slice Ao64 t141.length co64)) (fun _ hk => hk.2) (.slice Ao68 t144.length co68)) (fun _ hk => hk.2) (.int .i64 t147)) (fun _ hk => hk.2) (.int .i64 t148)) (fun _ h_ => h_.1))) hb); have n3_ := Aside0.mk (Kd.R_below (by (with_reducible repeat (first | apply Kd.R_alloc | apply Kd.R_drewN | apply Kd.R_drew)); exact (Kd.R_mono (Kd.R_far (p := ⟨gb149, 3, none⟩) (Kd.R_far (p := ⟨gb149, 2, none⟩) (Kd.R_far (p := ⟨gb149, 1, none⟩) (Kd.R_far (p := ⟨gb149, 0, none⟩) (Kd.R_types HO_126001.out BK149.out (by decide)) (fun _ hk => hk.2) (.slice Ao64 t141.length co64)) (fun _ hk => hk.2) (.slice Ao68 t144.length co68)) (fun _ hk => hk.2) (.int .i64 t147)) (fun _ hk => hk.2) (.int .i64 t148)) (fun _ h_ => h_.1))) hb); have n4_ := Aside0.mk (Kd.R_below (by (with_reducible repeat (first | apply Kd.R_alloc | apply Kd.R_drewN | apply Kd.R_drew)); exact (Kd.R_mono (Kd.R_far (p := ⟨gb149, 3, none⟩) (Kd.R_far (p := ⟨gb149, 2, none⟩) (Kd.R_far (p := ⟨gb149, 1, none⟩) (Kd.R_far (p := ⟨gb149, 0, none⟩) (Kd.R_types HO140.out BK149.out (by decide)) (fun _ hk => hk.2) (.slice Ao64 t141.length co64)) (fun _ hk => hk.2) (.slice Ao68 t144.length co68)) (fun _ hk => hk.2) (.int .i64 t147)) (fun _ hk => hk.2) (.int .i64 t148)) (fun _ h_ => h_.1))) hb); have n5_ := Aside0.mk (Kd.R_below (by (with_reducible repeat (first | apply Kd.R_alloc | apply Kd.R_drewN | apply Kd.R_drew)); exact (Kd.R_mono (Kd.R_far (p := ⟨gb149, 3, none⟩) (Kd.R_far (p := ⟨gb149, 2, none⟩) (Kd.R_far (p := ⟨gb149, 1, none⟩) (Kd.R_far (p := ⟨gb149, 0, none⟩) (Kd.R_types HO143.out BK149.out (by decide)) (fun _ hk => hk.2) (.slice Ao64 t141.length co64)) (fun _ hk => hk.2) (.slice Ao68 t144.length co68)) (fun _ hk => hk.2) (.int .i64 t147)) (fun _ hk => hk.2) (.int .i64 t148)) (fun _ h_ => h_.1))) hb); have n6_ := Aside0.mk (Kd.R_below (by (with_reducible repeat (first | apply Kd.R_alloc | apply Kd.R_drewN | apply Kd.R_drew)); exact (Kd.R_mono (Kd.R_far (p := ⟨gb149, 3, none⟩) (Kd.R_far (p := ⟨gb149, 2, none⟩) (Kd.R_far (p := ⟨gb149, 1, none⟩) (Kd.R_far (p := ⟨gb149, 0, none⟩) (Kd.R_types HO146.out BK149.out (by decide)) (fun _ hk => hk.2) (.slice Ao64 t141.length co64)) (fun _ hk => hk.2) (.slice Ao68 t144.length co68)) (fun _ hk => hk.2) (.int .i64 t147)) (fun _ hk => hk.2) (.int .i64 t148)) (fun _ h_ => h_.1))) hb); have n7_ := Aside0.mk (blk_below (g := gb113) (o := .cells #[.slice Ao20 t105.length co20, .slice Ao22 t108.length co22, .int .i64 t111, .int .i64 t112] 47 (0, 0)) (by (with_reducible repeat (first | refine blk_drewN ?_ _ | refine blk_drew ?_ | refine blk_alloc ?_ _)); refine blk_far ?_ NB113_149.out _; (with_reducible repeat (first | refine blk_drewN ?_ _ | refine blk_drew ?_ | refine blk_alloc ?_ _)); refine blk_far ?_ NB113_149.out _; (with_reducible repeat (first | refine blk_drewN ?_ _ | refine blk_drew ?_ | refine blk_alloc ?_ _)); refine blk_far ?_ NB113_149.out _; (with_reducible repeat (first | refine blk_drewN ?_ _ | refine blk_drew ?_ | refine blk_alloc ?_ _)); refine blk_far ?_ NB113_149.out _; (with_reducible repeat (first | refine blk_drewN ?_ _ | refine blk_drew ?_ | refine blk_alloc ?_ _)); exact BK113.out) hb); have n8_ := Aside0.mk (blk_below (g := gb125) (o := .cells #[.slice Ao27 t117.length co27, .slice Ao30 t120.length co30, .int .i64 t123, .int .i64 t124] 47 (0, 0)) (by (with_reducible repeat (first | refine blk_drewN ?_ _ | refine blk_drew ?_ | refine blk_alloc ?_ _)); refine blk_far ?_ NB125_149.out _; (with_reducible repeat (first | refine blk_drewN ?_ _ | refine blk_drew ?_ | refine blk_alloc ?_ _)); refine blk_far ?_ NB125_149.out _; (with_reducible repeat (first | refine blk_drewN ?_ _ | refine blk_drew ?_ | refine blk_alloc ?_ _)); refine blk_far ?_ NB125_149.out _; (with_reducible repeat (first | refine blk_drewN ?_ _ | refine blk_drew ?_ | refine blk_alloc ?_ _)); refine blk_far ?_ NB125_149.out _; (with_reducible repeat (first | refine blk_drewN ?_ _ | refine blk_drew ?_ | refine blk_alloc ?_ _)); exact BK125.out) hb); have n9_ := Aside0.mk (blk_below (g := gb149) (o := .cells #[.slice Ao64 t141.length co64, .slice Ao68 t144.length co68, .int .i64 t147, .int .i64 t148] 47 (0, 0)) (by (with_reducible repeat (first | refine blk_drewN ?_ _ | refine blk_drew ?_ | refine blk_alloc ?_ _)); refine blk_put (cs := #[.slice Ao64 t141.length co64, .slice Ao68 t144.length co68, .int .i64 t147, .int .i64 0]) ?_ 3 _ rfl; (with_reducible repeat (first | refine blk_drewN ?_ _ | refine blk_drew ?_ | refine blk_alloc ?_ _)); refine blk_put (cs := #[.slice Ao64 t141.length co64, .slice Ao68 t144.length co68, .int .i64 0, .int .i64 0]) ?_ 2 _ rfl; (with_reducible repeat (first | refine blk_drewN ?_ _ | refine blk_drew ?_ | refine blk_alloc ?_ _)); refine blk_put (cs := #[.slice Ao64 t141.length co64, .slice none 0 0, .int .i64 0, .int .i64 0]) ?_ 1 _ rfl; (with_reducible repeat (first | refine blk_drewN ?_ _ | refine blk_drew ?_ | refine blk_alloc ?_ _)); refine blk_put (cs := #[.slice none 0 0, .slice none 0 0, .int .i64 0, .int .i64 0]) ?_ 0 _ rfl; (with_reducible repeat (first | refine blk_drewN ?_ _ | refine blk_drew ?_ | refine blk_alloc ?_ _)); exact BK149.out) hb); have n10_ := Aside0.mk (below_step (by repeat (first | (with_reducible first | exact HB.out | apply below_alloc | apply pw_below_drewN | apply below_drew1 | refine below_set ?_ GE113.out | refine below_set ?_ GE125.out | refine below_set ?_ GE149.out) | exact HB.out)) hb); clear HO_114000; clear HO_114001; clear HO_126000; clear HO_126001; clear HO140; clear HO143; clear HO146; clear BK113; clear BK125; clear BK149; clear HB; have HO_114000 := n0_; have HO_114001 := n1_; have HO_126000 := n2_; have HO_126001 := n3_; have HO140 := n4_; have HO143 := n5_; have HO146 := n6_; have BK113 := n7_; have BK125 := n8_; have BK149 := n9_; have HB := n10_; clear n0_ n1_ n2_ n3_ n4_ n5_ n6_ n7_ n8_ n9_ n10_; (try clear hb); (try clear hb2); (try clear hk); (try clear hi); have hcz71_0 : w70.cell? ⟨gb125, 0, none⟩ = some (.slice Ao27 t117.length co27) := (blk_cell BK125.out 0).trans rfl; have hcz71_1 : w70.cell? ⟨gb125, 1, none⟩ = some (.slice Ao30 t120.length co30) := (blk_cell BK125.out 1).trans rfl; have hcz71_2 : w70.cell? ⟨gb125, 2, none⟩ = some (.int .i64 t123) := (blk_cell BK125.out 2).trans rfl; have hcz71_3 : w70.cell? ⟨gb125, 3, none⟩ = some (.int .i64 t124) := (blk_cell BK125.out 3).trans rfl; have hfz71_0 := blk_frozen BK125.out 0; have hfz71_1 := blk_frozen BK125.out 1; have hfz71_2 := blk_frozen BK125.out 2; have hfz71_3 := blk_frozen BK125.out 3) | ((with_reducible refine gate_callee (f := 35) rfl ?_); refine goesL_ (some 68) rfl rfl Try.func35 (by kernel_rfl) rfl #[.agg #[.slice Ao27 t135.length co27, .slice Ao30 t136.length co30, .int .i64 t123, .int .i64 t124], .int .i64 1] rfl (by (try simp only [List.map_toArray, List.map_cons, List.map_nil]); first | done | (rw [show t135.length = t117.length from (Kd.R_reads' HO_126000.out).1.symm, show t136.length = t120.length from (Kd.R_reads' HO_126001.out).1.symm] <;> rfl) | rfl | (simp only [List.length_drop, List.length_take]; rfl)) ?_; (with_reducible refine (laws_heldPlanOut.calls kj14 _ _ t135 _ _ t136 t123 t124 1 t151 _ ?side1 ?side2 ?side3 ?side4 A52.out).mono ?_); (case side1 => repeat (first | exact (Kd.R_reads' HO_126000.out).2.2 | (with_reducible refine Kd.C_alloc ?_ _) | (with_reducible refine Kd.C_drewN ?_ _) | (with_reducible refine Kd.C_drew ?_))); (case side2 => rw [show t135.length = t117.length from (Kd.R_reads' HO_126000.out).1.symm]; exact (Kd.R_reads' HO_126000.out).2.1); (case side3 => repeat (first | exact (Kd.R_reads' HO_126001.out).2.2 | (with_reducible refine Kd.C_alloc ?_ _) | (with_reducible refine Kd.C_drewN ?_ _) | (with_reducible refine Kd.C_drew ?_))); (case side4 => rw [show t136.length = t120.length from (Kd.R_reads' HO_126001.out).1.symm]; exact (Kd.R_reads' HO_126001.out).2.1); rintro e w72 ⟨rfl, hb⟩; refine ⟨_, rfl, ?_⟩; have n0_ := Aside0.mk (Kd.R_below (by (with_reducible repeat (first | apply Kd.R_alloc | apply Kd.R_drewN | apply Kd.R_drew)); exact HO_114000.out) hb); have n1_ := Aside0.mk (Kd.R_below (by (with_reducible repeat (first | apply Kd.R_alloc | apply Kd.R_drewN | apply Kd.R_drew)); exact HO_114001.out) hb); have n2_ := Aside0.mk (Kd.R_below (by (with_reducible repeat (first | apply Kd.R_alloc | apply Kd.R_drewN | apply Kd.R_drew)); exact HO_126000.out) hb); have n3_ := Aside0.mk (Kd.R_below (by (with_reducible repeat (first | apply Kd.R_alloc | apply Kd.R_drewN | apply Kd.R_drew)); exact HO_126001.out) hb); have n4_ := Aside0.mk (Kd.R_below (by (with_reducible repeat (first | apply Kd.R_alloc | apply Kd.R_drewN | apply Kd.R_drew)); exact HO140.out) hb); have n5_ := Aside0.mk (Kd.R_below (by (with_reducible repeat (first | apply Kd.R_alloc | apply Kd.R_drewN | apply Kd.R_drew)); exact HO143.out) hb); have n6_ := Aside0.mk (Kd.R_below (by (with_reducible repeat (first | apply Kd.R_alloc | apply Kd.R_drewN | apply Kd.R_drew)); exact HO146.out) hb); have n7_ := Aside0.mk (blk_below (g := gb113) (o := .cells #[.slice Ao20 t105.length co20, .slice Ao22 t108.length co22, .int .i64 t111, .int .i64 t112] 47 (0, 0)) (by (with_reducible repeat (first | refine blk_drewN ?_ _ | refine blk_drew ?_ | refine blk_alloc ?_ _)); exact BK113.out) hb); have n8_ := Aside0.mk (blk_below (g := gb125) (o := .cells #[.slice Ao27 t117.length co27, .slice Ao30 t120.length co30, .int .i64 t123, .int .i64 t124] 47 (0, 0)) (by (with_reducible repeat (first | refine blk_drewN ?_ _ | refine blk_drew ?_ | refine blk_alloc ?_ _)); exact BK125.out) hb); have n9_ := Aside0.mk (blk_below (g := gb149) (o := .cells #[.slice Ao64 t141.length co64, .slice Ao68 t144.length co68, .int .i64 t147, .int .i64 t148] 47 (0, 0)) (by (with_reducible repeat (first | refine blk_drewN ?_ _ | refine blk_drew ?_ | refine blk_alloc ?_ _)); exact BK149.out) hb); have n10_ := Aside0.mk (below_step (by repeat (first | (with_reducible first | exact HB.out | apply below_alloc | apply pw_below_drewN | apply below_drew1 | refine below_set ?_ GE113.out | refine below_set ?_ GE125.out | refine below_set ?_ GE149.out) | exact HB.out)) hb); clear HO_114000; clear HO_114001; clear HO_126000; clear HO_126001; clear HO140; clear HO143; clear HO146; clear BK113; clear BK125; clear BK149; clear HB; have HO_114000 := n0_; have HO_114001 := n1_; have HO_126000 := n2_; have HO_126001 := n3_; have HO140 := n4_; have HO143 := n5_; have HO146 := n6_; have BK113 := n7_; have BK125 := n8_; have BK149 := n9_; have HB := n10_; clear n0_ n1_ n2_ n3_ n4_ n5_ n6_ n7_ n8_ n9_ n10_; (try clear hb); (try clear hb2); (try clear hk); (try clear hi)))
                        go_ret
                        exact ⟨by first | rfl | (simp [errW_none, errW_some] <;> rfl) | (simp [*, errW_none, errW_some] <;> rfl), by repeat (first | (with_reducible first | exact HB.out | apply below_alloc | apply pw_below_drewN | apply below_drew1 | refine below_set ?_ GE113.out | refine below_set ?_ GE125.out | refine below_set ?_ GE149.out) | exact HB.out)⟩
                      · rw [if_neg c54] at H
                        have c54b0 : (t151 == t134) = false := beq_eq_false_iff_ne.mpr c54
                        have c54b1 : (t151 != t134) = true := bne_iff_ne.mpr c54
                        obtain rfl := Option.some.inj H
                        exact absurd ht (by decide)
                  · replace c51 := Bool.eq_false_iff.mpr c51
                    subst c51
                    have H1 : (some false) = some r := by rw [if_neg (show ¬ (false = true) by decide)] at H; exact H
                    clear H
                    have H := H1
                    clear H1
                    obtain rfl := Option.some.inj H
                    exact absurd ht (by decide)
                · rw [if_neg c47] at H
                  have c47b0 : (t137 == t134) = false := beq_eq_false_iff_ne.mpr c47
                  have c47b1 : (t137 != t134) = true := bne_iff_ne.mpr c47
                  obtain rfl := Option.some.inj H
                  exact absurd ht (by decide)
      · replace c13 := Bool.eq_false_iff.mpr c13
        subst c13
        have H1 : (some false) = some r := by rw [if_neg (show ¬ (false = true) by decide)] at H; exact H
        clear H
        have H := H1
        clear H1
        obtain rfl := Option.some.inj H
        exact absurd ht (by decide)
    · replace c10 := Bool.eq_false_iff.mpr c10
      subst c10
      have H1 : (some false) = some r := by rw [if_neg (show ¬ (false = true) by decide)] at H; exact H
      clear H
      have H := H1
      clear H1
      obtain rfl := Option.some.inj H
      exact absurd ht (by decide)

end Go.Proofs.Ytfjdlggdnnghhaa.A
/- Loops over lists, in plain Lean: a copy into a new row, a comparison of a row with itself. Conditions: the rows are no longer than a number of the machine can tell. -/
namespace Go.Proofs.Ytfjdlggdnnghhaa.Lst
open Go.RowKit
set_option linter.unusedVariables false
set_option linter.unusedSimpArgs false

theorem w1 (i : Int) (h0 : 0 ≤ i) (h : i < 4611686018427387904) : wrap64 (i + 1) = i + 1 := by unfold wrap64; omega
theorem w1n (i n : Nat) (hi : i < n) (hn : n ≤ 4611686018427387904) : wrap64 ((i : Int) + 1) = ((i + 1 : Nat) : Int) := by unfold wrap64; omega
theorem wr (i : Int) (h0 : -9223372036854775808 ≤ i) (h : i < 9223372036854775808) : wrap64 i = i := by unfold wrap64; omega
theorem toNat_ofNat (i : Nat) : ((i : Int)).toNat = i := rfl

theorem set_take {β : Type} (l : List β) (i : Nat) (b : β) (h : i < l.length) : (l.set i b).take (i + 1) = l.take i ++ [b] := by
  apply List.ext_getElem?
  intro j
  simp only [List.getElem?_take, List.getElem?_append, List.getElem?_set, List.length_take]
  by_cases h1 : j < i
  · rw [if_pos (by omega), if_neg (by omega), if_pos (by omega), if_pos h1]
  · by_cases h2 : j = i
    · subst h2
      rw [if_pos (by omega), if_pos rfl, if_pos h, if_neg (by omega)]
      simp [Nat.min_eq_left (Nat.le_of_lt h)]
    · rw [if_neg (by omega), if_neg (by omega)]
      rw [List.getElem?_eq_none]
      simp; omega

/-- A copy, element by element, into a row that is there. -/
theorem copy_from {α β : Type} (g : Nat → List α → List β → Int → Option (List β)) (z : α) (h : α → β) (l : List α) (hl : l.length ≤ 4611686018427387904)
    (hstep : ∀ (k : Nat) (x : List β) (i : Nat), i < l.length → i < x.length → g (k + 1) l x (i : Int) = g k l (x.set i (h (l.getD i z))) (wrap64 ((i : Int) + 1)))
    (hend : ∀ (k : Nat) (x : List β), g (k + 1) l x (l.length : Int) = some x) :
    ∀ (d k i : Nat) (x : List β), d + i = l.length → x.length = l.length → x.take i = (l.take i).map h → d < k → g k l x (i : Int) = some (l.map h) := by
  intro d
  induction d with
  | zero =>
    intro k i x hd hx ht hk
    obtain ⟨k, rfl⟩ : ∃ m, k = m + 1 := ⟨k - 1, by omega⟩
    obtain rfl : i = l.length := by omega
    rw [hend]
    rw [List.take_of_length_le (by omega), List.take_of_length_le (Nat.le_refl _)] at ht
    rw [ht]
  | succ d ih =>
    intro k i x hd hx ht hk
    obtain ⟨k, rfl⟩ : ∃ m, k = m + 1 := ⟨k - 1, by omega⟩
    rw [hstep k x i (by omega) (by omega), w1n i l.length (by omega) hl]
    refine ih k (i + 1) _ (by omega) (by simpa using hx) ?_ (by omega)
    rw [set_take x i _ (by omega), ht, List.take_succ_eq_append_getElem (by omega), List.map_append, List.getD_eq_getElem?_getD, List.getElem?_eq_getElem (by omega)]
    simp

theorem copy_all {α β : Type} (g : Nat → List α → List β → Int → Option (List β)) (z : α) (zb : β) (h : α → β) (l : List α) (hl : l.length ≤ 4611686018427387904)
    (hstep : ∀ (k : Nat) (x : List β) (i : Nat), i < l.length → i < x.length → g (k + 1) l x (i : Int) = g k l (x.set i (h (l.getD i z))) (wrap64 ((i : Int) + 1)))
    (hend : ∀ (k : Nat) (x : List β), g (k + 1) l x (l.length : Int) = some x) (k : Nat) (hk : l.length < k) : g k l (List.replicate l.length zb) 0 = some (l.map h) :=
  copy_from g z h l hl hstep hend l.length k 0 _ rfl (by simp) (by simp) hk

/-- A walk along a row that never leaves before the end. -/
theorem along {ρ : Type} (g : Nat → Int → Option ρ) (n : Nat) (hn : n ≤ 4611686018427387904) (r : ρ)
    (hstep : ∀ (k i : Nat), i < n → g (k + 1) (i : Int) = g k (wrap64 ((i : Int) + 1))) (hend : ∀ k : Nat, g (k + 1) (n : Int) = some r) :
    ∀ (d k i : Nat), d + i = n → d < k → g k (i : Int) = some r := by
  intro d
  induction d with
  | zero =>
    intro k i hd hk
    obtain ⟨k, rfl⟩ : ∃ m, k = m + 1 := ⟨k - 1, by omega⟩
    obtain rfl : i = n := by omega
    exact hend k
  | succ d ih =>
    intro k i hd hk
    obtain ⟨k, rfl⟩ : ∃ m, k = m + 1 := ⟨k - 1, by omega⟩
    rw [hstep k i (by omega), w1n i n (by omega) hn]
    exact ih k (i + 1) (by omega) (by omega)

theorem along_all {ρ : Type} (g : Nat → Int → Option ρ) (n : Nat) (hn : n ≤ 4611686018427387904) (r : ρ)
    (hstep : ∀ (k i : Nat), i < n → g (k + 1) (i : Int) = g k (wrap64 ((i : Int) + 1))) (hend : ∀ k : Nat, g (k + 1) (n : Int) = some r) (k : Nat) (hk : n < k) : g k 0 = some r :=
  along g n hn r hstep hend n k 0 (by omega) hk

/-- Element by element, each set to something of its number and of what it was. -/
theorem setting {β : Type} (g : Nat → List β → Int → Int → Option (Int × List β)) (z : β) (F : Int → β → β) (c : Int) (n : Nat) (hn : n ≤ 4611686018427387904)
    (hstep : ∀ (k : Nat) (x : List β) (m : Int) (i : Nat), x.length = n → i < n → 0 ≤ m → m ≤ 1000000000000 → g (k + 1) x m (i : Int) = g k (x.set i (F m (x.getD i z))) (m + c) (wrap64 ((i : Int) + 1)))
    (hend : ∀ (k : Nat) (x : List β) (m : Int), x.length = n → g (k + 1) x m (n : Int) = some (m, x)) (hc : 0 ≤ c) :
    ∀ (d k i : Nat) (x : List β) (m : Int), d + i = n → x.length = n → d < k → 0 ≤ m → m + c * d ≤ 1000000000000 →
      ∃ y, g k x m (i : Int) = some (m + c * d, y) ∧ y.length = n ∧ (∀ j, j < i → y.getD j z = x.getD j z) ∧ ∀ j, i ≤ j → j < n → y.getD j z = F (m + c * (j - i : Nat)) (x.getD j z) := by
  intro d
  induction d with
  | zero =>
    intro k i x m hd hx hk h0 h1
    obtain ⟨k, rfl⟩ : ∃ q, k = q + 1 := ⟨k - 1, by omega⟩
    obtain rfl : i = n := by omega
    exact ⟨x, by rw [hend k x m hx]; simp, hx, fun j _ => rfl, fun j h2 h3 => by omega⟩
  | succ d ih =>
    intro k i x m hd hx hk h0 h1
    obtain ⟨k, rfl⟩ : ∃ q, k = q + 1 := ⟨k - 1, by omega⟩
    have hcd : 0 ≤ c * (d : Int) := Int.mul_nonneg hc (by omega)
    have e1 : c * ((d + 1 : Nat) : Int) = c * (d : Int) + c := by rw [show ((d + 1 : Nat) : Int) = (d : Int) + 1 from rfl, Int.mul_add, Int.mul_one]
    rw [e1] at h1
    rw [hstep k x m i hx (by omega) h0 (by omega), w1n i n (by omega) hn]
    obtain ⟨y, h2, h3, h4, h5⟩ := ih k (i + 1) (x.set i (F m (x.getD i z))) (m + c) (by omega) (by simpa using hx) (by omega) (by omega) (by omega)
    refine ⟨y, by rw [h2, e1]; congr 2; omega, h3, fun j hj => ?_, fun j hj hjn => ?_⟩
    · rw [h4 j (by omega)]
      simp only [List.getD_eq_getElem?_getD, List.getElem?_set]
      rw [if_neg (by omega)]
    · by_cases e : j = i
      · subst e
        rw [h4 j (by omega)]
        simp only [List.getD_eq_getElem?_getD, List.getElem?_set]
        rw [if_pos trivial, if_pos (by omega)]
        simp
      · rw [h5 j (by omega) hjn]
        have e2 : m + c + c * ((j - (i + 1) : Nat) : Int) = m + c * ((j - i : Nat) : Int) := by
          have : ((j - i : Nat) : Int) = ((j - (i + 1) : Nat) : Int) + 1 := by omega
          rw [this, Int.mul_add, Int.mul_one]
          omega
        rw [e2]
        congr 1
        simp only [List.getD_eq_getElem?_getD, List.getElem?_set]
        rw [if_neg (by omega)]
/-- A walk that counts up as it goes. -/
theorem holding {ρ : Type} (g : Nat → Int → Int → Option ρ) (n : Nat) (hn : n ≤ 4611686018427387904) (m c : Int) (r : ρ)
    (hstep : ∀ (k i : Nat), i < n → g (k + 1) (m + c * i) (i : Int) = g k (m + c * ((i + 1 : Nat) : Int)) (wrap64 ((i : Int) + 1))) (hend : ∀ k : Nat, g (k + 1) (m + c * n) (n : Int) = some r) :
    ∀ (d k i : Nat), d + i = n → d < k → g k (m + c * i) (i : Int) = some r := by
  intro d
  induction d with
  | zero =>
    intro k i hd hk
    obtain ⟨k, rfl⟩ : ∃ q, k = q + 1 := ⟨k - 1, by omega⟩
    obtain rfl : i = n := by omega
    exact hend k
  | succ d ih =>
    intro k i hd hk
    obtain ⟨k, rfl⟩ : ∃ q, k = q + 1 := ⟨k - 1, by omega⟩
    rw [hstep k i (by omega), w1n i n (by omega) hn]
    exact ih k (i + 1) (by omega) (by omega)

theorem map_id_of {α : Type} (l : List α) (f : α → α) (h : ∀ x, f x = x) : l.map f = l := by
  induction l with
  | nil => rfl
  | cons a l ih => rw [List.map_cons, h, ih]
end Go.Proofs.Ytfjdlggdnnghhaa.Lst
/- The plain statement that is left of the law FnExactPlanCut, over numbers and lists. -/
namespace Go.Proofs.Ytfjdlggdnnghhaa.A
open Go.RowKit Go.Proofs.YtfjdlggdnnghhaaW.PrintWords Go.Proofs.YtfjdlggdnnghhaaW.PrintLast
def Pure_FnExactPlanCut : Prop := ∀ (l0 : List (S114)) (a1 : Int), (l0.length ≤ maxLen ∧ ∀ q1 ∈ l0, ((Lit.int .i64 q1.f0).wf = true ∧ ((Lit.int .i64 q1.f1).wf = true ∧ ((Lit.int .i64 q1.f2).wf = true ∧ (Lit.int .i64 q1.f3).wf = true)))) → (Lit.int .i64 a1).wf = true → ∃ k, laws_FnExactPlanCut.f k l0 a1 = some true
end Go.Proofs.Ytfjdlggdnnghhaa.A
/- PlanCut of the program and of the reference are the same plan. -/
namespace Go.Proofs.Ytfjdlggdnnghhaa.A
open Go.RowKit Go.Proofs.Ytfjdlggdnnghhaa Go.Proofs.YtfjdlggdnnghhaaW.PrintWords Go.Proofs.YtfjdlggdnnghhaaW.PrintLast Go.Proofs.YtfjdlggdnnghhaaW.PrintMore
set_option linter.unusedVariables false
set_option linter.unusedSimpArgs false
def cvIt (x : S114) : S111 := ⟨x.f0, x.f1, x.f2, x.f3⟩
theorem toIt (l : List S114) (hl : l.length ≤ 1048576) (k : Nat) (hk : l.length < k) : laws_toItemS.f k l = some (l.map cvIt) := by
  unfold laws_toItemS.f
  rw [if_pos (by omega), if_pos (by omega)]
  refine Lst.copy_all laws_toItemS.l0 z114 z111 cvIt l (by omega) ?_ ?_ k hk
  · intro k x i h1 h2
    simp only [laws_toItemS.l0]
    rw [if_pos (by omega), if_pos (by omega)]
    simp only [laws_toItem.f, Option.bind_some]
    rw [if_pos (by omega)]
    rfl
  · intro k x
    simp only [laws_toItemS.l0]
    rw [if_neg (by omega)]
theorem szIt (l : List S114) (hl : l.length ≤ maxLen) : laws_szItemS.f l 1048576 = some (if l.length ≤ 1048576 then 1048576 - (l.length : Int) else -1) := by
  unfold laws_szItemS.f
  unfold maxLen at hl
  have e' : wrap64 (1048576 - (l.length : Int)) = 1048576 - (l.length : Int) := by unfold wrap64; omega
  rw [e']
  by_cases h : l.length ≤ 1048576
  · rw [if_neg (by omega), if_pos h]
  · rw [if_pos (by omega), if_neg h]
theorem rd_nat_It (l : List S111) (i : Nat) (hi : i < l.length) : rd_T111 l (i : Int) = l[i] := by
  show l.getD i _ = _
  rw [List.getD_eq_getElem?_getD, List.getElem?_eq_getElem hi]
  rfl
theorem eqIt (l : List S111) (hl : l.length ≤ 1048576) (k : Nat) (hk : l.length < k) : laws_eqItemS.f k l l = some true := by
  unfold laws_eqItemS.f
  rw [if_pos rfl]
  refine Lst.along_all (fun k i => laws_eqItemS.l0 k l l i) l.length (by omega) true ?_ ?_ k hk
  · intro k i h1
    simp only [laws_eqItemS.l0]
    rw [if_pos (by omega), if_pos (by omega), if_pos (by omega)]
    simp [laws_eqItem.f]
  · intro k
    simp only [laws_eqItemS.l0]
    rw [if_neg (by omega)]
theorem markIt (l : List S111) (hl : l.length ≤ 1048576) (m0 : Int) (hm0 : 0 ≤ m0) (hm1 : m0 ≤ 100000000) (k : Nat) (hk : l.length < k) :
    ∃ y : List S111, laws_markItemS.f k l m0 = some (m0 + 4 * (l.length : Int), y) ∧ ∀ k, l.length < k → laws_heldItemS.f k y m0 = some (m0 + 4 * (l.length : Int)) := by
  have wj : ∀ (m : Int), 0 ≤ m → m ≤ 1000000000000 → wrap64 (m + 1) = m + 1 ∧ wrap64 (m + 1 + 1) = m + 2 ∧ wrap64 (m + 2 + 1) = m + 3 ∧ wrap64 (m + 3 + 1) = m + 4 := fun m h0 h1 => by
    unfold wrap64; omega
  obtain ⟨y, h1, hy, _, h4⟩ := Lst.setting laws_markItemS.l0 z111 (fun m _ => ⟨m, m + 1, m + 2, m + 3⟩) 4 l.length (by omega) (by
      intro k x m i hx hi h0 h1
      obtain ⟨w1, w2, w3, w4⟩ := wj m h0 h1
      have g : ∀ (x : List S111) (v : S111), i < x.length → rd_T111 (x.set i v) (i : Int) = v := fun x v hx => by
        rw [rd_nat_It _ i (by simpa using hx)]
        simp
      simp only [laws_markItemS.l0]
      rw [if_pos (by omega), if_pos (by omega)]
      simp only [Option.bind_some, Int.toNat_natCast, w1, w2, w3, w4]
      rw [g x _ (by omega)]
      simp only [List.set_set]
      rw [g x _ (by omega)]
      simp only [List.set_set]
      rw [g x _ (by omega)]
      try simp only [List.set_set]) (by
      intro k x m hx
      simp only [laws_markItemS.l0]
      rw [if_neg (by omega)]) (by omega) l.length k 0 l m0 (by omega) rfl hk (by omega) (by omega)
  refine ⟨y, by unfold laws_markItemS.f; rw [show (0 : Int) = ((0 : Nat) : Int) from rfl, h1], fun k hk => ?_⟩
  unfold laws_heldItemS.f
  have := Lst.holding (fun k m i => laws_heldItemS.l0 k y m i) l.length (by omega) m0 4 (m0 + 4 * (l.length : Int)) (by
    intro k i hi
    obtain ⟨w1, w2, w3, w4⟩ := wj (m0 + 4 * (i : Int)) (by omega) (by omega)
    have e : rd_T111 y (i : Int) = ⟨m0 + 4 * (i : Int), m0 + 4 * (i : Int) + 1, m0 + 4 * (i : Int) + 2, m0 + 4 * (i : Int) + 3⟩ := by
      show y.getD i z111 = _
      rw [h4 i (by omega) hi]
      simp only [Nat.sub_zero]
    simp only [laws_heldItemS.l0]
    rw [if_pos (by omega), if_pos (by omega), e]
    simp only [w1, w2, w3, w4, if_true]
    rw [show m0 + 4 * (i : Int) + 4 = m0 + 4 * ((i + 1 : Nat) : Int) by omega]) (by
    intro k
    simp only [laws_heldItemS.l0]
    rw [if_neg (by omega)]) l.length k 0 (by omega) hk
  simpa using this
theorem within_is (a b c : Int) : impl_within.f a b c = some (decide (b ≤ a ∧ a ≤ c)) := by
  unfold impl_within.f
  by_cases h : b ≤ a <;> simp [h]
theorem is_is (a b c : Int) : spec_l02Is.f a b c = some (decide (b ≤ a ∧ a ≤ c)) := by
  unfold spec_l02Is.f
  by_cases h : b ≤ a <;> simp [h]
/-- An item that is right. -/
def itR (a b c e : Int) : Bool :=
  if a = 1 ∨ a = 2 ∨ a = 7 then decide (0 ≤ b ∧ b ≤ 2000 ∧ 1 ≤ c ∧ c ≤ 6 ∧ e = 0)
  else if a = 3 then decide (0 ≤ b ∧ b ≤ 2000 ∧ 1 ≤ c ∧ c ≤ 63 ∧ e = 0)
  else if a = 4 then decide (0 ≤ b ∧ b ≤ 2000 ∧ c = 0 ∧ e = 0)
  else if a = 5 then decide (0 ≤ b ∧ b ≤ 2000 ∧ 0 ≤ c ∧ c ≤ 100 ∧ e = 0)
  else if a = 6 then decide (0 ≤ b ∧ b ≤ 2000 ∧ 0 ≤ c ∧ c ≤ 9 ∧ e = 0)
  else if a = 8 then decide (0 ≤ b ∧ b ≤ 2000 ∧ 0 ≤ c ∧ c ≤ 9 ∧ 0 ≤ e ∧ e ≤ 500)
  else if a = 9 then decide (b = 0 ∧ c = 0 ∧ e = 0)
  else false
theorem kinds (a : Int) : a = 1 ∨ a = 2 ∨ a = 3 ∨ a = 4 ∨ a = 5 ∨ a = 6 ∨ a = 7 ∨ a = 8 ∨ a = 9 ∨ ¬ (1 ≤ a ∧ a ≤ 9) := by omega
theorem spec_item (a b c e : Int) (k : Nat) (hk : 5 ≤ k) : spec_ItemRight.f k a b c e = some (itR a b c e) := by
  obtain ⟨k, rfl⟩ : ∃ q, k = q + 1 + 1 + 1 + 1 + 1 := ⟨k - 5, by omega⟩
  by_cases hk9 : 1 ≤ a ∧ a ≤ 9
  rotate_left
  · obtain ⟨n1, n2, n3, n4, n5, n6, n7, n8, n9⟩ : a ≠ 1 ∧ a ≠ 2 ∧ a ≠ 3 ∧ a ≠ 4 ∧ a ≠ 5 ∧ a ≠ 6 ∧ a ≠ 7 ∧ a ≠ 8 ∧ a ≠ 9 := by omega
    simp only [spec_ItemRight.f, spec_ItemRight.j0, spec_ItemRight.j1, spec_ItemRight.j2, spec_ItemRight.j3, is_is, Option.bind_some, itR, decide_eq_false hk9]
    simp [n1, n2, n3, n4, n5, n6, n7, n8, n9]
  rcases kinds a with rfl | rfl | rfl | rfl | rfl | rfl | rfl | rfl | rfl | h
  rotate_right
  · exact absurd hk9 h
  all_goals clear hk9
  all_goals simp only [spec_ItemRight.f, spec_ItemRight.j0, spec_ItemRight.j1, spec_ItemRight.j2, spec_ItemRight.j3, is_is, Option.bind_some, itR]
  all_goals by_cases hb : 0 ≤ b ∧ b ≤ 2000
  all_goals simp [hb]
  all_goals first
    | done
    | (intros; omega)
    | (rw [Bool.eq_iff_iff]; simp; done)
    | ((repeat' split) <;> (apply congrArg some) <;> (rw [Bool.eq_iff_iff]) <;> simp <;> omega)
theorem impl_item (a b c e : Int) (k : Nat) (hk : 5 ≤ k) : impl_ItemRight.f k a b c e = some (itR a b c e) := by
  obtain ⟨k, rfl⟩ : ∃ q, k = q + 1 + 1 + 1 + 1 + 1 := ⟨k - 5, by omega⟩
  by_cases hk9 : 1 ≤ a ∧ a ≤ 9
  rotate_left
  · obtain ⟨n1, n2, n3, n4, n5, n6, n7, n8, n9⟩ : a ≠ 1 ∧ a ≠ 2 ∧ a ≠ 3 ∧ a ≠ 4 ∧ a ≠ 5 ∧ a ≠ 6 ∧ a ≠ 7 ∧ a ≠ 8 ∧ a ≠ 9 := by omega
    simp only [impl_ItemRight.f, impl_ItemRight.j0, within_is, Option.bind_some, itR, decide_eq_false hk9]
    simp [n1, n2, n3, n4, n5, n6, n7, n8, n9]
  rcases kinds a with rfl | rfl | rfl | rfl | rfl | rfl | rfl | rfl | rfl | h
  rotate_right
  · exact absurd hk9 h
  all_goals clear hk9
  all_goals simp only [impl_ItemRight.f, impl_ItemRight.j0, within_is, Option.bind_some, itR]
  all_goals by_cases hb : 0 ≤ b ∧ b ≤ 2000
  all_goals simp [hb]
  all_goals first
    | done
    | (intros; omega)
    | (rw [Bool.eq_iff_iff]; simp; done)
    | ((repeat' split) <;> (apply congrArg some) <;> (rw [Bool.eq_iff_iff]) <;> simp <;> omega)
/-- How deep it is behind an item. -/
def aft (d a : Int) : Int := if a = 8 then (if d = 3 then -1 else d + 1) else if a = 9 then d - 1 else d
theorem after_is (d a b c e : Int) (k : Nat) (hk : 1 ≤ k) (h0 : -1000000 ≤ d) (h1 : d ≤ 1000000) : impl_after.f k d a b c e = some (aft d a) := by
  obtain ⟨k, rfl⟩ : ∃ q, k = q + 1 := ⟨k - 1, by omega⟩
  have w1 : wrap64 (d + 1) = d + 1 := by unfold wrap64; omega
  have w2 : wrap64 (d - 1) = d - 1 := by unfold wrap64; omega
  unfold impl_after.f aft
  by_cases h8 : a = 8
  · rw [if_pos h8, if_pos h8]
    by_cases h3 : d = 3
    · simp [impl_after.j0, h3]
    · simp [impl_after.j0, h3, h8, w1]
  · rw [if_neg h8, if_neg h8]
    by_cases h9 : a = 9
    · simp [impl_after.j0, h9, w2]
    · simp [impl_after.j0, h8, h9]
/-- A plan that is right from a place on, at a depth. -/
def planP : List S111 → Int → Bool
  | [], d => d == 0
  | x :: r, d => itR x.f0 x.f1 x.f2 x.f3 && (decide (0 ≤ aft d x.f0) && planP r (aft d x.f0))
theorem spec_plan (l : List S111) (hl : l.length ≤ 1048576) : ∀ (n k i : Nat) (d : Int), i + n = l.length → n + 6 ≤ k → 0 ≤ d → d ≤ 3 → spec_PlanRight.l0 k l d (i : Int) = some (planP (l.drop i) d) := by
  intro n
  induction n with
  | zero =>
    intro k i d hi hk h0 h3
    obtain ⟨k, rfl⟩ : ∃ q, k = q + 1 := ⟨k - 1, by omega⟩
    simp only [spec_PlanRight.l0]
    rw [if_neg (by omega), List.drop_eq_nil_of_le (by omega)]
    rfl
  | succ n ih =>
    intro k i d hi hk h0 h3
    obtain ⟨k, rfl⟩ : ∃ q, k = q + 1 := ⟨k - 1, by omega⟩
    have hil : i < l.length := by omega
    have w1 : wrap64 (d + 1) = d + 1 := by unfold wrap64; omega
    have w2 : wrap64 (d - 1) = d - 1 := by unfold wrap64; omega
    simp only [spec_PlanRight.l0]
    rw [if_pos (by omega), if_pos (by omega), rd_nat_It l i hil, spec_item _ _ _ _ k (by omega), Option.bind_some, Lst.w1n i l.length hil (by omega), w1, w2, List.drop_eq_getElem_cons hil]
    generalize l[i] = x
    show _ = some (itR x.f0 x.f1 x.f2 x.f3 && (decide (0 ≤ aft d x.f0) && planP (l.drop (i + 1)) (aft d x.f0)))
    by_cases hr : itR x.f0 x.f1 x.f2 x.f3 = true
    rotate_left
    · rw [if_neg hr]
      simp [hr]
    rw [if_pos hr, hr, Bool.true_and]
    have g : ∀ d', 0 ≤ d' → d' ≤ 3 → spec_PlanRight.l0 k l d' ((i + 1 : Nat) : Int) = some (decide (0 ≤ d') && planP (l.drop (i + 1)) d') := fun d' a b => by
      rw [ih k (i + 1) d' (by omega) (by omega) a b, decide_eq_true a, Bool.true_and]
    unfold aft
    by_cases h8 : x.f0 = 8
    · rw [if_pos h8, if_pos h8, if_neg (by omega)]
      by_cases h3' : d = 3
      · rw [if_pos (by omega), if_pos h3']
        simp
      · rw [if_neg (by omega), if_neg h3']
        exact g (d + 1) (by omega) (by omega)
    · rw [if_neg h8, if_neg h8]
      by_cases h9 : x.f0 = 9
      · rw [if_pos h9, if_pos h9]
        by_cases hd : d - 1 < 0
        · rw [if_pos hd, decide_eq_false (by omega)]
          rfl
        · rw [if_neg hd, if_neg (by omega)]
          exact g (d - 1) (by omega) (by omega)
      · rw [if_neg h9, if_neg h9, if_neg (by omega), if_neg (by omega)]
        exact g d h0 h3
theorem impl_plan (l : List S111) (hl : l.length ≤ 1048576) : ∀ (n k i : Nat) (d : Int), i + n = l.length → n + 6 ≤ k → 0 ≤ d → d ≤ 3 → impl_PlanRight.l0 k l d l (l.length : Int) (i : Int) = some (planP (l.drop i) d && decide (l.length ≤ 40)) := by
  intro n
  induction n with
  | zero =>
    intro k i d hi hk h0 h3
    obtain ⟨k, rfl⟩ : ∃ q, k = q + 1 := ⟨k - 1, by omega⟩
    simp only [impl_PlanRight.l0]
    rw [if_neg (by omega), List.drop_eq_nil_of_le (by omega)]
    show _ = some ((d == 0) && _)
    by_cases h : l.length ≤ 40
    · rw [if_pos (by omega), decide_eq_true h, Bool.and_true]
    · rw [if_neg (by omega), decide_eq_false h, Bool.and_false]
  | succ n ih =>
    intro k i d hi hk h0 h3
    obtain ⟨k, rfl⟩ : ∃ q, k = q + 1 := ⟨k - 1, by omega⟩
    have hil : i < l.length := by omega
    simp only [impl_PlanRight.l0]
    rw [if_pos (by omega), if_pos (by omega), if_pos (by omega), rd_nat_It l i hil, after_is _ _ _ _ _ k (by omega) (by omega) (by omega), Option.bind_some, impl_item _ _ _ _ k (by omega), Option.bind_some, Lst.w1n i l.length hil (by omega), List.drop_eq_getElem_cons hil]
    generalize l[i] = x
    show _ = some ((itR x.f0 x.f1 x.f2 x.f3 && (decide (0 ≤ aft d x.f0) && planP (l.drop (i + 1)) (aft d x.f0))) && _)
    by_cases hr : itR x.f0 x.f1 x.f2 x.f3 = true
    rotate_left
    · rw [if_neg hr]
      simp [hr]
    rw [if_pos hr, hr, Bool.true_and]
    have ha : aft d x.f0 ≤ 3 := by unfold aft; split <;> (try split) <;> omega
    by_cases hd : aft d x.f0 < 0
    · rw [if_pos hd, decide_eq_false (by omega)]
      rfl
    · rw [if_neg hd, decide_eq_true (by omega), Bool.true_and, ih k (i + 1) _ (by omega) (by omega) (by omega) ha]
theorem aft_le (d a : Int) (h : d ≤ 3) : aft d a ≤ 3 := by unfold aft; split <;> (try split) <;> omega
/-- The end of a loop is found alike. -/
theorem ends (l : List S111) (hl : l.length ≤ 1048576) : ∀ (n k q i : Nat) (d r : Int), i + n = l.length → n + 1 ≤ k → n + 2 ≤ q → 1 ≤ r → r ≤ d → d ≤ 3 → planP (l.drop i) d = true →
    ∃ m : Nat, i ≤ m ∧ m < l.length ∧ spec_l09End.l0 k l r (i : Int) = some (m : Int) ∧ cutEnd q l i r = some (m + 1) := by
  intro n
  induction n with
  | zero =>
    intro k q i d r hi hk hq h1 hrd h3 hp
    rw [List.drop_eq_nil_of_le (by omega)] at hp
    have : d = 0 := by simpa [planP] using hp
    omega
  | succ n ih =>
    intro k q i d r hi hk hq h1 hrd h3 hp
    obtain ⟨k, rfl⟩ : ∃ z, k = z + 1 := ⟨k - 1, by omega⟩
    obtain ⟨q, rfl⟩ : ∃ z, q = z + 1 := ⟨q - 1, by omega⟩
    have hil : i < l.length := by omega
    have w1 : wrap64 (r + 1) = r + 1 := by unfold wrap64; omega
    have w2 : wrap64 (r - 1) = r - 1 := by unfold wrap64; omega
    rw [List.drop_eq_getElem_cons hil] at hp
    simp only [planP, Bool.and_eq_true, decide_eq_true_eq] at hp
    obtain ⟨-, ha, hp⟩ := hp
    have go : ∀ r', aft r l[i].f0 = r' → 1 ≤ r' → r' ≤ aft d l[i].f0 → ∃ m : Nat, i ≤ m ∧ m < l.length ∧ spec_l09End.l0 k l r' ((i + 1 : Nat) : Int) = some (m : Int) ∧ cutEnd q l (i + 1) r' = some (m + 1) := fun r' _ h2 h3' => by
      obtain ⟨m, m1, m2, m3, m4⟩ := ih k q (i + 1) (aft d l[i].f0) r' (by omega) (by omega) (by omega) h2 h3' (aft_le _ _ h3) hp
      exact ⟨m, by omega, m2, m3, m4⟩
    simp only [spec_l09End.l0, cutEnd]
    rw [if_pos (show (0 : Int) < r by omega), if_pos hil, if_pos (show (i : Int) < (l.length : Int) by omega), if_pos (show (0 : Int) ≤ (i : Int) by omega), rd_nat_It l i hil, after_is _ _ _ _ _ 4 (by omega) (by omega) (by omega), Option.bind_some, Lst.w1n i l.length hil (by omega), w1, w2]
    generalize l[i] = x at ha hp go
    by_cases h8 : x.f0 = 8
    · have hd3 : ¬ d = 3 := fun e => by subst e; simp [aft, h8] at ha
      have hr3 : ¬ r = 3 := by omega
      have ed : aft d x.f0 = d + 1 := by simp [aft, h8, hd3]
      have er : aft r x.f0 = r + 1 := by simp [aft, h8, hr3]
      rw [ed, er] at go
      rw [er, if_pos h8, if_neg (by omega)]
      exact go (r + 1) rfl (by omega) (by omega)
    · rw [if_neg h8]
      by_cases h9 : x.f0 = 9
      · have ed : aft d x.f0 = d - 1 := by simp [aft, h9]
        have er : aft r x.f0 = r - 1 := by simp [aft, h9]
        rw [ed, er] at go
        rw [er, if_pos h9]
        by_cases hr1 : r = 1
        · subst hr1
          rw [if_pos (by omega)]
          obtain ⟨q, rfl⟩ : ∃ z, q = z + 1 := ⟨q - 1, by omega⟩
          exact ⟨i, Nat.le_refl _, hil, rfl, by simp [cutEnd]⟩
        · rw [if_neg (by omega)]
          exact go (r - 1) rfl (by omega) (by omega)
      · have ed : aft d x.f0 = d := by simp [aft, h8, h9]
        have er : aft r x.f0 = r := by simp [aft, h8, h9]
        rw [ed, er] at go
        rw [er, if_neg h9, if_neg (by omega)]
        exact go r rfl (by omega) (by omega)
theorem depth_at : ∀ (l : List S111) (d : Int) (i : Nat), planP l d = true → 0 ≤ d → d ≤ 3 → i < l.length → ∃ d', 0 ≤ d' ∧ d' ≤ 3 ∧ planP (l.drop i) d' = true := by
  intro l
  induction l with
  | nil => intro d i _ _ _ hi; simp at hi
  | cons x r ih =>
    intro d i hp h0 h3 hi
    cases i with
    | zero => exact ⟨d, h0, h3, hp⟩
    | succ i =>
      simp only [planP, Bool.and_eq_true, decide_eq_true_eq] at hp
      obtain ⟨-, ha, hp⟩ := hp
      exact ih (aft d x.f0) i hp ha (aft_le _ _ h3) (by simpa using hi)
/-- The items whose places are not these two. -/
def keep (i e : Int) : List S111 → Nat → List S111
  | [], _ => []
  | x :: r, k => if (k : Int) = i ∨ (k : Int) = e then keep i e r (k + 1) else x :: keep i e r (k + 1)
theorem keep_all (i e : Int) : ∀ (s : List S111) (k : Nat), (∀ j : Nat, k ≤ j → j < k + s.length → ¬ ((j : Int) = i ∨ (j : Int) = e)) → keep i e s k = s := by
  intro s
  induction s with
  | nil => intro k h; rfl
  | cons x r ih =>
    intro k h
    rw [keep, if_neg (h k (Nat.le_refl _) (by simp)), ih (k + 1) (fun j h1 h2 => h j (by omega) (by simp only [List.length_cons]; omega))]
theorem keep_app (i e : Int) : ∀ (s t : List S111) (k : Nat), keep i e (s ++ t) k = keep i e s k ++ keep i e t (k + s.length) := by
  intro s
  induction s with
  | nil => intro t k; rfl
  | cons x r ih =>
    intro t k
    rw [List.cons_append, keep, keep, ih t (k + 1)]
    have : k + 1 + r.length = k + (x :: r).length := by simp only [List.length_cons]; omega
    rw [this]
    split <;> simp
theorem keep_one (l : List S111) (i : Nat) (e : Int) (he : e < 0) (hi : i < l.length) : keep (i : Int) e l 0 = delAt l i := by
  have hl : l = l.take i ++ l[i] :: l.drop (i + 1) := by rw [← List.drop_eq_getElem_cons hi, List.take_append_drop]
  have h1 : (l.take i).length = i := by rw [List.length_take]; omega
  conv => lhs; rw [hl]
  rw [keep_app, keep_all _ _ (l.take i) 0 (fun j h2 h3 => by omega), keep, if_pos (by omega), keep_all _ _ (l.drop (i + 1)) _ (fun j h2 h3 => by omega)]
  rfl
theorem keep_two (l : List S111) (i e : Nat) (hie : i < e) (he : e < l.length) : keep (i : Int) (e : Int) l 0 = delAt (delAt l e) i := by
  have hl : l = l.take e ++ l[e] :: l.drop (e + 1) := by rw [← List.drop_eq_getElem_cons he, List.take_append_drop]
  have h1 : (l.take e).length = e := by rw [List.length_take]; omega
  have hie2 : i < (l.take e).length := by omega
  have hm : l.take e = (l.take e).take i ++ (l.take e)[i] :: (l.take e).drop (i + 1) := by rw [← List.drop_eq_getElem_cons hie2, List.take_append_drop]
  have h2 : ((l.take e).take i).length = i := by rw [List.length_take]; omega
  have h3 : ((l.take e).drop (i + 1)).length = e - (i + 1) := by rw [List.length_drop]; omega
  have hA : keep (i : Int) (e : Int) (l.take e) 0 = (l.take e).take i ++ (l.take e).drop (i + 1) := by
    conv => lhs; rw [hm]
    rw [keep_app, keep_all _ _ ((l.take e).take i) 0 (fun j h2 h3 => by omega), keep, if_pos (by omega), keep_all _ _ ((l.take e).drop (i + 1)) _ (fun j h2 h3 => by omega)]
  conv => lhs; rw [hl]
  rw [keep_app, hA, keep, if_pos (by omega), keep_all _ _ (l.drop (e + 1)) _ (fun j h2 h3 => by omega)]
  unfold delAt
  rw [List.take_append_of_le_length (by omega), List.drop_append_of_le_length (by omega), List.append_assoc]
theorem cut_loop (l : List S111) (hl : l.length ≤ 1048576) (i e : Int) : ∀ (n k j : Nat) (out : List S111), j + n = l.length → n < k → out.length ≤ j → spec_l20Cut.l0 k l i e out (j : Int) = some (out ++ keep i e (l.drop j) j) := by
  intro n
  induction n with
  | zero =>
    intro k j out hj hk ho
    obtain ⟨k, rfl⟩ : ∃ z, k = z + 1 := ⟨k - 1, by omega⟩
    simp only [spec_l20Cut.l0]
    rw [if_neg (by omega), List.drop_eq_nil_of_le (by omega)]
    simp [keep]
  | succ n ih =>
    intro k j out hj hk ho
    obtain ⟨k, rfl⟩ : ∃ z, k = z + 1 := ⟨k - 1, by omega⟩
    have hjl : j < l.length := by omega
    simp only [spec_l20Cut.l0]
    rw [if_pos (by omega), Lst.w1n j l.length hjl (by omega), List.drop_eq_getElem_cons hjl, keep]
    by_cases h1 : (j : Int) = i
    · rw [if_pos h1, if_pos (Or.inl h1)]
      exact ih k (j + 1) out (by omega) (by omega) (by omega)
    · rw [if_neg h1]
      by_cases h2 : (j : Int) = e
      · rw [if_pos h2, if_pos (Or.inr h2)]
        exact ih k (j + 1) out (by omega) (by omega) (by omega)
      · rw [if_neg h2, if_neg (show ¬ ((j : Int) = i ∨ (j : Int) = e) from fun h => h.elim h1 h2), if_pos (by omega), if_pos (by omega), rd_nat_It l j hjl, ih k (j + 1) _ (by omega) (by omega) (by rw [List.length_append]; simp; omega), List.append_assoc]
        rfl
/-- A plan without an item, by the two. -/
theorem same_cut (l : List S111) (hl : l.length ≤ 1048576) (a1 : Int) (K : Nat) (hK : l.length + 10 ≤ K) :
    ∃ (P : List S111) (c : Int), P.length ≤ l.length ∧ spec_PlanCut.f K l a1 = some (P, [], 0, c) ∧ impl_PlanCut.f K l a1 = some (P, [], 0, c) := by
  unfold spec_PlanCut.f impl_PlanCut.f impl_Item_88.f
  by_cases h4 : (l.length : Int) > 400
  · rw [if_pos h4, Option.bind_some, decide_eq_true h4, if_pos rfl]
    exact ⟨[], 2, Nat.zero_le _, rfl, rfl⟩
  rw [if_neg h4, Option.bind_some, decide_eq_false h4]
  simp only [Bool.false_eq_true, reduceIte]
  have e1 : spec_PlanRight.f K l = some (planP l 0 && decide (l.length ≤ 40)) := by
    unfold spec_PlanRight.f
    by_cases h40 : (l.length : Int) > 40
    · rw [if_pos h40, decide_eq_false (show ¬ l.length ≤ 40 by omega), Bool.and_false]
    · rw [if_neg h40, decide_eq_true (show l.length ≤ 40 by omega), Bool.and_true]
      exact spec_plan l hl l.length K 0 0 (by omega) (by omega) (by omega) (by omega)
  have e2 : impl_PlanRight.f K l = some (planP l 0 && decide (l.length ≤ 40)) := impl_plan l hl l.length K 0 0 (by omega) (by omega) (by omega) (by omega)
  rw [e1, e2, Option.bind_some, Option.bind_some]
  by_cases hp : (planP l 0 && decide (l.length ≤ 40)) = true
  rotate_left
  · rw [if_neg hp, if_neg hp]
    exact ⟨[], 1, Nat.zero_le _, rfl, rfl⟩
  rw [if_pos hp, if_pos hp]
  simp only [Bool.and_eq_true, decide_eq_true_eq] at hp
  obtain ⟨hp, h40⟩ := hp
  have ew : wrap64 ((l.length : Int) - 1) = (l.length : Int) - 1 := by unfold wrap64; omega
  rw [ew, is_is, Option.bind_some]
  unfold impl_cut.f
  rw [if_pos (show l.length < 4398046511104 by omega)]
  by_cases hin : 0 ≤ a1 ∧ a1 < (l.length : Int)
  rotate_left
  · rw [if_neg hin, decide_eq_false (by omega), Option.bind_some]
    simp only [Bool.false_eq_true, reduceIte]
    exact ⟨[], 6, Nat.zero_le _, rfl, rfl⟩
  rw [if_pos hin, decide_eq_true (by omega)]
  simp only [reduceIte]
  rw [if_pos hin.1, if_pos hin.2]
  obtain ⟨i, rfl⟩ : ∃ i : Nat, a1 = (i : Int) := ⟨a1.toNat, by omega⟩
  have hi : i < l.length := by omega
  rw [Int.toNat_natCast]
  by_cases h9 : (rd_T111 l (i : Int)).f0 = 9
  · rw [if_pos h9, if_pos h9, Option.bind_some]
    simp only [Bool.false_eq_true, reduceIte]
    exact ⟨[], 6, Nat.zero_le _, rfl, rfl⟩
  rw [if_neg h9, if_neg h9]
  unfold spec_l20Cut.f
  rw [if_pos hin.1, if_pos hin.2]
  obtain ⟨K, rfl⟩ : ∃ z, K = z + 1 := ⟨K - 1, by omega⟩
  by_cases h8 : (rd_T111 l (i : Int)).f0 = 8
  · rw [if_pos h8, if_pos h8]
    obtain ⟨d, hd0, hd3, hpd⟩ := depth_at l 0 i hp (by omega) (by omega) hi
    rw [rd_nat_It l i hi] at h8
    rw [List.drop_eq_getElem_cons hi] at hpd
    simp only [planP, Bool.and_eq_true, decide_eq_true_eq] at hpd
    obtain ⟨-, ha, hpd⟩ := hpd
    rw [h8] at ha hpd
    have hd : ¬ d = 3 := fun e => by subst e; simp [aft] at ha
    have eaf : aft d 8 = d + 1 := by simp [aft, hd]
    rw [eaf] at ha hpd
    obtain ⟨m, m1, m2, m3, m4⟩ := ends l hl (l.length - (i + 1)) K (l.length + 2) (i + 1) (d + 1) 1 (by omega) (by omega) (by omega) (by omega) (by omega) (by omega) hpd
    have e3 : spec_l09End.f (K + 1) l (i : Int) = some (m : Int) := by
      unfold spec_l09End.f
      simp only [spec_l09End.l0]
      rw [if_pos (by omega), if_pos (by omega), rd_nat_It l i hi, if_pos h8, show wrap64 (0 + 1) = 1 from by unfold wrap64; omega, if_neg (by omega), Lst.w1n i l.length hi (by omega)]
      exact m3
    rw [e3, m4, Option.bind_some, Option.bind_some, if_pos (by omega), Nat.add_sub_cancel]
    simp only [spec_l20Cut.j0]
    have e4 := cut_loop l hl (i : Int) (m : Int) l.length K 0 [] (by omega) (by omega) (by simp)
    rw [List.drop_zero, List.nil_append, keep_two l i m (by omega) m2] at e4
    rw [show spec_l20Cut.l0 K l (i : Int) (m : Int) [] 0 = _ from e4, Option.bind_some, Option.bind_some]
    simp only [reduceIte]
    refine ⟨_, 0, ?_, rfl, rfl⟩
    have := delAt_length l m m2
    rw [delAt_length _ i (by omega)]
    omega
  · rw [if_neg h8, if_neg h8]
    simp only [spec_l20Cut.j0]
    have e4 := cut_loop l hl (i : Int) (-1) l.length K 0 [] (by omega) (by omega) (by simp)
    rw [List.drop_zero, List.nil_append, keep_one l i (-1) (by omega) hi] at e4
    rw [show spec_l20Cut.l0 K l (i : Int) (-1) [] 0 = _ from e4, Option.bind_some, Option.bind_some]
    simp only [reduceIte]
    refine ⟨_, 0, ?_, rfl, rfl⟩
    rw [delAt_length l i hi]
    omega
theorem pure_PlanCut : Pure_FnExactPlanCut := by
  rintro l0 a1 ⟨hm, -⟩ -
  obtain ⟨K, hK⟩ : ∃ K : Nat, 1048576 + 20 ≤ K := ⟨_, Nat.le_refl _⟩
  refine ⟨K + 1, ?_⟩
  unfold laws_FnExactPlanCut.f
  rw [szIt l0 hm, Option.bind_some]
  by_cases hl : l0.length ≤ 1048576
  rotate_left
  · rw [if_neg hl, if_pos (by omega)]
  rw [if_pos hl, if_neg (by omega)]
  have hlm : (l0.map cvIt).length ≤ 1048576 := by rw [List.length_map]; exact hl
  have et := fun k (hk : l0.length < k) => toIt l0 hl k hk
  rw [et (K + 1) (by omega)]
  obtain ⟨P, c, hP, e1, e2⟩ := same_cut (l0.map cvIt) hlm a1 (K + 1) (by rw [List.length_map]; omega)
  obtain ⟨P', c', hP', e1', e2'⟩ := same_cut (l0.map cvIt) hlm a1 K (by rw [List.length_map]; omega)
  have hPP : (P, ([] : List S111), (0 : Int), c) = (P', [], 0, c') := by
    have h := impl_PlanCut.mono (l0.map cvIt) a1 K _ e2'
    rw [e2] at h
    exact Option.some.inj h
  simp only [Prod.mk.injEq, true_and] at hPP
  obtain ⟨rfl, rfl⟩ := hPP
  have hPl : P.length ≤ 1048576 := by omega
  have eqP : ∀ k, P.length < k → laws_eqPlanOut.f k P [] 0 c P [] 0 c = some true := fun k hk => by
    unfold laws_eqPlanOut.f
    rw [eqIt P hPl k hk, Option.bind_some, if_pos rfl, eqIt [] (by simp) k (by simp; omega), Option.bind_some, if_pos rfl, if_pos rfl, if_pos rfl]
  obtain ⟨y, hy1, hy2⟩ := markIt P hPl 1 (by omega) (by omega) K (by omega)
  obtain ⟨y2, hy3, hy4⟩ := markIt [] (by simp) (1 + 4 * (P.length : Int)) (by omega) (by omega) K (by simp; omega)
  obtain ⟨z, hz1, -⟩ := markIt (l0.map cvIt) hlm 1 (by omega) (by omega) (K + 1) (by rw [List.length_map]; omega)
  simp only [Option.bind_some, e1, e2, eqP (K + 1) (by omega), if_true, eqIt (l0.map cvIt) hlm (K + 1) (by rw [List.length_map]; omega), hz1]
  rw [if_neg (by omega)]
  simp only [laws_FnExactPlanCut.j0, Bool.not_true, Bool.false_eq_true, if_false]
  have emk : laws_markPlanOut.f K P [] 0 c 1 = some (1 + 4 * (P.length : Int) + 4 * (([] : List S111).length : Int), y, y2) := by
    unfold laws_markPlanOut.f
    rw [hy1, Option.bind_some]
    simp only [hy3, Option.bind_some]
  have ehd : laws_heldPlanOut.f K y y2 0 c 1 = some (1 + 4 * (P.length : Int) + 4 * (([] : List S111).length : Int)) := by
    unfold laws_heldPlanOut.f
    rw [hy2 K (by omega), Option.bind_some, if_neg (by omega), hy4 K (by simp; omega), Option.bind_some, if_neg (by simp; omega)]
  simp only [emk, Option.bind_some, ehd, et K (by omega), e2', eqP K (by omega), if_true]
  rw [if_neg (by simp; omega), if_neg (by simp; omega)]
end Go.Proofs.Ytfjdlggdnnghhaa.A
namespace Go.Proofs.Ytfjdlggdnnghhaa.Pure
theorem FnExactPlanCut : A.Pure_FnExactPlanCut := A.pure_PlanCut
end Go.Proofs.Ytfjdlggdnnghhaa.Pure
