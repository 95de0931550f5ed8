/- The machine side: for each Go function a Lean function and the contract that the Go code answers as it does; printed by program (wip/tmpl/pprint.sh). -/
import Derived.Test.YtanoaneoanpkkaaZFnExactSendNoticex0
namespace Go.Proofs.Ytanoaneoanpkkaa.ZFnExactSendNotice
open Go.RowKit Go.Proofs.YtanoaneoanpkkaaW.PrintWords Go.Proofs.YtanoaneoanpkkaaW.PrintLast Go.Proofs.YtanoaneoanpkkaaW.PrintMore
attribute [local go_sem] max2_int min2_int max_two min_two max_three min_three max_four min_four   -- for this text's walks alone
set_option linter.unusedVariables false
set_option linter.unusedSimpArgs false

/-! ### laws_markNoticeS: function 46 -/
def laws_markNoticeS.l0 : Nat → List (S108) → Int → Int → Option (Int × (List (S108)))
 | 0, _, _, _ => none
 | k + 1, x0, x1, x5 => if x5 < (x0.length : Int) then (if 0 ≤ x5 then ((some (x0.set (x5 : Int).toNat (⟨x1, (rd_T108 x0 x5).f1, (rd_T108 x0 x5).f2, (rd_T108 x0 x5).f3⟩ : S108) : List (S108))).bind fun y129 => ((some (y129.set (x5 : Int).toNat (⟨(rd_T108 y129 x5).f0, wrap64 (x1 + 1), (rd_T108 y129 x5).f2, (rd_T108 y129 x5).f3⟩ : S108) : List (S108))).bind fun y130 => ((some (y130.set (x5 : Int).toNat (⟨(rd_T108 y130 x5).f0, (rd_T108 y130 x5).f1, wrap64 ((wrap64 (x1 + 1)) + 1), (rd_T108 y130 x5).f3⟩ : S108) : List (S108))).bind fun y131 => (laws_markNoticeS.l0 k (y131.set (x5 : Int).toNat (⟨(rd_T108 y131 x5).f0, (rd_T108 y131 x5).f1, (rd_T108 y131 x5).f2, ((Int.tmod (wrap64 ((wrap64 ((wrap64 (x1 + 1)) + 1)) + 1)) 3) == 0)⟩ : S108)) (wrap64 ((wrap64 ((wrap64 ((wrap64 (x1 + 1)) + 1)) + 1)) + 1)) (wrap64 (x5 + 1)))))) else (none)) else (some (x1, x0))
def laws_markNoticeS.f (k : Nat) (l0 : List (S108)) (a1 : Int) : Option (Int × (List (S108))) := laws_markNoticeS.l0 k l0 a1 0
theorem laws_markNoticeS.mono_l : ∀ k, (∀ y0 y1 y2, LeO (laws_markNoticeS.l0 k y0 y1 y2) (laws_markNoticeS.l0 (k + 1) y0 y1 y2))
 | 0 => fun _ _ _ r h => by simp [laws_markNoticeS.l0] at h
 | k + 1 => by
  have ih0 := laws_markNoticeS.mono_l k
  ·intro y0 y1 y2
   unfold laws_markNoticeS.l0
   repeat' first
   | (with_reducible exact ih0 _ _ _)
   | (with_reducible exact LeO.refl _)
   | (with_reducible exact LeO.none _)
   | (with_reducible refine LeO.ite ?_ ?_)
   | (with_reducible refine LeO.bind ?_ (fun _ => ?_))
   | exact ih0 _ _ _
   | exact LeO.none _
   | refine LeO.ite ?_ ?_
   | refine LeO.bind ?_ (fun _ => ?_)
theorem laws_markNoticeS.mono : ∀ a0 a1 k, LeO (laws_markNoticeS.f k a0 a1) (laws_markNoticeS.f (k + 1) a0 a1) := by
 intro a0 a1 k
 have ih0 := laws_markNoticeS.mono_l k
 unfold laws_markNoticeS.f
 repeat' first
   | (with_reducible exact ih0 _ _ _)
   | (with_reducible exact LeO.refl _)
   | (with_reducible exact LeO.none _)
   | (with_reducible refine LeO.ite ?_ ?_)
   | (with_reducible refine LeO.bind ?_ (fun _ => ?_))
   | exact ih0 _ _ _
   | exact LeO.none _
   | refine LeO.ite ?_ ?_
   | refine LeO.bind ?_ (fun _ => ?_)
set_option maxHeartbeats 8000000 in
set_option maxRecDepth 100000 in
theorem laws_markNoticeS.calls (k : Nat) (P0_ : Nat → Prop) (u9000_ : Value) (l0 : List (S108)) (a1 : Int) (r1 : Int) (r2 : List (S108)) (w0 w : World) (hB : Below w0.heap.size w0 w) (ho0 : Kd.R k108 108 w w0.heap.size P0_ u9000_ l0) (h : laws_markNoticeS.f k l0 a1 = some (r1, r2)) :
  Calls Try.prog 46 #[u9000_, .int .i64 a1] w fun e w' => e = .returned (.int .i64 r1) ∧ Kd.R k108 108 w' w0.heap.size (fun k_ => (P0_ k_ ∨ w.heap.size ≤ k_)) u9000_ r2 ∧ Below w0.heap.size w0 w' ∧ Kept w w' (fun k_ => P0_ k_) := by
 have HO0 := Aside0.mk (show Kd.R k108 108 w w0.heap.size (fun k_ => (P0_ k_ ∨ w.heap.size ≤ k_)) u9000_ l0 from Kd.R_mono ho0 (fun k_ hk => (.inl hk)))
 have HK := Aside0.mk (Kept.refl w (fun k_ => P0_ k_))
 have HW0 := Aside0.mk hB.size
 have HB := Aside0.mk hB
 clear hB
 have H : (laws_markNoticeS.l0 k l0 a1 0) = some (r1, r2) := h
 clear h
 have H' := Aside0.mk H
 clear H
 go_enter Try.func46, Try.ntmps46
 go_wp2
 go_loopg [1, 5] k (fun kq v1 v5 w' => ∃ (x0_1 : List (S108)) (x1_1 : Int) (x5_1 : Int), v1 = .int .i64 x1_1 ∧ v5 = .int .i64 x5_1 ∧ Aside0 (laws_markNoticeS.l0 kq x0_1 x1_1 x5_1 = some (r1, r2)) ∧ Aside0 (kq ≤ k) ∧ Aside0 (Kd.R k108 108 w' w0.heap.size (fun k_ => (P0_ k_ ∨ w.heap.size ≤ k_)) u9000_ x0_1) ∧ Aside0 (Kept w w' (fun k_ => P0_ k_)) ∧ Aside0 (Below w0.heap.size w0 w'))
 case atStart => exact ⟨(l0), (a1), (0), tS, tS, H', ⟨Nat.le_refl _⟩, ⟨tR HO0⟩, ⟨by repeat (first | (with_reducible first | exact HK.out | apply Kept.alloc | apply Kept.drewN | apply Kept.drew) | exact HK.out)⟩, ⟨tB⟩⟩
 case round =>
  clear H'
  try clear p2
  obtain ⟨x0_1, x1_1, x5_1, rfl, rfl, HA, HK1, HO_0, HK, HB⟩ := hrel
  cases gk with
  | zero => exact absurd HA.out (by simp [laws_markNoticeS.l0])
  | succ k1 =>
   have H := HA.out
   clear HA
   simp only [laws_markNoticeS.l0] at H
   by_cases c3 : x5_1 < (x0_1.length : Int)
   ·rw [if_pos c3] at H
    have c3b0 : decide (x5_1 < (x0_1.length : Int)) = true := decide_eq_true c3
    clear c3
    by_cases c4 : 0 ≤ x5_1
    ·rw [if_pos c4] at H
     have c4b0 : decide (0 ≤ x5_1) = true := decide_eq_true c4
     clear c4
     obtain ⟨y129, hy129⟩ : ∃ y_ : List (S108), y_ = (x0_1.set (x5_1 : Int).toNat (⟨x1_1, (rd_T108 x0_1 x5_1).f1, (rd_T108 x0_1 x5_1).f2, (rd_T108 x0_1 x5_1).f3⟩ : S108)) := ⟨_, rfl⟩
     replace H : ((some (y129.set (x5_1 : Int).toNat (⟨(rd_T108 y129 x5_1).f0, wrap64 (x1_1 + 1), (rd_T108 y129 x5_1).f2, (rd_T108 y129 x5_1).f3⟩ : S108) : List (S108))).bind fun y130 => ((some (y130.set (x5_1 : Int).toNat (⟨(rd_T108 y130 x5_1).f0, (rd_T108 y130 x5_1).f1, wrap64 ((wrap64 (x1_1 + 1)) + 1), (rd_T108 y130 x5_1).f3⟩ : S108) : List (S108))).bind fun y131 => (laws_markNoticeS.l0 k1 (y131.set (x5_1 : Int).toNat (⟨(rd_T108 y131 x5_1).f0, (rd_T108 y131 x5_1).f1, (rd_T108 y131 x5_1).f2, ((Int.tmod (wrap64 ((wrap64 ((wrap64 (x1_1 + 1)) + 1)) + 1)) 3) == 0)⟩ : S108)) (wrap64 ((wrap64 ((wrap64 ((wrap64 (x1_1 + 1)) + 1)) + 1)) + 1)) (wrap64 (x5_1 + 1))))) = some (r1, r2) := by first | (rw [hy129]; with_reducible exact H) | (have H2_ := (Option.bind_some _ _).symm.trans H; rw [hy129]; with_reducible exact H2_) | (have H2_ := (Option.bind_some _ _).symm.trans H; with_reducible exact H2_) | with_reducible exact H | (rw [hy129]; exact H) | exact H
     have Ny129 := Aside0.mk hy129
     clear hy129
     obtain ⟨y130, hy130⟩ : ∃ y_ : List (S108), y_ = (y129.set (x5_1 : Int).toNat (⟨(rd_T108 y129 x5_1).f0, wrap64 (x1_1 + 1), (rd_T108 y129 x5_1).f2, (rd_T108 y129 x5_1).f3⟩ : S108)) := ⟨_, rfl⟩
     replace H : ((some (y130.set (x5_1 : Int).toNat (⟨(rd_T108 y130 x5_1).f0, (rd_T108 y130 x5_1).f1, wrap64 ((wrap64 (x1_1 + 1)) + 1), (rd_T108 y130 x5_1).f3⟩ : S108) : List (S108))).bind fun y131 => (laws_markNoticeS.l0 k1 (y131.set (x5_1 : Int).toNat (⟨(rd_T108 y131 x5_1).f0, (rd_T108 y131 x5_1).f1, (rd_T108 y131 x5_1).f2, ((Int.tmod (wrap64 ((wrap64 ((wrap64 (x1_1 + 1)) + 1)) + 1)) 3) == 0)⟩ : S108)) (wrap64 ((wrap64 ((wrap64 ((wrap64 (x1_1 + 1)) + 1)) + 1)) + 1)) (wrap64 (x5_1 + 1)))) = some (r1, r2) := by first | (rw [hy130]; with_reducible exact H) | (have H2_ := (Option.bind_some _ _).symm.trans H; rw [hy130]; with_reducible exact H2_) | (have H2_ := (Option.bind_some _ _).symm.trans H; with_reducible exact H2_) | with_reducible exact H | (rw [hy130]; exact H) | exact H
     have Ny130 := Aside0.mk hy130
     clear hy130
     obtain ⟨y131, hy131⟩ : ∃ y_ : List (S108), y_ = (y130.set (x5_1 : Int).toNat (⟨(rd_T108 y130 x5_1).f0, (rd_T108 y130 x5_1).f1, wrap64 ((wrap64 (x1_1 + 1)) + 1), (rd_T108 y130 x5_1).f3⟩ : S108)) := ⟨_, rfl⟩
     replace H : (laws_markNoticeS.l0 k1 (y131.set (x5_1 : Int).toNat (⟨(rd_T108 y131 x5_1).f0, (rd_T108 y131 x5_1).f1, (rd_T108 y131 x5_1).f2, ((Int.tmod (wrap64 ((wrap64 ((wrap64 (x1_1 + 1)) + 1)) + 1)) 3) == 0)⟩ : S108)) (wrap64 ((wrap64 ((wrap64 ((wrap64 (x1_1 + 1)) + 1)) + 1)) + 1)) (wrap64 (x5_1 + 1))) = some (r1, r2) := by first | (rw [hy131]; with_reducible exact H) | (have H2_ := (Option.bind_some _ _).symm.trans H; rw [hy131]; with_reducible exact H2_) | (have H2_ := (Option.bind_some _ _).symm.trans H; with_reducible exact H2_) | with_reducible exact H | (rw [hy131]; exact H) | exact H
     have Ny131 := Aside0.mk hy131
     clear hy131
     obtain ⟨y132, hy132⟩ : ∃ y_ : List (S108), y_ = (y131.set (x5_1 : Int).toNat (⟨(rd_T108 y131 x5_1).f0, (rd_T108 y131 x5_1).f1, (rd_T108 y131 x5_1).f2, ((Int.tmod (wrap64 ((wrap64 ((wrap64 (x1_1 + 1)) + 1)) + 1)) 3) == 0)⟩ : S108)) := ⟨_, rfl⟩
     replace H : (laws_markNoticeS.l0 k1 y132 (wrap64 ((wrap64 ((wrap64 ((wrap64 (x1_1 + 1)) + 1)) + 1)) + 1)) (wrap64 (x5_1 + 1))) = some (r1, r2) := by first | (rw [hy132]; with_reducible exact H) | (have H2_ := (Option.bind_some _ _).symm.trans H; rw [hy132]; with_reducible exact H2_) | (have H2_ := (Option.bind_some _ _).symm.trans H; with_reducible exact H2_) | with_reducible exact H | (rw [hy132]; exact H) | exact H
     have Ny132 := Aside0.mk hy132
     clear hy132
     have H' := Aside0.mk H
     clear H
     obtain ⟨Ao9, co9, eo9⟩ := Kd.R_slice HO_0.out
     subst eo9
     have p5 : 0 ≤ (x5_1 : Int) := of_decide_eq_true tA
     have q5 : (x5_1 : Int) < ((x0_1.length : Int) : Int) := of_decide_eq_true tA
     obtain ⟨go5, co5, eo5, gb5, gl5, cl5, HG5⟩ := Kd.R_form HO_0.out (by omega)
     (first | cases eo5 | (injection eo5 with ea_ en_ ec_; (first | subst ea_ | (injection ea_ with ea_; subst ea_)); subst ec_; clear en_))
     have GB5 := Aside0.mk gb5
     have GG5 := Aside0.mk HG5
     clear gb5 gl5 HG5
     have HMgo5 := Aside0.mk (show (P0_ go5 ∨ w.heap.size ≤ go5) from (HO_0.out.1 _ rfl))
     obtain ⟨ce5, hcl5, hM5, hcc5, hfr5⟩ := Kd.R_elem HO_0.out z108 (x5_1 : Int) p5 q5
     obtain rfl := k108_openM hM5
     have hx5_0 : wr.cell? ⟨go5, (x5_1 : Int).toNat * 4, none⟩ = some (.int .i64 ((rd_T108 x0_1 x5_1).f0)) := hcc5 0 _ rfl
     have hx5_1 : wr.cell? ⟨go5, (x5_1 : Int).toNat * 4 + 1, none⟩ = some (.int .i64 ((rd_T108 x0_1 x5_1).f1)) := hcc5 1 _ rfl
     have hx5_2 : wr.cell? ⟨go5, (x5_1 : Int).toNat * 4 + 2, none⟩ = some (.int .i64 ((rd_T108 x0_1 x5_1).f2)) := hcc5 2 _ rfl
     have hx5_3 : wr.cell? ⟨go5, (x5_1 : Int).toNat * 4 + 3, none⟩ = some (.bool ((rd_T108 x0_1 x5_1).f3)) := hcc5 3 _ rfl
     have hf5_0 : wr.frozen? ⟨go5, (x5_1 : Int).toNat * 4, none⟩ = false := hfr5 0
     have hf5_1 : wr.frozen? ⟨go5, (x5_1 : Int).toNat * 4 + 1, none⟩ = false := hfr5 1
     have hf5_2 : wr.frozen? ⟨go5, (x5_1 : Int).toNat * 4 + 2, none⟩ = false := hfr5 2
     have hf5_3 : wr.frozen? ⟨go5, (x5_1 : Int).toNat * 4 + 3, none⟩ = false := hfr5 3
     clear hcl5 hcc5 hfr5 hM5
     replace p5 := eq_true p5
     replace q5 := eq_true q5
     have HX10 := Aside0.mk (show Kd.R k108 108 wr w0.heap.size (fun k_ => (P0_ k_ ∨ w.heap.size ≤ k_)) (.slice (some ⟨go5, 0, none⟩) x0_1.length co9) x0_1 from (tR HO_0))
     obtain ⟨ce10, hcl10, hM10, hcc10, hfr10⟩ := Kd.R_elem HX10.out z108 (x5_1 : Int) (of_decide_eq_true tA) (by have h_ : (x5_1 : Int) < ((x0_1.length : Int) : Int) := of_decide_eq_true tA; first | exact h_ | (have e_ := (Kd.R_reads' HO_0.out).1; omega) | simpa using h_)
     obtain rfl := k108_openM hM10
     have HP10 := Kd.R_seg HX10.out (x5_1 : Int) (of_decide_eq_true tA) (by have h_ : (x5_1 : Int) < ((x0_1.length : Int) : Int) := of_decide_eq_true tA; first | exact h_ | (have e_ := (Kd.R_reads' HO_0.out).1; omega) | simpa using h_) (seg := [.int .i64 x1_1]) (j := 0) hcl10 hcc10 (show 1 ≤ 4 from by decide) (x' := (⟨x1_1, (rd_T108 x0_1 x5_1).f1, (rd_T108 x0_1 x5_1).f2, (rd_T108 x0_1 x5_1).f3⟩ : S108)) (k108_mkM _ _ _ (⟨x1_1, (rd_T108 x0_1 x5_1).f1, (rd_T108 x0_1 x5_1).f2, (rd_T108 x0_1 x5_1).f3⟩ : S108) ) (fun _ hk => hk)
     have hx10_0 := hcc10 0 _ rfl
     (try simp only [show (k108).sz = 4 from rfl, Nat.mul_one, Nat.add_zero] at hx10_0)
     have hf10_0 := hfr10 0
     (try simp only [show (k108).sz = 4 from rfl, Nat.mul_one, Nat.add_zero] at hf10_0)
     clear hcl10 hcc10 hfr10 hM10
     go_wp2_with (first | ((with_reducible refine gate_store (t := 3) (p := 16) rfl ?_); refine store_event (t := 3) (p := 16) (v := ?vo_w11) (w1 := (wr.setCell ⟨go5, (x5_1 : Int).toNat * 4, none⟩ (.int .i64 x1_1))) ?hg ?ho ?hn ?hr ?_; (case ho => rfl); (case hg => rfl); (case hn => rfl); (case hr => first | (go_simp; done) | (go_simp; rfl)); intro w11 hw; have hg : wr.grownBy w11 (some go5) := (by rw [hw]; exact HP10.2); have hp_ : Kd.R k108 108 w11 w0.heap.size (fun k_ => (P0_ k_ ∨ w.heap.size ≤ k_)) (.slice (some ⟨go5, 0, none⟩) x0_1.length co9) y129 := (by rw [hw, Ny129.out]; exact HP10.1); clear HP10; replace HB := Aside0.mk ((by rw [hw]; exact below_set (HB.out) GB5.out : Below w0.heap.size w0 w11)); replace HK := Aside0.mk (Kept.of_grown (S := (fun k_ => P0_ k_)) hg (by repeat (first | (with_reducible first | exact HK.out | apply Kept.alloc | apply Kept.drewN | apply Kept.drew) | exact HK.out)) (fun k_ e_ => (HO_0.out.1 k_ e_))); replace HO_0 := Aside0.mk (hp_); clear hg hw hp_; have p6 : 0 ≤ (x5_1 : Int) := of_decide_eq_true tA; have q6 : (x5_1 : Int) < ((x0_1.length : Int) : Int) := of_decide_eq_true tA; obtain ⟨ce6, hcl6, hM6, hcc6, hfr6⟩ := Kd.R_elem HO_0.out z108 (x5_1 : Int) p6 q6; obtain rfl := k108_openM hM6; have hx6_0 : w11.cell? ⟨go5, (x5_1 : Int).toNat * 4, none⟩ = some (.int .i64 ((rd_T108 y129 x5_1).f0)) := hcc6 0 _ rfl; have hx6_1 : w11.cell? ⟨go5, (x5_1 : Int).toNat * 4 + 1, none⟩ = some (.int .i64 ((rd_T108 y129 x5_1).f1)) := hcc6 1 _ rfl; have hx6_2 : w11.cell? ⟨go5, (x5_1 : Int).toNat * 4 + 2, none⟩ = some (.int .i64 ((rd_T108 y129 x5_1).f2)) := hcc6 2 _ rfl; have hx6_3 : w11.cell? ⟨go5, (x5_1 : Int).toNat * 4 + 3, none⟩ = some (.bool ((rd_T108 y129 x5_1).f3)) := hcc6 3 _ rfl; have hf6_0 : w11.frozen? ⟨go5, (x5_1 : Int).toNat * 4, none⟩ = false := hfr6 0; have hf6_1 : w11.frozen? ⟨go5, (x5_1 : Int).toNat * 4 + 1, none⟩ = false := hfr6 1; have hf6_2 : w11.frozen? ⟨go5, (x5_1 : Int).toNat * 4 + 2, none⟩ = false := hfr6 2; have hf6_3 : w11.frozen? ⟨go5, (x5_1 : Int).toNat * 4 + 3, none⟩ = false := hfr6 3; clear hcl6 hcc6 hfr6 hM6; replace p6 := eq_true p6; replace q6 := eq_true q6; have HX12 := Aside0.mk (show Kd.R k108 108 w11 w0.heap.size (fun k_ => (P0_ k_ ∨ w.heap.size ≤ k_)) (.slice (some ⟨go5, 0, none⟩) x0_1.length co9) y129 from (tR HO_0)); obtain ⟨ce12, hcl12, hM12, hcc12, hfr12⟩ := Kd.R_elem HX12.out z108 (x5_1 : Int) (of_decide_eq_true tA) (by have h_ : (x5_1 : Int) < ((x0_1.length : Int) : Int) := of_decide_eq_true tA; first | exact h_ | (have e_ := (Kd.R_reads' HO_0.out).1; omega) | simpa using h_); obtain rfl := k108_openM hM12; have HP12 := Kd.R_seg HX12.out (x5_1 : Int) (of_decide_eq_true tA) (by have h_ : (x5_1 : Int) < ((x0_1.length : Int) : Int) := of_decide_eq_true tA; first | exact h_ | (have e_ := (Kd.R_reads' HO_0.out).1; omega) | simpa using h_) (seg := [.int .i64 (wrap64 (x1_1 + 1))]) (j := 1) hcl12 hcc12 (show 2 ≤ 4 from by decide) (x' := (⟨(rd_T108 y129 x5_1).f0, wrap64 (x1_1 + 1), (rd_T108 y129 x5_1).f2, (rd_T108 y129 x5_1).f3⟩ : S108)) (k108_mkM _ _ _ (⟨(rd_T108 y129 x5_1).f0, wrap64 (x1_1 + 1), (rd_T108 y129 x5_1).f2, (rd_T108 y129 x5_1).f3⟩ : S108) ) (fun _ hk => hk); have hx12_1 := hcc12 1 _ rfl; (try simp only [show (k108).sz = 4 from rfl, Nat.mul_one, Nat.add_zero] at hx12_1); have hf12_1 := hfr12 1; (try simp only [show (k108).sz = 4 from rfl, Nat.mul_one, Nat.add_zero] at hf12_1); clear hcl12 hcc12 hfr12 hM12) | ((with_reducible refine gate_store (t := 3) (p := 23) rfl ?_); refine store_event (t := 3) (p := 23) (v := ?vo_w13) (w1 := (w11.setCell ⟨go5, (x5_1 : Int).toNat * 4 + 1, none⟩ (.int .i64 (wrap64 (x1_1 + 1))))) ?hg ?ho ?hn ?hr ?_; (case ho => rfl); (case hg => rfl); (case hn => rfl); (case hr => first | (go_simp; done) | (go_simp; rfl)); intro w13 hw; have hg : w11.grownBy w13 (some go5) := (by rw [hw]; exact HP12.2); have hp_ : Kd.R k108 108 w13 w0.heap.size (fun k_ => (P0_ k_ ∨ w.heap.size ≤ k_)) (.slice (some ⟨go5, 0, none⟩) x0_1.length co9) y130 := (by rw [hw, Ny130.out]; exact HP12.1); clear HP12; replace HB := Aside0.mk ((by rw [hw]; exact below_set (HB.out) GB5.out : Below w0.heap.size w0 w13)); replace HK := Aside0.mk (Kept.of_grown (S := (fun k_ => P0_ k_)) hg (by repeat (first | (with_reducible first | exact HK.out | apply Kept.alloc | apply Kept.drewN | apply Kept.drew) | exact HK.out)) (fun k_ e_ => (HO_0.out.1 k_ e_))); replace HO_0 := Aside0.mk (hp_); clear hg hw hp_; have p7 : 0 ≤ (x5_1 : Int) := of_decide_eq_true tA; have q7 : (x5_1 : Int) < ((x0_1.length : Int) : Int) := of_decide_eq_true tA; obtain ⟨ce7, hcl7, hM7, hcc7, hfr7⟩ := Kd.R_elem HO_0.out z108 (x5_1 : Int) p7 q7; obtain rfl := k108_openM hM7; have hx7_0 : w13.cell? ⟨go5, (x5_1 : Int).toNat * 4, none⟩ = some (.int .i64 ((rd_T108 y130 x5_1).f0)) := hcc7 0 _ rfl; have hx7_1 : w13.cell? ⟨go5, (x5_1 : Int).toNat * 4 + 1, none⟩ = some (.int .i64 ((rd_T108 y130 x5_1).f1)) := hcc7 1 _ rfl; have hx7_2 : w13.cell? ⟨go5, (x5_1 : Int).toNat * 4 + 2, none⟩ = some (.int .i64 ((rd_T108 y130 x5_1).f2)) := hcc7 2 _ rfl; have hx7_3 : w13.cell? ⟨go5, (x5_1 : Int).toNat * 4 + 3, none⟩ = some (.bool ((rd_T108 y130 x5_1).f3)) := hcc7 3 _ rfl; have hf7_0 : w13.frozen? ⟨go5, (x5_1 : Int).toNat * 4, none⟩ = false := hfr7 0; have hf7_1 : w13.frozen? ⟨go5, (x5_1 : Int).toNat * 4 + 1, none⟩ = false := hfr7 1; have hf7_2 : w13.frozen? ⟨go5, (x5_1 : Int).toNat * 4 + 2, none⟩ = false := hfr7 2; have hf7_3 : w13.frozen? ⟨go5, (x5_1 : Int).toNat * 4 + 3, none⟩ = false := hfr7 3; clear hcl7 hcc7 hfr7 hM7; replace p7 := eq_true p7; replace q7 := eq_true q7; have HX14 := Aside0.mk (show Kd.R k108 108 w13 w0.heap.size (fun k_ => (P0_ k_ ∨ w.heap.size ≤ k_)) (.slice (some ⟨go5, 0, none⟩) x0_1.length co9) y130 from (tR HO_0)); obtain ⟨ce14, hcl14, hM14, hcc14, hfr14⟩ := Kd.R_elem HX14.out z108 (x5_1 : Int) (of_decide_eq_true tA) (by have h_ : (x5_1 : Int) < ((x0_1.length : Int) : Int) := of_decide_eq_true tA; first | exact h_ | (have e_ := (Kd.R_reads' HO_0.out).1; omega) | simpa using h_); obtain rfl := k108_openM hM14; have HP14 := Kd.R_seg HX14.out (x5_1 : Int) (of_decide_eq_true tA) (by have h_ : (x5_1 : Int) < ((x0_1.length : Int) : Int) := of_decide_eq_true tA; first | exact h_ | (have e_ := (Kd.R_reads' HO_0.out).1; omega) | simpa using h_) (seg := [.int .i64 (wrap64 ((wrap64 (x1_1 + 1)) + 1))]) (j := 2) hcl14 hcc14 (show 3 ≤ 4 from by decide) (x' := (⟨(rd_T108 y130 x5_1).f0, (rd_T108 y130 x5_1).f1, wrap64 ((wrap64 (x1_1 + 1)) + 1), (rd_T108 y130 x5_1).f3⟩ : S108)) (k108_mkM _ _ _ (⟨(rd_T108 y130 x5_1).f0, (rd_T108 y130 x5_1).f1, wrap64 ((wrap64 (x1_1 + 1)) + 1), (rd_T108 y130 x5_1).f3⟩ : S108) ) (fun _ hk => hk); have hx14_2 := hcc14 2 _ rfl; (try simp only [show (k108).sz = 4 from rfl, Nat.mul_one, Nat.add_zero] at hx14_2); have hf14_2 := hfr14 2; (try simp only [show (k108).sz = 4 from rfl, Nat.mul_one, Nat.add_zero] at hf14_2); clear hcl14 hcc14 hfr14 hM14) | ((with_reducible refine gate_store (t := 3) (p := 30) rfl ?_); refine store_event (t := 3) (p := 30) (v := ?vo_w15) (w1 := (w13.setCell ⟨go5, (x5_1 : Int).toNat * 4 + 2, none⟩ (.int .i64 (wrap64 ((wrap64 (x1_1 + 1)) + 1))))) ?hg ?ho ?hn ?hr ?_; (case ho => rfl); (case hg => rfl); (case hn => rfl); (case hr => first | (go_simp; done) | (go_simp; rfl)); intro w15 hw; have hg : w13.grownBy w15 (some go5) := (by rw [hw]; exact HP14.2); have hp_ : Kd.R k108 108 w15 w0.heap.size (fun k_ => (P0_ k_ ∨ w.heap.size ≤ k_)) (.slice (some ⟨go5, 0, none⟩) x0_1.length co9) y131 := (by rw [hw, Ny131.out]; exact HP14.1); clear HP14; replace HB := Aside0.mk ((by rw [hw]; exact below_set (HB.out) GB5.out : Below w0.heap.size w0 w15)); replace HK := Aside0.mk (Kept.of_grown (S := (fun k_ => P0_ k_)) hg (by repeat (first | (with_reducible first | exact HK.out | apply Kept.alloc | apply Kept.drewN | apply Kept.drew) | exact HK.out)) (fun k_ e_ => (HO_0.out.1 k_ e_))); replace HO_0 := Aside0.mk (hp_); clear hg hw hp_; have p8 : 0 ≤ (x5_1 : Int) := of_decide_eq_true tA; have q8 : (x5_1 : Int) < ((x0_1.length : Int) : Int) := of_decide_eq_true tA; obtain ⟨ce8, hcl8, hM8, hcc8, hfr8⟩ := Kd.R_elem HO_0.out z108 (x5_1 : Int) p8 q8; obtain rfl := k108_openM hM8; have hx8_0 : w15.cell? ⟨go5, (x5_1 : Int).toNat * 4, none⟩ = some (.int .i64 ((rd_T108 y131 x5_1).f0)) := hcc8 0 _ rfl; have hx8_1 : w15.cell? ⟨go5, (x5_1 : Int).toNat * 4 + 1, none⟩ = some (.int .i64 ((rd_T108 y131 x5_1).f1)) := hcc8 1 _ rfl; have hx8_2 : w15.cell? ⟨go5, (x5_1 : Int).toNat * 4 + 2, none⟩ = some (.int .i64 ((rd_T108 y131 x5_1).f2)) := hcc8 2 _ rfl; have hx8_3 : w15.cell? ⟨go5, (x5_1 : Int).toNat * 4 + 3, none⟩ = some (.bool ((rd_T108 y131 x5_1).f3)) := hcc8 3 _ rfl; have hf8_0 : w15.frozen? ⟨go5, (x5_1 : Int).toNat * 4, none⟩ = false := hfr8 0; have hf8_1 : w15.frozen? ⟨go5, (x5_1 : Int).toNat * 4 + 1, none⟩ = false := hfr8 1; have hf8_2 : w15.frozen? ⟨go5, (x5_1 : Int).toNat * 4 + 2, none⟩ = false := hfr8 2; have hf8_3 : w15.frozen? ⟨go5, (x5_1 : Int).toNat * 4 + 3, none⟩ = false := hfr8 3; clear hcl8 hcc8 hfr8 hM8; replace p8 := eq_true p8; replace q8 := eq_true q8; have HX16 := Aside0.mk (show Kd.R k108 108 w15 w0.heap.size (fun k_ => (P0_ k_ ∨ w.heap.size ≤ k_)) (.slice (some ⟨go5, 0, none⟩) x0_1.length co9) y131 from (tR HO_0)); obtain ⟨ce16, hcl16, hM16, hcc16, hfr16⟩ := Kd.R_elem HX16.out z108 (x5_1 : Int) (of_decide_eq_true tA) (by have h_ : (x5_1 : Int) < ((x0_1.length : Int) : Int) := of_decide_eq_true tA; first | exact h_ | (have e_ := (Kd.R_reads' HO_0.out).1; omega) | simpa using h_); obtain rfl := k108_openM hM16; have HP16 := Kd.R_seg HX16.out (x5_1 : Int) (of_decide_eq_true tA) (by have h_ : (x5_1 : Int) < ((x0_1.length : Int) : Int) := of_decide_eq_true tA; first | exact h_ | (have e_ := (Kd.R_reads' HO_0.out).1; omega) | simpa using h_) (seg := [.bool ((Int.tmod (wrap64 ((wrap64 ((wrap64 (x1_1 + 1)) + 1)) + 1)) 3) == 0)]) (j := 3) hcl16 hcc16 (show 4 ≤ 4 from by decide) (x' := (⟨(rd_T108 y131 x5_1).f0, (rd_T108 y131 x5_1).f1, (rd_T108 y131 x5_1).f2, ((Int.tmod (wrap64 ((wrap64 ((wrap64 (x1_1 + 1)) + 1)) + 1)) 3) == 0)⟩ : S108)) (k108_mkM _ _ _ (⟨(rd_T108 y131 x5_1).f0, (rd_T108 y131 x5_1).f1, (rd_T108 y131 x5_1).f2, ((Int.tmod (wrap64 ((wrap64 ((wrap64 (x1_1 + 1)) + 1)) + 1)) 3) == 0)⟩ : S108) ) (fun _ hk => hk); have hx16_3 := hcc16 3 _ rfl; (try simp only [show (k108).sz = 4 from rfl, Nat.mul_one, Nat.add_zero] at hx16_3); have hf16_3 := hfr16 3; (try simp only [show (k108).sz = 4 from rfl, Nat.mul_one, Nat.add_zero] at hf16_3); clear hcl16 hcc16 hfr16 hM16) | ((with_reducible refine gate_store (t := 4) (p := 39) rfl ?_); refine store_event (t := 4) (p := 39) (v := ?vo_w17) (w1 := (w15.setCell ⟨go5, (x5_1 : Int).toNat * 4 + 3, none⟩ (.bool ((Int.tmod (wrap64 ((wrap64 ((wrap64 (x1_1 + 1)) + 1)) + 1)) 3) == 0)))) ?hg ?ho ?hn ?hr ?_; (case ho => rfl); (case hg => rfl); (case hn => rfl); (case hr => first | (go_simp; done) | (go_simp; rfl)); intro w17 hw; have hg : w15.grownBy w17 (some go5) := (by rw [hw]; exact HP16.2); have hp_ : Kd.R k108 108 w17 w0.heap.size (fun k_ => (P0_ k_ ∨ w.heap.size ≤ k_)) (.slice (some ⟨go5, 0, none⟩) x0_1.length co9) y132 := (by rw [hw, Ny132.out]; exact HP16.1); clear HP16; replace HB := Aside0.mk ((by rw [hw]; exact below_set (HB.out) GB5.out : Below w0.heap.size w0 w17)); replace HK := Aside0.mk (Kept.of_grown (S := (fun k_ => P0_ k_)) hg (by repeat (first | (with_reducible first | exact HK.out | apply Kept.alloc | apply Kept.drewN | apply Kept.drew) | exact HK.out)) (fun k_ e_ => (HO_0.out.1 k_ e_))); replace HO_0 := Aside0.mk (hp_); clear hg hw hp_))
     go_roundg k1
     case measure => have := HK1.out; omega
     case rel => exact ⟨(y132), (wrap64 ((wrap64 ((wrap64 ((wrap64 (x1_1 + 1)) + 1)) + 1)) + 1)), (wrap64 (x5_1 + 1)), tS, tS, H', ⟨tI⟩, ⟨tR HO_0⟩, ⟨by repeat (first | (with_reducible first | exact HK.out | apply Kept.alloc | apply Kept.drewN | apply Kept.drew) | exact HK.out)⟩, ⟨tB⟩⟩
    rw [if_neg c4] at H
    exact absurd H (by simp)
   rw [if_neg c3] at H
   have c3b0 : decide (x5_1 < (x0_1.length : Int)) = false := decide_eq_false c3
   clear c3
   simp only [Option.some.injEq, Prod.mk.injEq] at H
   obtain ⟨rfl, rfl⟩ := H
   obtain ⟨Ao18, co18, eo18⟩ := Kd.R_slice HO_0.out
   subst eo18
   go_wp2
   go_ret
   exact ⟨tE, tR HO_0, tB, by repeat (first | (with_reducible first | exact HK.out | apply Kept.alloc | apply Kept.drewN | apply Kept.drew) | exact HK.out)⟩

/-! ### laws_markMailbox: function 45 -/
def laws_markMailbox.f (k : Nat) (l0_0 : List (S108)) (a1 : Int) : Option (Int × (List (S108))) := (laws_markNoticeS.f k l0_0 a1).bind fun bt134 => (some (bt134.1, bt134.2))
theorem laws_markMailbox.mono : ∀ a0 a1 k, LeO (laws_markMailbox.f k a0 a1) (laws_markMailbox.f (k + 1) a0 a1) := by
 intro a0 a1 k
 unfold laws_markMailbox.f
 repeat' first
   | (with_reducible exact laws_markNoticeS.mono _ _ _)
   | (with_reducible exact LeO.refl _)
   | (with_reducible exact LeO.none _)
   | (with_reducible refine LeO.ite ?_ ?_)
   | (with_reducible refine LeO.bind ?_ (fun _ => ?_))
   | exact laws_markNoticeS.mono _ _ _
   | exact LeO.none _
   | refine LeO.ite ?_ ?_
   | refine LeO.bind ?_ (fun _ => ?_)
set_option maxHeartbeats 8000000 in
set_option maxRecDepth 100000 in
theorem laws_markMailbox.calls (k : Nat) (P0_0_ : Nat → Prop) (u9000_ : Value) (l0_0 : List (S108)) (a1 : Int) (r1 : Int) (r2 : List (S108)) (w0 w : World) (hB : Below w0.heap.size w0 w) (ho0_0 : Kd.R k108 108 w w0.heap.size P0_0_ u9000_ l0_0) (h : laws_markMailbox.f k l0_0 a1 = some (r1, r2)) :
  Calls Try.prog 45 #[.agg #[u9000_], .int .i64 a1] w fun e w' => e = .returned (.int .i64 r1) ∧ Kd.R k108 108 w' w0.heap.size (fun k_ => (P0_0_ k_ ∨ w.heap.size ≤ k_)) u9000_ r2 ∧ Below w0.heap.size w0 w' ∧ Kept w w' (fun k_ => P0_0_ k_) := by
 have hu65 := Try.underlying65
 have HO0_0 := Aside0.mk (show Kd.R k108 108 w w0.heap.size (fun k_ => (P0_0_ k_ ∨ w.heap.size ≤ k_)) u9000_ l0_0 from Kd.R_mono ho0_0 (fun k_ hk => (.inl hk)))
 have HK := Aside0.mk (Kept.refl w (fun k_ => P0_0_ k_))
 have HW0 := Aside0.mk hB.size
 have HB := Aside0.mk hB
 clear hB
 have H : ((laws_markNoticeS.f k l0_0 a1).bind fun bt134 => (some (bt134.1, bt134.2))) = some (r1, r2) := h
 clear h
 replace H := Option.bind_eq_some_iff.mp H
 obtain ⟨⟨t134, t135⟩, A30, H⟩ := H
 try dsimp only at H
 have A3 := Aside0.mk A30
 clear A30
 simp only [Option.some.injEq, Prod.mk.injEq] at H
 obtain ⟨rfl, rfl⟩ := H
 obtain ⟨Ao4, co4, eo4⟩ := Kd.R_slice HO0_0.out
 subst eo4
 go_enter Try.func45, Try.ntmps45
 go_wp2_with (first | ((with_reducible refine gate_dst (N := 2) rfl ?_); refine box_event ?hg (N := 2) ?hd (cs := #[.slice Ao4 l0_0.length co4]) (t := 65) ?hr ?_; (case hd => rfl); (case hg => rfl); (case hr => exact tG); intro gb133 hg w5 hbox hb; replace HO0_0 := Aside0.mk (Kd.R_below (tR HO0_0) hb); have BK133 := Aside0.mk (hbox); have GW133 := Aside0.mk ((by rw [hg]; exact (by first | exact HK.out.1 | exact (show Kept w _ (fun k_ => P0_0_ k_) from by repeat (first | (with_reducible first | exact HK.out | apply Kept.alloc | apply Kept.drewN | apply Kept.drew) | exact HK.out)).1) : w.heap.size ≤ gb133)); replace HK := Aside0.mk (Kept.below (S := (fun k_ => P0_0_ k_)) (by repeat (first | (with_reducible first | exact HK.out | apply Kept.alloc | apply Kept.drewN | apply Kept.drew) | exact HK.out)) hb); have GE133 := Aside0.mk ((by rw [hg]; exact (below_size tB) : w0.heap.size ≤ gb133)); replace HB := bH HB hb; clear hb hbox hg; obtain ⟨hcz6_0, hfz6_0⟩ := bc1 BK133.out) | ((with_reducible refine gate_callee (f := 46) rfl ?_); refine goesL_ (some 8) rfl rfl Try.func46 (by kernel_rfl) rfl #[.slice Ao4 l0_0.length co4, .int .i64 a1] rfl tL ?_; (with_reducible refine (laws_markNoticeS.calls k (fun k_ => some k_ = (.slice Ao4 l0_0.length co4 : Value).ownBlock) (.slice Ao4 l0_0.length co4) l0_0 a1 t134 t135 w0 _ ?side1 ?side2 A3.out).mono ?_); (case side1 => exact tB); (case side2 => exact Kd.R_tight rfl HO0_0.out); rintro e w7 ⟨rfl, hy0, hb, hkp⟩; refine ⟨_, rfl, ?_⟩; replace BK133 := Aside0.mk (blk_kept (tK BK133) hkp (fun hs_ => (fun e_ => (Kd.R_ne HO0_0.out BK133.out (by decide)) e_) hs_)); replace HK := Aside0.mk (Kept.then_ (S := (fun k_ => P0_0_ k_)) (by repeat (first | (with_reducible first | exact HK.out | apply Kept.alloc | apply Kept.drewN | apply Kept.drew | refine Kept.setCell ?_ (.inr GW133.out) _) | exact HK.out)) hkp (fun k_ hs_ => (fun e_ => (HO0_0.out.1 k_ e_.symm)) hs_)); replace HO0_0 := Aside0.mk (Kd.R_reok rfl hy0 (fun k_ e_ => HO0_0.out.1 k_ e_)); replace HB := Aside0.mk (hb); (try clear hb); (try clear hkp); (try clear hy0)))
 go_ret
 exact ⟨tE, tR HO0_0, tB, by repeat (first | (with_reducible first | exact HK.out | apply Kept.alloc | apply Kept.drewN | apply Kept.drew | refine Kept.setCell ?_ (.inr GW133.out) _) | exact HK.out)⟩

/-! ### laws_heldNoticeS: function 48 -/
def laws_heldNoticeS.l0 : Nat → List (S108) → Int → Int → Option (Int)
 | 0, _, _, _ => none
 | k + 1, x0, x1, x5 => if x5 < (x0.length : Int) then (if 0 ≤ x5 then (if ((rd_T108 x0 x5).f0) = x1 then (if ((rd_T108 x0 x5).f1) = (wrap64 (x1 + 1)) then (if ((rd_T108 x0 x5).f2) = (wrap64 ((wrap64 (x1 + 1)) + 1)) then (if (((rd_T108 x0 x5).f3) != ((Int.tmod (wrap64 ((wrap64 ((wrap64 (x1 + 1)) + 1)) + 1)) 3) == 0)) = true then (some (-1)) else (laws_heldNoticeS.l0 k x0 (wrap64 ((wrap64 ((wrap64 ((wrap64 (x1 + 1)) + 1)) + 1)) + 1)) (wrap64 (x5 + 1)))) else (some (-1))) else (some (-1))) else (some (-1))) else (none)) else (some x1)
def laws_heldNoticeS.f (k : Nat) (l0 : List (S108)) (a1 : Int) : Option (Int) := laws_heldNoticeS.l0 k l0 a1 0
theorem laws_heldNoticeS.mono_l : ∀ k, (∀ y0 y1 y2, LeO (laws_heldNoticeS.l0 k y0 y1 y2) (laws_heldNoticeS.l0 (k + 1) y0 y1 y2))
 | 0 => fun _ _ _ r h => by simp [laws_heldNoticeS.l0] at h
 | k + 1 => by
  have ih0 := laws_heldNoticeS.mono_l k
  ·intro y0 y1 y2
   unfold laws_heldNoticeS.l0
   repeat' first
   | (with_reducible exact ih0 _ _ _)
   | (with_reducible exact LeO.refl _)
   | (with_reducible exact LeO.none _)
   | (with_reducible refine LeO.ite ?_ ?_)
   | (with_reducible refine LeO.bind ?_ (fun _ => ?_))
   | exact ih0 _ _ _
   | exact LeO.none _
   | refine LeO.ite ?_ ?_
   | refine LeO.bind ?_ (fun _ => ?_)
theorem laws_heldNoticeS.mono : ∀ a0 a1 k, LeO (laws_heldNoticeS.f k a0 a1) (laws_heldNoticeS.f (k + 1) a0 a1) := by
 intro a0 a1 k
 have ih0 := laws_heldNoticeS.mono_l k
 unfold laws_heldNoticeS.f
 repeat' first
   | (with_reducible exact ih0 _ _ _)
   | (with_reducible exact LeO.refl _)
   | (with_reducible exact LeO.none _)
   | (with_reducible refine LeO.ite ?_ ?_)
   | (with_reducible refine LeO.bind ?_ (fun _ => ?_))
   | exact ih0 _ _ _
   | exact LeO.none _
   | refine LeO.ite ?_ ?_
   | refine LeO.bind ?_ (fun _ => ?_)
set_option maxHeartbeats 8000000 in
set_option maxRecDepth 100000 in
theorem laws_heldNoticeS.calls (k : Nat) (A0 : Option Addr) (c0 : Nat) (l0 : List (S108)) (a1 : Int) (r : Int) (w : World) (hr0 : Kd.C k108 w A0 l0.length l0) (hc0 : l0.length ≤ c0) (h : laws_heldNoticeS.f k l0 a1 = some r) :
  Calls Try.prog 48 #[.slice A0 l0.length c0, .int .i64 a1] w fun e w' => e = .returned (.int .i64 r) ∧ Drawn0 w w' := by
 have HR0 := Aside0.mk hr0
 have HC0 := Aside0.mk hc0
 clear hr0 hc0
 have H : (laws_heldNoticeS.l0 k l0 a1 0) = some r := h
 clear h
 have H' := Aside0.mk H
 clear H
 go_enter Try.func48, Try.ntmps48
 go_wp2
 go_loopg [1, 5] k (fun kq v1 v5 w' => ∃ (x1_1 : Int) (x5_1 : Int), v1 = .int .i64 x1_1 ∧ v5 = .int .i64 x5_1 ∧ Aside0 (laws_heldNoticeS.l0 kq l0 x1_1 x5_1 = some r) ∧ Aside0 (kq ≤ k) ∧ Drawn0 w w')
 case atStart => exact ⟨(a1), (0), tS, tS, H', ⟨Nat.le_refl _⟩, by repeat (first | exact Drawn0.refl _ | apply Drawn0.step)⟩
 case round =>
  clear H'
  try clear p2
  obtain ⟨x1_1, x5_1, rfl, rfl, HA, HK1, ⟨m1, rfl⟩⟩ := hrel
  cases gk with
  | zero => exact absurd HA.out (by simp [laws_heldNoticeS.l0])
  | succ k1 =>
   have H := HA.out
   clear HA
   simp only [laws_heldNoticeS.l0] at H
   by_cases c3 : x5_1 < (l0.length : Int)
   ·rw [if_pos c3] at H
    have c3b0 : decide (x5_1 < (l0.length : Int)) = true := decide_eq_true c3
    clear c3
    by_cases c4 : 0 ≤ x5_1
    ·rw [if_pos c4] at H
     have c4b0 : decide (0 ≤ x5_1) = true := decide_eq_true c4
     clear c4
     by_cases c5 : ((rd_T108 l0 x5_1).f0) = x1_1
     ·rw [if_pos c5] at H
      have c5b0 : (((rd_T108 l0 x5_1).f0) == x1_1) = true := beq_iff_eq.mpr c5
      have c5b1 : (((rd_T108 l0 x5_1).f0) != x1_1) = false := bne_eq_false_iff_eq.mpr c5
      clear c5
      by_cases c6 : ((rd_T108 l0 x5_1).f1) = (wrap64 (x1_1 + 1))
      ·rw [if_pos c6] at H
       have c6b0 : (((rd_T108 l0 x5_1).f1) == (wrap64 (x1_1 + 1))) = true := beq_iff_eq.mpr c6
       have c6b1 : (((rd_T108 l0 x5_1).f1) != (wrap64 (x1_1 + 1))) = false := bne_eq_false_iff_eq.mpr c6
       clear c6
       by_cases c7 : ((rd_T108 l0 x5_1).f2) = (wrap64 ((wrap64 (x1_1 + 1)) + 1))
       ·rw [if_pos c7] at H
        have c7b0 : (((rd_T108 l0 x5_1).f2) == (wrap64 ((wrap64 (x1_1 + 1)) + 1))) = true := beq_iff_eq.mpr c7
        have c7b1 : (((rd_T108 l0 x5_1).f2) != (wrap64 ((wrap64 (x1_1 + 1)) + 1))) = false := bne_eq_false_iff_eq.mpr c7
        clear c7
        by_cases c8 : (((rd_T108 l0 x5_1).f3) != ((Int.tmod (wrap64 ((wrap64 ((wrap64 (x1_1 + 1)) + 1)) + 1)) 3) == 0)) = true
        ·rw [if_pos c8] at H
         have c8b0 : (((rd_T108 l0 x5_1).f3) != ((Int.tmod (wrap64 ((wrap64 ((wrap64 (x1_1 + 1)) + 1)) + 1)) 3) == 0)) = true := c8
         (try (have c8b1 : decide (((rd_T108 l0 x5_1).f3) = ((Int.tmod (wrap64 ((wrap64 ((wrap64 (x1_1 + 1)) + 1)) + 1)) 3) == 0)) = false := by simpa using c8))
         (try (have c8b2 : (((rd_T108 l0 x5_1).f3) == ((Int.tmod (wrap64 ((wrap64 ((wrap64 (x1_1 + 1)) + 1)) + 1)) 3) == 0)) = false := by simpa using c8))
         (try (have c8b3 : ¬ (((rd_T108 l0 x5_1).f3) = ((Int.tmod (wrap64 ((wrap64 ((wrap64 (x1_1 + 1)) + 1)) + 1)) 3) == 0)) := by simpa using c8))
         clear c8
         obtain rfl := Option.some.inj H
         have p136 : 0 ≤ (x5_1 : Int) := of_decide_eq_true tA
         have q136 : x5_1 < (l0.length : Int) := of_decide_eq_true tA
         obtain ⟨ad136, e136, hx136_0, hx136_1, hx136_2, hx136_3⟩ := at_T108 HR0.out x5_1 p136 q136
         cases e136
         replace p136 := eq_true p136
         replace q136 := eq_true q136
         have p137 : 0 ≤ (x5_1 : Int) := of_decide_eq_true tA
         have q137 : x5_1 < (l0.length : Int) := of_decide_eq_true tA
         obtain ⟨ad137, e137, hx137_0, hx137_1, hx137_2, hx137_3⟩ := at_T108 HR0.out x5_1 p137 q137
         obtain rfl : ad136 = ad137 := (by injection e137)
         replace p137 := eq_true p137
         replace q137 := eq_true q137
         have p138 : 0 ≤ (x5_1 : Int) := of_decide_eq_true tA
         have q138 : x5_1 < (l0.length : Int) := of_decide_eq_true tA
         obtain ⟨ad138, e138, hx138_0, hx138_1, hx138_2, hx138_3⟩ := at_T108 HR0.out x5_1 p138 q138
         obtain rfl : ad136 = ad138 := (by injection e138)
         replace p138 := eq_true p138
         replace q138 := eq_true q138
         have p139 : 0 ≤ (x5_1 : Int) := of_decide_eq_true tA
         have q139 : x5_1 < (l0.length : Int) := of_decide_eq_true tA
         obtain ⟨ad139, e139, hx139_0, hx139_1, hx139_2, hx139_3⟩ := at_T108 HR0.out x5_1 p139 q139
         obtain rfl : ad136 = ad139 := (by injection e139)
         replace p139 := eq_true p139
         replace q139 := eq_true q139
         go_wp2
         go_ret
         exact ⟨tS, by repeat (first | exact Drawn0.refl _ | apply Drawn0.step)⟩
        rw [if_neg c8] at H
        have c8b0 : (((rd_T108 l0 x5_1).f3) != ((Int.tmod (wrap64 ((wrap64 ((wrap64 (x1_1 + 1)) + 1)) + 1)) 3) == 0)) = false := by simpa using c8
        (try (have c8b1 : decide (((rd_T108 l0 x5_1).f3) = ((Int.tmod (wrap64 ((wrap64 ((wrap64 (x1_1 + 1)) + 1)) + 1)) 3) == 0)) = true := by simpa using c8))
        (try (have c8b2 : (((rd_T108 l0 x5_1).f3) == ((Int.tmod (wrap64 ((wrap64 ((wrap64 (x1_1 + 1)) + 1)) + 1)) 3) == 0)) = true := by simpa using c8))
        clear c8
        have H' := Aside0.mk H
        clear H
        have p136 : 0 ≤ (x5_1 : Int) := of_decide_eq_true tA
        have q136 : x5_1 < (l0.length : Int) := of_decide_eq_true tA
        obtain ⟨ad136, e136, hx136_0, hx136_1, hx136_2, hx136_3⟩ := at_T108 HR0.out x5_1 p136 q136
        cases e136
        replace p136 := eq_true p136
        replace q136 := eq_true q136
        have p137 : 0 ≤ (x5_1 : Int) := of_decide_eq_true tA
        have q137 : x5_1 < (l0.length : Int) := of_decide_eq_true tA
        obtain ⟨ad137, e137, hx137_0, hx137_1, hx137_2, hx137_3⟩ := at_T108 HR0.out x5_1 p137 q137
        obtain rfl : ad136 = ad137 := (by injection e137)
        replace p137 := eq_true p137
        replace q137 := eq_true q137
        have p138 : 0 ≤ (x5_1 : Int) := of_decide_eq_true tA
        have q138 : x5_1 < (l0.length : Int) := of_decide_eq_true tA
        obtain ⟨ad138, e138, hx138_0, hx138_1, hx138_2, hx138_3⟩ := at_T108 HR0.out x5_1 p138 q138
        obtain rfl : ad136 = ad138 := (by injection e138)
        replace p138 := eq_true p138
        replace q138 := eq_true q138
        have p139 : 0 ≤ (x5_1 : Int) := of_decide_eq_true tA
        have q139 : x5_1 < (l0.length : Int) := of_decide_eq_true tA
        obtain ⟨ad139, e139, hx139_0, hx139_1, hx139_2, hx139_3⟩ := at_T108 HR0.out x5_1 p139 q139
        obtain rfl : ad136 = ad139 := (by injection e139)
        replace p139 := eq_true p139
        replace q139 := eq_true q139
        go_wp2
        go_roundg k1
        case measure => have := HK1.out; omega
        case rel => exact ⟨(wrap64 ((wrap64 ((wrap64 ((wrap64 (x1_1 + 1)) + 1)) + 1)) + 1)), (wrap64 (x5_1 + 1)), tS, tS, H', ⟨tI⟩, by repeat (first | exact Drawn0.refl _ | apply Drawn0.step)⟩
       rw [if_neg c7] at H
       have c7b0 : (((rd_T108 l0 x5_1).f2) == (wrap64 ((wrap64 (x1_1 + 1)) + 1))) = false := beq_eq_false_iff_ne.mpr c7
       have c7b1 : (((rd_T108 l0 x5_1).f2) != (wrap64 ((wrap64 (x1_1 + 1)) + 1))) = true := bne_iff_ne.mpr c7
       obtain rfl := Option.some.inj H
       have p136 : 0 ≤ (x5_1 : Int) := of_decide_eq_true tA
       have q136 : x5_1 < (l0.length : Int) := of_decide_eq_true tA
       obtain ⟨ad136, e136, hx136_0, hx136_1, hx136_2, hx136_3⟩ := at_T108 HR0.out x5_1 p136 q136
       cases e136
       replace p136 := eq_true p136
       replace q136 := eq_true q136
       have p137 : 0 ≤ (x5_1 : Int) := of_decide_eq_true tA
       have q137 : x5_1 < (l0.length : Int) := of_decide_eq_true tA
       obtain ⟨ad137, e137, hx137_0, hx137_1, hx137_2, hx137_3⟩ := at_T108 HR0.out x5_1 p137 q137
       obtain rfl : ad136 = ad137 := (by injection e137)
       replace p137 := eq_true p137
       replace q137 := eq_true q137
       have p138 : 0 ≤ (x5_1 : Int) := of_decide_eq_true tA
       have q138 : x5_1 < (l0.length : Int) := of_decide_eq_true tA
       obtain ⟨ad138, e138, hx138_0, hx138_1, hx138_2, hx138_3⟩ := at_T108 HR0.out x5_1 p138 q138
       obtain rfl : ad136 = ad138 := (by injection e138)
       replace p138 := eq_true p138
       replace q138 := eq_true q138
       go_wp2
       go_ret
       exact ⟨tS, by repeat (first | exact Drawn0.refl _ | apply Drawn0.step)⟩
      rw [if_neg c6] at H
      have c6b0 : (((rd_T108 l0 x5_1).f1) == (wrap64 (x1_1 + 1))) = false := beq_eq_false_iff_ne.mpr c6
      have c6b1 : (((rd_T108 l0 x5_1).f1) != (wrap64 (x1_1 + 1))) = true := bne_iff_ne.mpr c6
      obtain rfl := Option.some.inj H
      have p136 : 0 ≤ (x5_1 : Int) := of_decide_eq_true tA
      have q136 : x5_1 < (l0.length : Int) := of_decide_eq_true tA
      obtain ⟨ad136, e136, hx136_0, hx136_1, hx136_2, hx136_3⟩ := at_T108 HR0.out x5_1 p136 q136
      cases e136
      replace p136 := eq_true p136
      replace q136 := eq_true q136
      have p137 : 0 ≤ (x5_1 : Int) := of_decide_eq_true tA
      have q137 : x5_1 < (l0.length : Int) := of_decide_eq_true tA
      obtain ⟨ad137, e137, hx137_0, hx137_1, hx137_2, hx137_3⟩ := at_T108 HR0.out x5_1 p137 q137
      obtain rfl : ad136 = ad137 := (by injection e137)
      replace p137 := eq_true p137
      replace q137 := eq_true q137
      go_wp2
      go_ret
      exact ⟨tS, by repeat (first | exact Drawn0.refl _ | apply Drawn0.step)⟩
     rw [if_neg c5] at H
     have c5b0 : (((rd_T108 l0 x5_1).f0) == x1_1) = false := beq_eq_false_iff_ne.mpr c5
     have c5b1 : (((rd_T108 l0 x5_1).f0) != x1_1) = true := bne_iff_ne.mpr c5
     obtain rfl := Option.some.inj H
     have p136 : 0 ≤ (x5_1 : Int) := of_decide_eq_true tA
     have q136 : x5_1 < (l0.length : Int) := of_decide_eq_true tA
     obtain ⟨ad136, e136, hx136_0, hx136_1, hx136_2, hx136_3⟩ := at_T108 HR0.out x5_1 p136 q136
     cases e136
     replace p136 := eq_true p136
     replace q136 := eq_true q136
     go_wp2
     go_ret
     exact ⟨tS, by repeat (first | exact Drawn0.refl _ | apply Drawn0.step)⟩
    rw [if_neg c4] at H
    exact absurd H (by simp)
   rw [if_neg c3] at H
   have c3b0 : decide (x5_1 < (l0.length : Int)) = false := decide_eq_false c3
   clear c3
   obtain rfl := Option.some.inj H
   go_wp2
   go_ret
   exact ⟨tS, by repeat (first | exact Drawn0.refl _ | apply Drawn0.step)⟩

/-! ### laws_heldMailbox: function 47 -/
def laws_heldMailbox.f (k : Nat) (l0_0 : List (S108)) (a1 : Int) : Option (Int) := (laws_heldNoticeS.f k l0_0 a1).bind fun t141 => (if t141 < 0 then (some (-1)) else (some t141))
theorem laws_heldMailbox.mono : ∀ a0 a1 k, LeO (laws_heldMailbox.f k a0 a1) (laws_heldMailbox.f (k + 1) a0 a1) := by
 intro a0 a1 k
 unfold laws_heldMailbox.f
 repeat' first
   | (with_reducible exact laws_heldNoticeS.mono _ _ _)
   | (with_reducible exact LeO.refl _)
   | (with_reducible exact LeO.none _)
   | (with_reducible refine LeO.ite ?_ ?_)
   | (with_reducible refine LeO.bind ?_ (fun _ => ?_))
   | exact laws_heldNoticeS.mono _ _ _
   | exact LeO.none _
   | refine LeO.ite ?_ ?_
   | refine LeO.bind ?_ (fun _ => ?_)
set_option maxHeartbeats 8000000 in
set_option maxRecDepth 100000 in
theorem laws_heldMailbox.calls (k : Nat) (A0_0 : Option Addr) (c0_0 : Nat) (l0_0 : List (S108)) (a1 : Int) (r : Int) (w : World) (hr0_0 : Kd.C k108 w A0_0 l0_0.length l0_0) (hc0_0 : l0_0.length ≤ c0_0) (h : laws_heldMailbox.f k l0_0 a1 = some r) :
  Calls Try.prog 47 #[.agg #[.slice A0_0 l0_0.length c0_0], .int .i64 a1] w fun e w' => e = .returned (.int .i64 r) ∧ Below w.heap.size w w' := by
 have hu65 := Try.underlying65
 have HR0_0 := Aside0.mk hr0_0
 have HC0_0 := Aside0.mk hc0_0
 clear hr0_0 hc0_0
 have HB := Aside0.mk (Below.refl w.heap.size w)
 have H : ((laws_heldNoticeS.f k l0_0 a1).bind fun t141 => (if t141 < 0 then (some (-1)) else (some t141))) = some r := h
 clear h
 replace H := Option.bind_eq_some_iff.mp H
 obtain ⟨t141, A30, H⟩ := H
 try dsimp only at H
 have A3 := Aside0.mk A30
 clear A30
 by_cases c4 : t141 < 0
 ·rw [if_pos c4] at H
  have c4b0 : decide (t141 < 0) = true := decide_eq_true c4
  clear c4
  obtain rfl := Option.some.inj H
  go_enter Try.func47, Try.ntmps47
  go_wp2_with (first | ((with_reducible refine gate_dst (N := 2) rfl ?_); refine box_event ?hg (N := 2) ?hd (cs := #[.slice A0_0 l0_0.length c0_0]) (t := 65) ?hr ?_; (case hd => rfl); (case hg => rfl); (case hr => exact tG); intro gb140 hg w5 hbox hb; have BK140 := Aside0.mk (hbox); have GW140 := gW HB hg; have GE140 := gW HB hg; replace HB := bH HB hb; clear hb hbox hg; obtain ⟨hcz6_0, hfz6_0⟩ := bc1 BK140.out) | ((with_reducible refine gate_callee (f := 48) rfl ?_); refine goesL_ (some 8) rfl rfl Try.func48 (by kernel_rfl) rfl #[.slice A0_0 l0_0.length c0_0, .int .i64 a1] rfl tL ?_; (with_reducible refine (laws_heldNoticeS.calls k _ _ l0_0 a1 t141 _ ?side1 ?side2 A3.out).mono ?_); (case side1 => repeat (first | exact (Kd.C_below HR0_0.out HB.out) | (with_reducible refine Kd.C_alloc ?_ _) | (with_reducible refine Kd.C_drewN ?_ _) | (with_reducible refine Kd.C_drew ?_))); (case side2 => exact HC0_0.out); rintro e w' ⟨rfl, ⟨nd, rfl⟩⟩; refine ⟨_, rfl, ?_⟩))
  go_ret
  exact ⟨tE, tB⟩
 rw [if_neg c4] at H
 have c4b0 : decide (t141 < 0) = false := decide_eq_false c4
 clear c4
 obtain rfl := Option.some.inj H
 go_enter Try.func47, Try.ntmps47
 go_wp2_with (first | ((with_reducible refine gate_dst (N := 2) rfl ?_); refine box_event ?hg (N := 2) ?hd (cs := #[.slice A0_0 l0_0.length c0_0]) (t := 65) ?hr ?_; (case hd => rfl); (case hg => rfl); (case hr => exact tG); intro gb140 hg w7 hbox hb; have BK140 := Aside0.mk (hbox); have GW140 := gW HB hg; have GE140 := gW HB hg; replace HB := bH HB hb; clear hb hbox hg; obtain ⟨hcz8_0, hfz8_0⟩ := bc1 BK140.out) | ((with_reducible refine gate_callee (f := 48) rfl ?_); refine goesL_ (some 8) rfl rfl Try.func48 (by kernel_rfl) rfl #[.slice A0_0 l0_0.length c0_0, .int .i64 a1] rfl tL ?_; (with_reducible refine (laws_heldNoticeS.calls k _ _ l0_0 a1 t141 _ ?side1 ?side2 A3.out).mono ?_); (case side1 => repeat (first | exact (Kd.C_below HR0_0.out HB.out) | (with_reducible refine Kd.C_alloc ?_ _) | (with_reducible refine Kd.C_drewN ?_ _) | (with_reducible refine Kd.C_drew ?_))); (case side2 => exact HC0_0.out); rintro e w' ⟨rfl, ⟨nd, rfl⟩⟩; refine ⟨_, rfl, ?_⟩))
 go_ret
 exact ⟨tE, tB⟩

/-! ### spec_l31Copy: function 93 -/
def spec_l31Copy.f (l0_0 : List (S108)) : Option ((List (S108))) := (some (([] : List (S108)) : List (S108))).bind fun y144 => (if y144.length + l0_0.length < 4398046511104 then (some (y144 ++ l0_0)) else (none))
set_option maxHeartbeats 8000000 in
set_option maxRecDepth 100000 in
theorem spec_l31Copy.calls (A0_0 : Option Addr) (c0_0 : Nat) (l0_0 : List (S108)) (r : List (S108)) (w : World) (hr0_0 : Kd.C k108 w A0_0 l0_0.length l0_0) (hc0_0 : l0_0.length ≤ c0_0) (h : spec_l31Copy.f l0_0 = some r) :
  Calls Try.prog 93 #[.agg #[.slice A0_0 l0_0.length c0_0]] w fun e w' => ∃ v0_ : Value, e = .returned (.agg #[v0_]) ∧ Kd.R k108 108 w' w.heap.size (fun _ => True) v0_ r ∧ Below w.heap.size w w' := by
 have hu65 := Try.underlying65
 have HR0_0 := Aside0.mk hr0_0
 have HC0_0 := Aside0.mk hc0_0
 clear hr0_0 hc0_0
 have HB := Aside0.mk (Below.refl w.heap.size w)
 have H : ((some (([] : List (S108)) : List (S108))).bind fun y144 => (if y144.length + l0_0.length < 4398046511104 then (some (y144 ++ l0_0)) else (none))) = some r := h
 clear h
 obtain ⟨y144, hy144⟩ : ∃ y_ : List (S108), y_ = (([] : List (S108))) := ⟨_, rfl⟩
 replace H : (if y144.length + l0_0.length < 4398046511104 then (some (y144 ++ l0_0)) else (none)) = some r := by first | (rw [hy144]; with_reducible exact H) | (have H2_ := (Option.bind_some _ _).symm.trans H; rw [hy144]; with_reducible exact H2_) | (have H2_ := (Option.bind_some _ _).symm.trans H; with_reducible exact H2_) | with_reducible exact H | (rw [hy144]; exact H) | exact H
 have Ny144 := Aside0.mk hy144
 clear hy144
 by_cases c2 : y144.length + l0_0.length < 4398046511104
 ·rw [if_pos c2] at H
  have LMc2 := Aside0.mk c2
  clear c2
  obtain ⟨y147, hy147⟩ : ∃ y_ : List (S108), y_ = (y144 ++ l0_0) := ⟨_, rfl⟩
  replace H : (some y147) = some r := by first | (rw [hy147]; with_reducible exact H) | (have H2_ := (Option.bind_some _ _).symm.trans H; rw [hy147]; with_reducible exact H2_) | (have H2_ := (Option.bind_some _ _).symm.trans H; with_reducible exact H2_) | with_reducible exact H | (rw [hy147]; exact H) | exact H
  have Ny147 := Aside0.mk hy147
  clear hy147
  obtain rfl := Option.some.inj H
  go_enter Try.func93, Try.ntmps93
  go_wp2_with (first | ((with_reducible refine gate_dst (N := 1) rfl ?_); refine box_event ?hg (N := 1) ?hd (cs := #[.slice A0_0 l0_0.length c0_0]) (t := 65) ?hr ?_; (case hd => rfl); (case hg => rfl); (case hr => exact tG); intro gb142 hg w3 hbox hb; have BK142 := Aside0.mk (hbox); have GW142 := gW HB hg; have GE142 := gW HB hg; replace HB := bH HB hb; clear hb hbox hg) | ((with_reducible refine gate_dst (N := 2) rfl ?_); refine box_event ?hg (N := 2) ?hd (cs := #[.slice none 0 0]) (t := 65) ?hr ?_; (case hd => rfl); (case hg => rfl); (case hr => exact tG); intro gb143 hg w4 hbox hb; have BK143 := Aside0.mk (hbox); have GW143 := gW HB hg; have GE143 := gW HB hg; replace HB := bH HB hb; have NB142_143 := nL BK142 hg; have NB143_142 := nR BK142 hg; replace BK142 := bB BK142 hb; clear hb hbox hg) | ((with_reducible refine gate_dst (N := 3) rfl ?_); refine Kd.R_lit k108 _ 108 ?hg (N := 3) ?hd (xs := ([] : List (S108))) (inner := []) (ok := fun _ => True) (okp := fun _ => True) ?hr ?hp (fun _ hk => hk) trivial (Below.refl _ _) (Nat.le_refl _) (by simp) ?_; (case hd => rfl); (case hg => rfl); (case hr => exact tG); (case hp => exact (Reps.none _ _)); intro v145 w5 ho6 hb hg_ hnew_; clear hg_ hnew_; (first | rw [← Ny144.out] at ho6 | (simp only [Int.reduceToNat] at ho6; rw [← Ny144.out] at ho6)); have HO146 := Aside0.mk (Kd.R_lower ho6 (below_size tB)); replace BK142 := bB BK142 hb; replace BK143 := bB BK143 hb; replace HB := bH HB hb; clear hb ho6; have hnb7 := NB142_143.out; have hnc7 := NB143_142.out; obtain ⟨hcz8_0, hfz8_0⟩ := bc1 BK142.out) | ((with_reducible refine gate_builtin (b := .append) (xs := #[.tmp 3, .tmp 5]) rfl ?_); at_builtin; refine Kd.R_append_rows k108 (w0 := w) w.heap.size rfl (.tmp 3) (.tmp 5) 63 108 (.agg #[(.int .i64 0), (.int .i64 0), (.int .i64 0), (.bool false)]) 32 rfl Try.underlying63 info108 rfl (by decide) (by omega) v145 y144 l0_0 _ _ _ (fun _ => True) (fun _ => False) rfl rfl ?aO ?aR (fun _ _ h => h) (fun _ h => h.elim) ?aF ?aB ?aS ?aL ?_; (case aR => repeat (first | exact (Kd.C_below HR0_0.out HB.out) | (with_reducible refine Kd.C_alloc ?_ _) | (with_reducible refine Kd.C_drewN ?_ _) | (with_reducible refine Kd.C_drew ?_))); (case aB => exact tB); (case aF => exact (fun _ _ => trivial)); (case aO => exact (tR HO146)); (case aS => exact (below_size tB)); (case aL => have := LMc2.out; omega); intro v148 w9 ho hb hg hat; rw [← Ny147.out] at ho; replace BK142 := Aside0.mk (blk_grown (g := gb142) (o := .cells #[.slice A0_0 l0_0.length c0_0] 65 (0, 0)) (tK BK142) hg (Kd.R_ne HO146.out BK142.out (by decide))); replace BK143 := Aside0.mk (blk_grown (g := gb143) (o := .cells #[.slice none 0 0] 65 (0, 0)) (tK BK143) hg (Kd.R_ne HO146.out BK143.out (by decide))); replace HB := Aside0.mk (hb); have HO149 := Aside0.mk (ho); clear HO146; clear ho hb hg hat; obtain ⟨Ao10, co10, eo10⟩ := Kd.R_slice HO149.out; subst eo10; obtain ⟨hcz11_0, hfz11_0⟩ := bc1 BK143.out))
  refine bodyPost_ret (results_cell_row rfl _ _ gb143 65 #[.slice Ao10 y147.length co10] (0, 0) _ rfl (by (with_reducible repeat (first | refine blk_drewN ?_ _ | refine blk_drew ?_ | refine blk_alloc ?_ _)); refine blk_put (cs := #[.slice none 0 0]) ?_ 0 _ rfl; (with_reducible repeat (first | refine blk_drewN ?_ _ | refine blk_drew ?_ | refine blk_alloc ?_ _)); exact BK143.out) Try.underlying65 rfl (by kernel_rfl)) rfl ?_
  exact ⟨_, tE, by (with_reducible repeat (first | apply Kd.R_alloc | apply Kd.R_drewN | apply Kd.R_drew)); exact Kd.R_mono (Kd.R_far (p := ⟨gb143, 0, none⟩) (Kd.R_types HO149.out BK143.out (by decide)) (fun _ hk => hk.2) (.slice Ao10 y147.length co10)) (fun _ hk => trivial), tB⟩
 rw [if_neg c2] at H
 exact absurd H (by simp)

/-! ### spec_l1In: function 86 -/
def spec_l1In.f (a0 : Int) (a1 : Int) (a2 : Int) : Option (Bool) := if a0 ≥ a1 then (some (decide (a0 ≤ a2))) else (some false)
set_option maxHeartbeats 8000000 in
set_option maxRecDepth 100000 in
theorem spec_l1In.calls (a0 : Int) (a1 : Int) (a2 : Int) (r : Bool) (w : World) (h : spec_l1In.f a0 a1 a2 = some r) :
  Calls Try.prog 86 #[.int .i64 a0, .int .i64 a1, .int .i64 a2] w fun e w' => e = .returned (.bool r) ∧ Drawn0 w w' := by
 have H : (if a0 ≥ a1 then (some (decide (a0 ≤ a2))) else (some false)) = some r := h
 clear h
 by_cases c4 : a0 ≥ a1
 ·rw [if_pos c4] at H
  have c4b0 : decide (a1 ≤ a0) = true := decide_eq_true c4
  clear c4
  obtain rfl := Option.some.inj H
  go_enter Try.func86, Try.ntmps86
  go_wp2
  go_ret
  exact ⟨tS, by repeat (first | exact Drawn0.refl _ | apply Drawn0.step)⟩
 rw [if_neg c4] at H
 have c4b0 : decide (a1 ≤ a0) = false := decide_eq_false c4
 clear c4
 obtain rfl := Option.some.inj H
 go_enter Try.func86, Try.ntmps86
 go_wp2
 go_ret
 exact ⟨tS, by repeat (first | exact Drawn0.refl _ | apply Drawn0.step)⟩

/-! ### spec_IsValidMailbox: function 102 -/
def spec_IsValidMailbox.l0 : Nat → Int → List (S108) → Option (Bool)
 | 0, _, _ => none
 | k + 1, x3, x151000 => if x3 < (x151000.length : Int) then (if 0 ≤ x3 then ((spec_l1In.f ((rd_T108 x151000 x3).f0) 1 5).bind fun t153 => (if t153 = true then ((spec_l1In.f ((rd_T108 x151000 x3).f1) 0 1000000).bind fun t154 => (if t154 = true then ((spec_l1In.f ((rd_T108 x151000 x3).f2) 0 1000000).bind fun t155 => (if t155 = true then (if x3 > 0 then (if 0 ≤ (wrap64 (x3 - 1)) then (if (wrap64 (x3 - 1)) < (x151000.length : Int) then (if ((rd_T108 x151000 (wrap64 (x3 - 1))).f2) > ((rd_T108 x151000 x3).f2) then (some false) else (spec_IsValidMailbox.l0 k (wrap64 (x3 + 1)) x151000)) else (none)) else (none)) else (spec_IsValidMailbox.l0 k (wrap64 (x3 + 1)) x151000)) else (some false))) else (some false))) else (some false))) else (none)) else (some (decide ((x151000.length : Int) ≤ 30)))
def spec_IsValidMailbox.f (k : Nat) (l0_0 : List (S108)) : Option (Bool) := spec_IsValidMailbox.l0 k 0 l0_0
theorem spec_IsValidMailbox.mono_l : ∀ k, (∀ y0 y1, LeO (spec_IsValidMailbox.l0 k y0 y1) (spec_IsValidMailbox.l0 (k + 1) y0 y1))
 | 0 => fun _ _ r h => by simp [spec_IsValidMailbox.l0] at h
 | k + 1 => by
  have ih0 := spec_IsValidMailbox.mono_l k
  ·intro y0 y1
   unfold spec_IsValidMailbox.l0
   repeat' first
   | (with_reducible exact ih0 _ _)
   | (with_reducible exact LeO.refl _)
   | (with_reducible exact LeO.none _)
   | (with_reducible refine LeO.ite ?_ ?_)
   | (with_reducible refine LeO.bind ?_ (fun _ => ?_))
   | exact ih0 _ _
   | exact LeO.none _
   | refine LeO.ite ?_ ?_
   | refine LeO.bind ?_ (fun _ => ?_)
theorem spec_IsValidMailbox.mono : ∀ a0 k, LeO (spec_IsValidMailbox.f k a0) (spec_IsValidMailbox.f (k + 1) a0) := by
 intro a0 k
 have ih0 := spec_IsValidMailbox.mono_l k
 unfold spec_IsValidMailbox.f
 repeat' first
   | (with_reducible exact ih0 _ _)
   | (with_reducible exact LeO.refl _)
   | (with_reducible exact LeO.none _)
   | (with_reducible refine LeO.ite ?_ ?_)
   | (with_reducible refine LeO.bind ?_ (fun _ => ?_))
   | exact ih0 _ _
   | exact LeO.none _
   | refine LeO.ite ?_ ?_
   | refine LeO.bind ?_ (fun _ => ?_)
set_option maxHeartbeats 8000000 in
set_option maxRecDepth 100000 in
theorem spec_IsValidMailbox.calls (k : Nat) (A0_0 : Option Addr) (c0_0 : Nat) (l0_0 : List (S108)) (r : Bool) (w : World) (hr0_0 : Kd.C k108 w A0_0 l0_0.length l0_0) (hc0_0 : l0_0.length ≤ c0_0) (h : spec_IsValidMailbox.f k l0_0 = some r) :
  Calls Try.prog 102 #[.agg #[.slice A0_0 l0_0.length c0_0]] w fun e w' => e = .returned (.bool r) ∧ Below w.heap.size w w' := by
 have hu65 := Try.underlying65
 have hu108 := Try.underlying108
 have HR0_0 := Aside0.mk hr0_0
 have HC0_0 := Aside0.mk hc0_0
 clear hr0_0 hc0_0
 have HB := Aside0.mk (Below.refl w.heap.size w)
 have H : (spec_IsValidMailbox.l0 k 0 l0_0) = some r := h
 clear h
 have H' := Aside0.mk H
 clear H
 go_enter Try.func102, Try.ntmps102
 go_wp2_with (first | ((with_reducible refine gate_dst (N := 1) rfl ?_); refine box_event ?hg (N := 1) ?hd (cs := #[.slice A0_0 l0_0.length c0_0]) (t := 65) ?hr ?_; (case hd => rfl); (case hg => rfl); (case hr => exact tG); intro gb150 hg w2 hbox hb; have BK150 := Aside0.mk (hbox); have GW150 := gW HB hg; have GE150 := gW HB hg; replace HB := bH HB hb; clear hb hbox hg))
 repeat (go_quiet (first | ((with_reducible refine gate_dst (N := 1) rfl ?_); refine box_event ?hg (N := 1) ?hd (cs := #[.slice A0_0 l0_0.length c0_0]) (t := 65) ?hr ?_; (case hd => rfl); (case hg => rfl); (case hr => exact tG); intro gb150 hg w2 hbox hb; have BK150 := Aside0.mk (hbox); have GW150 := gW HB hg; have GE150 := gW HB hg; replace HB := bH HB hb; clear hb hbox hg)); try go_wp2_with (first | ((with_reducible refine gate_dst (N := 1) rfl ?_); refine box_event ?hg (N := 1) ?hd (cs := #[.slice A0_0 l0_0.length c0_0]) (t := 65) ?hr ?_; (case hd => rfl); (case hg => rfl); (case hr => exact tG); intro gb150 hg w2 hbox hb; have BK150 := Aside0.mk (hbox); have GW150 := gW HB hg; have GE150 := gW HB hg; replace HB := bH HB hb; clear hb hbox hg)))
 go_loopg [3] k (fun kq v3 w' => ∃ (x3_1 : Int), v3 = .int .i64 x3_1 ∧ Aside0 (spec_IsValidMailbox.l0 kq x3_1 l0_0 = some r) ∧ Aside0 (kq ≤ k) ∧ Aside0 (w'.heap[gb150]? = some (.cells #[(.slice A0_0 l0_0.length c0_0)] 65 (0, 0))) ∧ Aside0 (Below w.heap.size w w'))
 case atStart => exact ⟨(0), tS, H', ⟨Nat.le_refl _⟩, ⟨tK BK150⟩, ⟨tB⟩⟩
 case round =>
  clear H'
  try clear c1
  try clear p2
  obtain ⟨x3_1, rfl, HA, HK1, BK150, HB⟩ := hrel
  cases gk with
  | zero => exact absurd HA.out (by simp [spec_IsValidMailbox.l0])
  | succ k1 =>
   have H := HA.out
   clear HA
   simp only [spec_IsValidMailbox.l0] at H
   by_cases c3 : x3_1 < (l0_0.length : Int)
   ·rw [if_pos c3] at H
    have c3b0 : decide (x3_1 < (l0_0.length : Int)) = true := decide_eq_true c3
    clear c3
    by_cases c4 : 0 ≤ x3_1
    ·rw [if_pos c4] at H
     have c4b0 : decide (0 ≤ x3_1) = true := decide_eq_true c4
     clear c4
     replace H := Option.bind_eq_some_iff.mp H
     obtain ⟨t153, A50, H⟩ := H
     try dsimp only at H
     have A5 := Aside0.mk A50
     clear A50
     by_cases c6 : t153 = true
     ·subst c6
      have H1 : ((spec_l1In.f ((rd_T108 l0_0 x3_1).f1) 0 1000000).bind fun t154 => (if t154 = true then ((spec_l1In.f ((rd_T108 l0_0 x3_1).f2) 0 1000000).bind fun t155 => (if t155 = true then (if x3_1 > 0 then (if 0 ≤ (wrap64 (x3_1 - 1)) then (if (wrap64 (x3_1 - 1)) < (l0_0.length : Int) then (if ((rd_T108 l0_0 (wrap64 (x3_1 - 1))).f2) > ((rd_T108 l0_0 x3_1).f2) then (some false) else (spec_IsValidMailbox.l0 k1 (wrap64 (x3_1 + 1)) l0_0)) else (none)) else (none)) else (spec_IsValidMailbox.l0 k1 (wrap64 (x3_1 + 1)) l0_0)) else (some false))) else (some false))) = some r := by rw [if_pos rfl] at H; exact H
      clear H
      have H := H1
      clear H1
      replace H := Option.bind_eq_some_iff.mp H
      obtain ⟨t154, A70, H⟩ := H
      try dsimp only at H
      have A7 := Aside0.mk A70
      clear A70
      by_cases c8 : t154 = true
      ·subst c8
       have H1 : ((spec_l1In.f ((rd_T108 l0_0 x3_1).f2) 0 1000000).bind fun t155 => (if t155 = true then (if x3_1 > 0 then (if 0 ≤ (wrap64 (x3_1 - 1)) then (if (wrap64 (x3_1 - 1)) < (l0_0.length : Int) then (if ((rd_T108 l0_0 (wrap64 (x3_1 - 1))).f2) > ((rd_T108 l0_0 x3_1).f2) then (some false) else (spec_IsValidMailbox.l0 k1 (wrap64 (x3_1 + 1)) l0_0)) else (none)) else (none)) else (spec_IsValidMailbox.l0 k1 (wrap64 (x3_1 + 1)) l0_0)) else (some false))) = some r := by rw [if_pos rfl] at H; exact H
       clear H
       have H := H1
       clear H1
       replace H := Option.bind_eq_some_iff.mp H
       obtain ⟨t155, A90, H⟩ := H
       try dsimp only at H
       have A9 := Aside0.mk A90
       clear A90
       by_cases c10 : t155 = true
       ·subst c10
        have H1 : (if x3_1 > 0 then (if 0 ≤ (wrap64 (x3_1 - 1)) then (if (wrap64 (x3_1 - 1)) < (l0_0.length : Int) then (if ((rd_T108 l0_0 (wrap64 (x3_1 - 1))).f2) > ((rd_T108 l0_0 x3_1).f2) then (some false) else (spec_IsValidMailbox.l0 k1 (wrap64 (x3_1 + 1)) l0_0)) else (none)) else (none)) else (spec_IsValidMailbox.l0 k1 (wrap64 (x3_1 + 1)) l0_0)) = some r := by rw [if_pos rfl] at H; exact H
        clear H
        have H := H1
        clear H1
        by_cases c11 : x3_1 > 0
        ·rw [if_pos c11] at H
         have c11b0 : decide (0 < x3_1) = true := decide_eq_true c11
         clear c11
         obtain ⟨ji12, hji12⟩ : ∃ j_ : Int, (wrap64 (x3_1 - 1)) = j_ := ⟨_, rfl⟩
         replace H : (if 0 ≤ (ji12) then (if (ji12) < (l0_0.length : Int) then (if ((rd_T108 l0_0 (ji12)).f2) > ((rd_T108 l0_0 x3_1).f2) then (some false) else (spec_IsValidMailbox.l0 k1 (wrap64 (x3_1 + 1)) l0_0)) else (none)) else (none)) = some r := by first | (rw [hji12] at H; exact H) | (simp only [hji12] at H ⊢; exact H)
         (try rw [hji12] at A5)
         (try rw [hji12] at A7)
         (try rw [hji12] at A9)
         have hji12w : (IntKind.i64.wrap (x3_1 - 1)) = ji12 := (i64_w _).trans hji12
         by_cases c13 : 0 ≤ (ji12)
         ·rw [if_pos c13] at H
          have c13b0 : decide (0 ≤ (ji12)) = true := decide_eq_true c13
          clear c13
          by_cases c14 : (ji12) < (l0_0.length : Int)
          ·rw [if_pos c14] at H
           have c14b0 : decide ((ji12) < (l0_0.length : Int)) = true := decide_eq_true c14
           clear c14
           by_cases c15 : ((rd_T108 l0_0 (ji12)).f2) > ((rd_T108 l0_0 x3_1).f2)
           ·rw [if_pos c15] at H
            have c15b0 : decide (((rd_T108 l0_0 x3_1).f2) < ((rd_T108 l0_0 (ji12)).f2)) = true := decide_eq_true c15
            clear c15
            obtain rfl := Option.some.inj H
            obtain ⟨hcz16_0, hfz16_0⟩ := bc1 BK150.out
            have p151 : 0 ≤ (x3_1 : Int) := of_decide_eq_true tA
            have q151 : x3_1 < (l0_0.length : Int) := of_decide_eq_true tA
            obtain ⟨ad151, e151, hx151_0, hx151_1, hx151_2, hx151_3⟩ := at_T108 HR0_0.out x3_1 p151 q151
            cases e151
            replace hx151_0 := hbc HB hx151_0
            replace hx151_1 := hbc HB hx151_1
            replace hx151_2 := hbc HB hx151_2
            replace hx151_3 := hbc HB hx151_3
            replace p151 := eq_true p151
            replace q151 := eq_true q151
            go_wp2_with (first | ((with_reducible refine gate_dst (N := 4) rfl ?_); refine box_event ?hg (N := 4) ?hd (cs := #[.int .i64 0, .int .i64 0, .int .i64 0, .bool false]) (t := 108) ?hr ?_; (case hd => rfl); (case hg => rfl); (case hr => exact tG); intro gb152 hg w17 hbox hb; have BK152 := Aside0.mk (hbox); have GW152 := gW HB hg; have GE152 := gW HB hg; replace HB := bH HB hb; have NB150_152 := nL BK150 hg; have NB152_150 := nR BK150 hg; replace BK150 := bB BK150 hb; clear hb hbox hg; have hnb18 := NB152_150.out; have hnc18 := NB150_152.out; obtain ⟨hcz19_0, hcz19_1, hcz19_2, hcz19_3, hfz19_0, hfz19_1, hfz19_2, hfz19_3⟩ := bc4 BK152.out) | (go_at_call 86; (with_reducible refine (spec_l1In.calls ((rd_T108 l0_0 x3_1).f0) 1 5 true _ A5.out).mono ?_); rintro e w' ⟨rfl, ⟨nd, rfl⟩⟩; (try exact tQ)) | (go_at_call 86; (with_reducible refine (spec_l1In.calls ((rd_T108 l0_0 x3_1).f1) 0 1000000 true _ A7.out).mono ?_); rintro e w' ⟨rfl, ⟨nd, rfl⟩⟩; (try exact tQ)) | (go_at_call 86; (with_reducible refine (spec_l1In.calls ((rd_T108 l0_0 x3_1).f2) 0 1000000 true _ A9.out).mono ?_); rintro e w' ⟨rfl, ⟨nd, rfl⟩⟩; (try exact tQ)))
            obtain ⟨hcz20_0, hfz20_0⟩ := bc1 BK150.out
            have p156 : 0 ≤ ((ji12) : Int) := of_decide_eq_true tA
            have q156 : (ji12) < (l0_0.length : Int) := of_decide_eq_true tA
            obtain ⟨ad156, e156, hx156_0, hx156_1, hx156_2, hx156_3⟩ := at_T108 HR0_0.out (ji12) p156 q156
            obtain rfl : ad151 = ad156 := (by injection e156)
            have hn156_0 : ad151.block ≠ gb152 := Nat.ne_of_lt (Nat.lt_of_lt_of_le (by have := World.block_lt_of_cell? _ _ hx156_0; first | rwa [add_block] at this | exact this) GW152.out)
            have hn156_1 : ad151.block ≠ gb152 := Nat.ne_of_lt (Nat.lt_of_lt_of_le (by have := World.block_lt_of_cell? _ _ hx156_0; first | rwa [add_block] at this | exact this) GW152.out)
            have hn156_2 : ad151.block ≠ gb152 := Nat.ne_of_lt (Nat.lt_of_lt_of_le (by have := World.block_lt_of_cell? _ _ hx156_0; first | rwa [add_block] at this | exact this) GW152.out)
            have hn156_3 : ad151.block ≠ gb152 := Nat.ne_of_lt (Nat.lt_of_lt_of_le (by have := World.block_lt_of_cell? _ _ hx156_0; first | rwa [add_block] at this | exact this) GW152.out)
            replace hx156_0 := hbc HB hx156_0
            replace hx156_1 := hbc HB hx156_1
            replace hx156_2 := hbc HB hx156_2
            replace hx156_3 := hbc HB hx156_3
            have F_ := @far4 gb152 (.int .i64 ((rd_T108 l0_0 x3_1).f0)) (.int .i64 ((rd_T108 l0_0 x3_1).f1)) (.int .i64 ((rd_T108 l0_0 x3_1).f2)) (.bool ((rd_T108 l0_0 x3_1).f3))
            replace hx156_0 := (F_ tF).trans hx156_0
            replace hx156_1 := (F_ tF).trans hx156_1
            replace hx156_2 := (F_ tF).trans hx156_2
            replace hx156_3 := (F_ tF).trans hx156_3
            clear F_
            clear hn156_0
            clear hn156_1
            clear hn156_2
            clear hn156_3
            replace p156 := eq_true p156
            replace q156 := eq_true q156
            repeat (go_quiet (first | ((with_reducible refine gate_dst (N := 4) rfl ?_); refine box_event ?hg (N := 4) ?hd (cs := #[.int .i64 0, .int .i64 0, .int .i64 0, .bool false]) (t := 108) ?hr ?_; (case hd => rfl); (case hg => rfl); (case hr => exact tG); intro gb152 hg w17 hbox hb; have BK152 := Aside0.mk (hbox); have GW152 := gW HB hg; have GE152 := gW HB hg; replace HB := bH HB hb; have NB150_152 := nL BK150 hg; have NB152_150 := nR BK150 hg; replace BK150 := bB BK150 hb; clear hb hbox hg; have hnb18 := NB152_150.out; have hnc18 := NB150_152.out; obtain ⟨hcz19_0, hcz19_1, hcz19_2, hcz19_3, hfz19_0, hfz19_1, hfz19_2, hfz19_3⟩ := bc4 BK152.out) | (go_at_call 86; (with_reducible refine (spec_l1In.calls ((rd_T108 l0_0 x3_1).f0) 1 5 true _ A5.out).mono ?_); rintro e w' ⟨rfl, ⟨nd, rfl⟩⟩; (try exact tQ)) | (go_at_call 86; (with_reducible refine (spec_l1In.calls ((rd_T108 l0_0 x3_1).f1) 0 1000000 true _ A7.out).mono ?_); rintro e w' ⟨rfl, ⟨nd, rfl⟩⟩; (try exact tQ)) | (go_at_call 86; (with_reducible refine (spec_l1In.calls ((rd_T108 l0_0 x3_1).f2) 0 1000000 true _ A9.out).mono ?_); rintro e w' ⟨rfl, ⟨nd, rfl⟩⟩; (try exact tQ))); try go_wp2_with (first | ((with_reducible refine gate_dst (N := 4) rfl ?_); refine box_event ?hg (N := 4) ?hd (cs := #[.int .i64 0, .int .i64 0, .int .i64 0, .bool false]) (t := 108) ?hr ?_; (case hd => rfl); (case hg => rfl); (case hr => exact tG); intro gb152 hg w17 hbox hb; have BK152 := Aside0.mk (hbox); have GW152 := gW HB hg; have GE152 := gW HB hg; replace HB := bH HB hb; have NB150_152 := nL BK150 hg; have NB152_150 := nR BK150 hg; replace BK150 := bB BK150 hb; clear hb hbox hg; have hnb18 := NB152_150.out; have hnc18 := NB150_152.out; obtain ⟨hcz19_0, hcz19_1, hcz19_2, hcz19_3, hfz19_0, hfz19_1, hfz19_2, hfz19_3⟩ := bc4 BK152.out) | (go_at_call 86; (with_reducible refine (spec_l1In.calls ((rd_T108 l0_0 x3_1).f0) 1 5 true _ A5.out).mono ?_); rintro e w' ⟨rfl, ⟨nd, rfl⟩⟩; (try exact tQ)) | (go_at_call 86; (with_reducible refine (spec_l1In.calls ((rd_T108 l0_0 x3_1).f1) 0 1000000 true _ A7.out).mono ?_); rintro e w' ⟨rfl, ⟨nd, rfl⟩⟩; (try exact tQ)) | (go_at_call 86; (with_reducible refine (spec_l1In.calls ((rd_T108 l0_0 x3_1).f2) 0 1000000 true _ A9.out).mono ?_); rintro e w' ⟨rfl, ⟨nd, rfl⟩⟩; (try exact tQ))))
            go_ret
            exact ⟨by first | rfl | (simp [errW_none, errW_some] <;> rfl) | (simp only [← hji12]; first | rfl | (simp [errW_none, errW_some] <;> rfl)) | (simp [*, errW_none, errW_some] <;> rfl), tB⟩
           rw [if_neg c15] at H
           have c15b0 : decide (((rd_T108 l0_0 x3_1).f2) < ((rd_T108 l0_0 (ji12)).f2)) = false := decide_eq_false c15
           clear c15
           have H' := Aside0.mk H
           clear H
           obtain ⟨hcz21_0, hfz21_0⟩ := bc1 BK150.out
           have p151 : 0 ≤ (x3_1 : Int) := of_decide_eq_true tA
           have q151 : x3_1 < (l0_0.length : Int) := of_decide_eq_true tA
           obtain ⟨ad151, e151, hx151_0, hx151_1, hx151_2, hx151_3⟩ := at_T108 HR0_0.out x3_1 p151 q151
           cases e151
           replace hx151_0 := hbc HB hx151_0
           replace hx151_1 := hbc HB hx151_1
           replace hx151_2 := hbc HB hx151_2
           replace hx151_3 := hbc HB hx151_3
           replace p151 := eq_true p151
           replace q151 := eq_true q151
           go_wp2_with (first | ((with_reducible refine gate_dst (N := 4) rfl ?_); refine box_event ?hg (N := 4) ?hd (cs := #[.int .i64 0, .int .i64 0, .int .i64 0, .bool false]) (t := 108) ?hr ?_; (case hd => rfl); (case hg => rfl); (case hr => exact tG); intro gb152 hg w22 hbox hb; have BK152 := Aside0.mk (hbox); have GW152 := gW HB hg; have GE152 := gW HB hg; replace HB := bH HB hb; have NB150_152 := nL BK150 hg; have NB152_150 := nR BK150 hg; replace BK150 := bB BK150 hb; clear hb hbox hg; have hnb23 := NB152_150.out; have hnc23 := NB150_152.out; obtain ⟨hcz24_0, hcz24_1, hcz24_2, hcz24_3, hfz24_0, hfz24_1, hfz24_2, hfz24_3⟩ := bc4 BK152.out) | (go_at_call 86; (with_reducible refine (spec_l1In.calls ((rd_T108 l0_0 x3_1).f0) 1 5 true _ A5.out).mono ?_); rintro e w' ⟨rfl, ⟨nd, rfl⟩⟩; (try exact tQ)) | (go_at_call 86; (with_reducible refine (spec_l1In.calls ((rd_T108 l0_0 x3_1).f1) 0 1000000 true _ A7.out).mono ?_); rintro e w' ⟨rfl, ⟨nd, rfl⟩⟩; (try exact tQ)) | (go_at_call 86; (with_reducible refine (spec_l1In.calls ((rd_T108 l0_0 x3_1).f2) 0 1000000 true _ A9.out).mono ?_); rintro e w' ⟨rfl, ⟨nd, rfl⟩⟩; (try exact tQ)))
           obtain ⟨hcz25_0, hfz25_0⟩ := bc1 BK150.out
           have p156 : 0 ≤ ((ji12) : Int) := of_decide_eq_true tA
           have q156 : (ji12) < (l0_0.length : Int) := of_decide_eq_true tA
           obtain ⟨ad156, e156, hx156_0, hx156_1, hx156_2, hx156_3⟩ := at_T108 HR0_0.out (ji12) p156 q156
           obtain rfl : ad151 = ad156 := (by injection e156)
           have hn156_0 : ad151.block ≠ gb152 := Nat.ne_of_lt (Nat.lt_of_lt_of_le (by have := World.block_lt_of_cell? _ _ hx156_0; first | rwa [add_block] at this | exact this) GW152.out)
           have hn156_1 : ad151.block ≠ gb152 := Nat.ne_of_lt (Nat.lt_of_lt_of_le (by have := World.block_lt_of_cell? _ _ hx156_0; first | rwa [add_block] at this | exact this) GW152.out)
           have hn156_2 : ad151.block ≠ gb152 := Nat.ne_of_lt (Nat.lt_of_lt_of_le (by have := World.block_lt_of_cell? _ _ hx156_0; first | rwa [add_block] at this | exact this) GW152.out)
           have hn156_3 : ad151.block ≠ gb152 := Nat.ne_of_lt (Nat.lt_of_lt_of_le (by have := World.block_lt_of_cell? _ _ hx156_0; first | rwa [add_block] at this | exact this) GW152.out)
           replace hx156_0 := hbc HB hx156_0
           replace hx156_1 := hbc HB hx156_1
           replace hx156_2 := hbc HB hx156_2
           replace hx156_3 := hbc HB hx156_3
           have F_ := @far4 gb152 (.int .i64 ((rd_T108 l0_0 x3_1).f0)) (.int .i64 ((rd_T108 l0_0 x3_1).f1)) (.int .i64 ((rd_T108 l0_0 x3_1).f2)) (.bool ((rd_T108 l0_0 x3_1).f3))
           replace hx156_0 := (F_ tF).trans hx156_0
           replace hx156_1 := (F_ tF).trans hx156_1
           replace hx156_2 := (F_ tF).trans hx156_2
           replace hx156_3 := (F_ tF).trans hx156_3
           clear F_
           clear hn156_0
           clear hn156_1
           clear hn156_2
           clear hn156_3
           replace p156 := eq_true p156
           replace q156 := eq_true q156
           repeat (go_quiet (first | ((with_reducible refine gate_dst (N := 4) rfl ?_); refine box_event ?hg (N := 4) ?hd (cs := #[.int .i64 0, .int .i64 0, .int .i64 0, .bool false]) (t := 108) ?hr ?_; (case hd => rfl); (case hg => rfl); (case hr => exact tG); intro gb152 hg w22 hbox hb; have BK152 := Aside0.mk (hbox); have GW152 := gW HB hg; have GE152 := gW HB hg; replace HB := bH HB hb; have NB150_152 := nL BK150 hg; have NB152_150 := nR BK150 hg; replace BK150 := bB BK150 hb; clear hb hbox hg; have hnb23 := NB152_150.out; have hnc23 := NB150_152.out; obtain ⟨hcz24_0, hcz24_1, hcz24_2, hcz24_3, hfz24_0, hfz24_1, hfz24_2, hfz24_3⟩ := bc4 BK152.out) | (go_at_call 86; (with_reducible refine (spec_l1In.calls ((rd_T108 l0_0 x3_1).f0) 1 5 true _ A5.out).mono ?_); rintro e w' ⟨rfl, ⟨nd, rfl⟩⟩; (try exact tQ)) | (go_at_call 86; (with_reducible refine (spec_l1In.calls ((rd_T108 l0_0 x3_1).f1) 0 1000000 true _ A7.out).mono ?_); rintro e w' ⟨rfl, ⟨nd, rfl⟩⟩; (try exact tQ)) | (go_at_call 86; (with_reducible refine (spec_l1In.calls ((rd_T108 l0_0 x3_1).f2) 0 1000000 true _ A9.out).mono ?_); rintro e w' ⟨rfl, ⟨nd, rfl⟩⟩; (try exact tQ))); try go_wp2_with (first | ((with_reducible refine gate_dst (N := 4) rfl ?_); refine box_event ?hg (N := 4) ?hd (cs := #[.int .i64 0, .int .i64 0, .int .i64 0, .bool false]) (t := 108) ?hr ?_; (case hd => rfl); (case hg => rfl); (case hr => exact tG); intro gb152 hg w22 hbox hb; have BK152 := Aside0.mk (hbox); have GW152 := gW HB hg; have GE152 := gW HB hg; replace HB := bH HB hb; have NB150_152 := nL BK150 hg; have NB152_150 := nR BK150 hg; replace BK150 := bB BK150 hb; clear hb hbox hg; have hnb23 := NB152_150.out; have hnc23 := NB150_152.out; obtain ⟨hcz24_0, hcz24_1, hcz24_2, hcz24_3, hfz24_0, hfz24_1, hfz24_2, hfz24_3⟩ := bc4 BK152.out) | (go_at_call 86; (with_reducible refine (spec_l1In.calls ((rd_T108 l0_0 x3_1).f0) 1 5 true _ A5.out).mono ?_); rintro e w' ⟨rfl, ⟨nd, rfl⟩⟩; (try exact tQ)) | (go_at_call 86; (with_reducible refine (spec_l1In.calls ((rd_T108 l0_0 x3_1).f1) 0 1000000 true _ A7.out).mono ?_); rintro e w' ⟨rfl, ⟨nd, rfl⟩⟩; (try exact tQ)) | (go_at_call 86; (with_reducible refine (spec_l1In.calls ((rd_T108 l0_0 x3_1).f2) 0 1000000 true _ A9.out).mono ?_); rintro e w' ⟨rfl, ⟨nd, rfl⟩⟩; (try exact tQ))))
           go_roundg k1
           case measure => have := HK1.out; omega
           case rel => exact ⟨(wrap64 (x3_1 + 1)), tS, H', ⟨tI⟩, ⟨kF NB150_152 BK150⟩, ⟨tB⟩⟩
          rw [if_neg c14] at H
          exact absurd H (by simp)
         rw [if_neg c13] at H
         exact absurd H (by simp)
        rw [if_neg c11] at H
        have c11b0 : decide (0 < x3_1) = false := decide_eq_false c11
        clear c11
        have H' := Aside0.mk H
        clear H
        obtain ⟨hcz26_0, hfz26_0⟩ := bc1 BK150.out
        have p151 : 0 ≤ (x3_1 : Int) := of_decide_eq_true tA
        have q151 : x3_1 < (l0_0.length : Int) := of_decide_eq_true tA
        obtain ⟨ad151, e151, hx151_0, hx151_1, hx151_2, hx151_3⟩ := at_T108 HR0_0.out x3_1 p151 q151
        cases e151
        replace hx151_0 := hbc HB hx151_0
        replace hx151_1 := hbc HB hx151_1
        replace hx151_2 := hbc HB hx151_2
        replace hx151_3 := hbc HB hx151_3
        replace p151 := eq_true p151
        replace q151 := eq_true q151
        go_wp2_with (first | ((with_reducible refine gate_dst (N := 4) rfl ?_); refine box_event ?hg (N := 4) ?hd (cs := #[.int .i64 0, .int .i64 0, .int .i64 0, .bool false]) (t := 108) ?hr ?_; (case hd => rfl); (case hg => rfl); (case hr => exact tG); intro gb152 hg w27 hbox hb; have BK152 := Aside0.mk (hbox); have GW152 := gW HB hg; have GE152 := gW HB hg; replace HB := bH HB hb; have NB150_152 := nL BK150 hg; have NB152_150 := nR BK150 hg; replace BK150 := bB BK150 hb; clear hb hbox hg; have hnb28 := NB152_150.out; have hnc28 := NB150_152.out; obtain ⟨hcz29_0, hcz29_1, hcz29_2, hcz29_3, hfz29_0, hfz29_1, hfz29_2, hfz29_3⟩ := bc4 BK152.out) | (go_at_call 86; (with_reducible refine (spec_l1In.calls ((rd_T108 l0_0 x3_1).f0) 1 5 true _ A5.out).mono ?_); rintro e w' ⟨rfl, ⟨nd, rfl⟩⟩; (try exact tQ)) | (go_at_call 86; (with_reducible refine (spec_l1In.calls ((rd_T108 l0_0 x3_1).f1) 0 1000000 true _ A7.out).mono ?_); rintro e w' ⟨rfl, ⟨nd, rfl⟩⟩; (try exact tQ)) | (go_at_call 86; (with_reducible refine (spec_l1In.calls ((rd_T108 l0_0 x3_1).f2) 0 1000000 true _ A9.out).mono ?_); rintro e w' ⟨rfl, ⟨nd, rfl⟩⟩; (try exact tQ)))
        repeat (go_quiet (first | ((with_reducible refine gate_dst (N := 4) rfl ?_); refine box_event ?hg (N := 4) ?hd (cs := #[.int .i64 0, .int .i64 0, .int .i64 0, .bool false]) (t := 108) ?hr ?_; (case hd => rfl); (case hg => rfl); (case hr => exact tG); intro gb152 hg w27 hbox hb; have BK152 := Aside0.mk (hbox); have GW152 := gW HB hg; have GE152 := gW HB hg; replace HB := bH HB hb; have NB150_152 := nL BK150 hg; have NB152_150 := nR BK150 hg; replace BK150 := bB BK150 hb; clear hb hbox hg; have hnb28 := NB152_150.out; have hnc28 := NB150_152.out; obtain ⟨hcz29_0, hcz29_1, hcz29_2, hcz29_3, hfz29_0, hfz29_1, hfz29_2, hfz29_3⟩ := bc4 BK152.out) | (go_at_call 86; (with_reducible refine (spec_l1In.calls ((rd_T108 l0_0 x3_1).f0) 1 5 true _ A5.out).mono ?_); rintro e w' ⟨rfl, ⟨nd, rfl⟩⟩; (try exact tQ)) | (go_at_call 86; (with_reducible refine (spec_l1In.calls ((rd_T108 l0_0 x3_1).f1) 0 1000000 true _ A7.out).mono ?_); rintro e w' ⟨rfl, ⟨nd, rfl⟩⟩; (try exact tQ)) | (go_at_call 86; (with_reducible refine (spec_l1In.calls ((rd_T108 l0_0 x3_1).f2) 0 1000000 true _ A9.out).mono ?_); rintro e w' ⟨rfl, ⟨nd, rfl⟩⟩; (try exact tQ))); try go_wp2_with (first | ((with_reducible refine gate_dst (N := 4) rfl ?_); refine box_event ?hg (N := 4) ?hd (cs := #[.int .i64 0, .int .i64 0, .int .i64 0, .bool false]) (t := 108) ?hr ?_; (case hd => rfl); (case hg => rfl); (case hr => exact tG); intro gb152 hg w27 hbox hb; have BK152 := Aside0.mk (hbox); have GW152 := gW HB hg; have GE152 := gW HB hg; replace HB := bH HB hb; have NB150_152 := nL BK150 hg; have NB152_150 := nR BK150 hg; replace BK150 := bB BK150 hb; clear hb hbox hg; have hnb28 := NB152_150.out; have hnc28 := NB150_152.out; obtain ⟨hcz29_0, hcz29_1, hcz29_2, hcz29_3, hfz29_0, hfz29_1, hfz29_2, hfz29_3⟩ := bc4 BK152.out) | (go_at_call 86; (with_reducible refine (spec_l1In.calls ((rd_T108 l0_0 x3_1).f0) 1 5 true _ A5.out).mono ?_); rintro e w' ⟨rfl, ⟨nd, rfl⟩⟩; (try exact tQ)) | (go_at_call 86; (with_reducible refine (spec_l1In.calls ((rd_T108 l0_0 x3_1).f1) 0 1000000 true _ A7.out).mono ?_); rintro e w' ⟨rfl, ⟨nd, rfl⟩⟩; (try exact tQ)) | (go_at_call 86; (with_reducible refine (spec_l1In.calls ((rd_T108 l0_0 x3_1).f2) 0 1000000 true _ A9.out).mono ?_); rintro e w' ⟨rfl, ⟨nd, rfl⟩⟩; (try exact tQ))))
        go_roundg k1
        case measure => have := HK1.out; omega
        case rel => exact ⟨(wrap64 (x3_1 + 1)), tS, H', ⟨tI⟩, ⟨kF NB150_152 BK150⟩, ⟨tB⟩⟩
       replace c10 := Bool.eq_false_iff.mpr c10
       subst c10
       have H1 : (some false) = some r := by rw [if_neg (show ¬ (false = true) by decide)] at H; exact H
       clear H
       have H := H1
       clear H1
       obtain rfl := Option.some.inj H
       obtain ⟨hcz30_0, hfz30_0⟩ := bc1 BK150.out
       have p151 : 0 ≤ (x3_1 : Int) := of_decide_eq_true tA
       have q151 : x3_1 < (l0_0.length : Int) := of_decide_eq_true tA
       obtain ⟨ad151, e151, hx151_0, hx151_1, hx151_2, hx151_3⟩ := at_T108 HR0_0.out x3_1 p151 q151
       cases e151
       replace hx151_0 := hbc HB hx151_0
       replace hx151_1 := hbc HB hx151_1
       replace hx151_2 := hbc HB hx151_2
       replace hx151_3 := hbc HB hx151_3
       replace p151 := eq_true p151
       replace q151 := eq_true q151
       go_wp2_with (first | ((with_reducible refine gate_dst (N := 4) rfl ?_); refine box_event ?hg (N := 4) ?hd (cs := #[.int .i64 0, .int .i64 0, .int .i64 0, .bool false]) (t := 108) ?hr ?_; (case hd => rfl); (case hg => rfl); (case hr => exact tG); intro gb152 hg w31 hbox hb; have BK152 := Aside0.mk (hbox); have GW152 := gW HB hg; have GE152 := gW HB hg; replace HB := bH HB hb; have NB150_152 := nL BK150 hg; have NB152_150 := nR BK150 hg; replace BK150 := bB BK150 hb; clear hb hbox hg; have hnb32 := NB152_150.out; have hnc32 := NB150_152.out; obtain ⟨hcz33_0, hcz33_1, hcz33_2, hcz33_3, hfz33_0, hfz33_1, hfz33_2, hfz33_3⟩ := bc4 BK152.out) | (go_at_call 86; (with_reducible refine (spec_l1In.calls ((rd_T108 l0_0 x3_1).f0) 1 5 true _ A5.out).mono ?_); rintro e w' ⟨rfl, ⟨nd, rfl⟩⟩; (try exact tQ)) | (go_at_call 86; (with_reducible refine (spec_l1In.calls ((rd_T108 l0_0 x3_1).f1) 0 1000000 true _ A7.out).mono ?_); rintro e w' ⟨rfl, ⟨nd, rfl⟩⟩; (try exact tQ)) | (go_at_call 86; (with_reducible refine (spec_l1In.calls ((rd_T108 l0_0 x3_1).f2) 0 1000000 false _ A9.out).mono ?_); rintro e w' ⟨rfl, ⟨nd, rfl⟩⟩; (try exact tQ)))
       repeat (go_quiet (first | ((with_reducible refine gate_dst (N := 4) rfl ?_); refine box_event ?hg (N := 4) ?hd (cs := #[.int .i64 0, .int .i64 0, .int .i64 0, .bool false]) (t := 108) ?hr ?_; (case hd => rfl); (case hg => rfl); (case hr => exact tG); intro gb152 hg w31 hbox hb; have BK152 := Aside0.mk (hbox); have GW152 := gW HB hg; have GE152 := gW HB hg; replace HB := bH HB hb; have NB150_152 := nL BK150 hg; have NB152_150 := nR BK150 hg; replace BK150 := bB BK150 hb; clear hb hbox hg; have hnb32 := NB152_150.out; have hnc32 := NB150_152.out; obtain ⟨hcz33_0, hcz33_1, hcz33_2, hcz33_3, hfz33_0, hfz33_1, hfz33_2, hfz33_3⟩ := bc4 BK152.out) | (go_at_call 86; (with_reducible refine (spec_l1In.calls ((rd_T108 l0_0 x3_1).f0) 1 5 true _ A5.out).mono ?_); rintro e w' ⟨rfl, ⟨nd, rfl⟩⟩; (try exact tQ)) | (go_at_call 86; (with_reducible refine (spec_l1In.calls ((rd_T108 l0_0 x3_1).f1) 0 1000000 true _ A7.out).mono ?_); rintro e w' ⟨rfl, ⟨nd, rfl⟩⟩; (try exact tQ)) | (go_at_call 86; (with_reducible refine (spec_l1In.calls ((rd_T108 l0_0 x3_1).f2) 0 1000000 false _ A9.out).mono ?_); rintro e w' ⟨rfl, ⟨nd, rfl⟩⟩; (try exact tQ))); try go_wp2_with (first | ((with_reducible refine gate_dst (N := 4) rfl ?_); refine box_event ?hg (N := 4) ?hd (cs := #[.int .i64 0, .int .i64 0, .int .i64 0, .bool false]) (t := 108) ?hr ?_; (case hd => rfl); (case hg => rfl); (case hr => exact tG); intro gb152 hg w31 hbox hb; have BK152 := Aside0.mk (hbox); have GW152 := gW HB hg; have GE152 := gW HB hg; replace HB := bH HB hb; have NB150_152 := nL BK150 hg; have NB152_150 := nR BK150 hg; replace BK150 := bB BK150 hb; clear hb hbox hg; have hnb32 := NB152_150.out; have hnc32 := NB150_152.out; obtain ⟨hcz33_0, hcz33_1, hcz33_2, hcz33_3, hfz33_0, hfz33_1, hfz33_2, hfz33_3⟩ := bc4 BK152.out) | (go_at_call 86; (with_reducible refine (spec_l1In.calls ((rd_T108 l0_0 x3_1).f0) 1 5 true _ A5.out).mono ?_); rintro e w' ⟨rfl, ⟨nd, rfl⟩⟩; (try exact tQ)) | (go_at_call 86; (with_reducible refine (spec_l1In.calls ((rd_T108 l0_0 x3_1).f1) 0 1000000 true _ A7.out).mono ?_); rintro e w' ⟨rfl, ⟨nd, rfl⟩⟩; (try exact tQ)) | (go_at_call 86; (with_reducible refine (spec_l1In.calls ((rd_T108 l0_0 x3_1).f2) 0 1000000 false _ A9.out).mono ?_); rintro e w' ⟨rfl, ⟨nd, rfl⟩⟩; (try exact tQ))))
       go_ret
       exact ⟨tE, tB⟩
      replace c8 := Bool.eq_false_iff.mpr c8
      subst c8
      have H1 : (some false) = some r := by rw [if_neg (show ¬ (false = true) by decide)] at H; exact H
      clear H
      have H := H1
      clear H1
      obtain rfl := Option.some.inj H
      obtain ⟨hcz34_0, hfz34_0⟩ := bc1 BK150.out
      have p151 : 0 ≤ (x3_1 : Int) := of_decide_eq_true tA
      have q151 : x3_1 < (l0_0.length : Int) := of_decide_eq_true tA
      obtain ⟨ad151, e151, hx151_0, hx151_1, hx151_2, hx151_3⟩ := at_T108 HR0_0.out x3_1 p151 q151
      cases e151
      replace hx151_0 := hbc HB hx151_0
      replace hx151_1 := hbc HB hx151_1
      replace hx151_2 := hbc HB hx151_2
      replace hx151_3 := hbc HB hx151_3
      replace p151 := eq_true p151
      replace q151 := eq_true q151
      go_wp2_with (first | ((with_reducible refine gate_dst (N := 4) rfl ?_); refine box_event ?hg (N := 4) ?hd (cs := #[.int .i64 0, .int .i64 0, .int .i64 0, .bool false]) (t := 108) ?hr ?_; (case hd => rfl); (case hg => rfl); (case hr => exact tG); intro gb152 hg w35 hbox hb; have BK152 := Aside0.mk (hbox); have GW152 := gW HB hg; have GE152 := gW HB hg; replace HB := bH HB hb; have NB150_152 := nL BK150 hg; have NB152_150 := nR BK150 hg; replace BK150 := bB BK150 hb; clear hb hbox hg; have hnb36 := NB152_150.out; have hnc36 := NB150_152.out; obtain ⟨hcz37_0, hcz37_1, hcz37_2, hcz37_3, hfz37_0, hfz37_1, hfz37_2, hfz37_3⟩ := bc4 BK152.out) | (go_at_call 86; (with_reducible refine (spec_l1In.calls ((rd_T108 l0_0 x3_1).f0) 1 5 true _ A5.out).mono ?_); rintro e w' ⟨rfl, ⟨nd, rfl⟩⟩; (try exact tQ)) | (go_at_call 86; (with_reducible refine (spec_l1In.calls ((rd_T108 l0_0 x3_1).f1) 0 1000000 false _ A7.out).mono ?_); rintro e w' ⟨rfl, ⟨nd, rfl⟩⟩; (try exact tQ)))
      repeat (go_quiet (first | ((with_reducible refine gate_dst (N := 4) rfl ?_); refine box_event ?hg (N := 4) ?hd (cs := #[.int .i64 0, .int .i64 0, .int .i64 0, .bool false]) (t := 108) ?hr ?_; (case hd => rfl); (case hg => rfl); (case hr => exact tG); intro gb152 hg w35 hbox hb; have BK152 := Aside0.mk (hbox); have GW152 := gW HB hg; have GE152 := gW HB hg; replace HB := bH HB hb; have NB150_152 := nL BK150 hg; have NB152_150 := nR BK150 hg; replace BK150 := bB BK150 hb; clear hb hbox hg; have hnb36 := NB152_150.out; have hnc36 := NB150_152.out; obtain ⟨hcz37_0, hcz37_1, hcz37_2, hcz37_3, hfz37_0, hfz37_1, hfz37_2, hfz37_3⟩ := bc4 BK152.out) | (go_at_call 86; (with_reducible refine (spec_l1In.calls ((rd_T108 l0_0 x3_1).f0) 1 5 true _ A5.out).mono ?_); rintro e w' ⟨rfl, ⟨nd, rfl⟩⟩; (try exact tQ)) | (go_at_call 86; (with_reducible refine (spec_l1In.calls ((rd_T108 l0_0 x3_1).f1) 0 1000000 false _ A7.out).mono ?_); rintro e w' ⟨rfl, ⟨nd, rfl⟩⟩; (try exact tQ))); try go_wp2_with (first | ((with_reducible refine gate_dst (N := 4) rfl ?_); refine box_event ?hg (N := 4) ?hd (cs := #[.int .i64 0, .int .i64 0, .int .i64 0, .bool false]) (t := 108) ?hr ?_; (case hd => rfl); (case hg => rfl); (case hr => exact tG); intro gb152 hg w35 hbox hb; have BK152 := Aside0.mk (hbox); have GW152 := gW HB hg; have GE152 := gW HB hg; replace HB := bH HB hb; have NB150_152 := nL BK150 hg; have NB152_150 := nR BK150 hg; replace BK150 := bB BK150 hb; clear hb hbox hg; have hnb36 := NB152_150.out; have hnc36 := NB150_152.out; obtain ⟨hcz37_0, hcz37_1, hcz37_2, hcz37_3, hfz37_0, hfz37_1, hfz37_2, hfz37_3⟩ := bc4 BK152.out) | (go_at_call 86; (with_reducible refine (spec_l1In.calls ((rd_T108 l0_0 x3_1).f0) 1 5 true _ A5.out).mono ?_); rintro e w' ⟨rfl, ⟨nd, rfl⟩⟩; (try exact tQ)) | (go_at_call 86; (with_reducible refine (spec_l1In.calls ((rd_T108 l0_0 x3_1).f1) 0 1000000 false _ A7.out).mono ?_); rintro e w' ⟨rfl, ⟨nd, rfl⟩⟩; (try exact tQ))))
      go_ret
      exact ⟨tE, tB⟩
     replace c6 := Bool.eq_false_iff.mpr c6
     subst c6
     have H1 : (some false) = some r := by rw [if_neg (show ¬ (false = true) by decide)] at H; exact H
     clear H
     have H := H1
     clear H1
     obtain rfl := Option.some.inj H
     obtain ⟨hcz38_0, hfz38_0⟩ := bc1 BK150.out
     have p151 : 0 ≤ (x3_1 : Int) := of_decide_eq_true tA
     have q151 : x3_1 < (l0_0.length : Int) := of_decide_eq_true tA
     obtain ⟨ad151, e151, hx151_0, hx151_1, hx151_2, hx151_3⟩ := at_T108 HR0_0.out x3_1 p151 q151
     cases e151
     replace hx151_0 := hbc HB hx151_0
     replace hx151_1 := hbc HB hx151_1
     replace hx151_2 := hbc HB hx151_2
     replace hx151_3 := hbc HB hx151_3
     replace p151 := eq_true p151
     replace q151 := eq_true q151
     go_wp2_with (first | ((with_reducible refine gate_dst (N := 4) rfl ?_); refine box_event ?hg (N := 4) ?hd (cs := #[.int .i64 0, .int .i64 0, .int .i64 0, .bool false]) (t := 108) ?hr ?_; (case hd => rfl); (case hg => rfl); (case hr => exact tG); intro gb152 hg w39 hbox hb; have BK152 := Aside0.mk (hbox); have GW152 := gW HB hg; have GE152 := gW HB hg; replace HB := bH HB hb; have NB150_152 := nL BK150 hg; have NB152_150 := nR BK150 hg; replace BK150 := bB BK150 hb; clear hb hbox hg; have hnb40 := NB152_150.out; have hnc40 := NB150_152.out; obtain ⟨hcz41_0, hcz41_1, hcz41_2, hcz41_3, hfz41_0, hfz41_1, hfz41_2, hfz41_3⟩ := bc4 BK152.out) | (go_at_call 86; (with_reducible refine (spec_l1In.calls ((rd_T108 l0_0 x3_1).f0) 1 5 false _ A5.out).mono ?_); rintro e w' ⟨rfl, ⟨nd, rfl⟩⟩; (try exact tQ)))
     repeat (go_quiet (first | ((with_reducible refine gate_dst (N := 4) rfl ?_); refine box_event ?hg (N := 4) ?hd (cs := #[.int .i64 0, .int .i64 0, .int .i64 0, .bool false]) (t := 108) ?hr ?_; (case hd => rfl); (case hg => rfl); (case hr => exact tG); intro gb152 hg w39 hbox hb; have BK152 := Aside0.mk (hbox); have GW152 := gW HB hg; have GE152 := gW HB hg; replace HB := bH HB hb; have NB150_152 := nL BK150 hg; have NB152_150 := nR BK150 hg; replace BK150 := bB BK150 hb; clear hb hbox hg; have hnb40 := NB152_150.out; have hnc40 := NB150_152.out; obtain ⟨hcz41_0, hcz41_1, hcz41_2, hcz41_3, hfz41_0, hfz41_1, hfz41_2, hfz41_3⟩ := bc4 BK152.out) | (go_at_call 86; (with_reducible refine (spec_l1In.calls ((rd_T108 l0_0 x3_1).f0) 1 5 false _ A5.out).mono ?_); rintro e w' ⟨rfl, ⟨nd, rfl⟩⟩; (try exact tQ))); try go_wp2_with (first | ((with_reducible refine gate_dst (N := 4) rfl ?_); refine box_event ?hg (N := 4) ?hd (cs := #[.int .i64 0, .int .i64 0, .int .i64 0, .bool false]) (t := 108) ?hr ?_; (case hd => rfl); (case hg => rfl); (case hr => exact tG); intro gb152 hg w39 hbox hb; have BK152 := Aside0.mk (hbox); have GW152 := gW HB hg; have GE152 := gW HB hg; replace HB := bH HB hb; have NB150_152 := nL BK150 hg; have NB152_150 := nR BK150 hg; replace BK150 := bB BK150 hb; clear hb hbox hg; have hnb40 := NB152_150.out; have hnc40 := NB150_152.out; obtain ⟨hcz41_0, hcz41_1, hcz41_2, hcz41_3, hfz41_0, hfz41_1, hfz41_2, hfz41_3⟩ := bc4 BK152.out) | (go_at_call 86; (with_reducible refine (spec_l1In.calls ((rd_T108 l0_0 x3_1).f0) 1 5 false _ A5.out).mono ?_); rintro e w' ⟨rfl, ⟨nd, rfl⟩⟩; (try exact tQ))))
     go_ret
     exact ⟨tE, tB⟩
    rw [if_neg c4] at H
    exact absurd H (by simp)
   rw [if_neg c3] at H
   have c3b0 : decide (x3_1 < (l0_0.length : Int)) = false := decide_eq_false c3
   clear c3
   obtain rfl := Option.some.inj H
   obtain ⟨hcz42_0, hfz42_0⟩ := bc1 BK150.out
   go_wp2
   repeat (go_quiet (fail); try go_wp2)
   go_ret
   exact ⟨tE, tB⟩

end Go.Proofs.Ytanoaneoanpkkaa.ZFnExactSendNotice
