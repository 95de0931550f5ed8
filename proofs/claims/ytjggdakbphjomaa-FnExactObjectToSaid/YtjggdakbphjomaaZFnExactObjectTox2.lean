/- The machine side: for each Go function a Lean function and the contract that the Go code answers as it does; printed by program (wip/tmpl/pprint.sh). -/
import Derived.Test.YtjggdakbphjomaaZFnExactObjectTox0
namespace Go.Proofs.Ytjggdakbphjomaa.ZFnExactObjectTo
open Go.RowKit Go.Proofs.YtjggdakbphjomaaW.PrintWords Go.Proofs.YtjggdakbphjomaaW.PrintLast Go.Proofs.YtjggdakbphjomaaW.PrintMore
attribute [local go_sem] max2_int min2_int max_two min_two max_three min_three max_four min_four   -- for this text's walks alone
set_option linter.unusedVariables false
set_option linter.unusedSimpArgs false

/-! ### laws_markClaimS: function 79 -/
def laws_markClaimS.l0 : Nat → List (S104) → Int → Int → Option (Int × (List (S104)))
 | 0, _, _, _ => none
 | k + 1, x0, x1, x5 => if x5 < (x0.length : Int) then (if 0 ≤ x5 then ((some (x0.set (x5 : Int).toNat (⟨x1, (rd_T104 x0 x5).f1, (rd_T104 x0 x5).f2, (rd_T104 x0 x5).f3, (rd_T104 x0 x5).f4, (rd_T104 x0 x5).f5⟩ : S104) : List (S104))).bind fun y131 => ((some (y131.set (x5 : Int).toNat (⟨(rd_T104 y131 x5).f0, wrap64 (x1 + 1), (rd_T104 y131 x5).f2, (rd_T104 y131 x5).f3, (rd_T104 y131 x5).f4, (rd_T104 y131 x5).f5⟩ : S104) : List (S104))).bind fun y132 => ((some (y132.set (x5 : Int).toNat (⟨(rd_T104 y132 x5).f0, (rd_T104 y132 x5).f1, wrap64 ((wrap64 (x1 + 1)) + 1), (rd_T104 y132 x5).f3, (rd_T104 y132 x5).f4, (rd_T104 y132 x5).f5⟩ : S104) : List (S104))).bind fun y133 => ((some (y133.set (x5 : Int).toNat (⟨(rd_T104 y133 x5).f0, (rd_T104 y133 x5).f1, (rd_T104 y133 x5).f2, wrap64 ((wrap64 ((wrap64 (x1 + 1)) + 1)) + 1), (rd_T104 y133 x5).f4, (rd_T104 y133 x5).f5⟩ : S104) : List (S104))).bind fun y134 => ((some (y134.set (x5 : Int).toNat (⟨(rd_T104 y134 x5).f0, (rd_T104 y134 x5).f1, (rd_T104 y134 x5).f2, (rd_T104 y134 x5).f3, wrap64 ((wrap64 ((wrap64 ((wrap64 (x1 + 1)) + 1)) + 1)) + 1), (rd_T104 y134 x5).f5⟩ : S104) : List (S104))).bind fun y135 => (laws_markClaimS.l0 k (y135.set (x5 : Int).toNat (⟨(rd_T104 y135 x5).f0, (rd_T104 y135 x5).f1, (rd_T104 y135 x5).f2, (rd_T104 y135 x5).f3, (rd_T104 y135 x5).f4, wrap64 ((wrap64 ((wrap64 ((wrap64 ((wrap64 (x1 + 1)) + 1)) + 1)) + 1)) + 1)⟩ : S104)) (wrap64 ((wrap64 ((wrap64 ((wrap64 ((wrap64 ((wrap64 (x1 + 1)) + 1)) + 1)) + 1)) + 1)) + 1)) (wrap64 (x5 + 1)))))))) else (none)) else (some (x1, x0))
def laws_markClaimS.f (k : Nat) (l0 : List (S104)) (a1 : Int) : Option (Int × (List (S104))) := laws_markClaimS.l0 k l0 a1 0
theorem laws_markClaimS.mono_l : ∀ k, (∀ y0 y1 y2, LeO (laws_markClaimS.l0 k y0 y1 y2) (laws_markClaimS.l0 (k + 1) y0 y1 y2))
 | 0 => fun _ _ _ r h => by simp [laws_markClaimS.l0] at h
 | k + 1 => by
  have ih0 := laws_markClaimS.mono_l k
  ·intro y0 y1 y2
   unfold laws_markClaimS.l0
   repeat' first
   | (with_reducible exact ih0 _ _ _)
   | (with_reducible exact LeO.refl _)
   | (with_reducible exact LeO.none _)
   | (with_reducible refine LeO.ite ?_ ?_)
   | (with_reducible refine LeO.bind ?_ (fun _ => ?_))
   | exact ih0 _ _ _
   | exact LeO.none _
   | refine LeO.ite ?_ ?_
   | refine LeO.bind ?_ (fun _ => ?_)
theorem laws_markClaimS.mono : ∀ a0 a1 k, LeO (laws_markClaimS.f k a0 a1) (laws_markClaimS.f (k + 1) a0 a1) := by
 intro a0 a1 k
 have ih0 := laws_markClaimS.mono_l k
 unfold laws_markClaimS.f
 repeat' first
   | (with_reducible exact ih0 _ _ _)
   | (with_reducible exact LeO.refl _)
   | (with_reducible exact LeO.none _)
   | (with_reducible refine LeO.ite ?_ ?_)
   | (with_reducible refine LeO.bind ?_ (fun _ => ?_))
   | exact ih0 _ _ _
   | exact LeO.none _
   | refine LeO.ite ?_ ?_
   | refine LeO.bind ?_ (fun _ => ?_)
set_option maxHeartbeats 8000000 in
set_option maxRecDepth 100000 in
theorem laws_markClaimS.calls (k : Nat) (P0_ : Nat → Prop) (u9000_ : Value) (l0 : List (S104)) (a1 : Int) (r1 : Int) (r2 : List (S104)) (w0 w : World) (hB : Below w0.heap.size w0 w) (ho0 : Kd.R k104 104 w w0.heap.size P0_ u9000_ l0) (h : laws_markClaimS.f k l0 a1 = some (r1, r2)) :
  Calls Try.prog 79 #[u9000_, .int .i64 a1] w fun e w' => e = .returned (.int .i64 r1) ∧ Kd.R k104 104 w' w0.heap.size (fun k_ => (P0_ k_ ∨ w.heap.size ≤ k_)) u9000_ r2 ∧ Below w0.heap.size w0 w' ∧ Kept w w' (fun k_ => P0_ k_) := by
 have HO0 := Aside0.mk (show Kd.R k104 104 w w0.heap.size (fun k_ => (P0_ k_ ∨ w.heap.size ≤ k_)) u9000_ l0 from Kd.R_mono ho0 (fun k_ hk => (.inl hk)))
 have HK := Aside0.mk (Kept.refl w (fun k_ => P0_ k_))
 have HW0 := Aside0.mk hB.size
 have HB := Aside0.mk hB
 clear hB
 have H : (laws_markClaimS.l0 k l0 a1 0) = some (r1, r2) := h
 clear h
 have H' := Aside0.mk H
 clear H
 go_enter Try.func79, Try.ntmps79
 go_wp2
 go_loopg [1, 5] k (fun kq v1 v5 w' => ∃ (x0_1 : List (S104)) (x1_1 : Int) (x5_1 : Int), v1 = .int .i64 x1_1 ∧ v5 = .int .i64 x5_1 ∧ Aside0 (laws_markClaimS.l0 kq x0_1 x1_1 x5_1 = some (r1, r2)) ∧ Aside0 (kq ≤ k) ∧ Aside0 (Kd.R k104 104 w' w0.heap.size (fun k_ => (P0_ k_ ∨ w.heap.size ≤ k_)) u9000_ x0_1) ∧ Aside0 (Kept w w' (fun k_ => P0_ k_)) ∧ Aside0 (Below w0.heap.size w0 w'))
 case atStart => exact ⟨(l0), (a1), (0), tS, tS, H', ⟨Nat.le_refl _⟩, ⟨tR HO0⟩, ⟨by repeat (first | (with_reducible first | exact HK.out | apply Kept.alloc | apply Kept.drewN | apply Kept.drew) | exact HK.out)⟩, ⟨tB⟩⟩
 case round =>
  clear H'
  try clear p2
  obtain ⟨x0_1, x1_1, x5_1, rfl, rfl, HA, HK1, HO_0, HK, HB⟩ := hrel
  cases gk with
  | zero => exact absurd HA.out (by simp [laws_markClaimS.l0])
  | succ k1 =>
   have H := HA.out
   clear HA
   simp only [laws_markClaimS.l0] at H
   by_cases c3 : x5_1 < (x0_1.length : Int)
   ·rw [if_pos c3] at H
    have c3b0 : decide (x5_1 < (x0_1.length : Int)) = true := decide_eq_true c3
    clear c3
    by_cases c4 : 0 ≤ x5_1
    ·rw [if_pos c4] at H
     have c4b0 : decide (0 ≤ x5_1) = true := decide_eq_true c4
     clear c4
     obtain ⟨y131, hy131⟩ : ∃ y_ : List (S104), y_ = (x0_1.set (x5_1 : Int).toNat (⟨x1_1, (rd_T104 x0_1 x5_1).f1, (rd_T104 x0_1 x5_1).f2, (rd_T104 x0_1 x5_1).f3, (rd_T104 x0_1 x5_1).f4, (rd_T104 x0_1 x5_1).f5⟩ : S104)) := ⟨_, rfl⟩
     replace H : ((some (y131.set (x5_1 : Int).toNat (⟨(rd_T104 y131 x5_1).f0, wrap64 (x1_1 + 1), (rd_T104 y131 x5_1).f2, (rd_T104 y131 x5_1).f3, (rd_T104 y131 x5_1).f4, (rd_T104 y131 x5_1).f5⟩ : S104) : List (S104))).bind fun y132 => ((some (y132.set (x5_1 : Int).toNat (⟨(rd_T104 y132 x5_1).f0, (rd_T104 y132 x5_1).f1, wrap64 ((wrap64 (x1_1 + 1)) + 1), (rd_T104 y132 x5_1).f3, (rd_T104 y132 x5_1).f4, (rd_T104 y132 x5_1).f5⟩ : S104) : List (S104))).bind fun y133 => ((some (y133.set (x5_1 : Int).toNat (⟨(rd_T104 y133 x5_1).f0, (rd_T104 y133 x5_1).f1, (rd_T104 y133 x5_1).f2, wrap64 ((wrap64 ((wrap64 (x1_1 + 1)) + 1)) + 1), (rd_T104 y133 x5_1).f4, (rd_T104 y133 x5_1).f5⟩ : S104) : List (S104))).bind fun y134 => ((some (y134.set (x5_1 : Int).toNat (⟨(rd_T104 y134 x5_1).f0, (rd_T104 y134 x5_1).f1, (rd_T104 y134 x5_1).f2, (rd_T104 y134 x5_1).f3, wrap64 ((wrap64 ((wrap64 ((wrap64 (x1_1 + 1)) + 1)) + 1)) + 1), (rd_T104 y134 x5_1).f5⟩ : S104) : List (S104))).bind fun y135 => (laws_markClaimS.l0 k1 (y135.set (x5_1 : Int).toNat (⟨(rd_T104 y135 x5_1).f0, (rd_T104 y135 x5_1).f1, (rd_T104 y135 x5_1).f2, (rd_T104 y135 x5_1).f3, (rd_T104 y135 x5_1).f4, wrap64 ((wrap64 ((wrap64 ((wrap64 ((wrap64 (x1_1 + 1)) + 1)) + 1)) + 1)) + 1)⟩ : S104)) (wrap64 ((wrap64 ((wrap64 ((wrap64 ((wrap64 ((wrap64 (x1_1 + 1)) + 1)) + 1)) + 1)) + 1)) + 1)) (wrap64 (x5_1 + 1))))))) = some (r1, r2) := by first | (rw [hy131]; with_reducible exact H) | (have H2_ := (Option.bind_some _ _).symm.trans H; rw [hy131]; with_reducible exact H2_) | (have H2_ := (Option.bind_some _ _).symm.trans H; with_reducible exact H2_) | with_reducible exact H | (rw [hy131]; exact H) | exact H
     have Ny131 := Aside0.mk hy131
     clear hy131
     obtain ⟨y132, hy132⟩ : ∃ y_ : List (S104), y_ = (y131.set (x5_1 : Int).toNat (⟨(rd_T104 y131 x5_1).f0, wrap64 (x1_1 + 1), (rd_T104 y131 x5_1).f2, (rd_T104 y131 x5_1).f3, (rd_T104 y131 x5_1).f4, (rd_T104 y131 x5_1).f5⟩ : S104)) := ⟨_, rfl⟩
     replace H : ((some (y132.set (x5_1 : Int).toNat (⟨(rd_T104 y132 x5_1).f0, (rd_T104 y132 x5_1).f1, wrap64 ((wrap64 (x1_1 + 1)) + 1), (rd_T104 y132 x5_1).f3, (rd_T104 y132 x5_1).f4, (rd_T104 y132 x5_1).f5⟩ : S104) : List (S104))).bind fun y133 => ((some (y133.set (x5_1 : Int).toNat (⟨(rd_T104 y133 x5_1).f0, (rd_T104 y133 x5_1).f1, (rd_T104 y133 x5_1).f2, wrap64 ((wrap64 ((wrap64 (x1_1 + 1)) + 1)) + 1), (rd_T104 y133 x5_1).f4, (rd_T104 y133 x5_1).f5⟩ : S104) : List (S104))).bind fun y134 => ((some (y134.set (x5_1 : Int).toNat (⟨(rd_T104 y134 x5_1).f0, (rd_T104 y134 x5_1).f1, (rd_T104 y134 x5_1).f2, (rd_T104 y134 x5_1).f3, wrap64 ((wrap64 ((wrap64 ((wrap64 (x1_1 + 1)) + 1)) + 1)) + 1), (rd_T104 y134 x5_1).f5⟩ : S104) : List (S104))).bind fun y135 => (laws_markClaimS.l0 k1 (y135.set (x5_1 : Int).toNat (⟨(rd_T104 y135 x5_1).f0, (rd_T104 y135 x5_1).f1, (rd_T104 y135 x5_1).f2, (rd_T104 y135 x5_1).f3, (rd_T104 y135 x5_1).f4, wrap64 ((wrap64 ((wrap64 ((wrap64 ((wrap64 (x1_1 + 1)) + 1)) + 1)) + 1)) + 1)⟩ : S104)) (wrap64 ((wrap64 ((wrap64 ((wrap64 ((wrap64 ((wrap64 (x1_1 + 1)) + 1)) + 1)) + 1)) + 1)) + 1)) (wrap64 (x5_1 + 1)))))) = some (r1, r2) := by first | (rw [hy132]; with_reducible exact H) | (have H2_ := (Option.bind_some _ _).symm.trans H; rw [hy132]; with_reducible exact H2_) | (have H2_ := (Option.bind_some _ _).symm.trans H; with_reducible exact H2_) | with_reducible exact H | (rw [hy132]; exact H) | exact H
     have Ny132 := Aside0.mk hy132
     clear hy132
     obtain ⟨y133, hy133⟩ : ∃ y_ : List (S104), y_ = (y132.set (x5_1 : Int).toNat (⟨(rd_T104 y132 x5_1).f0, (rd_T104 y132 x5_1).f1, wrap64 ((wrap64 (x1_1 + 1)) + 1), (rd_T104 y132 x5_1).f3, (rd_T104 y132 x5_1).f4, (rd_T104 y132 x5_1).f5⟩ : S104)) := ⟨_, rfl⟩
     replace H : ((some (y133.set (x5_1 : Int).toNat (⟨(rd_T104 y133 x5_1).f0, (rd_T104 y133 x5_1).f1, (rd_T104 y133 x5_1).f2, wrap64 ((wrap64 ((wrap64 (x1_1 + 1)) + 1)) + 1), (rd_T104 y133 x5_1).f4, (rd_T104 y133 x5_1).f5⟩ : S104) : List (S104))).bind fun y134 => ((some (y134.set (x5_1 : Int).toNat (⟨(rd_T104 y134 x5_1).f0, (rd_T104 y134 x5_1).f1, (rd_T104 y134 x5_1).f2, (rd_T104 y134 x5_1).f3, wrap64 ((wrap64 ((wrap64 ((wrap64 (x1_1 + 1)) + 1)) + 1)) + 1), (rd_T104 y134 x5_1).f5⟩ : S104) : List (S104))).bind fun y135 => (laws_markClaimS.l0 k1 (y135.set (x5_1 : Int).toNat (⟨(rd_T104 y135 x5_1).f0, (rd_T104 y135 x5_1).f1, (rd_T104 y135 x5_1).f2, (rd_T104 y135 x5_1).f3, (rd_T104 y135 x5_1).f4, wrap64 ((wrap64 ((wrap64 ((wrap64 ((wrap64 (x1_1 + 1)) + 1)) + 1)) + 1)) + 1)⟩ : S104)) (wrap64 ((wrap64 ((wrap64 ((wrap64 ((wrap64 ((wrap64 (x1_1 + 1)) + 1)) + 1)) + 1)) + 1)) + 1)) (wrap64 (x5_1 + 1))))) = some (r1, r2) := by first | (rw [hy133]; with_reducible exact H) | (have H2_ := (Option.bind_some _ _).symm.trans H; rw [hy133]; with_reducible exact H2_) | (have H2_ := (Option.bind_some _ _).symm.trans H; with_reducible exact H2_) | with_reducible exact H | (rw [hy133]; exact H) | exact H
     have Ny133 := Aside0.mk hy133
     clear hy133
     obtain ⟨y134, hy134⟩ : ∃ y_ : List (S104), y_ = (y133.set (x5_1 : Int).toNat (⟨(rd_T104 y133 x5_1).f0, (rd_T104 y133 x5_1).f1, (rd_T104 y133 x5_1).f2, wrap64 ((wrap64 ((wrap64 (x1_1 + 1)) + 1)) + 1), (rd_T104 y133 x5_1).f4, (rd_T104 y133 x5_1).f5⟩ : S104)) := ⟨_, rfl⟩
     replace H : ((some (y134.set (x5_1 : Int).toNat (⟨(rd_T104 y134 x5_1).f0, (rd_T104 y134 x5_1).f1, (rd_T104 y134 x5_1).f2, (rd_T104 y134 x5_1).f3, wrap64 ((wrap64 ((wrap64 ((wrap64 (x1_1 + 1)) + 1)) + 1)) + 1), (rd_T104 y134 x5_1).f5⟩ : S104) : List (S104))).bind fun y135 => (laws_markClaimS.l0 k1 (y135.set (x5_1 : Int).toNat (⟨(rd_T104 y135 x5_1).f0, (rd_T104 y135 x5_1).f1, (rd_T104 y135 x5_1).f2, (rd_T104 y135 x5_1).f3, (rd_T104 y135 x5_1).f4, wrap64 ((wrap64 ((wrap64 ((wrap64 ((wrap64 (x1_1 + 1)) + 1)) + 1)) + 1)) + 1)⟩ : S104)) (wrap64 ((wrap64 ((wrap64 ((wrap64 ((wrap64 ((wrap64 (x1_1 + 1)) + 1)) + 1)) + 1)) + 1)) + 1)) (wrap64 (x5_1 + 1)))) = some (r1, r2) := by first | (rw [hy134]; with_reducible exact H) | (have H2_ := (Option.bind_some _ _).symm.trans H; rw [hy134]; with_reducible exact H2_) | (have H2_ := (Option.bind_some _ _).symm.trans H; with_reducible exact H2_) | with_reducible exact H | (rw [hy134]; exact H) | exact H
     have Ny134 := Aside0.mk hy134
     clear hy134
     obtain ⟨y135, hy135⟩ : ∃ y_ : List (S104), y_ = (y134.set (x5_1 : Int).toNat (⟨(rd_T104 y134 x5_1).f0, (rd_T104 y134 x5_1).f1, (rd_T104 y134 x5_1).f2, (rd_T104 y134 x5_1).f3, wrap64 ((wrap64 ((wrap64 ((wrap64 (x1_1 + 1)) + 1)) + 1)) + 1), (rd_T104 y134 x5_1).f5⟩ : S104)) := ⟨_, rfl⟩
     replace H : (laws_markClaimS.l0 k1 (y135.set (x5_1 : Int).toNat (⟨(rd_T104 y135 x5_1).f0, (rd_T104 y135 x5_1).f1, (rd_T104 y135 x5_1).f2, (rd_T104 y135 x5_1).f3, (rd_T104 y135 x5_1).f4, wrap64 ((wrap64 ((wrap64 ((wrap64 ((wrap64 (x1_1 + 1)) + 1)) + 1)) + 1)) + 1)⟩ : S104)) (wrap64 ((wrap64 ((wrap64 ((wrap64 ((wrap64 ((wrap64 (x1_1 + 1)) + 1)) + 1)) + 1)) + 1)) + 1)) (wrap64 (x5_1 + 1))) = some (r1, r2) := by first | (rw [hy135]; with_reducible exact H) | (have H2_ := (Option.bind_some _ _).symm.trans H; rw [hy135]; with_reducible exact H2_) | (have H2_ := (Option.bind_some _ _).symm.trans H; with_reducible exact H2_) | with_reducible exact H | (rw [hy135]; exact H) | exact H
     have Ny135 := Aside0.mk hy135
     clear hy135
     obtain ⟨y136, hy136⟩ : ∃ y_ : List (S104), y_ = (y135.set (x5_1 : Int).toNat (⟨(rd_T104 y135 x5_1).f0, (rd_T104 y135 x5_1).f1, (rd_T104 y135 x5_1).f2, (rd_T104 y135 x5_1).f3, (rd_T104 y135 x5_1).f4, wrap64 ((wrap64 ((wrap64 ((wrap64 ((wrap64 (x1_1 + 1)) + 1)) + 1)) + 1)) + 1)⟩ : S104)) := ⟨_, rfl⟩
     replace H : (laws_markClaimS.l0 k1 y136 (wrap64 ((wrap64 ((wrap64 ((wrap64 ((wrap64 ((wrap64 (x1_1 + 1)) + 1)) + 1)) + 1)) + 1)) + 1)) (wrap64 (x5_1 + 1))) = some (r1, r2) := by first | (rw [hy136]; with_reducible exact H) | (have H2_ := (Option.bind_some _ _).symm.trans H; rw [hy136]; with_reducible exact H2_) | (have H2_ := (Option.bind_some _ _).symm.trans H; with_reducible exact H2_) | with_reducible exact H | (rw [hy136]; exact H) | exact H
     have Ny136 := Aside0.mk hy136
     clear hy136
     have H' := Aside0.mk H
     clear H
     obtain ⟨Ao11, co11, eo11⟩ := Kd.R_slice HO_0.out
     subst eo11
     have p5 : 0 ≤ (x5_1 : Int) := of_decide_eq_true tA
     have q5 : (x5_1 : Int) < ((x0_1.length : Int) : Int) := of_decide_eq_true tA
     obtain ⟨go5, co5, eo5, gb5, gl5, cl5, HG5⟩ := Kd.R_form HO_0.out (by omega)
     (first | cases eo5 | (injection eo5 with ea_ en_ ec_; (first | subst ea_ | (injection ea_ with ea_; subst ea_)); subst ec_; clear en_))
     have GB5 := Aside0.mk gb5
     have GG5 := Aside0.mk HG5
     clear gb5 gl5 HG5
     have HMgo5 := Aside0.mk (show (P0_ go5 ∨ w.heap.size ≤ go5) from (HO_0.out.1 _ rfl))
     obtain ⟨ce5, hcl5, hM5, hcc5, hfr5⟩ := Kd.R_elem HO_0.out z104 (x5_1 : Int) p5 q5
     obtain rfl := k104_openM hM5
     have hx5_0 : wr.cell? ⟨go5, (x5_1 : Int).toNat * 6, none⟩ = some (.int .i64 ((rd_T104 x0_1 x5_1).f0)) := hcc5 0 _ rfl
     have hx5_1 : wr.cell? ⟨go5, (x5_1 : Int).toNat * 6 + 1, none⟩ = some (.int .i64 ((rd_T104 x0_1 x5_1).f1)) := hcc5 1 _ rfl
     have hx5_2 : wr.cell? ⟨go5, (x5_1 : Int).toNat * 6 + 2, none⟩ = some (.int .i64 ((rd_T104 x0_1 x5_1).f2)) := hcc5 2 _ rfl
     have hx5_3 : wr.cell? ⟨go5, (x5_1 : Int).toNat * 6 + 3, none⟩ = some (.int .i64 ((rd_T104 x0_1 x5_1).f3)) := hcc5 3 _ rfl
     have hx5_4 : wr.cell? ⟨go5, (x5_1 : Int).toNat * 6 + 4, none⟩ = some (.int .i64 ((rd_T104 x0_1 x5_1).f4)) := hcc5 4 _ rfl
     have hx5_5 : wr.cell? ⟨go5, (x5_1 : Int).toNat * 6 + 5, none⟩ = some (.int .i64 ((rd_T104 x0_1 x5_1).f5)) := hcc5 5 _ rfl
     have hf5_0 : wr.frozen? ⟨go5, (x5_1 : Int).toNat * 6, none⟩ = false := hfr5 0
     have hf5_1 : wr.frozen? ⟨go5, (x5_1 : Int).toNat * 6 + 1, none⟩ = false := hfr5 1
     have hf5_2 : wr.frozen? ⟨go5, (x5_1 : Int).toNat * 6 + 2, none⟩ = false := hfr5 2
     have hf5_3 : wr.frozen? ⟨go5, (x5_1 : Int).toNat * 6 + 3, none⟩ = false := hfr5 3
     have hf5_4 : wr.frozen? ⟨go5, (x5_1 : Int).toNat * 6 + 4, none⟩ = false := hfr5 4
     have hf5_5 : wr.frozen? ⟨go5, (x5_1 : Int).toNat * 6 + 5, none⟩ = false := hfr5 5
     clear hcl5 hcc5 hfr5 hM5
     replace p5 := eq_true p5
     replace q5 := eq_true q5
     have HX12 := Aside0.mk (show Kd.R k104 104 wr w0.heap.size (fun k_ => (P0_ k_ ∨ w.heap.size ≤ k_)) (.slice (some ⟨go5, 0, none⟩) x0_1.length co11) x0_1 from (tR HO_0))
     obtain ⟨ce12, hcl12, hM12, hcc12, hfr12⟩ := Kd.R_elem HX12.out z104 (x5_1 : Int) (of_decide_eq_true tA) (by have h_ : (x5_1 : Int) < ((x0_1.length : Int) : Int) := of_decide_eq_true tA; first | exact h_ | (have e_ := (Kd.R_reads' HO_0.out).1; omega) | simpa using h_)
     obtain rfl := k104_openM hM12
     have HP12 := Kd.R_seg HX12.out (x5_1 : Int) (of_decide_eq_true tA) (by have h_ : (x5_1 : Int) < ((x0_1.length : Int) : Int) := of_decide_eq_true tA; first | exact h_ | (have e_ := (Kd.R_reads' HO_0.out).1; omega) | simpa using h_) (seg := [.int .i64 x1_1]) (j := 0) hcl12 hcc12 (show 1 ≤ 6 from by decide) (x' := (⟨x1_1, (rd_T104 x0_1 x5_1).f1, (rd_T104 x0_1 x5_1).f2, (rd_T104 x0_1 x5_1).f3, (rd_T104 x0_1 x5_1).f4, (rd_T104 x0_1 x5_1).f5⟩ : S104)) (k104_mkM _ _ _ (⟨x1_1, (rd_T104 x0_1 x5_1).f1, (rd_T104 x0_1 x5_1).f2, (rd_T104 x0_1 x5_1).f3, (rd_T104 x0_1 x5_1).f4, (rd_T104 x0_1 x5_1).f5⟩ : S104) ) (fun _ hk => hk)
     have hx12_0 := hcc12 0 _ rfl
     (try simp only [show (k104).sz = 6 from rfl, Nat.mul_one, Nat.add_zero] at hx12_0)
     have hf12_0 := hfr12 0
     (try simp only [show (k104).sz = 6 from rfl, Nat.mul_one, Nat.add_zero] at hf12_0)
     clear hcl12 hcc12 hfr12 hM12
     go_wp2_with (first | ((with_reducible refine gate_store (t := 3) (p := 16) rfl ?_); refine store_event (t := 3) (p := 16) (v := ?vo_w13) (w1 := (wr.setCell ⟨go5, (x5_1 : Int).toNat * 6, none⟩ (.int .i64 x1_1))) ?hg ?ho ?hn ?hr ?_; (case ho => rfl); (case hg => rfl); (case hn => rfl); (case hr => first | (go_simp; done) | (go_simp; rfl)); intro w13 hw; have hg : wr.grownBy w13 (some go5) := (by rw [hw]; exact HP12.2); have hp_ : Kd.R k104 104 w13 w0.heap.size (fun k_ => (P0_ k_ ∨ w.heap.size ≤ k_)) (.slice (some ⟨go5, 0, none⟩) x0_1.length co11) y131 := (by rw [hw, Ny131.out]; exact HP12.1); clear HP12; have n0_ := Aside0.mk (hp_); have n1_ := Aside0.mk ((by rw [hw]; exact below_set (HB.out) GB5.out : Below w0.heap.size w0 w13)); have n2_ := Aside0.mk (Kept.of_grown (S := (fun k_ => P0_ k_)) hg (by repeat (first | (with_reducible first | exact HK.out | apply Kept.alloc | apply Kept.drewN | apply Kept.drew) | exact HK.out)) (fun k_ e_ => (HO_0.out.1 k_ e_))); clear HO_0; clear HB; clear HK; have HO_0 := n0_; have HB := n1_; have HK := n2_; clear n0_ n1_ n2_; clear hg hw hp_; have p6 : 0 ≤ (x5_1 : Int) := of_decide_eq_true tA; have q6 : (x5_1 : Int) < ((x0_1.length : Int) : Int) := of_decide_eq_true tA; obtain ⟨ce6, hcl6, hM6, hcc6, hfr6⟩ := Kd.R_elem HO_0.out z104 (x5_1 : Int) p6 q6; obtain rfl := k104_openM hM6; have hx6_0 : w13.cell? ⟨go5, (x5_1 : Int).toNat * 6, none⟩ = some (.int .i64 ((rd_T104 y131 x5_1).f0)) := hcc6 0 _ rfl; have hx6_1 : w13.cell? ⟨go5, (x5_1 : Int).toNat * 6 + 1, none⟩ = some (.int .i64 ((rd_T104 y131 x5_1).f1)) := hcc6 1 _ rfl; have hx6_2 : w13.cell? ⟨go5, (x5_1 : Int).toNat * 6 + 2, none⟩ = some (.int .i64 ((rd_T104 y131 x5_1).f2)) := hcc6 2 _ rfl; have hx6_3 : w13.cell? ⟨go5, (x5_1 : Int).toNat * 6 + 3, none⟩ = some (.int .i64 ((rd_T104 y131 x5_1).f3)) := hcc6 3 _ rfl; have hx6_4 : w13.cell? ⟨go5, (x5_1 : Int).toNat * 6 + 4, none⟩ = some (.int .i64 ((rd_T104 y131 x5_1).f4)) := hcc6 4 _ rfl; have hx6_5 : w13.cell? ⟨go5, (x5_1 : Int).toNat * 6 + 5, none⟩ = some (.int .i64 ((rd_T104 y131 x5_1).f5)) := hcc6 5 _ rfl; have hf6_0 : w13.frozen? ⟨go5, (x5_1 : Int).toNat * 6, none⟩ = false := hfr6 0; have hf6_1 : w13.frozen? ⟨go5, (x5_1 : Int).toNat * 6 + 1, none⟩ = false := hfr6 1; have hf6_2 : w13.frozen? ⟨go5, (x5_1 : Int).toNat * 6 + 2, none⟩ = false := hfr6 2; have hf6_3 : w13.frozen? ⟨go5, (x5_1 : Int).toNat * 6 + 3, none⟩ = false := hfr6 3; have hf6_4 : w13.frozen? ⟨go5, (x5_1 : Int).toNat * 6 + 4, none⟩ = false := hfr6 4; have hf6_5 : w13.frozen? ⟨go5, (x5_1 : Int).toNat * 6 + 5, none⟩ = false := hfr6 5; clear hcl6 hcc6 hfr6 hM6; replace p6 := eq_true p6; replace q6 := eq_true q6; have HX14 := Aside0.mk (show Kd.R k104 104 w13 w0.heap.size (fun k_ => (P0_ k_ ∨ w.heap.size ≤ k_)) (.slice (some ⟨go5, 0, none⟩) x0_1.length co11) y131 from (tR HO_0)); obtain ⟨ce14, hcl14, hM14, hcc14, hfr14⟩ := Kd.R_elem HX14.out z104 (x5_1 : Int) (of_decide_eq_true tA) (by have h_ : (x5_1 : Int) < ((x0_1.length : Int) : Int) := of_decide_eq_true tA; first | exact h_ | (have e_ := (Kd.R_reads' HO_0.out).1; omega) | simpa using h_); obtain rfl := k104_openM hM14; have HP14 := Kd.R_seg HX14.out (x5_1 : Int) (of_decide_eq_true tA) (by have h_ : (x5_1 : Int) < ((x0_1.length : Int) : Int) := of_decide_eq_true tA; first | exact h_ | (have e_ := (Kd.R_reads' HO_0.out).1; omega) | simpa using h_) (seg := [.int .i64 (wrap64 (x1_1 + 1))]) (j := 1) hcl14 hcc14 (show 2 ≤ 6 from by decide) (x' := (⟨(rd_T104 y131 x5_1).f0, wrap64 (x1_1 + 1), (rd_T104 y131 x5_1).f2, (rd_T104 y131 x5_1).f3, (rd_T104 y131 x5_1).f4, (rd_T104 y131 x5_1).f5⟩ : S104)) (k104_mkM _ _ _ (⟨(rd_T104 y131 x5_1).f0, wrap64 (x1_1 + 1), (rd_T104 y131 x5_1).f2, (rd_T104 y131 x5_1).f3, (rd_T104 y131 x5_1).f4, (rd_T104 y131 x5_1).f5⟩ : S104) ) (fun _ hk => hk); have hx14_1 := hcc14 1 _ rfl; (try simp only [show (k104).sz = 6 from rfl, Nat.mul_one, Nat.add_zero] at hx14_1); have hf14_1 := hfr14 1; (try simp only [show (k104).sz = 6 from rfl, Nat.mul_one, Nat.add_zero] at hf14_1); clear hcl14 hcc14 hfr14 hM14) | ((with_reducible refine gate_store (t := 3) (p := 23) rfl ?_); refine store_event (t := 3) (p := 23) (v := ?vo_w15) (w1 := (w13.setCell ⟨go5, (x5_1 : Int).toNat * 6 + 1, none⟩ (.int .i64 (wrap64 (x1_1 + 1))))) ?hg ?ho ?hn ?hr ?_; (case ho => rfl); (case hg => rfl); (case hn => rfl); (case hr => first | (go_simp; done) | (go_simp; rfl)); intro w15 hw; have hg : w13.grownBy w15 (some go5) := (by rw [hw]; exact HP14.2); have hp_ : Kd.R k104 104 w15 w0.heap.size (fun k_ => (P0_ k_ ∨ w.heap.size ≤ k_)) (.slice (some ⟨go5, 0, none⟩) x0_1.length co11) y132 := (by rw [hw, Ny132.out]; exact HP14.1); clear HP14; have n0_ := Aside0.mk (hp_); have n1_ := Aside0.mk ((by rw [hw]; exact below_set (HB.out) GB5.out : Below w0.heap.size w0 w15)); have n2_ := Aside0.mk (Kept.of_grown (S := (fun k_ => P0_ k_)) hg (by repeat (first | (with_reducible first | exact HK.out | apply Kept.alloc | apply Kept.drewN | apply Kept.drew) | exact HK.out)) (fun k_ e_ => (HO_0.out.1 k_ e_))); clear HO_0; clear HB; clear HK; have HO_0 := n0_; have HB := n1_; have HK := n2_; clear n0_ n1_ n2_; clear hg hw hp_; have p7 : 0 ≤ (x5_1 : Int) := of_decide_eq_true tA; have q7 : (x5_1 : Int) < ((x0_1.length : Int) : Int) := of_decide_eq_true tA; obtain ⟨ce7, hcl7, hM7, hcc7, hfr7⟩ := Kd.R_elem HO_0.out z104 (x5_1 : Int) p7 q7; obtain rfl := k104_openM hM7; have hx7_0 : w15.cell? ⟨go5, (x5_1 : Int).toNat * 6, none⟩ = some (.int .i64 ((rd_T104 y132 x5_1).f0)) := hcc7 0 _ rfl; have hx7_1 : w15.cell? ⟨go5, (x5_1 : Int).toNat * 6 + 1, none⟩ = some (.int .i64 ((rd_T104 y132 x5_1).f1)) := hcc7 1 _ rfl; have hx7_2 : w15.cell? ⟨go5, (x5_1 : Int).toNat * 6 + 2, none⟩ = some (.int .i64 ((rd_T104 y132 x5_1).f2)) := hcc7 2 _ rfl; have hx7_3 : w15.cell? ⟨go5, (x5_1 : Int).toNat * 6 + 3, none⟩ = some (.int .i64 ((rd_T104 y132 x5_1).f3)) := hcc7 3 _ rfl; have hx7_4 : w15.cell? ⟨go5, (x5_1 : Int).toNat * 6 + 4, none⟩ = some (.int .i64 ((rd_T104 y132 x5_1).f4)) := hcc7 4 _ rfl; have hx7_5 : w15.cell? ⟨go5, (x5_1 : Int).toNat * 6 + 5, none⟩ = some (.int .i64 ((rd_T104 y132 x5_1).f5)) := hcc7 5 _ rfl; have hf7_0 : w15.frozen? ⟨go5, (x5_1 : Int).toNat * 6, none⟩ = false := hfr7 0; have hf7_1 : w15.frozen? ⟨go5, (x5_1 : Int).toNat * 6 + 1, none⟩ = false := hfr7 1; have hf7_2 : w15.frozen? ⟨go5, (x5_1 : Int).toNat * 6 + 2, none⟩ = false := hfr7 2; have hf7_3 : w15.frozen? ⟨go5, (x5_1 : Int).toNat * 6 + 3, none⟩ = false := hfr7 3; have hf7_4 : w15.frozen? ⟨go5, (x5_1 : Int).toNat * 6 + 4, none⟩ = false := hfr7 4; have hf7_5 : w15.frozen? ⟨go5, (x5_1 : Int).toNat * 6 + 5, none⟩ = false := hfr7 5; clear hcl7 hcc7 hfr7 hM7; replace p7 := eq_true p7; replace q7 := eq_true q7; have HX16 := Aside0.mk (show Kd.R k104 104 w15 w0.heap.size (fun k_ => (P0_ k_ ∨ w.heap.size ≤ k_)) (.slice (some ⟨go5, 0, none⟩) x0_1.length co11) y132 from (tR HO_0)); obtain ⟨ce16, hcl16, hM16, hcc16, hfr16⟩ := Kd.R_elem HX16.out z104 (x5_1 : Int) (of_decide_eq_true tA) (by have h_ : (x5_1 : Int) < ((x0_1.length : Int) : Int) := of_decide_eq_true tA; first | exact h_ | (have e_ := (Kd.R_reads' HO_0.out).1; omega) | simpa using h_); obtain rfl := k104_openM hM16; have HP16 := Kd.R_seg HX16.out (x5_1 : Int) (of_decide_eq_true tA) (by have h_ : (x5_1 : Int) < ((x0_1.length : Int) : Int) := of_decide_eq_true tA; first | exact h_ | (have e_ := (Kd.R_reads' HO_0.out).1; omega) | simpa using h_) (seg := [.int .i64 (wrap64 ((wrap64 (x1_1 + 1)) + 1))]) (j := 2) hcl16 hcc16 (show 3 ≤ 6 from by decide) (x' := (⟨(rd_T104 y132 x5_1).f0, (rd_T104 y132 x5_1).f1, wrap64 ((wrap64 (x1_1 + 1)) + 1), (rd_T104 y132 x5_1).f3, (rd_T104 y132 x5_1).f4, (rd_T104 y132 x5_1).f5⟩ : S104)) (k104_mkM _ _ _ (⟨(rd_T104 y132 x5_1).f0, (rd_T104 y132 x5_1).f1, wrap64 ((wrap64 (x1_1 + 1)) + 1), (rd_T104 y132 x5_1).f3, (rd_T104 y132 x5_1).f4, (rd_T104 y132 x5_1).f5⟩ : S104) ) (fun _ hk => hk); have hx16_2 := hcc16 2 _ rfl; (try simp only [show (k104).sz = 6 from rfl, Nat.mul_one, Nat.add_zero] at hx16_2); have hf16_2 := hfr16 2; (try simp only [show (k104).sz = 6 from rfl, Nat.mul_one, Nat.add_zero] at hf16_2); clear hcl16 hcc16 hfr16 hM16) | ((with_reducible refine gate_store (t := 3) (p := 30) rfl ?_); refine store_event (t := 3) (p := 30) (v := ?vo_w17) (w1 := (w15.setCell ⟨go5, (x5_1 : Int).toNat * 6 + 2, none⟩ (.int .i64 (wrap64 ((wrap64 (x1_1 + 1)) + 1))))) ?hg ?ho ?hn ?hr ?_; (case ho => rfl); (case hg => rfl); (case hn => rfl); (case hr => first | (go_simp; done) | (go_simp; rfl)); intro w17 hw; have hg : w15.grownBy w17 (some go5) := (by rw [hw]; exact HP16.2); have hp_ : Kd.R k104 104 w17 w0.heap.size (fun k_ => (P0_ k_ ∨ w.heap.size ≤ k_)) (.slice (some ⟨go5, 0, none⟩) x0_1.length co11) y133 := (by rw [hw, Ny133.out]; exact HP16.1); clear HP16; have n0_ := Aside0.mk (hp_); have n1_ := Aside0.mk ((by rw [hw]; exact below_set (HB.out) GB5.out : Below w0.heap.size w0 w17)); have n2_ := Aside0.mk (Kept.of_grown (S := (fun k_ => P0_ k_)) hg (by repeat (first | (with_reducible first | exact HK.out | apply Kept.alloc | apply Kept.drewN | apply Kept.drew) | exact HK.out)) (fun k_ e_ => (HO_0.out.1 k_ e_))); clear HO_0; clear HB; clear HK; have HO_0 := n0_; have HB := n1_; have HK := n2_; clear n0_ n1_ n2_; clear hg hw hp_; have p8 : 0 ≤ (x5_1 : Int) := of_decide_eq_true tA; have q8 : (x5_1 : Int) < ((x0_1.length : Int) : Int) := of_decide_eq_true tA; obtain ⟨ce8, hcl8, hM8, hcc8, hfr8⟩ := Kd.R_elem HO_0.out z104 (x5_1 : Int) p8 q8; obtain rfl := k104_openM hM8; have hx8_0 : w17.cell? ⟨go5, (x5_1 : Int).toNat * 6, none⟩ = some (.int .i64 ((rd_T104 y133 x5_1).f0)) := hcc8 0 _ rfl; have hx8_1 : w17.cell? ⟨go5, (x5_1 : Int).toNat * 6 + 1, none⟩ = some (.int .i64 ((rd_T104 y133 x5_1).f1)) := hcc8 1 _ rfl; have hx8_2 : w17.cell? ⟨go5, (x5_1 : Int).toNat * 6 + 2, none⟩ = some (.int .i64 ((rd_T104 y133 x5_1).f2)) := hcc8 2 _ rfl; have hx8_3 : w17.cell? ⟨go5, (x5_1 : Int).toNat * 6 + 3, none⟩ = some (.int .i64 ((rd_T104 y133 x5_1).f3)) := hcc8 3 _ rfl; have hx8_4 : w17.cell? ⟨go5, (x5_1 : Int).toNat * 6 + 4, none⟩ = some (.int .i64 ((rd_T104 y133 x5_1).f4)) := hcc8 4 _ rfl; have hx8_5 : w17.cell? ⟨go5, (x5_1 : Int).toNat * 6 + 5, none⟩ = some (.int .i64 ((rd_T104 y133 x5_1).f5)) := hcc8 5 _ rfl; have hf8_0 : w17.frozen? ⟨go5, (x5_1 : Int).toNat * 6, none⟩ = false := hfr8 0; have hf8_1 : w17.frozen? ⟨go5, (x5_1 : Int).toNat * 6 + 1, none⟩ = false := hfr8 1; have hf8_2 : w17.frozen? ⟨go5, (x5_1 : Int).toNat * 6 + 2, none⟩ = false := hfr8 2; have hf8_3 : w17.frozen? ⟨go5, (x5_1 : Int).toNat * 6 + 3, none⟩ = false := hfr8 3; have hf8_4 : w17.frozen? ⟨go5, (x5_1 : Int).toNat * 6 + 4, none⟩ = false := hfr8 4; have hf8_5 : w17.frozen? ⟨go5, (x5_1 : Int).toNat * 6 + 5, none⟩ = false := hfr8 5; clear hcl8 hcc8 hfr8 hM8; replace p8 := eq_true p8; replace q8 := eq_true q8; have HX18 := Aside0.mk (show Kd.R k104 104 w17 w0.heap.size (fun k_ => (P0_ k_ ∨ w.heap.size ≤ k_)) (.slice (some ⟨go5, 0, none⟩) x0_1.length co11) y133 from (tR HO_0)); obtain ⟨ce18, hcl18, hM18, hcc18, hfr18⟩ := Kd.R_elem HX18.out z104 (x5_1 : Int) (of_decide_eq_true tA) (by have h_ : (x5_1 : Int) < ((x0_1.length : Int) : Int) := of_decide_eq_true tA; first | exact h_ | (have e_ := (Kd.R_reads' HO_0.out).1; omega) | simpa using h_); obtain rfl := k104_openM hM18; have HP18 := Kd.R_seg HX18.out (x5_1 : Int) (of_decide_eq_true tA) (by have h_ : (x5_1 : Int) < ((x0_1.length : Int) : Int) := of_decide_eq_true tA; first | exact h_ | (have e_ := (Kd.R_reads' HO_0.out).1; omega) | simpa using h_) (seg := [.int .i64 (wrap64 ((wrap64 ((wrap64 (x1_1 + 1)) + 1)) + 1))]) (j := 3) hcl18 hcc18 (show 4 ≤ 6 from by decide) (x' := (⟨(rd_T104 y133 x5_1).f0, (rd_T104 y133 x5_1).f1, (rd_T104 y133 x5_1).f2, wrap64 ((wrap64 ((wrap64 (x1_1 + 1)) + 1)) + 1), (rd_T104 y133 x5_1).f4, (rd_T104 y133 x5_1).f5⟩ : S104)) (k104_mkM _ _ _ (⟨(rd_T104 y133 x5_1).f0, (rd_T104 y133 x5_1).f1, (rd_T104 y133 x5_1).f2, wrap64 ((wrap64 ((wrap64 (x1_1 + 1)) + 1)) + 1), (rd_T104 y133 x5_1).f4, (rd_T104 y133 x5_1).f5⟩ : S104) ) (fun _ hk => hk); have hx18_3 := hcc18 3 _ rfl; (try simp only [show (k104).sz = 6 from rfl, Nat.mul_one, Nat.add_zero] at hx18_3); have hf18_3 := hfr18 3; (try simp only [show (k104).sz = 6 from rfl, Nat.mul_one, Nat.add_zero] at hf18_3); clear hcl18 hcc18 hfr18 hM18) | ((with_reducible refine gate_store (t := 3) (p := 37) rfl ?_); refine store_event (t := 3) (p := 37) (v := ?vo_w19) (w1 := (w17.setCell ⟨go5, (x5_1 : Int).toNat * 6 + 3, none⟩ (.int .i64 (wrap64 ((wrap64 ((wrap64 (x1_1 + 1)) + 1)) + 1))))) ?hg ?ho ?hn ?hr ?_; (case ho => rfl); (case hg => rfl); (case hn => rfl); (case hr => first | (go_simp; done) | (go_simp; rfl)); intro w19 hw; have hg : w17.grownBy w19 (some go5) := (by rw [hw]; exact HP18.2); have hp_ : Kd.R k104 104 w19 w0.heap.size (fun k_ => (P0_ k_ ∨ w.heap.size ≤ k_)) (.slice (some ⟨go5, 0, none⟩) x0_1.length co11) y134 := (by rw [hw, Ny134.out]; exact HP18.1); clear HP18; have n0_ := Aside0.mk (hp_); have n1_ := Aside0.mk ((by rw [hw]; exact below_set (HB.out) GB5.out : Below w0.heap.size w0 w19)); have n2_ := Aside0.mk (Kept.of_grown (S := (fun k_ => P0_ k_)) hg (by repeat (first | (with_reducible first | exact HK.out | apply Kept.alloc | apply Kept.drewN | apply Kept.drew) | exact HK.out)) (fun k_ e_ => (HO_0.out.1 k_ e_))); clear HO_0; clear HB; clear HK; have HO_0 := n0_; have HB := n1_; have HK := n2_; clear n0_ n1_ n2_; clear hg hw hp_; have p9 : 0 ≤ (x5_1 : Int) := of_decide_eq_true tA; have q9 : (x5_1 : Int) < ((x0_1.length : Int) : Int) := of_decide_eq_true tA; obtain ⟨ce9, hcl9, hM9, hcc9, hfr9⟩ := Kd.R_elem HO_0.out z104 (x5_1 : Int) p9 q9; obtain rfl := k104_openM hM9; have hx9_0 : w19.cell? ⟨go5, (x5_1 : Int).toNat * 6, none⟩ = some (.int .i64 ((rd_T104 y134 x5_1).f0)) := hcc9 0 _ rfl; have hx9_1 : w19.cell? ⟨go5, (x5_1 : Int).toNat * 6 + 1, none⟩ = some (.int .i64 ((rd_T104 y134 x5_1).f1)) := hcc9 1 _ rfl; have hx9_2 : w19.cell? ⟨go5, (x5_1 : Int).toNat * 6 + 2, none⟩ = some (.int .i64 ((rd_T104 y134 x5_1).f2)) := hcc9 2 _ rfl; have hx9_3 : w19.cell? ⟨go5, (x5_1 : Int).toNat * 6 + 3, none⟩ = some (.int .i64 ((rd_T104 y134 x5_1).f3)) := hcc9 3 _ rfl; have hx9_4 : w19.cell? ⟨go5, (x5_1 : Int).toNat * 6 + 4, none⟩ = some (.int .i64 ((rd_T104 y134 x5_1).f4)) := hcc9 4 _ rfl; have hx9_5 : w19.cell? ⟨go5, (x5_1 : Int).toNat * 6 + 5, none⟩ = some (.int .i64 ((rd_T104 y134 x5_1).f5)) := hcc9 5 _ rfl; have hf9_0 : w19.frozen? ⟨go5, (x5_1 : Int).toNat * 6, none⟩ = false := hfr9 0; have hf9_1 : w19.frozen? ⟨go5, (x5_1 : Int).toNat * 6 + 1, none⟩ = false := hfr9 1; have hf9_2 : w19.frozen? ⟨go5, (x5_1 : Int).toNat * 6 + 2, none⟩ = false := hfr9 2; have hf9_3 : w19.frozen? ⟨go5, (x5_1 : Int).toNat * 6 + 3, none⟩ = false := hfr9 3; have hf9_4 : w19.frozen? ⟨go5, (x5_1 : Int).toNat * 6 + 4, none⟩ = false := hfr9 4; have hf9_5 : w19.frozen? ⟨go5, (x5_1 : Int).toNat * 6 + 5, none⟩ = false := hfr9 5; clear hcl9 hcc9 hfr9 hM9; replace p9 := eq_true p9; replace q9 := eq_true q9; have HX20 := Aside0.mk (show Kd.R k104 104 w19 w0.heap.size (fun k_ => (P0_ k_ ∨ w.heap.size ≤ k_)) (.slice (some ⟨go5, 0, none⟩) x0_1.length co11) y134 from (tR HO_0)); obtain ⟨ce20, hcl20, hM20, hcc20, hfr20⟩ := Kd.R_elem HX20.out z104 (x5_1 : Int) (of_decide_eq_true tA) (by have h_ : (x5_1 : Int) < ((x0_1.length : Int) : Int) := of_decide_eq_true tA; first | exact h_ | (have e_ := (Kd.R_reads' HO_0.out).1; omega) | simpa using h_); obtain rfl := k104_openM hM20; have HP20 := Kd.R_seg HX20.out (x5_1 : Int) (of_decide_eq_true tA) (by have h_ : (x5_1 : Int) < ((x0_1.length : Int) : Int) := of_decide_eq_true tA; first | exact h_ | (have e_ := (Kd.R_reads' HO_0.out).1; omega) | simpa using h_) (seg := [.int .i64 (wrap64 ((wrap64 ((wrap64 ((wrap64 (x1_1 + 1)) + 1)) + 1)) + 1))]) (j := 4) hcl20 hcc20 (show 5 ≤ 6 from by decide) (x' := (⟨(rd_T104 y134 x5_1).f0, (rd_T104 y134 x5_1).f1, (rd_T104 y134 x5_1).f2, (rd_T104 y134 x5_1).f3, wrap64 ((wrap64 ((wrap64 ((wrap64 (x1_1 + 1)) + 1)) + 1)) + 1), (rd_T104 y134 x5_1).f5⟩ : S104)) (k104_mkM _ _ _ (⟨(rd_T104 y134 x5_1).f0, (rd_T104 y134 x5_1).f1, (rd_T104 y134 x5_1).f2, (rd_T104 y134 x5_1).f3, wrap64 ((wrap64 ((wrap64 ((wrap64 (x1_1 + 1)) + 1)) + 1)) + 1), (rd_T104 y134 x5_1).f5⟩ : S104) ) (fun _ hk => hk); have hx20_4 := hcc20 4 _ rfl; (try simp only [show (k104).sz = 6 from rfl, Nat.mul_one, Nat.add_zero] at hx20_4); have hf20_4 := hfr20 4; (try simp only [show (k104).sz = 6 from rfl, Nat.mul_one, Nat.add_zero] at hf20_4); clear hcl20 hcc20 hfr20 hM20) | ((with_reducible refine gate_store (t := 3) (p := 44) rfl ?_); refine store_event (t := 3) (p := 44) (v := ?vo_w21) (w1 := (w19.setCell ⟨go5, (x5_1 : Int).toNat * 6 + 4, none⟩ (.int .i64 (wrap64 ((wrap64 ((wrap64 ((wrap64 (x1_1 + 1)) + 1)) + 1)) + 1))))) ?hg ?ho ?hn ?hr ?_; (case ho => rfl); (case hg => rfl); (case hn => rfl); (case hr => first | (go_simp; done) | (go_simp; rfl)); intro w21 hw; have hg : w19.grownBy w21 (some go5) := (by rw [hw]; exact HP20.2); have hp_ : Kd.R k104 104 w21 w0.heap.size (fun k_ => (P0_ k_ ∨ w.heap.size ≤ k_)) (.slice (some ⟨go5, 0, none⟩) x0_1.length co11) y135 := (by rw [hw, Ny135.out]; exact HP20.1); clear HP20; have n0_ := Aside0.mk (hp_); have n1_ := Aside0.mk ((by rw [hw]; exact below_set (HB.out) GB5.out : Below w0.heap.size w0 w21)); have n2_ := Aside0.mk (Kept.of_grown (S := (fun k_ => P0_ k_)) hg (by repeat (first | (with_reducible first | exact HK.out | apply Kept.alloc | apply Kept.drewN | apply Kept.drew) | exact HK.out)) (fun k_ e_ => (HO_0.out.1 k_ e_))); clear HO_0; clear HB; clear HK; have HO_0 := n0_; have HB := n1_; have HK := n2_; clear n0_ n1_ n2_; clear hg hw hp_; have p10 : 0 ≤ (x5_1 : Int) := of_decide_eq_true tA; have q10 : (x5_1 : Int) < ((x0_1.length : Int) : Int) := of_decide_eq_true tA; obtain ⟨ce10, hcl10, hM10, hcc10, hfr10⟩ := Kd.R_elem HO_0.out z104 (x5_1 : Int) p10 q10; obtain rfl := k104_openM hM10; have hx10_0 : w21.cell? ⟨go5, (x5_1 : Int).toNat * 6, none⟩ = some (.int .i64 ((rd_T104 y135 x5_1).f0)) := hcc10 0 _ rfl; have hx10_1 : w21.cell? ⟨go5, (x5_1 : Int).toNat * 6 + 1, none⟩ = some (.int .i64 ((rd_T104 y135 x5_1).f1)) := hcc10 1 _ rfl; have hx10_2 : w21.cell? ⟨go5, (x5_1 : Int).toNat * 6 + 2, none⟩ = some (.int .i64 ((rd_T104 y135 x5_1).f2)) := hcc10 2 _ rfl; have hx10_3 : w21.cell? ⟨go5, (x5_1 : Int).toNat * 6 + 3, none⟩ = some (.int .i64 ((rd_T104 y135 x5_1).f3)) := hcc10 3 _ rfl; have hx10_4 : w21.cell? ⟨go5, (x5_1 : Int).toNat * 6 + 4, none⟩ = some (.int .i64 ((rd_T104 y135 x5_1).f4)) := hcc10 4 _ rfl; have hx10_5 : w21.cell? ⟨go5, (x5_1 : Int).toNat * 6 + 5, none⟩ = some (.int .i64 ((rd_T104 y135 x5_1).f5)) := hcc10 5 _ rfl; have hf10_0 : w21.frozen? ⟨go5, (x5_1 : Int).toNat * 6, none⟩ = false := hfr10 0; have hf10_1 : w21.frozen? ⟨go5, (x5_1 : Int).toNat * 6 + 1, none⟩ = false := hfr10 1; have hf10_2 : w21.frozen? ⟨go5, (x5_1 : Int).toNat * 6 + 2, none⟩ = false := hfr10 2; have hf10_3 : w21.frozen? ⟨go5, (x5_1 : Int).toNat * 6 + 3, none⟩ = false := hfr10 3; have hf10_4 : w21.frozen? ⟨go5, (x5_1 : Int).toNat * 6 + 4, none⟩ = false := hfr10 4; have hf10_5 : w21.frozen? ⟨go5, (x5_1 : Int).toNat * 6 + 5, none⟩ = false := hfr10 5; clear hcl10 hcc10 hfr10 hM10; replace p10 := eq_true p10; replace q10 := eq_true q10; have HX22 := Aside0.mk (show Kd.R k104 104 w21 w0.heap.size (fun k_ => (P0_ k_ ∨ w.heap.size ≤ k_)) (.slice (some ⟨go5, 0, none⟩) x0_1.length co11) y135 from (tR HO_0)); obtain ⟨ce22, hcl22, hM22, hcc22, hfr22⟩ := Kd.R_elem HX22.out z104 (x5_1 : Int) (of_decide_eq_true tA) (by have h_ : (x5_1 : Int) < ((x0_1.length : Int) : Int) := of_decide_eq_true tA; first | exact h_ | (have e_ := (Kd.R_reads' HO_0.out).1; omega) | simpa using h_); obtain rfl := k104_openM hM22; have HP22 := Kd.R_seg HX22.out (x5_1 : Int) (of_decide_eq_true tA) (by have h_ : (x5_1 : Int) < ((x0_1.length : Int) : Int) := of_decide_eq_true tA; first | exact h_ | (have e_ := (Kd.R_reads' HO_0.out).1; omega) | simpa using h_) (seg := [.int .i64 (wrap64 ((wrap64 ((wrap64 ((wrap64 ((wrap64 (x1_1 + 1)) + 1)) + 1)) + 1)) + 1))]) (j := 5) hcl22 hcc22 (show 6 ≤ 6 from by decide) (x' := (⟨(rd_T104 y135 x5_1).f0, (rd_T104 y135 x5_1).f1, (rd_T104 y135 x5_1).f2, (rd_T104 y135 x5_1).f3, (rd_T104 y135 x5_1).f4, wrap64 ((wrap64 ((wrap64 ((wrap64 ((wrap64 (x1_1 + 1)) + 1)) + 1)) + 1)) + 1)⟩ : S104)) (k104_mkM _ _ _ (⟨(rd_T104 y135 x5_1).f0, (rd_T104 y135 x5_1).f1, (rd_T104 y135 x5_1).f2, (rd_T104 y135 x5_1).f3, (rd_T104 y135 x5_1).f4, wrap64 ((wrap64 ((wrap64 ((wrap64 ((wrap64 (x1_1 + 1)) + 1)) + 1)) + 1)) + 1)⟩ : S104) ) (fun _ hk => hk); have hx22_5 := hcc22 5 _ rfl; (try simp only [show (k104).sz = 6 from rfl, Nat.mul_one, Nat.add_zero] at hx22_5); have hf22_5 := hfr22 5; (try simp only [show (k104).sz = 6 from rfl, Nat.mul_one, Nat.add_zero] at hf22_5); clear hcl22 hcc22 hfr22 hM22) | ((with_reducible refine gate_store (t := 3) (p := 51) rfl ?_); refine store_event (t := 3) (p := 51) (v := ?vo_w23) (w1 := (w21.setCell ⟨go5, (x5_1 : Int).toNat * 6 + 5, none⟩ (.int .i64 (wrap64 ((wrap64 ((wrap64 ((wrap64 ((wrap64 (x1_1 + 1)) + 1)) + 1)) + 1)) + 1))))) ?hg ?ho ?hn ?hr ?_; (case ho => rfl); (case hg => rfl); (case hn => rfl); (case hr => first | (go_simp; done) | (go_simp; rfl)); intro w23 hw; have hg : w21.grownBy w23 (some go5) := (by rw [hw]; exact HP22.2); have hp_ : Kd.R k104 104 w23 w0.heap.size (fun k_ => (P0_ k_ ∨ w.heap.size ≤ k_)) (.slice (some ⟨go5, 0, none⟩) x0_1.length co11) y136 := (by rw [hw, Ny136.out]; exact HP22.1); clear HP22; have n0_ := Aside0.mk (hp_); have n1_ := Aside0.mk ((by rw [hw]; exact below_set (HB.out) GB5.out : Below w0.heap.size w0 w23)); have n2_ := Aside0.mk (Kept.of_grown (S := (fun k_ => P0_ k_)) hg (by repeat (first | (with_reducible first | exact HK.out | apply Kept.alloc | apply Kept.drewN | apply Kept.drew) | exact HK.out)) (fun k_ e_ => (HO_0.out.1 k_ e_))); clear HO_0; clear HB; clear HK; have HO_0 := n0_; have HB := n1_; have HK := n2_; clear n0_ n1_ n2_; clear hg hw hp_))
     go_roundg k1
     case measure => have := HK1.out; omega
     case rel => exact ⟨(y136), (wrap64 ((wrap64 ((wrap64 ((wrap64 ((wrap64 ((wrap64 (x1_1 + 1)) + 1)) + 1)) + 1)) + 1)) + 1)), (wrap64 (x5_1 + 1)), tS, tS, H', ⟨tI⟩, ⟨tR HO_0⟩, ⟨by repeat (first | (with_reducible first | exact HK.out | apply Kept.alloc | apply Kept.drewN | apply Kept.drew) | exact HK.out)⟩, ⟨tB⟩⟩
    ·rw [if_neg c4] at H
     exact absurd H (by simp)
   ·rw [if_neg c3] at H
    have c3b0 : decide (x5_1 < (x0_1.length : Int)) = false := decide_eq_false c3
    clear c3
    simp only [Option.some.injEq, Prod.mk.injEq] at H
    obtain ⟨rfl, rfl⟩ := H
    obtain ⟨Ao24, co24, eo24⟩ := Kd.R_slice HO_0.out
    subst eo24
    go_wp2
    go_ret
    exact ⟨tE, tR HO_0, tB, by repeat (first | (with_reducible first | exact HK.out | apply Kept.alloc | apply Kept.drewN | apply Kept.drew) | exact HK.out)⟩

/-! ### laws_markClaimList: function 25 -/
def laws_markClaimList.f (k : Nat) (a0_0 : Int) (l0_1 : List (S104)) (a1 : Int) : Option (Int × (List (S104))) := (laws_markClaimS.f k l0_1 a1).bind fun bt138 => (some (bt138.1, bt138.2))
theorem laws_markClaimList.mono : ∀ a0 a1 a2 k, LeO (laws_markClaimList.f k a0 a1 a2) (laws_markClaimList.f (k + 1) a0 a1 a2) := by
 intro a0 a1 a2 k
 unfold laws_markClaimList.f
 repeat' first
   | (with_reducible exact laws_markClaimS.mono _ _ _)
   | (with_reducible exact LeO.refl _)
   | (with_reducible exact LeO.none _)
   | (with_reducible refine LeO.ite ?_ ?_)
   | (with_reducible refine LeO.bind ?_ (fun _ => ?_))
   | exact laws_markClaimS.mono _ _ _
   | exact LeO.none _
   | refine LeO.ite ?_ ?_
   | refine LeO.bind ?_ (fun _ => ?_)
set_option maxHeartbeats 8000000 in
set_option maxRecDepth 100000 in
theorem laws_markClaimList.calls (k : Nat) (a0_0 : Int) (P0_1_ : Nat → Prop) (u9000_ : Value) (l0_1 : List (S104)) (a1 : Int) (r1 : Int) (r2 : List (S104)) (w0 w : World) (hB : Below w0.heap.size w0 w) (ho0_1 : Kd.R k104 104 w w0.heap.size P0_1_ u9000_ l0_1) (h : laws_markClaimList.f k a0_0 l0_1 a1 = some (r1, r2)) :
  Calls Try.prog 25 #[.agg #[.int .i64 a0_0, u9000_], .int .i64 a1] w fun e w' => e = .returned (.int .i64 r1) ∧ Kd.R k104 104 w' w0.heap.size (fun k_ => (P0_1_ k_ ∨ w.heap.size ≤ k_)) u9000_ r2 ∧ Below w0.heap.size w0 w' ∧ Kept w w' (fun k_ => P0_1_ k_) := by
 have hu35 := Try.underlying35
 have HO0_1 := Aside0.mk (show Kd.R k104 104 w w0.heap.size (fun k_ => (P0_1_ k_ ∨ w.heap.size ≤ k_)) u9000_ l0_1 from Kd.R_mono ho0_1 (fun k_ hk => (.inl hk)))
 have HK := Aside0.mk (Kept.refl w (fun k_ => P0_1_ k_))
 have HW0 := Aside0.mk hB.size
 have HB := Aside0.mk hB
 clear hB
 have H : ((laws_markClaimS.f k l0_1 a1).bind fun bt138 => (some (bt138.1, bt138.2))) = some (r1, r2) := h
 clear h
 replace H := Option.bind_eq_some_iff.mp H
 obtain ⟨⟨t138, t139⟩, A30, H⟩ := H
 replace H : (some (t138, t139)) = some (r1, r2) := H
 have A3 := Aside0.mk A30
 clear A30
 simp only [Option.some.injEq, Prod.mk.injEq] at H
 obtain ⟨rfl, rfl⟩ := H
 obtain ⟨Ao4, co4, eo4⟩ := Kd.R_slice HO0_1.out
 subst eo4
 go_enter Try.func25, Try.ntmps25
 go_wp2_with (first | ((with_reducible refine gate_dst (N := 2) rfl ?_); refine box_event ?hg (N := 2) ?hd (cs := #[.int .i64 a0_0, .slice Ao4 l0_1.length co4]) (t := 35) ?hr ?_; (case hd => rfl); (case hg => rfl); (case hr => exact tG); intro gb137 hg w5 hbox hb; have n0_ := Aside0.mk (Kd.R_below (tR HO0_1) hb); have n1_ := Aside0.mk (Kept.below (S := (fun k_ => P0_1_ k_)) (by repeat (first | (with_reducible first | exact HK.out | apply Kept.alloc | apply Kept.drewN | apply Kept.drew) | exact HK.out)) hb); have n2_ := Aside0.mk (below_step tB hb); have n3_ := Aside0.mk (hbox); have n4_ := Aside0.mk ((by rw [hg]; exact (by first | exact HK.out.1 | exact (show Kept w _ (fun k_ => P0_1_ k_) from by repeat (first | (with_reducible first | exact HK.out | apply Kept.alloc | apply Kept.drewN | apply Kept.drew) | exact HK.out)).1) : w.heap.size ≤ gb137)); have n5_ := Aside0.mk ((by rw [hg]; exact (below_size tB) : w0.heap.size ≤ gb137)); clear HO0_1; clear HK; clear HB; have HO0_1 := n0_; have HK := n1_; have HB := n2_; have BK137 := n3_; have GW137 := n4_; have GE137 := n5_; clear n0_ n1_ n2_ n3_ n4_ n5_; clear hb hbox hg; obtain ⟨hcz6_0, hcz6_1, hfz6_0, hfz6_1⟩ := bc2 BK137.out) | ((with_reducible refine gate_callee (f := 79) rfl ?_); refine goesL_ (some 8) rfl rfl Try.func79 (by kernel_rfl) rfl #[.slice Ao4 l0_1.length co4, .int .i64 a1] rfl tL ?_; (with_reducible refine (laws_markClaimS.calls k (fun k_ => some k_ = (.slice Ao4 l0_1.length co4 : Value).ownBlock) (.slice Ao4 l0_1.length co4) l0_1 a1 t138 t139 w0 _ ?side1 ?side2 A3.out).mono ?_); (case side1 => exact tB); (case side2 => exact Kd.R_tight rfl HO0_1.out); rintro e w7 ⟨rfl, hy0, hb, hkp⟩; refine ⟨_, rfl, ?_⟩; have n0_ := Aside0.mk (Kd.R_reok rfl hy0 (fun k_ e_ => HO0_1.out.1 k_ e_)); have n1_ := Aside0.mk (blk_kept (tK BK137) hkp (fun hs_ => (fun e_ => (Kd.R_ne HO0_1.out BK137.out (by decide)) e_) hs_)); have n2_ := Aside0.mk (Kept.then_ (S := (fun k_ => P0_1_ k_)) (by repeat (first | (with_reducible first | exact HK.out | apply Kept.alloc | apply Kept.drewN | apply Kept.drew | refine Kept.setCell ?_ (.inr GW137.out) _) | exact HK.out)) hkp (fun k_ hs_ => (fun e_ => (HO0_1.out.1 k_ e_.symm)) hs_)); have n3_ := Aside0.mk (hb); clear HO0_1; clear BK137; clear HK; clear HB; have HO0_1 := n0_; have BK137 := n1_; have HK := n2_; have HB := n3_; clear n0_ n1_ n2_ n3_; (try clear hb); (try clear hkp); (try clear hy0)))
 go_ret
 exact ⟨tE, tR HO0_1, tB, by repeat (first | (with_reducible first | exact HK.out | apply Kept.alloc | apply Kept.drewN | apply Kept.drew | refine Kept.setCell ?_ (.inr GW137.out) _) | exact HK.out)⟩

/-! ### laws_heldClaimS: function 80 -/
def laws_heldClaimS.l0 : Nat → List (S104) → Int → Int → Option (Int)
 | 0, _, _, _ => none
 | k + 1, x0, x1, x5 => if x5 < (x0.length : Int) then (if 0 ≤ x5 then (if ((rd_T104 x0 x5).f0) = x1 then (if ((rd_T104 x0 x5).f1) = (wrap64 (x1 + 1)) then (if ((rd_T104 x0 x5).f2) = (wrap64 ((wrap64 (x1 + 1)) + 1)) then (if ((rd_T104 x0 x5).f3) = (wrap64 ((wrap64 ((wrap64 (x1 + 1)) + 1)) + 1)) then (if ((rd_T104 x0 x5).f4) = (wrap64 ((wrap64 ((wrap64 ((wrap64 (x1 + 1)) + 1)) + 1)) + 1)) then (if ((rd_T104 x0 x5).f5) = (wrap64 ((wrap64 ((wrap64 ((wrap64 ((wrap64 (x1 + 1)) + 1)) + 1)) + 1)) + 1)) then (laws_heldClaimS.l0 k x0 (wrap64 ((wrap64 ((wrap64 ((wrap64 ((wrap64 ((wrap64 (x1 + 1)) + 1)) + 1)) + 1)) + 1)) + 1)) (wrap64 (x5 + 1))) else (some (-1))) else (some (-1))) else (some (-1))) else (some (-1))) else (some (-1))) else (some (-1))) else (none)) else (some x1)
def laws_heldClaimS.f (k : Nat) (l0 : List (S104)) (a1 : Int) : Option (Int) := laws_heldClaimS.l0 k l0 a1 0
theorem laws_heldClaimS.mono_l : ∀ k, (∀ y0 y1 y2, LeO (laws_heldClaimS.l0 k y0 y1 y2) (laws_heldClaimS.l0 (k + 1) y0 y1 y2))
 | 0 => fun _ _ _ r h => by simp [laws_heldClaimS.l0] at h
 | k + 1 => by
  have ih0 := laws_heldClaimS.mono_l k
  ·intro y0 y1 y2
   unfold laws_heldClaimS.l0
   repeat' first
   | (with_reducible exact ih0 _ _ _)
   | (with_reducible exact LeO.refl _)
   | (with_reducible exact LeO.none _)
   | (with_reducible refine LeO.ite ?_ ?_)
   | (with_reducible refine LeO.bind ?_ (fun _ => ?_))
   | exact ih0 _ _ _
   | exact LeO.none _
   | refine LeO.ite ?_ ?_
   | refine LeO.bind ?_ (fun _ => ?_)
theorem laws_heldClaimS.mono : ∀ a0 a1 k, LeO (laws_heldClaimS.f k a0 a1) (laws_heldClaimS.f (k + 1) a0 a1) := by
 intro a0 a1 k
 have ih0 := laws_heldClaimS.mono_l k
 unfold laws_heldClaimS.f
 repeat' first
   | (with_reducible exact ih0 _ _ _)
   | (with_reducible exact LeO.refl _)
   | (with_reducible exact LeO.none _)
   | (with_reducible refine LeO.ite ?_ ?_)
   | (with_reducible refine LeO.bind ?_ (fun _ => ?_))
   | exact ih0 _ _ _
   | exact LeO.none _
   | refine LeO.ite ?_ ?_
   | refine LeO.bind ?_ (fun _ => ?_)
set_option maxHeartbeats 8000000 in
set_option maxRecDepth 100000 in
theorem laws_heldClaimS.calls (k : Nat) (A0 : Option Addr) (c0 : Nat) (l0 : List (S104)) (a1 : Int) (r : Int) (w : World) (hr0 : Kd.C k104 w A0 l0.length l0) (hc0 : l0.length ≤ c0) (h : laws_heldClaimS.f k l0 a1 = some r) :
  Calls Try.prog 80 #[.slice A0 l0.length c0, .int .i64 a1] w fun e w' => e = .returned (.int .i64 r) ∧ Drawn0 w w' := by
 have HR0 := Aside0.mk hr0
 have HC0 := Aside0.mk hc0
 clear hr0 hc0
 have H : (laws_heldClaimS.l0 k l0 a1 0) = some r := h
 clear h
 have H' := Aside0.mk H
 clear H
 go_enter Try.func80, Try.ntmps80
 go_wp2
 go_loopg [1, 5] k (fun kq v1 v5 w' => ∃ (x1_1 : Int) (x5_1 : Int), v1 = .int .i64 x1_1 ∧ v5 = .int .i64 x5_1 ∧ Aside0 (laws_heldClaimS.l0 kq l0 x1_1 x5_1 = some r) ∧ Aside0 (kq ≤ k) ∧ Drawn0 w w')
 case atStart => exact ⟨(a1), (0), tS, tS, H', ⟨Nat.le_refl _⟩, by repeat (first | exact Drawn0.refl _ | apply Drawn0.step)⟩
 case round =>
  clear H'
  try clear p2
  obtain ⟨x1_1, x5_1, rfl, rfl, HA, HK1, ⟨m1, rfl⟩⟩ := hrel
  cases gk with
  | zero => exact absurd HA.out (by simp [laws_heldClaimS.l0])
  | succ k1 =>
   have H := HA.out
   clear HA
   simp only [laws_heldClaimS.l0] at H
   by_cases c3 : x5_1 < (l0.length : Int)
   ·rw [if_pos c3] at H
    have c3b0 : decide (x5_1 < (l0.length : Int)) = true := decide_eq_true c3
    clear c3
    by_cases c4 : 0 ≤ x5_1
    ·rw [if_pos c4] at H
     have c4b0 : decide (0 ≤ x5_1) = true := decide_eq_true c4
     clear c4
     by_cases c5 : ((rd_T104 l0 x5_1).f0) = x1_1
     ·rw [if_pos c5] at H
      have c5b0 : (((rd_T104 l0 x5_1).f0) == x1_1) = true := beq_iff_eq.mpr c5
      have c5b1 : (((rd_T104 l0 x5_1).f0) != x1_1) = false := bne_eq_false_iff_eq.mpr c5
      clear c5
      by_cases c6 : ((rd_T104 l0 x5_1).f1) = (wrap64 (x1_1 + 1))
      ·rw [if_pos c6] at H
       have c6b0 : (((rd_T104 l0 x5_1).f1) == (wrap64 (x1_1 + 1))) = true := beq_iff_eq.mpr c6
       have c6b1 : (((rd_T104 l0 x5_1).f1) != (wrap64 (x1_1 + 1))) = false := bne_eq_false_iff_eq.mpr c6
       clear c6
       by_cases c7 : ((rd_T104 l0 x5_1).f2) = (wrap64 ((wrap64 (x1_1 + 1)) + 1))
       ·rw [if_pos c7] at H
        have c7b0 : (((rd_T104 l0 x5_1).f2) == (wrap64 ((wrap64 (x1_1 + 1)) + 1))) = true := beq_iff_eq.mpr c7
        have c7b1 : (((rd_T104 l0 x5_1).f2) != (wrap64 ((wrap64 (x1_1 + 1)) + 1))) = false := bne_eq_false_iff_eq.mpr c7
        clear c7
        by_cases c8 : ((rd_T104 l0 x5_1).f3) = (wrap64 ((wrap64 ((wrap64 (x1_1 + 1)) + 1)) + 1))
        ·rw [if_pos c8] at H
         have c8b0 : (((rd_T104 l0 x5_1).f3) == (wrap64 ((wrap64 ((wrap64 (x1_1 + 1)) + 1)) + 1))) = true := beq_iff_eq.mpr c8
         have c8b1 : (((rd_T104 l0 x5_1).f3) != (wrap64 ((wrap64 ((wrap64 (x1_1 + 1)) + 1)) + 1))) = false := bne_eq_false_iff_eq.mpr c8
         clear c8
         by_cases c9 : ((rd_T104 l0 x5_1).f4) = (wrap64 ((wrap64 ((wrap64 ((wrap64 (x1_1 + 1)) + 1)) + 1)) + 1))
         ·rw [if_pos c9] at H
          have c9b0 : (((rd_T104 l0 x5_1).f4) == (wrap64 ((wrap64 ((wrap64 ((wrap64 (x1_1 + 1)) + 1)) + 1)) + 1))) = true := beq_iff_eq.mpr c9
          have c9b1 : (((rd_T104 l0 x5_1).f4) != (wrap64 ((wrap64 ((wrap64 ((wrap64 (x1_1 + 1)) + 1)) + 1)) + 1))) = false := bne_eq_false_iff_eq.mpr c9
          clear c9
          by_cases c10 : ((rd_T104 l0 x5_1).f5) = (wrap64 ((wrap64 ((wrap64 ((wrap64 ((wrap64 (x1_1 + 1)) + 1)) + 1)) + 1)) + 1))
          ·rw [if_pos c10] at H
           have c10b0 : (((rd_T104 l0 x5_1).f5) == (wrap64 ((wrap64 ((wrap64 ((wrap64 ((wrap64 (x1_1 + 1)) + 1)) + 1)) + 1)) + 1))) = true := beq_iff_eq.mpr c10
           have c10b1 : (((rd_T104 l0 x5_1).f5) != (wrap64 ((wrap64 ((wrap64 ((wrap64 ((wrap64 (x1_1 + 1)) + 1)) + 1)) + 1)) + 1))) = false := bne_eq_false_iff_eq.mpr c10
           clear c10
           have H' := Aside0.mk H
           clear H
           have p140 : 0 ≤ (x5_1 : Int) := of_decide_eq_true tA
           have q140 : x5_1 < (l0.length : Int) := of_decide_eq_true tA
           obtain ⟨ad140, e140, hx140_0, hx140_1, hx140_2, hx140_3, hx140_4, hx140_5⟩ := at_T104 HR0.out x5_1 p140 q140
           cases e140
           replace p140 := eq_true p140
           replace q140 := eq_true q140
           have p141 : 0 ≤ (x5_1 : Int) := of_decide_eq_true tA
           have q141 : x5_1 < (l0.length : Int) := of_decide_eq_true tA
           obtain ⟨ad141, e141, hx141_0, hx141_1, hx141_2, hx141_3, hx141_4, hx141_5⟩ := at_T104 HR0.out x5_1 p141 q141
           obtain rfl : ad140 = ad141 := (by injection e141)
           replace p141 := eq_true p141
           replace q141 := eq_true q141
           have p142 : 0 ≤ (x5_1 : Int) := of_decide_eq_true tA
           have q142 : x5_1 < (l0.length : Int) := of_decide_eq_true tA
           obtain ⟨ad142, e142, hx142_0, hx142_1, hx142_2, hx142_3, hx142_4, hx142_5⟩ := at_T104 HR0.out x5_1 p142 q142
           obtain rfl : ad140 = ad142 := (by injection e142)
           replace p142 := eq_true p142
           replace q142 := eq_true q142
           have p143 : 0 ≤ (x5_1 : Int) := of_decide_eq_true tA
           have q143 : x5_1 < (l0.length : Int) := of_decide_eq_true tA
           obtain ⟨ad143, e143, hx143_0, hx143_1, hx143_2, hx143_3, hx143_4, hx143_5⟩ := at_T104 HR0.out x5_1 p143 q143
           obtain rfl : ad140 = ad143 := (by injection e143)
           replace p143 := eq_true p143
           replace q143 := eq_true q143
           have p144 : 0 ≤ (x5_1 : Int) := of_decide_eq_true tA
           have q144 : x5_1 < (l0.length : Int) := of_decide_eq_true tA
           obtain ⟨ad144, e144, hx144_0, hx144_1, hx144_2, hx144_3, hx144_4, hx144_5⟩ := at_T104 HR0.out x5_1 p144 q144
           obtain rfl : ad140 = ad144 := (by injection e144)
           replace p144 := eq_true p144
           replace q144 := eq_true q144
           have p145 : 0 ≤ (x5_1 : Int) := of_decide_eq_true tA
           have q145 : x5_1 < (l0.length : Int) := of_decide_eq_true tA
           obtain ⟨ad145, e145, hx145_0, hx145_1, hx145_2, hx145_3, hx145_4, hx145_5⟩ := at_T104 HR0.out x5_1 p145 q145
           obtain rfl : ad140 = ad145 := (by injection e145)
           replace p145 := eq_true p145
           replace q145 := eq_true q145
           go_wp2
           go_roundg k1
           case measure => have := HK1.out; omega
           case rel => exact ⟨(wrap64 ((wrap64 ((wrap64 ((wrap64 ((wrap64 ((wrap64 (x1_1 + 1)) + 1)) + 1)) + 1)) + 1)) + 1)), (wrap64 (x5_1 + 1)), tS, tS, H', ⟨tI⟩, by repeat (first | exact Drawn0.refl _ | apply Drawn0.step)⟩
          ·rw [if_neg c10] at H
           have c10b0 : (((rd_T104 l0 x5_1).f5) == (wrap64 ((wrap64 ((wrap64 ((wrap64 ((wrap64 (x1_1 + 1)) + 1)) + 1)) + 1)) + 1))) = false := beq_eq_false_iff_ne.mpr c10
           have c10b1 : (((rd_T104 l0 x5_1).f5) != (wrap64 ((wrap64 ((wrap64 ((wrap64 ((wrap64 (x1_1 + 1)) + 1)) + 1)) + 1)) + 1))) = true := bne_iff_ne.mpr c10
           obtain rfl := Option.some.inj H
           have p140 : 0 ≤ (x5_1 : Int) := of_decide_eq_true tA
           have q140 : x5_1 < (l0.length : Int) := of_decide_eq_true tA
           obtain ⟨ad140, e140, hx140_0, hx140_1, hx140_2, hx140_3, hx140_4, hx140_5⟩ := at_T104 HR0.out x5_1 p140 q140
           cases e140
           replace p140 := eq_true p140
           replace q140 := eq_true q140
           have p141 : 0 ≤ (x5_1 : Int) := of_decide_eq_true tA
           have q141 : x5_1 < (l0.length : Int) := of_decide_eq_true tA
           obtain ⟨ad141, e141, hx141_0, hx141_1, hx141_2, hx141_3, hx141_4, hx141_5⟩ := at_T104 HR0.out x5_1 p141 q141
           obtain rfl : ad140 = ad141 := (by injection e141)
           replace p141 := eq_true p141
           replace q141 := eq_true q141
           have p142 : 0 ≤ (x5_1 : Int) := of_decide_eq_true tA
           have q142 : x5_1 < (l0.length : Int) := of_decide_eq_true tA
           obtain ⟨ad142, e142, hx142_0, hx142_1, hx142_2, hx142_3, hx142_4, hx142_5⟩ := at_T104 HR0.out x5_1 p142 q142
           obtain rfl : ad140 = ad142 := (by injection e142)
           replace p142 := eq_true p142
           replace q142 := eq_true q142
           have p143 : 0 ≤ (x5_1 : Int) := of_decide_eq_true tA
           have q143 : x5_1 < (l0.length : Int) := of_decide_eq_true tA
           obtain ⟨ad143, e143, hx143_0, hx143_1, hx143_2, hx143_3, hx143_4, hx143_5⟩ := at_T104 HR0.out x5_1 p143 q143
           obtain rfl : ad140 = ad143 := (by injection e143)
           replace p143 := eq_true p143
           replace q143 := eq_true q143
           have p144 : 0 ≤ (x5_1 : Int) := of_decide_eq_true tA
           have q144 : x5_1 < (l0.length : Int) := of_decide_eq_true tA
           obtain ⟨ad144, e144, hx144_0, hx144_1, hx144_2, hx144_3, hx144_4, hx144_5⟩ := at_T104 HR0.out x5_1 p144 q144
           obtain rfl : ad140 = ad144 := (by injection e144)
           replace p144 := eq_true p144
           replace q144 := eq_true q144
           have p145 : 0 ≤ (x5_1 : Int) := of_decide_eq_true tA
           have q145 : x5_1 < (l0.length : Int) := of_decide_eq_true tA
           obtain ⟨ad145, e145, hx145_0, hx145_1, hx145_2, hx145_3, hx145_4, hx145_5⟩ := at_T104 HR0.out x5_1 p145 q145
           obtain rfl : ad140 = ad145 := (by injection e145)
           replace p145 := eq_true p145
           replace q145 := eq_true q145
           go_wp2
           go_ret
           exact ⟨tS, by repeat (first | exact Drawn0.refl _ | apply Drawn0.step)⟩
         ·rw [if_neg c9] at H
          have c9b0 : (((rd_T104 l0 x5_1).f4) == (wrap64 ((wrap64 ((wrap64 ((wrap64 (x1_1 + 1)) + 1)) + 1)) + 1))) = false := beq_eq_false_iff_ne.mpr c9
          have c9b1 : (((rd_T104 l0 x5_1).f4) != (wrap64 ((wrap64 ((wrap64 ((wrap64 (x1_1 + 1)) + 1)) + 1)) + 1))) = true := bne_iff_ne.mpr c9
          obtain rfl := Option.some.inj H
          have p140 : 0 ≤ (x5_1 : Int) := of_decide_eq_true tA
          have q140 : x5_1 < (l0.length : Int) := of_decide_eq_true tA
          obtain ⟨ad140, e140, hx140_0, hx140_1, hx140_2, hx140_3, hx140_4, hx140_5⟩ := at_T104 HR0.out x5_1 p140 q140
          cases e140
          replace p140 := eq_true p140
          replace q140 := eq_true q140
          have p141 : 0 ≤ (x5_1 : Int) := of_decide_eq_true tA
          have q141 : x5_1 < (l0.length : Int) := of_decide_eq_true tA
          obtain ⟨ad141, e141, hx141_0, hx141_1, hx141_2, hx141_3, hx141_4, hx141_5⟩ := at_T104 HR0.out x5_1 p141 q141
          obtain rfl : ad140 = ad141 := (by injection e141)
          replace p141 := eq_true p141
          replace q141 := eq_true q141
          have p142 : 0 ≤ (x5_1 : Int) := of_decide_eq_true tA
          have q142 : x5_1 < (l0.length : Int) := of_decide_eq_true tA
          obtain ⟨ad142, e142, hx142_0, hx142_1, hx142_2, hx142_3, hx142_4, hx142_5⟩ := at_T104 HR0.out x5_1 p142 q142
          obtain rfl : ad140 = ad142 := (by injection e142)
          replace p142 := eq_true p142
          replace q142 := eq_true q142
          have p143 : 0 ≤ (x5_1 : Int) := of_decide_eq_true tA
          have q143 : x5_1 < (l0.length : Int) := of_decide_eq_true tA
          obtain ⟨ad143, e143, hx143_0, hx143_1, hx143_2, hx143_3, hx143_4, hx143_5⟩ := at_T104 HR0.out x5_1 p143 q143
          obtain rfl : ad140 = ad143 := (by injection e143)
          replace p143 := eq_true p143
          replace q143 := eq_true q143
          have p144 : 0 ≤ (x5_1 : Int) := of_decide_eq_true tA
          have q144 : x5_1 < (l0.length : Int) := of_decide_eq_true tA
          obtain ⟨ad144, e144, hx144_0, hx144_1, hx144_2, hx144_3, hx144_4, hx144_5⟩ := at_T104 HR0.out x5_1 p144 q144
          obtain rfl : ad140 = ad144 := (by injection e144)
          replace p144 := eq_true p144
          replace q144 := eq_true q144
          go_wp2
          go_ret
          exact ⟨tS, by repeat (first | exact Drawn0.refl _ | apply Drawn0.step)⟩
        ·rw [if_neg c8] at H
         have c8b0 : (((rd_T104 l0 x5_1).f3) == (wrap64 ((wrap64 ((wrap64 (x1_1 + 1)) + 1)) + 1))) = false := beq_eq_false_iff_ne.mpr c8
         have c8b1 : (((rd_T104 l0 x5_1).f3) != (wrap64 ((wrap64 ((wrap64 (x1_1 + 1)) + 1)) + 1))) = true := bne_iff_ne.mpr c8
         obtain rfl := Option.some.inj H
         have p140 : 0 ≤ (x5_1 : Int) := of_decide_eq_true tA
         have q140 : x5_1 < (l0.length : Int) := of_decide_eq_true tA
         obtain ⟨ad140, e140, hx140_0, hx140_1, hx140_2, hx140_3, hx140_4, hx140_5⟩ := at_T104 HR0.out x5_1 p140 q140
         cases e140
         replace p140 := eq_true p140
         replace q140 := eq_true q140
         have p141 : 0 ≤ (x5_1 : Int) := of_decide_eq_true tA
         have q141 : x5_1 < (l0.length : Int) := of_decide_eq_true tA
         obtain ⟨ad141, e141, hx141_0, hx141_1, hx141_2, hx141_3, hx141_4, hx141_5⟩ := at_T104 HR0.out x5_1 p141 q141
         obtain rfl : ad140 = ad141 := (by injection e141)
         replace p141 := eq_true p141
         replace q141 := eq_true q141
         have p142 : 0 ≤ (x5_1 : Int) := of_decide_eq_true tA
         have q142 : x5_1 < (l0.length : Int) := of_decide_eq_true tA
         obtain ⟨ad142, e142, hx142_0, hx142_1, hx142_2, hx142_3, hx142_4, hx142_5⟩ := at_T104 HR0.out x5_1 p142 q142
         obtain rfl : ad140 = ad142 := (by injection e142)
         replace p142 := eq_true p142
         replace q142 := eq_true q142
         have p143 : 0 ≤ (x5_1 : Int) := of_decide_eq_true tA
         have q143 : x5_1 < (l0.length : Int) := of_decide_eq_true tA
         obtain ⟨ad143, e143, hx143_0, hx143_1, hx143_2, hx143_3, hx143_4, hx143_5⟩ := at_T104 HR0.out x5_1 p143 q143
         obtain rfl : ad140 = ad143 := (by injection e143)
         replace p143 := eq_true p143
         replace q143 := eq_true q143
         go_wp2
         go_ret
         exact ⟨tS, by repeat (first | exact Drawn0.refl _ | apply Drawn0.step)⟩
       ·rw [if_neg c7] at H
        have c7b0 : (((rd_T104 l0 x5_1).f2) == (wrap64 ((wrap64 (x1_1 + 1)) + 1))) = false := beq_eq_false_iff_ne.mpr c7
        have c7b1 : (((rd_T104 l0 x5_1).f2) != (wrap64 ((wrap64 (x1_1 + 1)) + 1))) = true := bne_iff_ne.mpr c7
        obtain rfl := Option.some.inj H
        have p140 : 0 ≤ (x5_1 : Int) := of_decide_eq_true tA
        have q140 : x5_1 < (l0.length : Int) := of_decide_eq_true tA
        obtain ⟨ad140, e140, hx140_0, hx140_1, hx140_2, hx140_3, hx140_4, hx140_5⟩ := at_T104 HR0.out x5_1 p140 q140
        cases e140
        replace p140 := eq_true p140
        replace q140 := eq_true q140
        have p141 : 0 ≤ (x5_1 : Int) := of_decide_eq_true tA
        have q141 : x5_1 < (l0.length : Int) := of_decide_eq_true tA
        obtain ⟨ad141, e141, hx141_0, hx141_1, hx141_2, hx141_3, hx141_4, hx141_5⟩ := at_T104 HR0.out x5_1 p141 q141
        obtain rfl : ad140 = ad141 := (by injection e141)
        replace p141 := eq_true p141
        replace q141 := eq_true q141
        have p142 : 0 ≤ (x5_1 : Int) := of_decide_eq_true tA
        have q142 : x5_1 < (l0.length : Int) := of_decide_eq_true tA
        obtain ⟨ad142, e142, hx142_0, hx142_1, hx142_2, hx142_3, hx142_4, hx142_5⟩ := at_T104 HR0.out x5_1 p142 q142
        obtain rfl : ad140 = ad142 := (by injection e142)
        replace p142 := eq_true p142
        replace q142 := eq_true q142
        go_wp2
        go_ret
        exact ⟨tS, by repeat (first | exact Drawn0.refl _ | apply Drawn0.step)⟩
      ·rw [if_neg c6] at H
       have c6b0 : (((rd_T104 l0 x5_1).f1) == (wrap64 (x1_1 + 1))) = false := beq_eq_false_iff_ne.mpr c6
       have c6b1 : (((rd_T104 l0 x5_1).f1) != (wrap64 (x1_1 + 1))) = true := bne_iff_ne.mpr c6
       obtain rfl := Option.some.inj H
       have p140 : 0 ≤ (x5_1 : Int) := of_decide_eq_true tA
       have q140 : x5_1 < (l0.length : Int) := of_decide_eq_true tA
       obtain ⟨ad140, e140, hx140_0, hx140_1, hx140_2, hx140_3, hx140_4, hx140_5⟩ := at_T104 HR0.out x5_1 p140 q140
       cases e140
       replace p140 := eq_true p140
       replace q140 := eq_true q140
       have p141 : 0 ≤ (x5_1 : Int) := of_decide_eq_true tA
       have q141 : x5_1 < (l0.length : Int) := of_decide_eq_true tA
       obtain ⟨ad141, e141, hx141_0, hx141_1, hx141_2, hx141_3, hx141_4, hx141_5⟩ := at_T104 HR0.out x5_1 p141 q141
       obtain rfl : ad140 = ad141 := (by injection e141)
       replace p141 := eq_true p141
       replace q141 := eq_true q141
       go_wp2
       go_ret
       exact ⟨tS, by repeat (first | exact Drawn0.refl _ | apply Drawn0.step)⟩
     ·rw [if_neg c5] at H
      have c5b0 : (((rd_T104 l0 x5_1).f0) == x1_1) = false := beq_eq_false_iff_ne.mpr c5
      have c5b1 : (((rd_T104 l0 x5_1).f0) != x1_1) = true := bne_iff_ne.mpr c5
      obtain rfl := Option.some.inj H
      have p140 : 0 ≤ (x5_1 : Int) := of_decide_eq_true tA
      have q140 : x5_1 < (l0.length : Int) := of_decide_eq_true tA
      obtain ⟨ad140, e140, hx140_0, hx140_1, hx140_2, hx140_3, hx140_4, hx140_5⟩ := at_T104 HR0.out x5_1 p140 q140
      cases e140
      replace p140 := eq_true p140
      replace q140 := eq_true q140
      go_wp2
      go_ret
      exact ⟨tS, by repeat (first | exact Drawn0.refl _ | apply Drawn0.step)⟩
    ·rw [if_neg c4] at H
     exact absurd H (by simp)
   ·rw [if_neg c3] at H
    have c3b0 : decide (x5_1 < (l0.length : Int)) = false := decide_eq_false c3
    clear c3
    obtain rfl := Option.some.inj H
    go_wp2
    go_ret
    exact ⟨tS, by repeat (first | exact Drawn0.refl _ | apply Drawn0.step)⟩

/-! ### laws_heldClaimList: function 26 -/
def laws_heldClaimList.f (k : Nat) (a0_0 : Int) (l0_1 : List (S104)) (a1 : Int) : Option (Int) := (laws_heldClaimS.f k l0_1 a1).bind fun t147 => (if t147 < 0 then (some (-1)) else (some t147))
theorem laws_heldClaimList.mono : ∀ a0 a1 a2 k, LeO (laws_heldClaimList.f k a0 a1 a2) (laws_heldClaimList.f (k + 1) a0 a1 a2) := by
 intro a0 a1 a2 k
 unfold laws_heldClaimList.f
 repeat' first
   | (with_reducible exact laws_heldClaimS.mono _ _ _)
   | (with_reducible exact LeO.refl _)
   | (with_reducible exact LeO.none _)
   | (with_reducible refine LeO.ite ?_ ?_)
   | (with_reducible refine LeO.bind ?_ (fun _ => ?_))
   | exact laws_heldClaimS.mono _ _ _
   | exact LeO.none _
   | refine LeO.ite ?_ ?_
   | refine LeO.bind ?_ (fun _ => ?_)
set_option maxHeartbeats 8000000 in
set_option maxRecDepth 100000 in
theorem laws_heldClaimList.calls (k : Nat) (a0_0 : Int) (A0_1 : Option Addr) (c0_1 : Nat) (l0_1 : List (S104)) (a1 : Int) (r : Int) (w : World) (hr0_1 : Kd.C k104 w A0_1 l0_1.length l0_1) (hc0_1 : l0_1.length ≤ c0_1) (h : laws_heldClaimList.f k a0_0 l0_1 a1 = some r) :
  Calls Try.prog 26 #[.agg #[.int .i64 a0_0, .slice A0_1 l0_1.length c0_1], .int .i64 a1] w fun e w' => e = .returned (.int .i64 r) ∧ Below w.heap.size w w' := by
 have hu35 := Try.underlying35
 have HR0_1 := Aside0.mk hr0_1
 have HC0_1 := Aside0.mk hc0_1
 clear hr0_1 hc0_1
 have HB := Aside0.mk (Below.refl w.heap.size w)
 have H : ((laws_heldClaimS.f k l0_1 a1).bind fun t147 => (if t147 < 0 then (some (-1)) else (some t147))) = some r := h
 clear h
 replace H := Option.bind_eq_some_iff.mp H
 obtain ⟨t147, A30, H⟩ := H
 replace H : (if t147 < 0 then (some (-1)) else (some t147)) = some r := H
 have A3 := Aside0.mk A30
 clear A30
 by_cases c4 : t147 < 0
 ·rw [if_pos c4] at H
  have c4b0 : decide (t147 < 0) = true := decide_eq_true c4
  clear c4
  obtain rfl := Option.some.inj H
  go_enter Try.func26, Try.ntmps26
  go_wp2_with (first | ((with_reducible refine gate_dst (N := 2) rfl ?_); refine box_event ?hg (N := 2) ?hd (cs := #[.int .i64 a0_0, .slice A0_1 l0_1.length c0_1]) (t := 35) ?hr ?_; (case hd => rfl); (case hg => rfl); (case hr => exact tG); intro gb146 hg w5 hbox hb; have n0_ := Aside0.mk (below_step tB hb); have n1_ := Aside0.mk (hbox); have n2_ := Aside0.mk ((by rw [hg]; exact (below_size tB) : w.heap.size ≤ gb146)); have n3_ := Aside0.mk ((by rw [hg]; exact (below_size tB) : w.heap.size ≤ gb146)); clear HB; have HB := n0_; have BK146 := n1_; have GW146 := n2_; have GE146 := n3_; clear n0_ n1_ n2_ n3_; clear hb hbox hg; obtain ⟨hcz6_0, hcz6_1, hfz6_0, hfz6_1⟩ := bc2 BK146.out) | ((with_reducible refine gate_callee (f := 80) rfl ?_); refine goesL_ (some 8) rfl rfl Try.func80 (by kernel_rfl) rfl #[.slice A0_1 l0_1.length c0_1, .int .i64 a1] rfl tL ?_; (with_reducible refine (laws_heldClaimS.calls k _ _ l0_1 a1 t147 _ ?side1 ?side2 A3.out).mono ?_); (case side1 => repeat (first | exact (Kd.C_below HR0_1.out HB.out) | (with_reducible refine Kd.C_alloc ?_ _) | (with_reducible refine Kd.C_drewN ?_ _) | (with_reducible refine Kd.C_drew ?_))); (case side2 => exact HC0_1.out); rintro e w' ⟨rfl, ⟨nd, rfl⟩⟩; refine ⟨_, rfl, ?_⟩))
  go_ret
  exact ⟨tE, tB⟩
 ·rw [if_neg c4] at H
  have c4b0 : decide (t147 < 0) = false := decide_eq_false c4
  clear c4
  obtain rfl := Option.some.inj H
  go_enter Try.func26, Try.ntmps26
  go_wp2_with (first | ((with_reducible refine gate_dst (N := 2) rfl ?_); refine box_event ?hg (N := 2) ?hd (cs := #[.int .i64 a0_0, .slice A0_1 l0_1.length c0_1]) (t := 35) ?hr ?_; (case hd => rfl); (case hg => rfl); (case hr => exact tG); intro gb146 hg w7 hbox hb; have n0_ := Aside0.mk (below_step tB hb); have n1_ := Aside0.mk (hbox); have n2_ := Aside0.mk ((by rw [hg]; exact (below_size tB) : w.heap.size ≤ gb146)); have n3_ := Aside0.mk ((by rw [hg]; exact (below_size tB) : w.heap.size ≤ gb146)); clear HB; have HB := n0_; have BK146 := n1_; have GW146 := n2_; have GE146 := n3_; clear n0_ n1_ n2_ n3_; clear hb hbox hg; obtain ⟨hcz8_0, hcz8_1, hfz8_0, hfz8_1⟩ := bc2 BK146.out) | ((with_reducible refine gate_callee (f := 80) rfl ?_); refine goesL_ (some 8) rfl rfl Try.func80 (by kernel_rfl) rfl #[.slice A0_1 l0_1.length c0_1, .int .i64 a1] rfl tL ?_; (with_reducible refine (laws_heldClaimS.calls k _ _ l0_1 a1 t147 _ ?side1 ?side2 A3.out).mono ?_); (case side1 => repeat (first | exact (Kd.C_below HR0_1.out HB.out) | (with_reducible refine Kd.C_alloc ?_ _) | (with_reducible refine Kd.C_drewN ?_ _) | (with_reducible refine Kd.C_drew ?_))); (case side2 => exact HC0_1.out); rintro e w' ⟨rfl, ⟨nd, rfl⟩⟩; refine ⟨_, rfl, ?_⟩))
  go_ret
  exact ⟨tE, tB⟩

/-! ### spec_l28Copy: function 72 -/
def spec_l28Copy.f (a0_0 : Int) (l0_1 : List (S104)) : Option (Int × (List (S104))) := (some (([] : List (S104)) : List (S104))).bind fun y150 => (if y150.length + l0_1.length < 2932031007402 then (some (a0_0, (y150 ++ l0_1))) else (none))
def spec_l28Copy.T1 : Bool × List (List Nat × List Nat) := (true, [([], []), ([0], [0]), ([], []), ([], []), ([3], [3]), ([2, 4], [2, 4]), ([1, 5], [1, 5]), ([6, 5, 0, 1, 2, 3, 4, 5, 6], [6])])
def spec_l28Copy.B1 : List Nat := [0, 1, 0, 0, 8, 28, 63, 127]
theorem spec_l28Copy.tab1 : rtab .any (opsOf Try.f72 1) = spec_l28Copy.T1 := by kernel_rfl
theorem spec_l28Copy.bits1 : waitsOk spec_l28Copy.T1.2 spec_l28Copy.B1 = true := by kernel_rfl
set_option maxHeartbeats 8000000 in
set_option maxRecDepth 100000 in
theorem spec_l28Copy.calls (a0_0 : Int) (A0_1 : Option Addr) (c0_1 : Nat) (l0_1 : List (S104)) (r1 : Int) (r2 : List (S104)) (w : World) (hr0_1 : Kd.C k104 w A0_1 l0_1.length l0_1) (hc0_1 : l0_1.length ≤ c0_1) (h : spec_l28Copy.f a0_0 l0_1 = some (r1, r2)) :
  Calls Try.prog 72 #[.agg #[.int .i64 a0_0, .slice A0_1 l0_1.length c0_1]] w fun e w' => ∃ v1_ : Value, e = .returned (.agg #[.int .i64 r1, v1_]) ∧ Kd.R k104 104 w' w.heap.size (fun _ => True) v1_ r2 ∧ Below w.heap.size w w' := by
 have hu35 := Try.underlying35
 have HR0_1 := Aside0.mk hr0_1
 have HC0_1 := Aside0.mk hc0_1
 clear hr0_1 hc0_1
 have HB := Aside0.mk (Below.refl w.heap.size w)
 have H : ((some (([] : List (S104)) : List (S104))).bind fun y150 => (if y150.length + l0_1.length < 2932031007402 then (some (a0_0, (y150 ++ l0_1))) else (none))) = some (r1, r2) := h
 clear h
 obtain ⟨y150, hy150⟩ : ∃ y_ : List (S104), y_ = (([] : List (S104))) := ⟨_, rfl⟩
 replace H : (if y150.length + l0_1.length < 2932031007402 then (some (a0_0, (y150 ++ l0_1))) else (none)) = some (r1, r2) := by first | (rw [hy150]; with_reducible exact H) | (have H2_ := (Option.bind_some _ _).symm.trans H; rw [hy150]; with_reducible exact H2_) | (have H2_ := (Option.bind_some _ _).symm.trans H; with_reducible exact H2_) | with_reducible exact H | (rw [hy150]; exact H) | exact H
 have Ny150 := Aside0.mk hy150
 clear hy150
 by_cases c2 : y150.length + l0_1.length < 2932031007402
 ·rw [if_pos c2] at H
  have LMc2 := Aside0.mk c2
  clear c2
  obtain ⟨y153, hy153⟩ : ∃ y_ : List (S104), y_ = (y150 ++ l0_1) := ⟨_, rfl⟩
  replace H : (some (a0_0, y153)) = some (r1, r2) := by first | (rw [hy153]; with_reducible exact H) | (have H2_ := (Option.bind_some _ _).symm.trans H; rw [hy153]; with_reducible exact H2_) | (have H2_ := (Option.bind_some _ _).symm.trans H; with_reducible exact H2_) | with_reducible exact H | (rw [hy153]; exact H) | exact H
  have Ny153 := Aside0.mk hy153
  clear hy153
  simp only [Option.some.injEq, Prod.mk.injEq] at H
  obtain ⟨rfl, rfl⟩ := H
  go_enter Try.func72, Try.ntmps72
  try go_wp2_with (first | ((with_reducible refine gate_dst (N := 1) rfl ?_); refine box_event ?hg (N := 1) ?hd (cs := #[.int .i64 a0_0, .slice A0_1 l0_1.length c0_1]) (t := 35) ?hr ?_; (case hd => rfl); (case hg => rfl); (case hr => exact tG); intro gb148 hg w3 hbox hb; have n0_ := Aside0.mk (below_step tB hb); have n1_ := Aside0.mk (hbox); have n2_ := Aside0.mk ((by rw [hg]; exact (below_size tB) : w.heap.size ≤ gb148)); have n3_ := Aside0.mk ((by rw [hg]; exact (below_size tB) : w.heap.size ≤ gb148)); clear HB; have HB := n0_; have BK148 := n1_; have GW148 := n2_; have GE148 := n3_; clear n0_ n1_ n2_ n3_; clear hb hbox hg) | ((with_reducible refine gate_dst (N := 2) rfl ?_); refine box_event ?hg (N := 2) ?hd (cs := #[.int .i64 0, .slice none 0 0]) (t := 35) ?hr ?_; (case hd => rfl); (case hg => rfl); (case hr => exact tG); intro gb149 hg w4 hbox hb; have n0_ := Aside0.mk (blk_below (g := gb148) (o := .cells #[.int .i64 a0_0, .slice A0_1 l0_1.length c0_1] 35 (0, 0)) (tK BK148) hb); have n1_ := Aside0.mk (below_step tB hb); have n2_ := Aside0.mk (hbox); have n3_ := Aside0.mk ((by rw [hg]; exact (below_size tB) : w.heap.size ≤ gb149)); have n4_ := Aside0.mk ((by rw [hg]; exact (below_size tB) : w.heap.size ≤ gb149)); have n5_ := Aside0.mk ((by rw [hg]; exact Nat.ne_of_lt (blk_lt (g := gb148) (o := .cells #[.int .i64 a0_0, .slice A0_1 l0_1.length c0_1] 35 (0, 0)) (tK BK148)) : gb148 ≠ gb149)); have n6_ := Aside0.mk ((by rw [hg]; exact Nat.ne_of_gt (blk_lt (g := gb148) (o := .cells #[.int .i64 a0_0, .slice A0_1 l0_1.length c0_1] 35 (0, 0)) (tK BK148)) : gb149 ≠ gb148)); clear BK148; clear HB; have BK148 := n0_; have HB := n1_; have BK149 := n2_; have GW149 := n3_; have GE149 := n4_; have NB148_149 := n5_; have NB149_148 := n6_; clear n0_ n1_ n2_ n3_ n4_ n5_ n6_; clear hb hbox hg))
  have n0_ := Aside0.mk (blk_drew BK148.out)
  have n1_ := Aside0.mk (blk_drew BK149.out)
  have n2_ := Aside0.mk (below_drew1 HB.out)
  clear BK148
  clear BK149
  clear HB
  have BK148 := n0_
  have BK149 := n1_
  have HB := n2_
  clear n0_ n1_ n2_
  refine start_ (n := 8) (S := fun w' => w'.cell? ⟨gb148, 0, none⟩ = some (.int .i64 a0_0) ∧ w'.cell? ⟨gb148, 1, none⟩ = some (.slice A0_1 l0_1.length c0_1)) (ds := []) #[false, false, false, false, false, false, false, false] (by kernel_rfl) rfl rfl ⟨(blk_cell BK148.out 0).trans rfl, (blk_cell BK148.out 1).trans rfl⟩ (fun hHeld => ?_); refine with_tabW spec_l28Copy.tab1 spec_l28Copy.bits1 (fun HT_ HW_ => ?_)
  generalize w4.drew = w5 at BK148 BK149 HB hHeld ⊢
  refine pure_ (i := 0) (N := some 3) (v := ?_) (a' := ?_) #[true, false, false, false, false, false, false, false] rfl rfl (any_of HT_.out (by kernel_rfl)) (fun _ _ _ h => h) (Or.inl ⟨by rfl, ?_⟩) ?_ ?_
  rotate_left
  ·intro w'
   go_simp
   with_reducible rfl
  rotate_left
  ·simp only [Act.put, List.setIfInBounds_toArray, List.set_cons_zero, List.set_cons_succ, i64_w, i32_w]
   rfl
  refine pure_ (i := 3) (N := some 6) (v := ?_) (a' := ?_) #[true, false, false, true, false, false, false, false] rfl rfl (any_of HT_.out (by kernel_rfl)) (fun _ _ _ h => h) (Or.inl ⟨by rfl, ?_⟩) ?_ ?_
  rotate_left
  ·intro w'
   go_simp
   with_reducible rfl
  rotate_left
  ·simp only [Act.put, List.setIfInBounds_toArray, List.set_cons_zero, List.set_cons_succ, i64_w, i32_w]
   rfl
  refine take_ (i := 1) (N := some 4) (v := ?_) (a' := ?_) #[true, true, false, true, false, false, false, false] rfl rfl (take_ofW HT_.out HW_.out (by kernel_rfl)) (fun _ _ _ h => h) (Or.inl ⟨by rfl, ?_⟩) hHeld ?_ ?_
  rotate_left
  ·rintro w' ⟨s0, s1⟩
   go_simp
   with_reducible rfl
  rotate_left
  ·simp only [Act.put, List.setIfInBounds_toArray, List.set_cons_zero, List.set_cons_succ, i64_w, i32_w]
   rfl
  refine take_ (i := 4) (N := some 7) (v := ?_) (a' := ?_) #[true, true, false, true, true, false, false, false] rfl rfl (take_ofW HT_.out HW_.out (by kernel_rfl)) (fun _ _ _ h => h) (Or.inl ⟨by rfl, ?_⟩) hHeld ?_ ?_
  rotate_left
  ·rintro w' ⟨s0, s1⟩
   go_simp
   with_reducible rfl
  rotate_left
  ·simp only [Act.put, List.setIfInBounds_toArray, List.set_cons_zero, List.set_cons_succ, i64_w, i32_w]
   rfl
  refine one_ (i := 2) (N := some 5) #[true, true, true, true, true, false, false, false] rfl rfl (one_of HT_.out (by kernel_rfl)) (by decide) (fun K hK => ?_)
  refine Kd.R_lit_step k104 _ 104 ?hg (N := 5) ?hd (xs := ([] : List (S104))) (inner := []) (ok := fun _ => True) (okp := fun _ => True) ?hr ?hp (fun _ hk => hk) trivial (Below.refl _ _) (Nat.le_refl _) (by simp) ?_; (case hd => rfl); (case hg => rfl); (case hr => exact tG); (case hp => exact (Reps.none _ _))
  intro v151 w6 ho7 hb hg_ hnew_
  clear hg_ hnew_
  (first | rw [← Ny150.out] at ho7 | (simp only [Int.reduceToNat] at ho7; rw [← Ny150.out] at ho7))
  have n0_ := Aside0.mk (Kd.R_lower ho7 (below_size tB))
  have n1_ := Aside0.mk (blk_below (g := gb148) (o := .cells #[.int .i64 a0_0, .slice A0_1 l0_1.length c0_1] 35 (0, 0)) (tK BK148) hb)
  have n2_ := Aside0.mk (blk_below (g := gb149) (o := .cells #[.int .i64 0, .slice none 0 0] 35 (0, 0)) (tK BK149) hb)
  have n3_ := Aside0.mk (below_step tB hb)
  clear BK148
  clear BK149
  clear HB
  have HO152 := n0_
  have BK148 := n1_
  have BK149 := n2_
  have HB := n3_
  clear n0_ n1_ n2_ n3_
  clear hb ho7
  refine hK.out _ _ ⟨(blk_cell BK148.out 0).trans rfl, (blk_cell BK148.out 1).trans rfl⟩ (fun hHeld => ?_)
  clear hK K
  refine norm_ (a' := ?_) ?_ ?_
  rotate_left
  ·show Act.put _ (some 5) _ = _
   simp only [Act.put, List.setIfInBounds_toArray, List.set_cons_zero, List.set_cons_succ, i64_w, i32_w]
   rfl
  refine one_ (i := 5) (N := some 8) #[true, true, true, true, true, true, false, false] rfl rfl (one_of HT_.out (by kernel_rfl)) (by decide) (fun K hK => ?_)
  refine Kd.R_append_rows_step k104 (w0 := w) w.heap.size (by rfl) (.tmp 5) (.tmp 7) 33 104 (.agg #[(.int .i64 0), (.int .i64 0), (.int .i64 0), (.int .i64 0), (.int .i64 0), (.int .i64 0)]) 48 rfl Try.underlying33 info104 rfl (by decide) (by omega) v151 y150 l0_1 _ _ _ (fun _ => True) (fun _ => False) rfl rfl ?aO ?aR (fun _ _ h => h) (fun _ h => h.elim) ?aF ?aB ?aS ?aL ?_
  (case aR => repeat (first | exact (Kd.C_below HR0_1.out HB.out) | (with_reducible refine Kd.C_alloc ?_ _) | (with_reducible refine Kd.C_drewN ?_ _) | (with_reducible refine Kd.C_drew ?_)))
  (case aB => exact tB)
  (case aF => exact (fun _ _ => trivial))
  (case aO => exact (tR HO152))
  (case aS => exact (below_size tB))
  (case aL => have := LMc2.out; omega)
  intro v154 w8 ho hb hg hat
  rw [← Ny153.out] at ho
  have n0_ := Aside0.mk (blk_grown (g := gb148) (o := .cells #[.int .i64 a0_0, .slice A0_1 l0_1.length c0_1] 35 (0, 0)) (tK BK148) hg (Kd.R_ne HO152.out BK148.out (by decide)))
  have n1_ := Aside0.mk (blk_grown (g := gb149) (o := .cells #[.int .i64 0, .slice none 0 0] 35 (0, 0)) (tK BK149) hg (Kd.R_ne HO152.out BK149.out (by decide)))
  have n2_ := Aside0.mk (hb)
  have n3_ := Aside0.mk (ho)
  clear BK148
  clear BK149
  clear HB
  clear HO152
  have BK148 := n0_
  have BK149 := n1_
  have HB := n2_
  have HO155 := n3_
  clear n0_ n1_ n2_ n3_
  clear ho hb hg hat
  obtain ⟨Ao9, co9, eo9⟩ := Kd.R_slice HO155.out
  (first | subst eo9 | (injection eo9 with f1_ f2_ f3_; have f4_ := f1_.symm; have f5_ := f3_.symm; clear f1_ f2_ f3_; subst f4_; subst f5_))
  refine hK.out _ _ ⟨(blk_cell BK148.out 0).trans rfl, (blk_cell BK148.out 1).trans rfl⟩ (fun hHeld => ?_)
  clear hK K
  refine norm_ (a' := ?_) ?_ ?_
  rotate_left
  ·show Act.put _ (some 8) _ = _
   simp only [Act.put, List.setIfInBounds_toArray, List.set_cons_zero, List.set_cons_succ, i64_w, i32_w]
   rfl
  refine pure_ (i := 6) (N := some 9) (v := ?_) (a' := ?_) #[true, true, true, true, true, true, true, false] rfl rfl (any_of HT_.out (by kernel_rfl)) (fun _ _ _ h => h) (Or.inl ⟨by rfl, ?_⟩) ?_ ?_
  rotate_left
  ·intro w'
   go_simp
   with_reducible rfl
  rotate_left
  ·simp only [Act.put, List.setIfInBounds_toArray, List.set_cons_zero, List.set_cons_succ, i64_w, i32_w]
   rfl
  refine one_ (i := 7) (N := none) #[true, true, true, true, true, true, true, true] rfl rfl (one_of HT_.out (by kernel_rfl)) (by decide) (fun K hK => ?_)
  have hs10 : w8.cell? ⟨gb149, 0, none⟩ = some (.int .i64 0) := (blk_cell BK149.out 0).trans rfl
  have hfs10 := blk_frozen BK149.out 0
  have hns10_0 := NB148_149.out
  have hms10_0 := NB149_148.out
  have hs11 : w8.cell? ⟨gb149, 1, none⟩ = some (.slice none 0 0) := (blk_cell BK149.out 1).trans rfl
  have hfs11 := blk_frozen BK149.out 1
  have hns11_0 := NB148_149.out
  have hms11_0 := NB149_148.out
  refine skip_ (w1 := ?_) (by rfl) rfl ?_ ?_
  rotate_left
  ·go_simp
   rfl
  refine hK.out _ _ ⟨((cell_far (p := ⟨gb149, _, none⟩) NB148_149.out _).trans (((cell_far (p := ⟨gb149, _, none⟩) NB148_149.out _).trans (hHeld.1)))), ((cell_far (p := ⟨gb149, _, none⟩) NB148_149.out _).trans (((cell_far (p := ⟨gb149, _, none⟩) NB148_149.out _).trans (hHeld.2))))⟩ (fun hHeld => ?_)
  clear hK K
  refine done_ (done_of HT_.out (by kernel_rfl)) ?_
  try go_wp2
  refine bodyPost_ret (results_cell_row rfl _ _ gb149 35 #[.int .i64 a0_0, .slice Ao9 y153.length co9] (0, 0) _ rfl (by (with_reducible repeat (first | refine blk_drewN ?_ _ | refine blk_drew ?_ | refine blk_alloc ?_ _)); refine blk_put (cs := #[.int .i64 a0_0, .slice none 0 0]) ?_ 1 _ rfl; (with_reducible repeat (first | refine blk_drewN ?_ _ | refine blk_drew ?_ | refine blk_alloc ?_ _)); refine blk_put (cs := #[.int .i64 0, .slice none 0 0]) ?_ 0 _ rfl; (with_reducible repeat (first | refine blk_drewN ?_ _ | refine blk_drew ?_ | refine blk_alloc ?_ _)); exact BK149.out) Try.underlying35 rfl (by kernel_rfl)) rfl ?_
  exact ⟨_, tE, by (with_reducible repeat (first | apply Kd.R_alloc | apply Kd.R_drewN | apply Kd.R_drew)); exact Kd.R_mono (Kd.R_far (p := ⟨gb149, 1, none⟩) (Kd.R_far (p := ⟨gb149, 0, none⟩) (Kd.R_types HO155.out BK149.out (by decide)) (fun _ hk => hk.2) (.int .i64 a0_0)) (fun _ hk => hk.2) (.slice Ao9 y153.length co9)) (fun _ hk => trivial), tB⟩
 ·rw [if_neg c2] at H
  exact absurd H (by simp)

/-! ### spec_l28Find: function 73 -/
def spec_l28Find.l0 : Nat → Int → Int → Int → List (S104) → Option (Int)
 | 0, _, _, _, _ => none
 | k + 1, x1, x5, x157000, x157001 => if x5 < (x157001.length : Int) then (if 0 ≤ x5 then (if ((rd_T104 x157001 x5).f0) = x1 then (some x5) else (spec_l28Find.l0 k x1 (wrap64 (x5 + 1)) x157000 x157001)) else (none)) else (some (-1))
def spec_l28Find.f (k : Nat) (a0_0 : Int) (l0_1 : List (S104)) (a1 : Int) : Option (Int) := spec_l28Find.l0 k a1 0 a0_0 l0_1
theorem spec_l28Find.mono_l : ∀ k, (∀ y0 y1 y2 y3, LeO (spec_l28Find.l0 k y0 y1 y2 y3) (spec_l28Find.l0 (k + 1) y0 y1 y2 y3))
 | 0 => fun _ _ _ _ r h => by simp [spec_l28Find.l0] at h
 | k + 1 => by
  have ih0 := spec_l28Find.mono_l k
  ·intro y0 y1 y2 y3
   unfold spec_l28Find.l0
   repeat' first
   | (with_reducible exact ih0 _ _ _ _)
   | (with_reducible exact LeO.refl _)
   | (with_reducible exact LeO.none _)
   | (with_reducible refine LeO.ite ?_ ?_)
   | (with_reducible refine LeO.bind ?_ (fun _ => ?_))
   | exact ih0 _ _ _ _
   | exact LeO.none _
   | refine LeO.ite ?_ ?_
   | refine LeO.bind ?_ (fun _ => ?_)
theorem spec_l28Find.mono : ∀ a0 a1 a2 k, LeO (spec_l28Find.f k a0 a1 a2) (spec_l28Find.f (k + 1) a0 a1 a2) := by
 intro a0 a1 a2 k
 have ih0 := spec_l28Find.mono_l k
 unfold spec_l28Find.f
 repeat' first
   | (with_reducible exact ih0 _ _ _ _)
   | (with_reducible exact LeO.refl _)
   | (with_reducible exact LeO.none _)
   | (with_reducible refine LeO.ite ?_ ?_)
   | (with_reducible refine LeO.bind ?_ (fun _ => ?_))
   | exact ih0 _ _ _ _
   | exact LeO.none _
   | refine LeO.ite ?_ ?_
   | refine LeO.bind ?_ (fun _ => ?_)
set_option maxHeartbeats 8000000 in
set_option maxRecDepth 100000 in
theorem spec_l28Find.calls (k : Nat) (a0_0 : Int) (A0_1 : Option Addr) (c0_1 : Nat) (l0_1 : List (S104)) (a1 : Int) (r : Int) (w : World) (hr0_1 : Kd.C k104 w A0_1 l0_1.length l0_1) (hc0_1 : l0_1.length ≤ c0_1) (h : spec_l28Find.f k a0_0 l0_1 a1 = some r) :
  Calls Try.prog 73 #[.agg #[.int .i64 a0_0, .slice A0_1 l0_1.length c0_1], .int .i64 a1] w fun e w' => e = .returned (.int .i64 r) ∧ Below w.heap.size w w' := by
 have hu35 := Try.underlying35
 have HR0_1 := Aside0.mk hr0_1
 have HC0_1 := Aside0.mk hc0_1
 clear hr0_1 hc0_1
 have HB := Aside0.mk (Below.refl w.heap.size w)
 have H : (spec_l28Find.l0 k a1 0 a0_0 l0_1) = some r := h
 clear h
 have H' := Aside0.mk H
 clear H
 go_enter Try.func73, Try.ntmps73
 go_wp2_with (first | ((with_reducible refine gate_dst (N := 2) rfl ?_); refine box_event ?hg (N := 2) ?hd (cs := #[.int .i64 a0_0, .slice A0_1 l0_1.length c0_1]) (t := 35) ?hr ?_; (case hd => rfl); (case hg => rfl); (case hr => exact tG); intro gb156 hg w3 hbox hb; have n0_ := Aside0.mk (below_step tB hb); have n1_ := Aside0.mk (hbox); have n2_ := Aside0.mk ((by rw [hg]; exact (below_size tB) : w.heap.size ≤ gb156)); have n3_ := Aside0.mk ((by rw [hg]; exact (below_size tB) : w.heap.size ≤ gb156)); clear HB; have HB := n0_; have BK156 := n1_; have GW156 := n2_; have GE156 := n3_; clear n0_ n1_ n2_ n3_; clear hb hbox hg))
 go_loopg [5] k (fun kq v5 w' => ∃ (x5_1 : Int), v5 = .int .i64 x5_1 ∧ Aside0 (spec_l28Find.l0 kq a1 x5_1 a0_0 l0_1 = some r) ∧ Aside0 (kq ≤ k) ∧ Aside0 (w'.heap[gb156]? = some (.cells #[.int .i64 a0_0, (.slice A0_1 l0_1.length c0_1)] 35 (0, 0))) ∧ Aside0 (Below w.heap.size w w'))
 case atStart => exact ⟨(0), tS, H', ⟨Nat.le_refl _⟩, ⟨tK BK156⟩, ⟨tB⟩⟩
 case round =>
  clear H'
  try clear p2
  obtain ⟨x5_1, rfl, HA, HK1, BK156, HB⟩ := hrel
  cases gk with
  | zero => exact absurd HA.out (by simp [spec_l28Find.l0])
  | succ k1 =>
   have H := HA.out
   clear HA
   simp only [spec_l28Find.l0] at H
   by_cases c4 : x5_1 < (l0_1.length : Int)
   ·rw [if_pos c4] at H
    have c4b0 : decide (x5_1 < (l0_1.length : Int)) = true := decide_eq_true c4
    clear c4
    by_cases c5 : 0 ≤ x5_1
    ·rw [if_pos c5] at H
     have c5b0 : decide (0 ≤ x5_1) = true := decide_eq_true c5
     clear c5
     by_cases c6 : ((rd_T104 l0_1 x5_1).f0) = a1
     ·rw [if_pos c6] at H
      have c6b0 : (((rd_T104 l0_1 x5_1).f0) == a1) = true := beq_iff_eq.mpr c6
      have c6b1 : (((rd_T104 l0_1 x5_1).f0) != a1) = false := bne_eq_false_iff_eq.mpr c6
      clear c6
      obtain rfl := Option.some.inj H
      obtain ⟨hcz7_0, hcz7_1, hfz7_0, hfz7_1⟩ := bc2 BK156.out
      have p157 : 0 ≤ (x5_1 : Int) := of_decide_eq_true tA
      have q157 : x5_1 < (l0_1.length : Int) := of_decide_eq_true tA
      obtain ⟨ad157, e157, hx157_0, hx157_1, hx157_2, hx157_3, hx157_4, hx157_5⟩ := at_T104 HR0_1.out x5_1 p157 q157
      cases e157
      replace hx157_0 := hbc HB hx157_0
      replace hx157_1 := hbc HB hx157_1
      replace hx157_2 := hbc HB hx157_2
      replace hx157_3 := hbc HB hx157_3
      replace hx157_4 := hbc HB hx157_4
      replace hx157_5 := hbc HB hx157_5
      replace p157 := eq_true p157
      replace q157 := eq_true q157
      go_wp2
      go_ret
      exact ⟨tE, tB⟩
     ·rw [if_neg c6] at H
      have c6b0 : (((rd_T104 l0_1 x5_1).f0) == a1) = false := beq_eq_false_iff_ne.mpr c6
      have c6b1 : (((rd_T104 l0_1 x5_1).f0) != a1) = true := bne_iff_ne.mpr c6
      have H' := Aside0.mk H
      clear H
      obtain ⟨hcz8_0, hcz8_1, hfz8_0, hfz8_1⟩ := bc2 BK156.out
      have p157 : 0 ≤ (x5_1 : Int) := of_decide_eq_true tA
      have q157 : x5_1 < (l0_1.length : Int) := of_decide_eq_true tA
      obtain ⟨ad157, e157, hx157_0, hx157_1, hx157_2, hx157_3, hx157_4, hx157_5⟩ := at_T104 HR0_1.out x5_1 p157 q157
      cases e157
      replace hx157_0 := hbc HB hx157_0
      replace hx157_1 := hbc HB hx157_1
      replace hx157_2 := hbc HB hx157_2
      replace hx157_3 := hbc HB hx157_3
      replace hx157_4 := hbc HB hx157_4
      replace hx157_5 := hbc HB hx157_5
      replace p157 := eq_true p157
      replace q157 := eq_true q157
      go_wp2
      go_roundg k1
      case measure => have := HK1.out; omega
      case rel => exact ⟨(wrap64 (x5_1 + 1)), tS, H', ⟨tI⟩, ⟨tK BK156⟩, ⟨tB⟩⟩
    ·rw [if_neg c5] at H
     exact absurd H (by simp)
   ·rw [if_neg c4] at H
    have c4b0 : decide (x5_1 < (l0_1.length : Int)) = false := decide_eq_false c4
    clear c4
    obtain rfl := Option.some.inj H
    obtain ⟨hcz9_0, hcz9_1, hfz9_0, hfz9_1⟩ := bc2 BK156.out
    go_wp2
    go_ret
    exact ⟨tE, tB⟩

/-! ### spec_l1In: function 81 -/
def spec_l1In.f (a0 : Int) (a1 : Int) (a2 : Int) : Option (Bool) := if a0 ≥ a1 then (some (decide (a0 ≤ a2))) else (some false)
set_option maxHeartbeats 8000000 in
set_option maxRecDepth 100000 in
theorem spec_l1In.calls (a0 : Int) (a1 : Int) (a2 : Int) (r : Bool) (w : World) (h : spec_l1In.f a0 a1 a2 = some r) :
  Calls Try.prog 81 #[.int .i64 a0, .int .i64 a1, .int .i64 a2] w fun e w' => e = .returned (.bool r) ∧ Drawn0 w w' := by
 have H : (if a0 ≥ a1 then (some (decide (a0 ≤ a2))) else (some false)) = some r := h
 clear h
 by_cases c4 : a0 ≥ a1
 ·rw [if_pos c4] at H
  have c4b0 : decide (a1 ≤ a0) = true := decide_eq_true c4
  clear c4
  obtain rfl := Option.some.inj H
  go_enter Try.func81, Try.ntmps81
  go_wp2
  go_ret
  exact ⟨tS, by repeat (first | exact Drawn0.refl _ | apply Drawn0.step)⟩
 ·rw [if_neg c4] at H
  have c4b0 : decide (a1 ≤ a0) = false := decide_eq_false c4
  clear c4
  obtain rfl := Option.some.inj H
  go_enter Try.func81, Try.ntmps81
  go_wp2
  go_ret
  exact ⟨tS, by repeat (first | exact Drawn0.refl _ | apply Drawn0.step)⟩

end Go.Proofs.Ytjggdakbphjomaa.ZFnExactObjectTo
