/- The machine side: for each Go function a Lean function and the contract that the Go code answers as it does; printed by program (wip/tmpl/pprint.sh). -/
import Derived.Test.YtjggdakbphjomaaZFnExactCompleteClaimx0
import Derived.Test.YtjggdakbphjomaaZFnExactCompleteClaimx1
import Derived.Test.YtjggdakbphjomaaZFnExactCompleteClaimx3
import Derived.Test.YtjggdakbphjomaaZFnExactCompleteClaimx4
import Derived.Test.YtjggdakbphjomaaZFnExactCompleteClaimx7
import Derived.Test.YtjggdakbphjomaaZFnExactCompleteClaimx8
namespace Go.Proofs.Ytjggdakbphjomaa.ZFnExactCompleteClaim
open Go.RowKit Go.Proofs.YtjggdakbphjomaaW.PrintWords Go.Proofs.YtjggdakbphjomaaW.PrintLast Go.Proofs.YtjggdakbphjomaaW.PrintMore
attribute [local go_sem] max2_int min2_int max_two min_two max_three min_three max_four min_four   -- for this text's walks alone
set_option linter.unusedVariables false
set_option linter.unusedSimpArgs false

theorem tN9 {P : Prop} (h : P := by intro k_ hk_ hs_; first | exact hk_ hs_ | exact hk_.1 hs_ | exact hk_.2 hs_ | exact hk_.1.1 hs_ | exact hk_.1.2 hs_ | exact hk_.2.1 hs_ | exact hk_.2.2 hs_ | exact hk_.1.1.1 hs_ | exact hk_.1.1.2 hs_ | exact hk_.1.2.1 hs_ | exact hk_.1.2.2 hs_ | exact hk_.2.1.1 hs_ | exact hk_.2.1.2 hs_ | exact hk_.2.2.1 hs_ | exact hk_.2.2.2 hs_ | exact hk_.1.1.1.1 hs_ | exact hk_.1.1.1.2 hs_ | exact hk_.1.1.2.1 hs_ | exact hk_.1.1.2.2 hs_ | exact hk_.1.2.1.1 hs_ | exact hk_.1.2.1.2 hs_ | exact hk_.1.2.2.1 hs_ | exact hk_.1.2.2.2 hs_ | exact hk_.2.1.1.1 hs_ | exact hk_.2.1.1.2 hs_ | exact hk_.2.1.2.1 hs_ | exact hk_.2.1.2.2 hs_ | exact hk_.2.2.1.1 hs_ | exact hk_.2.2.1.2 hs_ | exact hk_.2.2.2.1 hs_ | exact hk_.2.2.2.2 hs_ | exact hk_.1.1.1.1.1 hs_ | exact hk_.1.1.1.1.2 hs_ | exact hk_.1.1.1.2.1 hs_ | exact hk_.1.1.1.2.2 hs_ | exact hk_.1.1.2.1.1 hs_ | exact hk_.1.1.2.1.2 hs_ | exact hk_.1.1.2.2.1 hs_ | exact hk_.1.1.2.2.2 hs_ | exact hk_.1.2.1.1.1 hs_ | exact hk_.1.2.1.1.2 hs_ | exact hk_.1.2.1.2.1 hs_ | exact hk_.1.2.1.2.2 hs_ | exact hk_.1.2.2.1.1 hs_ | exact hk_.1.2.2.1.2 hs_ | exact hk_.1.2.2.2.1 hs_ | exact hk_.1.2.2.2.2 hs_ | exact hk_.2.1.1.1.1 hs_ | exact hk_.2.1.1.1.2 hs_ | exact hk_.2.1.1.2.1 hs_ | exact hk_.2.1.1.2.2 hs_ | exact hk_.2.1.2.1.1 hs_ | exact hk_.2.1.2.1.2 hs_ | exact hk_.2.1.2.2.1 hs_ | exact hk_.2.1.2.2.2 hs_ | exact hk_.2.2.1.1.1 hs_ | exact hk_.2.2.1.1.2 hs_ | exact hk_.2.2.1.2.1 hs_ | exact hk_.2.2.1.2.2 hs_ | exact hk_.2.2.2.1.1 hs_ | exact hk_.2.2.2.1.2 hs_ | exact hk_.2.2.2.2.1 hs_ | exact hk_.2.2.2.2.2 hs_ | exact hk_.1.1.1.1.1.1 hs_ | exact hk_.1.1.1.1.1.2 hs_ | exact hk_.1.1.1.1.2.1 hs_ | exact hk_.1.1.1.1.2.2 hs_ | exact hk_.1.1.1.2.1.1 hs_ | exact hk_.1.1.1.2.1.2 hs_ | exact hk_.1.1.1.2.2.1 hs_ | exact hk_.1.1.1.2.2.2 hs_ | exact hk_.1.1.2.1.1.1 hs_ | exact hk_.1.1.2.1.1.2 hs_ | exact hk_.1.1.2.1.2.1 hs_ | exact hk_.1.1.2.1.2.2 hs_ | exact hk_.1.1.2.2.1.1 hs_ | exact hk_.1.1.2.2.1.2 hs_ | exact hk_.1.1.2.2.2.1 hs_ | exact hk_.1.1.2.2.2.2 hs_ | exact hk_.1.2.1.1.1.1 hs_ | exact hk_.1.2.1.1.1.2 hs_ | exact hk_.1.2.1.1.2.1 hs_ | exact hk_.1.2.1.1.2.2 hs_ | exact hk_.1.2.1.2.1.1 hs_ | exact hk_.1.2.1.2.1.2 hs_ | exact hk_.1.2.1.2.2.1 hs_ | exact hk_.1.2.1.2.2.2 hs_ | exact hk_.1.2.2.1.1.1 hs_ | exact hk_.1.2.2.1.1.2 hs_ | exact hk_.1.2.2.1.2.1 hs_ | exact hk_.1.2.2.1.2.2 hs_ | exact hk_.1.2.2.2.1.1 hs_ | exact hk_.1.2.2.2.1.2 hs_ | exact hk_.1.2.2.2.2.1 hs_ | exact hk_.1.2.2.2.2.2 hs_ | exact hk_.2.1.1.1.1.1 hs_ | exact hk_.2.1.1.1.1.2 hs_ | exact hk_.2.1.1.1.2.1 hs_ | exact hk_.2.1.1.1.2.2 hs_ | exact hk_.2.1.1.2.1.1 hs_ | exact hk_.2.1.1.2.1.2 hs_ | exact hk_.2.1.1.2.2.1 hs_ | exact hk_.2.1.1.2.2.2 hs_ | exact hk_.2.1.2.1.1.1 hs_ | exact hk_.2.1.2.1.1.2 hs_ | exact hk_.2.1.2.1.2.1 hs_ | exact hk_.2.1.2.1.2.2 hs_ | exact hk_.2.1.2.2.1.1 hs_ | exact hk_.2.1.2.2.1.2 hs_ | exact hk_.2.1.2.2.2.1 hs_ | exact hk_.2.1.2.2.2.2 hs_ | exact hk_.2.2.1.1.1.1 hs_ | exact hk_.2.2.1.1.1.2 hs_ | exact hk_.2.2.1.1.2.1 hs_ | exact hk_.2.2.1.1.2.2 hs_ | exact hk_.2.2.1.2.1.1 hs_ | exact hk_.2.2.1.2.1.2 hs_ | exact hk_.2.2.1.2.2.1 hs_ | exact hk_.2.2.1.2.2.2 hs_ | exact hk_.2.2.2.1.1.1 hs_ | exact hk_.2.2.2.1.1.2 hs_ | exact hk_.2.2.2.1.2.1 hs_ | exact hk_.2.2.2.1.2.2 hs_ | exact hk_.2.2.2.2.1.1 hs_ | exact hk_.2.2.2.2.1.2 hs_ | exact hk_.2.2.2.2.2.1 hs_ | exact hk_.2.2.2.2.2.2 hs_) : P := h
theorem tP9 {P : Prop} (h : P := by intro k_ hk_; (repeat' (first | exact True.intro | (with_reducible refine And.intro ?_ ?_))); all_goals (first | exact hk_ | exact hk_.1 | exact hk_.2 | exact hk_.1.1 | exact hk_.1.2 | exact hk_.2.1 | exact hk_.2.2 | exact hk_.1.1.1 | exact hk_.1.1.2 | exact hk_.1.2.1 | exact hk_.1.2.2 | exact hk_.2.1.1 | exact hk_.2.1.2 | exact hk_.2.2.1 | exact hk_.2.2.2 | exact hk_.1.1.1.1 | exact hk_.1.1.1.2 | exact hk_.1.1.2.1 | exact hk_.1.1.2.2 | exact hk_.1.2.1.1 | exact hk_.1.2.1.2 | exact hk_.1.2.2.1 | exact hk_.1.2.2.2 | exact hk_.2.1.1.1 | exact hk_.2.1.1.2 | exact hk_.2.1.2.1 | exact hk_.2.1.2.2 | exact hk_.2.2.1.1 | exact hk_.2.2.1.2 | exact hk_.2.2.2.1 | exact hk_.2.2.2.2 | exact hk_.1.1.1.1.1 | exact hk_.1.1.1.1.2 | exact hk_.1.1.1.2.1 | exact hk_.1.1.1.2.2 | exact hk_.1.1.2.1.1 | exact hk_.1.1.2.1.2 | exact hk_.1.1.2.2.1 | exact hk_.1.1.2.2.2 | exact hk_.1.2.1.1.1 | exact hk_.1.2.1.1.2 | exact hk_.1.2.1.2.1 | exact hk_.1.2.1.2.2 | exact hk_.1.2.2.1.1 | exact hk_.1.2.2.1.2 | exact hk_.1.2.2.2.1 | exact hk_.1.2.2.2.2 | exact hk_.2.1.1.1.1 | exact hk_.2.1.1.1.2 | exact hk_.2.1.1.2.1 | exact hk_.2.1.1.2.2 | exact hk_.2.1.2.1.1 | exact hk_.2.1.2.1.2 | exact hk_.2.1.2.2.1 | exact hk_.2.1.2.2.2 | exact hk_.2.2.1.1.1 | exact hk_.2.2.1.1.2 | exact hk_.2.2.1.2.1 | exact hk_.2.2.1.2.2 | exact hk_.2.2.2.1.1 | exact hk_.2.2.2.1.2 | exact hk_.2.2.2.2.1 | exact hk_.2.2.2.2.2 | exact hk_.1.1.1.1.1.1 | exact hk_.1.1.1.1.1.2 | exact hk_.1.1.1.1.2.1 | exact hk_.1.1.1.1.2.2 | exact hk_.1.1.1.2.1.1 | exact hk_.1.1.1.2.1.2 | exact hk_.1.1.1.2.2.1 | exact hk_.1.1.1.2.2.2 | exact hk_.1.1.2.1.1.1 | exact hk_.1.1.2.1.1.2 | exact hk_.1.1.2.1.2.1 | exact hk_.1.1.2.1.2.2 | exact hk_.1.1.2.2.1.1 | exact hk_.1.1.2.2.1.2 | exact hk_.1.1.2.2.2.1 | exact hk_.1.1.2.2.2.2 | exact hk_.1.2.1.1.1.1 | exact hk_.1.2.1.1.1.2 | exact hk_.1.2.1.1.2.1 | exact hk_.1.2.1.1.2.2 | exact hk_.1.2.1.2.1.1 | exact hk_.1.2.1.2.1.2 | exact hk_.1.2.1.2.2.1 | exact hk_.1.2.1.2.2.2 | exact hk_.1.2.2.1.1.1 | exact hk_.1.2.2.1.1.2 | exact hk_.1.2.2.1.2.1 | exact hk_.1.2.2.1.2.2 | exact hk_.1.2.2.2.1.1 | exact hk_.1.2.2.2.1.2 | exact hk_.1.2.2.2.2.1 | exact hk_.1.2.2.2.2.2 | exact hk_.2.1.1.1.1.1 | exact hk_.2.1.1.1.1.2 | exact hk_.2.1.1.1.2.1 | exact hk_.2.1.1.1.2.2 | exact hk_.2.1.1.2.1.1 | exact hk_.2.1.1.2.1.2 | exact hk_.2.1.1.2.2.1 | exact hk_.2.1.1.2.2.2 | exact hk_.2.1.2.1.1.1 | exact hk_.2.1.2.1.1.2 | exact hk_.2.1.2.1.2.1 | exact hk_.2.1.2.1.2.2 | exact hk_.2.1.2.2.1.1 | exact hk_.2.1.2.2.1.2 | exact hk_.2.1.2.2.2.1 | exact hk_.2.1.2.2.2.2 | exact hk_.2.2.1.1.1.1 | exact hk_.2.2.1.1.1.2 | exact hk_.2.2.1.1.2.1 | exact hk_.2.2.1.1.2.2 | exact hk_.2.2.1.2.1.1 | exact hk_.2.2.1.2.1.2 | exact hk_.2.2.1.2.2.1 | exact hk_.2.2.1.2.2.2 | exact hk_.2.2.2.1.1.1 | exact hk_.2.2.2.1.1.2 | exact hk_.2.2.2.1.2.1 | exact hk_.2.2.2.1.2.2 | exact hk_.2.2.2.2.1.1 | exact hk_.2.2.2.2.1.2 | exact hk_.2.2.2.2.2.1 | exact hk_.2.2.2.2.2.2)) : P := h
/-! ### laws_heldClaimS: function 80 -/
def laws_heldClaimS.l0 : Nat → List (S104) → Int → Int → Option (Int)
 | 0, _, _, _ => none
 | k + 1, x0, x1, x5 => if x5 < (x0.length : Int) then (if 0 ≤ x5 then (if ((rd_T104 x0 x5).f0) = x1 then (if ((rd_T104 x0 x5).f1) = (wrap64 (x1 + 1)) then (if ((rd_T104 x0 x5).f2) = (wrap64 ((wrap64 (x1 + 1)) + 1)) then (if ((rd_T104 x0 x5).f3) = (wrap64 ((wrap64 ((wrap64 (x1 + 1)) + 1)) + 1)) then (if ((rd_T104 x0 x5).f4) = (wrap64 ((wrap64 ((wrap64 ((wrap64 (x1 + 1)) + 1)) + 1)) + 1)) then (if ((rd_T104 x0 x5).f5) = (wrap64 ((wrap64 ((wrap64 ((wrap64 ((wrap64 (x1 + 1)) + 1)) + 1)) + 1)) + 1)) then (laws_heldClaimS.l0 k x0 (wrap64 ((wrap64 ((wrap64 ((wrap64 ((wrap64 ((wrap64 (x1 + 1)) + 1)) + 1)) + 1)) + 1)) + 1)) (wrap64 (x5 + 1))) else (some (-1))) else (some (-1))) else (some (-1))) else (some (-1))) else (some (-1))) else (some (-1))) else (none)) else (some x1)
def laws_heldClaimS.f (k : Nat) (l0 : List (S104)) (a1 : Int) : Option (Int) := laws_heldClaimS.l0 k l0 a1 0
theorem laws_heldClaimS.mono_l : ∀ k, (∀ y0 y1 y2, LeO (laws_heldClaimS.l0 k y0 y1 y2) (laws_heldClaimS.l0 (k + 1) y0 y1 y2))
 | 0 => fun _ _ _ r h => by simp [laws_heldClaimS.l0] at h
 | k + 1 => by
  have ih0 := laws_heldClaimS.mono_l k
  ·intro y0 y1 y2
   unfold laws_heldClaimS.l0
   repeat' first
   | (with_reducible exact ih0 _ _ _)
   | (with_reducible exact LeO.refl _)
   | (with_reducible exact LeO.none _)
   | (with_reducible refine LeO.ite ?_ ?_)
   | (with_reducible refine LeO.bind ?_ (fun _ => ?_))
   | exact ih0 _ _ _
   | exact LeO.none _
   | refine LeO.ite ?_ ?_
   | refine LeO.bind ?_ (fun _ => ?_)
theorem laws_heldClaimS.mono : ∀ a0 a1 k, LeO (laws_heldClaimS.f k a0 a1) (laws_heldClaimS.f (k + 1) a0 a1) := by
 intro a0 a1 k
 have ih0 := laws_heldClaimS.mono_l k
 unfold laws_heldClaimS.f
 repeat' first
   | (with_reducible exact ih0 _ _ _)
   | (with_reducible exact LeO.refl _)
   | (with_reducible exact LeO.none _)
   | (with_reducible refine LeO.ite ?_ ?_)
   | (with_reducible refine LeO.bind ?_ (fun _ => ?_))
   | exact ih0 _ _ _
   | exact LeO.none _
   | refine LeO.ite ?_ ?_
   | refine LeO.bind ?_ (fun _ => ?_)
set_option maxHeartbeats 8000000 in
set_option maxRecDepth 100000 in
theorem laws_heldClaimS.calls (k : Nat) (A0 : Option Addr) (c0 : Nat) (l0 : List (S104)) (a1 : Int) (r : Int) (w : World) (hr0 : Kd.C k104 w A0 l0.length l0) (hc0 : l0.length ≤ c0) (h : laws_heldClaimS.f k l0 a1 = some r) :
  Calls Try.prog 80 #[.slice A0 l0.length c0, .int .i64 a1] w fun e w' => e = .returned (.int .i64 r) ∧ Drawn0 w w' := by
 have HR0 := Aside0.mk hr0
 have HC0 := Aside0.mk hc0
 clear hr0 hc0
 have H : (laws_heldClaimS.l0 k l0 a1 0) = some r := h
 clear h
 have H' := Aside0.mk H
 clear H
 go_enter Try.func80, Try.ntmps80
 go_wp2
 go_loopg [1, 5] k (fun kq v1 v5 w' => ∃ (x1_1 : Int) (x5_1 : Int), v1 = .int .i64 x1_1 ∧ v5 = .int .i64 x5_1 ∧ Aside0 (laws_heldClaimS.l0 kq l0 x1_1 x5_1 = some r) ∧ Aside0 (kq ≤ k) ∧ Drawn0 w w')
 case atStart => exact ⟨(a1), (0), tS, tS, H', ⟨Nat.le_refl _⟩, by repeat (first | exact Drawn0.refl _ | apply Drawn0.step)⟩
 case round =>
  clear H'
  try clear p2
  obtain ⟨x1_1, x5_1, rfl, rfl, HA, HK1, ⟨m1, rfl⟩⟩ := hrel
  cases gk with
  | zero => exact absurd HA.out (by simp [laws_heldClaimS.l0])
  | succ k1 =>
   have H := HA.out
   clear HA
   simp only [laws_heldClaimS.l0] at H
   by_cases c3 : x5_1 < (l0.length : Int)
   ·rw [if_pos c3] at H
    have c3b0 : decide (x5_1 < (l0.length : Int)) = true := decide_eq_true c3
    clear c3
    by_cases c4 : 0 ≤ x5_1
    ·rw [if_pos c4] at H
     have c4b0 : decide (0 ≤ x5_1) = true := decide_eq_true c4
     clear c4
     by_cases c5 : ((rd_T104 l0 x5_1).f0) = x1_1
     ·rw [if_pos c5] at H
      have c5b0 : (((rd_T104 l0 x5_1).f0) == x1_1) = true := beq_iff_eq.mpr c5
      have c5b1 : (((rd_T104 l0 x5_1).f0) != x1_1) = false := bne_eq_false_iff_eq.mpr c5
      clear c5
      by_cases c6 : ((rd_T104 l0 x5_1).f1) = (wrap64 (x1_1 + 1))
      ·rw [if_pos c6] at H
       have c6b0 : (((rd_T104 l0 x5_1).f1) == (wrap64 (x1_1 + 1))) = true := beq_iff_eq.mpr c6
       have c6b1 : (((rd_T104 l0 x5_1).f1) != (wrap64 (x1_1 + 1))) = false := bne_eq_false_iff_eq.mpr c6
       clear c6
       by_cases c7 : ((rd_T104 l0 x5_1).f2) = (wrap64 ((wrap64 (x1_1 + 1)) + 1))
       ·rw [if_pos c7] at H
        have c7b0 : (((rd_T104 l0 x5_1).f2) == (wrap64 ((wrap64 (x1_1 + 1)) + 1))) = true := beq_iff_eq.mpr c7
        have c7b1 : (((rd_T104 l0 x5_1).f2) != (wrap64 ((wrap64 (x1_1 + 1)) + 1))) = false := bne_eq_false_iff_eq.mpr c7
        clear c7
        by_cases c8 : ((rd_T104 l0 x5_1).f3) = (wrap64 ((wrap64 ((wrap64 (x1_1 + 1)) + 1)) + 1))
        ·rw [if_pos c8] at H
         have c8b0 : (((rd_T104 l0 x5_1).f3) == (wrap64 ((wrap64 ((wrap64 (x1_1 + 1)) + 1)) + 1))) = true := beq_iff_eq.mpr c8
         have c8b1 : (((rd_T104 l0 x5_1).f3) != (wrap64 ((wrap64 ((wrap64 (x1_1 + 1)) + 1)) + 1))) = false := bne_eq_false_iff_eq.mpr c8
         clear c8
         by_cases c9 : ((rd_T104 l0 x5_1).f4) = (wrap64 ((wrap64 ((wrap64 ((wrap64 (x1_1 + 1)) + 1)) + 1)) + 1))
         ·rw [if_pos c9] at H
          have c9b0 : (((rd_T104 l0 x5_1).f4) == (wrap64 ((wrap64 ((wrap64 ((wrap64 (x1_1 + 1)) + 1)) + 1)) + 1))) = true := beq_iff_eq.mpr c9
          have c9b1 : (((rd_T104 l0 x5_1).f4) != (wrap64 ((wrap64 ((wrap64 ((wrap64 (x1_1 + 1)) + 1)) + 1)) + 1))) = false := bne_eq_false_iff_eq.mpr c9
          clear c9
          by_cases c10 : ((rd_T104 l0 x5_1).f5) = (wrap64 ((wrap64 ((wrap64 ((wrap64 ((wrap64 (x1_1 + 1)) + 1)) + 1)) + 1)) + 1))
          ·rw [if_pos c10] at H
           have c10b0 : (((rd_T104 l0 x5_1).f5) == (wrap64 ((wrap64 ((wrap64 ((wrap64 ((wrap64 (x1_1 + 1)) + 1)) + 1)) + 1)) + 1))) = true := beq_iff_eq.mpr c10
           have c10b1 : (((rd_T104 l0 x5_1).f5) != (wrap64 ((wrap64 ((wrap64 ((wrap64 ((wrap64 (x1_1 + 1)) + 1)) + 1)) + 1)) + 1))) = false := bne_eq_false_iff_eq.mpr c10
           clear c10
           have H' := Aside0.mk H
           clear H
           have p236 : 0 ≤ (x5_1 : Int) := of_decide_eq_true tA
           have q236 : x5_1 < (l0.length : Int) := of_decide_eq_true tA
           obtain ⟨ad236, e236, hx236_0, hx236_1, hx236_2, hx236_3, hx236_4, hx236_5⟩ := at_T104 HR0.out x5_1 p236 q236
           cases e236
           replace p236 := eq_true p236
           replace q236 := eq_true q236
           have p237 : 0 ≤ (x5_1 : Int) := of_decide_eq_true tA
           have q237 : x5_1 < (l0.length : Int) := of_decide_eq_true tA
           obtain ⟨ad237, e237, hx237_0, hx237_1, hx237_2, hx237_3, hx237_4, hx237_5⟩ := at_T104 HR0.out x5_1 p237 q237
           obtain rfl : ad236 = ad237 := (by injection e237)
           replace p237 := eq_true p237
           replace q237 := eq_true q237
           have p238 : 0 ≤ (x5_1 : Int) := of_decide_eq_true tA
           have q238 : x5_1 < (l0.length : Int) := of_decide_eq_true tA
           obtain ⟨ad238, e238, hx238_0, hx238_1, hx238_2, hx238_3, hx238_4, hx238_5⟩ := at_T104 HR0.out x5_1 p238 q238
           obtain rfl : ad236 = ad238 := (by injection e238)
           replace p238 := eq_true p238
           replace q238 := eq_true q238
           have p239 : 0 ≤ (x5_1 : Int) := of_decide_eq_true tA
           have q239 : x5_1 < (l0.length : Int) := of_decide_eq_true tA
           obtain ⟨ad239, e239, hx239_0, hx239_1, hx239_2, hx239_3, hx239_4, hx239_5⟩ := at_T104 HR0.out x5_1 p239 q239
           obtain rfl : ad236 = ad239 := (by injection e239)
           replace p239 := eq_true p239
           replace q239 := eq_true q239
           have p240 : 0 ≤ (x5_1 : Int) := of_decide_eq_true tA
           have q240 : x5_1 < (l0.length : Int) := of_decide_eq_true tA
           obtain ⟨ad240, e240, hx240_0, hx240_1, hx240_2, hx240_3, hx240_4, hx240_5⟩ := at_T104 HR0.out x5_1 p240 q240
           obtain rfl : ad236 = ad240 := (by injection e240)
           replace p240 := eq_true p240
           replace q240 := eq_true q240
           have p241 : 0 ≤ (x5_1 : Int) := of_decide_eq_true tA
           have q241 : x5_1 < (l0.length : Int) := of_decide_eq_true tA
           obtain ⟨ad241, e241, hx241_0, hx241_1, hx241_2, hx241_3, hx241_4, hx241_5⟩ := at_T104 HR0.out x5_1 p241 q241
           obtain rfl : ad236 = ad241 := (by injection e241)
           replace p241 := eq_true p241
           replace q241 := eq_true q241
           go_wp2
           go_roundg k1
           case measure => have := HK1.out; omega
           case rel => exact ⟨(wrap64 ((wrap64 ((wrap64 ((wrap64 ((wrap64 ((wrap64 (x1_1 + 1)) + 1)) + 1)) + 1)) + 1)) + 1)), (wrap64 (x5_1 + 1)), tS, tS, H', ⟨tI⟩, by repeat (first | exact Drawn0.refl _ | apply Drawn0.step)⟩
          ·rw [if_neg c10] at H
           have c10b0 : (((rd_T104 l0 x5_1).f5) == (wrap64 ((wrap64 ((wrap64 ((wrap64 ((wrap64 (x1_1 + 1)) + 1)) + 1)) + 1)) + 1))) = false := beq_eq_false_iff_ne.mpr c10
           have c10b1 : (((rd_T104 l0 x5_1).f5) != (wrap64 ((wrap64 ((wrap64 ((wrap64 ((wrap64 (x1_1 + 1)) + 1)) + 1)) + 1)) + 1))) = true := bne_iff_ne.mpr c10
           obtain rfl := Option.some.inj H
           have p236 : 0 ≤ (x5_1 : Int) := of_decide_eq_true tA
           have q236 : x5_1 < (l0.length : Int) := of_decide_eq_true tA
           obtain ⟨ad236, e236, hx236_0, hx236_1, hx236_2, hx236_3, hx236_4, hx236_5⟩ := at_T104 HR0.out x5_1 p236 q236
           cases e236
           replace p236 := eq_true p236
           replace q236 := eq_true q236
           have p237 : 0 ≤ (x5_1 : Int) := of_decide_eq_true tA
           have q237 : x5_1 < (l0.length : Int) := of_decide_eq_true tA
           obtain ⟨ad237, e237, hx237_0, hx237_1, hx237_2, hx237_3, hx237_4, hx237_5⟩ := at_T104 HR0.out x5_1 p237 q237
           obtain rfl : ad236 = ad237 := (by injection e237)
           replace p237 := eq_true p237
           replace q237 := eq_true q237
           have p238 : 0 ≤ (x5_1 : Int) := of_decide_eq_true tA
           have q238 : x5_1 < (l0.length : Int) := of_decide_eq_true tA
           obtain ⟨ad238, e238, hx238_0, hx238_1, hx238_2, hx238_3, hx238_4, hx238_5⟩ := at_T104 HR0.out x5_1 p238 q238
           obtain rfl : ad236 = ad238 := (by injection e238)
           replace p238 := eq_true p238
           replace q238 := eq_true q238
           have p239 : 0 ≤ (x5_1 : Int) := of_decide_eq_true tA
           have q239 : x5_1 < (l0.length : Int) := of_decide_eq_true tA
           obtain ⟨ad239, e239, hx239_0, hx239_1, hx239_2, hx239_3, hx239_4, hx239_5⟩ := at_T104 HR0.out x5_1 p239 q239
           obtain rfl : ad236 = ad239 := (by injection e239)
           replace p239 := eq_true p239
           replace q239 := eq_true q239
           have p240 : 0 ≤ (x5_1 : Int) := of_decide_eq_true tA
           have q240 : x5_1 < (l0.length : Int) := of_decide_eq_true tA
           obtain ⟨ad240, e240, hx240_0, hx240_1, hx240_2, hx240_3, hx240_4, hx240_5⟩ := at_T104 HR0.out x5_1 p240 q240
           obtain rfl : ad236 = ad240 := (by injection e240)
           replace p240 := eq_true p240
           replace q240 := eq_true q240
           have p241 : 0 ≤ (x5_1 : Int) := of_decide_eq_true tA
           have q241 : x5_1 < (l0.length : Int) := of_decide_eq_true tA
           obtain ⟨ad241, e241, hx241_0, hx241_1, hx241_2, hx241_3, hx241_4, hx241_5⟩ := at_T104 HR0.out x5_1 p241 q241
           obtain rfl : ad236 = ad241 := (by injection e241)
           replace p241 := eq_true p241
           replace q241 := eq_true q241
           go_wp2
           go_ret
           exact ⟨tS, by repeat (first | exact Drawn0.refl _ | apply Drawn0.step)⟩
         ·rw [if_neg c9] at H
          have c9b0 : (((rd_T104 l0 x5_1).f4) == (wrap64 ((wrap64 ((wrap64 ((wrap64 (x1_1 + 1)) + 1)) + 1)) + 1))) = false := beq_eq_false_iff_ne.mpr c9
          have c9b1 : (((rd_T104 l0 x5_1).f4) != (wrap64 ((wrap64 ((wrap64 ((wrap64 (x1_1 + 1)) + 1)) + 1)) + 1))) = true := bne_iff_ne.mpr c9
          obtain rfl := Option.some.inj H
          have p236 : 0 ≤ (x5_1 : Int) := of_decide_eq_true tA
          have q236 : x5_1 < (l0.length : Int) := of_decide_eq_true tA
          obtain ⟨ad236, e236, hx236_0, hx236_1, hx236_2, hx236_3, hx236_4, hx236_5⟩ := at_T104 HR0.out x5_1 p236 q236
          cases e236
          replace p236 := eq_true p236
          replace q236 := eq_true q236
          have p237 : 0 ≤ (x5_1 : Int) := of_decide_eq_true tA
          have q237 : x5_1 < (l0.length : Int) := of_decide_eq_true tA
          obtain ⟨ad237, e237, hx237_0, hx237_1, hx237_2, hx237_3, hx237_4, hx237_5⟩ := at_T104 HR0.out x5_1 p237 q237
          obtain rfl : ad236 = ad237 := (by injection e237)
          replace p237 := eq_true p237
          replace q237 := eq_true q237
          have p238 : 0 ≤ (x5_1 : Int) := of_decide_eq_true tA
          have q238 : x5_1 < (l0.length : Int) := of_decide_eq_true tA
          obtain ⟨ad238, e238, hx238_0, hx238_1, hx238_2, hx238_3, hx238_4, hx238_5⟩ := at_T104 HR0.out x5_1 p238 q238
          obtain rfl : ad236 = ad238 := (by injection e238)
          replace p238 := eq_true p238
          replace q238 := eq_true q238
          have p239 : 0 ≤ (x5_1 : Int) := of_decide_eq_true tA
          have q239 : x5_1 < (l0.length : Int) := of_decide_eq_true tA
          obtain ⟨ad239, e239, hx239_0, hx239_1, hx239_2, hx239_3, hx239_4, hx239_5⟩ := at_T104 HR0.out x5_1 p239 q239
          obtain rfl : ad236 = ad239 := (by injection e239)
          replace p239 := eq_true p239
          replace q239 := eq_true q239
          have p240 : 0 ≤ (x5_1 : Int) := of_decide_eq_true tA
          have q240 : x5_1 < (l0.length : Int) := of_decide_eq_true tA
          obtain ⟨ad240, e240, hx240_0, hx240_1, hx240_2, hx240_3, hx240_4, hx240_5⟩ := at_T104 HR0.out x5_1 p240 q240
          obtain rfl : ad236 = ad240 := (by injection e240)
          replace p240 := eq_true p240
          replace q240 := eq_true q240
          go_wp2
          go_ret
          exact ⟨tS, by repeat (first | exact Drawn0.refl _ | apply Drawn0.step)⟩
        ·rw [if_neg c8] at H
         have c8b0 : (((rd_T104 l0 x5_1).f3) == (wrap64 ((wrap64 ((wrap64 (x1_1 + 1)) + 1)) + 1))) = false := beq_eq_false_iff_ne.mpr c8
         have c8b1 : (((rd_T104 l0 x5_1).f3) != (wrap64 ((wrap64 ((wrap64 (x1_1 + 1)) + 1)) + 1))) = true := bne_iff_ne.mpr c8
         obtain rfl := Option.some.inj H
         have p236 : 0 ≤ (x5_1 : Int) := of_decide_eq_true tA
         have q236 : x5_1 < (l0.length : Int) := of_decide_eq_true tA
         obtain ⟨ad236, e236, hx236_0, hx236_1, hx236_2, hx236_3, hx236_4, hx236_5⟩ := at_T104 HR0.out x5_1 p236 q236
         cases e236
         replace p236 := eq_true p236
         replace q236 := eq_true q236
         have p237 : 0 ≤ (x5_1 : Int) := of_decide_eq_true tA
         have q237 : x5_1 < (l0.length : Int) := of_decide_eq_true tA
         obtain ⟨ad237, e237, hx237_0, hx237_1, hx237_2, hx237_3, hx237_4, hx237_5⟩ := at_T104 HR0.out x5_1 p237 q237
         obtain rfl : ad236 = ad237 := (by injection e237)
         replace p237 := eq_true p237
         replace q237 := eq_true q237
         have p238 : 0 ≤ (x5_1 : Int) := of_decide_eq_true tA
         have q238 : x5_1 < (l0.length : Int) := of_decide_eq_true tA
         obtain ⟨ad238, e238, hx238_0, hx238_1, hx238_2, hx238_3, hx238_4, hx238_5⟩ := at_T104 HR0.out x5_1 p238 q238
         obtain rfl : ad236 = ad238 := (by injection e238)
         replace p238 := eq_true p238
         replace q238 := eq_true q238
         have p239 : 0 ≤ (x5_1 : Int) := of_decide_eq_true tA
         have q239 : x5_1 < (l0.length : Int) := of_decide_eq_true tA
         obtain ⟨ad239, e239, hx239_0, hx239_1, hx239_2, hx239_3, hx239_4, hx239_5⟩ := at_T104 HR0.out x5_1 p239 q239
         obtain rfl : ad236 = ad239 := (by injection e239)
         replace p239 := eq_true p239
         replace q239 := eq_true q239
         go_wp2
         go_ret
         exact ⟨tS, by repeat (first | exact Drawn0.refl _ | apply Drawn0.step)⟩
       ·rw [if_neg c7] at H
        have c7b0 : (((rd_T104 l0 x5_1).f2) == (wrap64 ((wrap64 (x1_1 + 1)) + 1))) = false := beq_eq_false_iff_ne.mpr c7
        have c7b1 : (((rd_T104 l0 x5_1).f2) != (wrap64 ((wrap64 (x1_1 + 1)) + 1))) = true := bne_iff_ne.mpr c7
        obtain rfl := Option.some.inj H
        have p236 : 0 ≤ (x5_1 : Int) := of_decide_eq_true tA
        have q236 : x5_1 < (l0.length : Int) := of_decide_eq_true tA
        obtain ⟨ad236, e236, hx236_0, hx236_1, hx236_2, hx236_3, hx236_4, hx236_5⟩ := at_T104 HR0.out x5_1 p236 q236
        cases e236
        replace p236 := eq_true p236
        replace q236 := eq_true q236
        have p237 : 0 ≤ (x5_1 : Int) := of_decide_eq_true tA
        have q237 : x5_1 < (l0.length : Int) := of_decide_eq_true tA
        obtain ⟨ad237, e237, hx237_0, hx237_1, hx237_2, hx237_3, hx237_4, hx237_5⟩ := at_T104 HR0.out x5_1 p237 q237
        obtain rfl : ad236 = ad237 := (by injection e237)
        replace p237 := eq_true p237
        replace q237 := eq_true q237
        have p238 : 0 ≤ (x5_1 : Int) := of_decide_eq_true tA
        have q238 : x5_1 < (l0.length : Int) := of_decide_eq_true tA
        obtain ⟨ad238, e238, hx238_0, hx238_1, hx238_2, hx238_3, hx238_4, hx238_5⟩ := at_T104 HR0.out x5_1 p238 q238
        obtain rfl : ad236 = ad238 := (by injection e238)
        replace p238 := eq_true p238
        replace q238 := eq_true q238
        go_wp2
        go_ret
        exact ⟨tS, by repeat (first | exact Drawn0.refl _ | apply Drawn0.step)⟩
      ·rw [if_neg c6] at H
       have c6b0 : (((rd_T104 l0 x5_1).f1) == (wrap64 (x1_1 + 1))) = false := beq_eq_false_iff_ne.mpr c6
       have c6b1 : (((rd_T104 l0 x5_1).f1) != (wrap64 (x1_1 + 1))) = true := bne_iff_ne.mpr c6
       obtain rfl := Option.some.inj H
       have p236 : 0 ≤ (x5_1 : Int) := of_decide_eq_true tA
       have q236 : x5_1 < (l0.length : Int) := of_decide_eq_true tA
       obtain ⟨ad236, e236, hx236_0, hx236_1, hx236_2, hx236_3, hx236_4, hx236_5⟩ := at_T104 HR0.out x5_1 p236 q236
       cases e236
       replace p236 := eq_true p236
       replace q236 := eq_true q236
       have p237 : 0 ≤ (x5_1 : Int) := of_decide_eq_true tA
       have q237 : x5_1 < (l0.length : Int) := of_decide_eq_true tA
       obtain ⟨ad237, e237, hx237_0, hx237_1, hx237_2, hx237_3, hx237_4, hx237_5⟩ := at_T104 HR0.out x5_1 p237 q237
       obtain rfl : ad236 = ad237 := (by injection e237)
       replace p237 := eq_true p237
       replace q237 := eq_true q237
       go_wp2
       go_ret
       exact ⟨tS, by repeat (first | exact Drawn0.refl _ | apply Drawn0.step)⟩
     ·rw [if_neg c5] at H
      have c5b0 : (((rd_T104 l0 x5_1).f0) == x1_1) = false := beq_eq_false_iff_ne.mpr c5
      have c5b1 : (((rd_T104 l0 x5_1).f0) != x1_1) = true := bne_iff_ne.mpr c5
      obtain rfl := Option.some.inj H
      have p236 : 0 ≤ (x5_1 : Int) := of_decide_eq_true tA
      have q236 : x5_1 < (l0.length : Int) := of_decide_eq_true tA
      obtain ⟨ad236, e236, hx236_0, hx236_1, hx236_2, hx236_3, hx236_4, hx236_5⟩ := at_T104 HR0.out x5_1 p236 q236
      cases e236
      replace p236 := eq_true p236
      replace q236 := eq_true q236
      go_wp2
      go_ret
      exact ⟨tS, by repeat (first | exact Drawn0.refl _ | apply Drawn0.step)⟩
    ·rw [if_neg c4] at H
     exact absurd H (by simp)
   ·rw [if_neg c3] at H
    have c3b0 : decide (x5_1 < (l0.length : Int)) = false := decide_eq_false c3
    clear c3
    obtain rfl := Option.some.inj H
    go_wp2
    go_ret
    exact ⟨tS, by repeat (first | exact Drawn0.refl _ | apply Drawn0.step)⟩

/-! ### laws_heldClaimList: function 26 -/
def laws_heldClaimList.f (k : Nat) (a0_0 : Int) (l0_1 : List (S104)) (a1 : Int) : Option (Int) := (laws_heldClaimS.f k l0_1 a1).bind fun t243 => (if t243 < 0 then (some (-1)) else (some t243))
theorem laws_heldClaimList.mono : ∀ a0 a1 a2 k, LeO (laws_heldClaimList.f k a0 a1 a2) (laws_heldClaimList.f (k + 1) a0 a1 a2) := by
 intro a0 a1 a2 k
 unfold laws_heldClaimList.f
 repeat' first
   | (with_reducible exact laws_heldClaimS.mono _ _ _)
   | (with_reducible exact LeO.refl _)
   | (with_reducible exact LeO.none _)
   | (with_reducible refine LeO.ite ?_ ?_)
   | (with_reducible refine LeO.bind ?_ (fun _ => ?_))
   | exact laws_heldClaimS.mono _ _ _
   | exact LeO.none _
   | refine LeO.ite ?_ ?_
   | refine LeO.bind ?_ (fun _ => ?_)
set_option maxHeartbeats 8000000 in
set_option maxRecDepth 100000 in
theorem laws_heldClaimList.calls (k : Nat) (a0_0 : Int) (A0_1 : Option Addr) (c0_1 : Nat) (l0_1 : List (S104)) (a1 : Int) (r : Int) (w : World) (hr0_1 : Kd.C k104 w A0_1 l0_1.length l0_1) (hc0_1 : l0_1.length ≤ c0_1) (h : laws_heldClaimList.f k a0_0 l0_1 a1 = some r) :
  Calls Try.prog 26 #[.agg #[.int .i64 a0_0, .slice A0_1 l0_1.length c0_1], .int .i64 a1] w fun e w' => e = .returned (.int .i64 r) ∧ Below w.heap.size w w' := by
 have hu35 := Try.underlying35
 have HR0_1 := Aside0.mk hr0_1
 have HC0_1 := Aside0.mk hc0_1
 clear hr0_1 hc0_1
 have HB := Aside0.mk (Below.refl w.heap.size w)
 have H : ((laws_heldClaimS.f k l0_1 a1).bind fun t243 => (if t243 < 0 then (some (-1)) else (some t243))) = some r := h
 clear h
 replace H := Option.bind_eq_some_iff.mp H
 obtain ⟨t243, A30, H⟩ := H
 replace H : (if t243 < 0 then (some (-1)) else (some t243)) = some r := H
 have A3 := Aside0.mk A30
 clear A30
 by_cases c4 : t243 < 0
 ·rw [if_pos c4] at H
  have c4b0 : decide (t243 < 0) = true := decide_eq_true c4
  clear c4
  obtain rfl := Option.some.inj H
  go_enter Try.func26, Try.ntmps26
  go_wp2_with (first | ((with_reducible refine gate_dst (N := 2) rfl ?_); refine box_event ?hg (N := 2) ?hd (cs := #[.int .i64 a0_0, .slice A0_1 l0_1.length c0_1]) (t := 35) ?hr ?_; (case hd => rfl); (case hg => rfl); (case hr => exact tG); intro gb242 hg w5 hbox hb; have n0_ := Aside0.mk (below_step tB hb); have n1_ := Aside0.mk (hbox); have n2_ := Aside0.mk ((by rw [hg]; exact (below_size tB) : w.heap.size ≤ gb242)); have n3_ := Aside0.mk ((by rw [hg]; exact (below_size tB) : w.heap.size ≤ gb242)); clear HB; have HB := n0_; have BK242 := n1_; have GW242 := n2_; have GE242 := n3_; clear n0_ n1_ n2_ n3_; clear hb hbox hg; obtain ⟨hcz6_0, hcz6_1, hfz6_0, hfz6_1⟩ := bc2 BK242.out) | ((with_reducible refine gate_callee (f := 80) rfl ?_); refine goesL_ (some 8) rfl rfl Try.func80 (by kernel_rfl) rfl #[.slice A0_1 l0_1.length c0_1, .int .i64 a1] rfl tL ?_; (with_reducible refine (laws_heldClaimS.calls k _ _ l0_1 a1 t243 _ ?side1 ?side2 A3.out).mono ?_); (case side1 => repeat (first | exact (Kd.C_below HR0_1.out HB.out) | (with_reducible refine Kd.C_alloc ?_ _) | (with_reducible refine Kd.C_drewN ?_ _) | (with_reducible refine Kd.C_drew ?_))); (case side2 => exact HC0_1.out); rintro e w' ⟨rfl, ⟨nd, rfl⟩⟩; refine ⟨_, rfl, ?_⟩))
  go_ret
  exact ⟨tE, tB⟩
 ·rw [if_neg c4] at H
  have c4b0 : decide (t243 < 0) = false := decide_eq_false c4
  clear c4
  obtain rfl := Option.some.inj H
  go_enter Try.func26, Try.ntmps26
  go_wp2_with (first | ((with_reducible refine gate_dst (N := 2) rfl ?_); refine box_event ?hg (N := 2) ?hd (cs := #[.int .i64 a0_0, .slice A0_1 l0_1.length c0_1]) (t := 35) ?hr ?_; (case hd => rfl); (case hg => rfl); (case hr => exact tG); intro gb242 hg w7 hbox hb; have n0_ := Aside0.mk (below_step tB hb); have n1_ := Aside0.mk (hbox); have n2_ := Aside0.mk ((by rw [hg]; exact (below_size tB) : w.heap.size ≤ gb242)); have n3_ := Aside0.mk ((by rw [hg]; exact (below_size tB) : w.heap.size ≤ gb242)); clear HB; have HB := n0_; have BK242 := n1_; have GW242 := n2_; have GE242 := n3_; clear n0_ n1_ n2_ n3_; clear hb hbox hg; obtain ⟨hcz8_0, hcz8_1, hfz8_0, hfz8_1⟩ := bc2 BK242.out) | ((with_reducible refine gate_callee (f := 80) rfl ?_); refine goesL_ (some 8) rfl rfl Try.func80 (by kernel_rfl) rfl #[.slice A0_1 l0_1.length c0_1, .int .i64 a1] rfl tL ?_; (with_reducible refine (laws_heldClaimS.calls k _ _ l0_1 a1 t243 _ ?side1 ?side2 A3.out).mono ?_); (case side1 => repeat (first | exact (Kd.C_below HR0_1.out HB.out) | (with_reducible refine Kd.C_alloc ?_ _) | (with_reducible refine Kd.C_drewN ?_ _) | (with_reducible refine Kd.C_drew ?_))); (case side2 => exact HC0_1.out); rintro e w' ⟨rfl, ⟨nd, rfl⟩⟩; refine ⟨_, rfl, ?_⟩))
  go_ret
  exact ⟨tE, tB⟩

/-! ### laws_FnExactCompleteClaim: function 4 -/
def laws_FnExactCompleteClaim.f (k : Nat) (a0_0 : Int) (l0_1 : List (S133)) (a1 : Int) (a2 : Int) : Option (Bool) := (laws_szClaimList.f a0_0 l0_1 1048576).bind fun t245 => (if t245 < 0 then (some true) else ((laws_toClaimList.f k a0_0 l0_1).bind fun bt246 => ((spec_CompleteClaim.f k bt246.1 bt246.2 a1 a2).bind fun bt250 => ((laws_toClaimList.f k a0_0 l0_1).bind fun bt257 => ((impl_CompleteClaim.f k bt257.1 bt257.2 a1 a2).bind fun bt262 => ((laws_eqClaimList.f k bt262.1 bt262.2.1 bt250.1 bt250.2.1).bind fun t269 => (if t269 = true then (if bt262.2.2.1 = bt250.2.2.1 then (if (bt262.2.2.2 != bt250.2.2.2) = true then (some false) else ((laws_toClaimList.f k a0_0 l0_1).bind fun bt270 => ((laws_eqClaimList.f k bt257.1 bt257.2 bt270.1 bt270.2).bind fun t274 => (if t274 = true then ((laws_markClaimList.f k bt257.1 bt257.2 1).bind fun bt275 => (if bt275.1 < 0 then (some false) else ((laws_eqClaimList.f k bt262.1 bt262.2.1 bt250.1 bt250.2.1).bind fun t277 => (if t277 = true then ((laws_markClaimList.f k bt262.1 bt262.2.1 1).bind fun bt278 => ((laws_heldClaimList.f k bt262.1 bt278.2 1).bind fun t280 => (if t280 < 0 then (some false) else (if t280 = bt278.1 then ((laws_toClaimList.f k a0_0 l0_1).bind fun bt281 => ((impl_CompleteClaim.f k bt281.1 bt281.2 a1 a2).bind fun bt285 => ((laws_eqClaimList.f k bt285.1 bt285.2.1 bt250.1 bt250.2.1).bind fun t292 => (if t292 = true then (if bt285.2.2.1 = bt250.2.2.1 then (if (bt285.2.2.2 != bt250.2.2.2) = true then (some false) else ((laws_heldClaimList.f k bt262.1 bt278.2 1).bind fun t293 => (if t293 < 0 then (some false) else (if t293 = bt278.1 then (some true) else (some false))))) else (some false)) else (some false))))) else (some false))))) else (some false))))) else (some false))))) else (some false)) else (some false))))))))
theorem laws_FnExactCompleteClaim.mono : ∀ a0 a1 a2 a3 k, LeO (laws_FnExactCompleteClaim.f k a0 a1 a2 a3) (laws_FnExactCompleteClaim.f (k + 1) a0 a1 a2 a3) := by
 intro a0 a1 a2 a3 k
 unfold laws_FnExactCompleteClaim.f
 repeat' first
   | (with_reducible exact impl_CompleteClaim.mono _ _ _ _ _)
   | (with_reducible exact laws_eqClaimList.mono _ _ _ _ _)
   | (with_reducible exact laws_heldClaimList.mono _ _ _ _)
   | (with_reducible exact laws_markClaimList.mono _ _ _ _)
   | (with_reducible exact laws_toClaimList.mono _ _ _)
   | (with_reducible exact spec_CompleteClaim.mono _ _ _ _ _)
   | (with_reducible exact LeO.refl _)
   | (with_reducible exact LeO.none _)
   | (with_reducible refine LeO.ite ?_ ?_)
   | (with_reducible refine LeO.bind ?_ (fun _ => ?_))
   | exact impl_CompleteClaim.mono _ _ _ _ _
   | exact laws_eqClaimList.mono _ _ _ _ _
   | exact laws_heldClaimList.mono _ _ _ _
   | exact laws_markClaimList.mono _ _ _ _
   | exact laws_toClaimList.mono _ _ _
   | exact spec_CompleteClaim.mono _ _ _ _ _
   | exact LeO.none _
   | refine LeO.ite ?_ ?_
   | refine LeO.bind ?_ (fun _ => ?_)
set_option maxHeartbeats 8000000 in
set_option maxRecDepth 100000 in
theorem laws_FnExactCompleteClaim.calls (k : Nat) (a0_0 : Int) (A0_1 : Option Addr) (c0_1 : Nat) (l0_1 : List (S133)) (a1 : Int) (a2 : Int) (r : Bool) (w : World) (hr0_1 : Kd.C k133 w A0_1 l0_1.length l0_1) (hc0_1 : l0_1.length ≤ c0_1) (hT_ : r = true) (h : laws_FnExactCompleteClaim.f k a0_0 l0_1 a1 a2 = some r) :
  Calls Try.prog 4 #[.agg #[.int .i64 a0_0, .slice A0_1 l0_1.length c0_1], .int .i64 a1, .int .i64 a2] w fun e w' => e = .returned (.bool r) ∧ Below w.heap.size w w' := by
 have hu31 := Try.underlying31
 have hu35 := Try.underlying35
 have HR0_1 := Aside0.mk hr0_1
 have HC0_1 := Aside0.mk hc0_1
 clear hr0_1 hc0_1
 have HB := Aside0.mk (Below.refl w.heap.size w)
 have H : ((laws_szClaimList.f a0_0 l0_1 1048576).bind fun t245 => (if t245 < 0 then (some true) else ((laws_toClaimList.f k a0_0 l0_1).bind fun bt246 => ((spec_CompleteClaim.f k bt246.1 bt246.2 a1 a2).bind fun bt250 => ((laws_toClaimList.f k a0_0 l0_1).bind fun bt257 => ((impl_CompleteClaim.f k bt257.1 bt257.2 a1 a2).bind fun bt262 => ((laws_eqClaimList.f k bt262.1 bt262.2.1 bt250.1 bt250.2.1).bind fun t269 => (if t269 = true then (if bt262.2.2.1 = bt250.2.2.1 then (if (bt262.2.2.2 != bt250.2.2.2) = true then (some false) else ((laws_toClaimList.f k a0_0 l0_1).bind fun bt270 => ((laws_eqClaimList.f k bt257.1 bt257.2 bt270.1 bt270.2).bind fun t274 => (if t274 = true then ((laws_markClaimList.f k bt257.1 bt257.2 1).bind fun bt275 => (if bt275.1 < 0 then (some false) else ((laws_eqClaimList.f k bt262.1 bt262.2.1 bt250.1 bt250.2.1).bind fun t277 => (if t277 = true then ((laws_markClaimList.f k bt262.1 bt262.2.1 1).bind fun bt278 => ((laws_heldClaimList.f k bt262.1 bt278.2 1).bind fun t280 => (if t280 < 0 then (some false) else (if t280 = bt278.1 then ((laws_toClaimList.f k a0_0 l0_1).bind fun bt281 => ((impl_CompleteClaim.f k bt281.1 bt281.2 a1 a2).bind fun bt285 => ((laws_eqClaimList.f k bt285.1 bt285.2.1 bt250.1 bt250.2.1).bind fun t292 => (if t292 = true then (if bt285.2.2.1 = bt250.2.2.1 then (if (bt285.2.2.2 != bt250.2.2.2) = true then (some false) else ((laws_heldClaimList.f k bt262.1 bt278.2 1).bind fun t293 => (if t293 < 0 then (some false) else (if t293 = bt278.1 then (some true) else (some false))))) else (some false)) else (some false))))) else (some false))))) else (some false))))) else (some false))))) else (some false)) else (some false))))))))) = some r := h
 clear h
 replace H := Option.bind_eq_some_iff.mp H
 obtain ⟨t245, A40, H⟩ := H
 replace H : (if t245 < 0 then (some true) else ((laws_toClaimList.f k a0_0 l0_1).bind fun bt246 => ((spec_CompleteClaim.f k bt246.1 bt246.2 a1 a2).bind fun bt250 => ((laws_toClaimList.f k a0_0 l0_1).bind fun bt257 => ((impl_CompleteClaim.f k bt257.1 bt257.2 a1 a2).bind fun bt262 => ((laws_eqClaimList.f k bt262.1 bt262.2.1 bt250.1 bt250.2.1).bind fun t269 => (if t269 = true then (if bt262.2.2.1 = bt250.2.2.1 then (if (bt262.2.2.2 != bt250.2.2.2) = true then (some false) else ((laws_toClaimList.f k a0_0 l0_1).bind fun bt270 => ((laws_eqClaimList.f k bt257.1 bt257.2 bt270.1 bt270.2).bind fun t274 => (if t274 = true then ((laws_markClaimList.f k bt257.1 bt257.2 1).bind fun bt275 => (if bt275.1 < 0 then (some false) else ((laws_eqClaimList.f k bt262.1 bt262.2.1 bt250.1 bt250.2.1).bind fun t277 => (if t277 = true then ((laws_markClaimList.f k bt262.1 bt262.2.1 1).bind fun bt278 => ((laws_heldClaimList.f k bt262.1 bt278.2 1).bind fun t280 => (if t280 < 0 then (some false) else (if t280 = bt278.1 then ((laws_toClaimList.f k a0_0 l0_1).bind fun bt281 => ((impl_CompleteClaim.f k bt281.1 bt281.2 a1 a2).bind fun bt285 => ((laws_eqClaimList.f k bt285.1 bt285.2.1 bt250.1 bt250.2.1).bind fun t292 => (if t292 = true then (if bt285.2.2.1 = bt250.2.2.1 then (if (bt285.2.2.2 != bt250.2.2.2) = true then (some false) else ((laws_heldClaimList.f k bt262.1 bt278.2 1).bind fun t293 => (if t293 < 0 then (some false) else (if t293 = bt278.1 then (some true) else (some false))))) else (some false)) else (some false))))) else (some false))))) else (some false))))) else (some false))))) else (some false)) else (some false)))))))) = some r := H
 have A4 := Aside0.mk A40
 clear A40
 by_cases c5 : t245 < 0
 ·rw [if_pos c5] at H
  have c5b0 : decide (t245 < 0) = true := decide_eq_true c5
  clear c5
  obtain rfl := Option.some.inj H
  go_enter Try.func4, Try.ntmps4
  go_wp2_with (first | ((with_reducible refine gate_dst (N := 3) rfl ?_); refine box_event ?hg (N := 3) ?hd (cs := #[.int .i64 a0_0, .slice A0_1 l0_1.length c0_1]) (t := 31) ?hr ?_; (case hd => rfl); (case hg => rfl); (case hr => exact tG); intro gb244 hg w6 hbox hb; have n0_ := Aside0.mk (below_step tB hb); have n1_ := Aside0.mk (hbox); have n2_ := Aside0.mk ((by rw [hg]; exact (below_size tB) : w.heap.size ≤ gb244)); have n3_ := Aside0.mk ((by rw [hg]; exact (below_size tB) : w.heap.size ≤ gb244)); clear HB; have HB := n0_; have BK244 := n1_; have GW244 := n2_; have GE244 := n3_; clear n0_ n1_ n2_ n3_; clear hb hbox hg; obtain ⟨hcz7_0, hcz7_1, hfz7_0, hfz7_1⟩ := bc2 BK244.out) | ((with_reducible refine gate_callee (f := 20) rfl ?_); refine goesL_ (some 23) rfl rfl Try.func20 (by kernel_rfl) rfl #[.agg #[.int .i64 a0_0, .slice A0_1 l0_1.length c0_1], .int .i64 1048576] rfl tL ?_; (with_reducible refine (laws_szClaimList.calls a0_0 _ _ l0_1 1048576 t245 _ ?side1 ?side2 A4.out).mono ?_); (case side1 => repeat (first | exact (Kd.C_below HR0_1.out HB.out) | (with_reducible refine Kd.C_alloc ?_ _) | (with_reducible refine Kd.C_drewN ?_ _) | (with_reducible refine Kd.C_drew ?_))); (case side2 => exact HC0_1.out); rintro e w8 ⟨rfl, hb⟩; refine ⟨_, rfl, ?_⟩; have n0_ := Aside0.mk (blk_below (g := gb244) (o := .cells #[.int .i64 a0_0, .slice A0_1 l0_1.length c0_1] 31 (0, 0)) (tK BK244) hb); have n1_ := Aside0.mk (below_step tB hb); clear BK244; clear HB; have BK244 := n0_; have HB := n1_; clear n0_ n1_; (try clear hb); (try clear hb2); (try clear hk); (try clear hi)))
  go_ret
  exact ⟨tE, tB⟩
 ·rw [if_neg c5] at H
  have c5b0 : decide (t245 < 0) = false := decide_eq_false c5
  clear c5
  replace H := Option.bind_eq_some_iff.mp H
  obtain ⟨⟨t246, t247⟩, A90, H⟩ := H
  replace H : ((spec_CompleteClaim.f k t246 t247 a1 a2).bind fun bt250 => ((laws_toClaimList.f k a0_0 l0_1).bind fun bt257 => ((impl_CompleteClaim.f k bt257.1 bt257.2 a1 a2).bind fun bt262 => ((laws_eqClaimList.f k bt262.1 bt262.2.1 bt250.1 bt250.2.1).bind fun t269 => (if t269 = true then (if bt262.2.2.1 = bt250.2.2.1 then (if (bt262.2.2.2 != bt250.2.2.2) = true then (some false) else ((laws_toClaimList.f k a0_0 l0_1).bind fun bt270 => ((laws_eqClaimList.f k bt257.1 bt257.2 bt270.1 bt270.2).bind fun t274 => (if t274 = true then ((laws_markClaimList.f k bt257.1 bt257.2 1).bind fun bt275 => (if bt275.1 < 0 then (some false) else ((laws_eqClaimList.f k bt262.1 bt262.2.1 bt250.1 bt250.2.1).bind fun t277 => (if t277 = true then ((laws_markClaimList.f k bt262.1 bt262.2.1 1).bind fun bt278 => ((laws_heldClaimList.f k bt262.1 bt278.2 1).bind fun t280 => (if t280 < 0 then (some false) else (if t280 = bt278.1 then ((laws_toClaimList.f k a0_0 l0_1).bind fun bt281 => ((impl_CompleteClaim.f k bt281.1 bt281.2 a1 a2).bind fun bt285 => ((laws_eqClaimList.f k bt285.1 bt285.2.1 bt250.1 bt250.2.1).bind fun t292 => (if t292 = true then (if bt285.2.2.1 = bt250.2.2.1 then (if (bt285.2.2.2 != bt250.2.2.2) = true then (some false) else ((laws_heldClaimList.f k bt262.1 bt278.2 1).bind fun t293 => (if t293 < 0 then (some false) else (if t293 = bt278.1 then (some true) else (some false))))) else (some false)) else (some false))))) else (some false))))) else (some false))))) else (some false))))) else (some false)) else (some false)))))) = some r := H
  have A9 := Aside0.mk A90
  clear A90
  replace H := Option.bind_eq_some_iff.mp H
  obtain ⟨⟨t250, t251, t254, t255⟩, A100, H⟩ := H
  replace H : ((laws_toClaimList.f k a0_0 l0_1).bind fun bt257 => ((impl_CompleteClaim.f k bt257.1 bt257.2 a1 a2).bind fun bt262 => ((laws_eqClaimList.f k bt262.1 bt262.2.1 t250 t251).bind fun t269 => (if t269 = true then (if bt262.2.2.1 = t254 then (if (bt262.2.2.2 != t255) = true then (some false) else ((laws_toClaimList.f k a0_0 l0_1).bind fun bt270 => ((laws_eqClaimList.f k bt257.1 bt257.2 bt270.1 bt270.2).bind fun t274 => (if t274 = true then ((laws_markClaimList.f k bt257.1 bt257.2 1).bind fun bt275 => (if bt275.1 < 0 then (some false) else ((laws_eqClaimList.f k bt262.1 bt262.2.1 t250 t251).bind fun t277 => (if t277 = true then ((laws_markClaimList.f k bt262.1 bt262.2.1 1).bind fun bt278 => ((laws_heldClaimList.f k bt262.1 bt278.2 1).bind fun t280 => (if t280 < 0 then (some false) else (if t280 = bt278.1 then ((laws_toClaimList.f k a0_0 l0_1).bind fun bt281 => ((impl_CompleteClaim.f k bt281.1 bt281.2 a1 a2).bind fun bt285 => ((laws_eqClaimList.f k bt285.1 bt285.2.1 t250 t251).bind fun t292 => (if t292 = true then (if bt285.2.2.1 = t254 then (if (bt285.2.2.2 != t255) = true then (some false) else ((laws_heldClaimList.f k bt262.1 bt278.2 1).bind fun t293 => (if t293 < 0 then (some false) else (if t293 = bt278.1 then (some true) else (some false))))) else (some false)) else (some false))))) else (some false))))) else (some false))))) else (some false))))) else (some false)) else (some false))))) = some r := H
  have A10 := Aside0.mk A100
  clear A100
  replace H := Option.bind_eq_some_iff.mp H
  obtain ⟨⟨t257, t258⟩, A110, H⟩ := H
  replace H : ((impl_CompleteClaim.f k t257 t258 a1 a2).bind fun bt262 => ((laws_eqClaimList.f k bt262.1 bt262.2.1 t250 t251).bind fun t269 => (if t269 = true then (if bt262.2.2.1 = t254 then (if (bt262.2.2.2 != t255) = true then (some false) else ((laws_toClaimList.f k a0_0 l0_1).bind fun bt270 => ((laws_eqClaimList.f k t257 t258 bt270.1 bt270.2).bind fun t274 => (if t274 = true then ((laws_markClaimList.f k t257 t258 1).bind fun bt275 => (if bt275.1 < 0 then (some false) else ((laws_eqClaimList.f k bt262.1 bt262.2.1 t250 t251).bind fun t277 => (if t277 = true then ((laws_markClaimList.f k bt262.1 bt262.2.1 1).bind fun bt278 => ((laws_heldClaimList.f k bt262.1 bt278.2 1).bind fun t280 => (if t280 < 0 then (some false) else (if t280 = bt278.1 then ((laws_toClaimList.f k a0_0 l0_1).bind fun bt281 => ((impl_CompleteClaim.f k bt281.1 bt281.2 a1 a2).bind fun bt285 => ((laws_eqClaimList.f k bt285.1 bt285.2.1 t250 t251).bind fun t292 => (if t292 = true then (if bt285.2.2.1 = t254 then (if (bt285.2.2.2 != t255) = true then (some false) else ((laws_heldClaimList.f k bt262.1 bt278.2 1).bind fun t293 => (if t293 < 0 then (some false) else (if t293 = bt278.1 then (some true) else (some false))))) else (some false)) else (some false))))) else (some false))))) else (some false))))) else (some false))))) else (some false)) else (some false)))) = some r := H
  have A11 := Aside0.mk A110
  clear A110
  replace H := Option.bind_eq_some_iff.mp H
  obtain ⟨⟨t262, t263, t266, t267⟩, A120, H⟩ := H
  replace H : ((laws_eqClaimList.f k t262 t263 t250 t251).bind fun t269 => (if t269 = true then (if t266 = t254 then (if (t267 != t255) = true then (some false) else ((laws_toClaimList.f k a0_0 l0_1).bind fun bt270 => ((laws_eqClaimList.f k t257 t258 bt270.1 bt270.2).bind fun t274 => (if t274 = true then ((laws_markClaimList.f k t257 t258 1).bind fun bt275 => (if bt275.1 < 0 then (some false) else ((laws_eqClaimList.f k t262 t263 t250 t251).bind fun t277 => (if t277 = true then ((laws_markClaimList.f k t262 t263 1).bind fun bt278 => ((laws_heldClaimList.f k t262 bt278.2 1).bind fun t280 => (if t280 < 0 then (some false) else (if t280 = bt278.1 then ((laws_toClaimList.f k a0_0 l0_1).bind fun bt281 => ((impl_CompleteClaim.f k bt281.1 bt281.2 a1 a2).bind fun bt285 => ((laws_eqClaimList.f k bt285.1 bt285.2.1 t250 t251).bind fun t292 => (if t292 = true then (if bt285.2.2.1 = t254 then (if (bt285.2.2.2 != t255) = true then (some false) else ((laws_heldClaimList.f k t262 bt278.2 1).bind fun t293 => (if t293 < 0 then (some false) else (if t293 = bt278.1 then (some true) else (some false))))) else (some false)) else (some false))))) else (some false))))) else (some false))))) else (some false))))) else (some false)) else (some false))) = some r := H
  have A12 := Aside0.mk A120
  clear A120
  replace H := Option.bind_eq_some_iff.mp H
  obtain ⟨t269, A130, H⟩ := H
  replace H : (if t269 = true then (if t266 = t254 then (if (t267 != t255) = true then (some false) else ((laws_toClaimList.f k a0_0 l0_1).bind fun bt270 => ((laws_eqClaimList.f k t257 t258 bt270.1 bt270.2).bind fun t274 => (if t274 = true then ((laws_markClaimList.f k t257 t258 1).bind fun bt275 => (if bt275.1 < 0 then (some false) else ((laws_eqClaimList.f k t262 t263 t250 t251).bind fun t277 => (if t277 = true then ((laws_markClaimList.f k t262 t263 1).bind fun bt278 => ((laws_heldClaimList.f k t262 bt278.2 1).bind fun t280 => (if t280 < 0 then (some false) else (if t280 = bt278.1 then ((laws_toClaimList.f k a0_0 l0_1).bind fun bt281 => ((impl_CompleteClaim.f k bt281.1 bt281.2 a1 a2).bind fun bt285 => ((laws_eqClaimList.f k bt285.1 bt285.2.1 t250 t251).bind fun t292 => (if t292 = true then (if bt285.2.2.1 = t254 then (if (bt285.2.2.2 != t255) = true then (some false) else ((laws_heldClaimList.f k t262 bt278.2 1).bind fun t293 => (if t293 < 0 then (some false) else (if t293 = bt278.1 then (some true) else (some false))))) else (some false)) else (some false))))) else (some false))))) else (some false))))) else (some false))))) else (some false)) else (some false)) = some r := H
  have A13 := Aside0.mk A130
  clear A130
  by_cases c14 : t269 = true
  ·subst c14
   have H1 : (if t266 = t254 then (if (t267 != t255) = true then (some false) else ((laws_toClaimList.f k a0_0 l0_1).bind fun bt270 => ((laws_eqClaimList.f k t257 t258 bt270.1 bt270.2).bind fun t274 => (if t274 = true then ((laws_markClaimList.f k t257 t258 1).bind fun bt275 => (if bt275.1 < 0 then (some false) else ((laws_eqClaimList.f k t262 t263 t250 t251).bind fun t277 => (if t277 = true then ((laws_markClaimList.f k t262 t263 1).bind fun bt278 => ((laws_heldClaimList.f k t262 bt278.2 1).bind fun t280 => (if t280 < 0 then (some false) else (if t280 = bt278.1 then ((laws_toClaimList.f k a0_0 l0_1).bind fun bt281 => ((impl_CompleteClaim.f k bt281.1 bt281.2 a1 a2).bind fun bt285 => ((laws_eqClaimList.f k bt285.1 bt285.2.1 t250 t251).bind fun t292 => (if t292 = true then (if bt285.2.2.1 = t254 then (if (bt285.2.2.2 != t255) = true then (some false) else ((laws_heldClaimList.f k t262 bt278.2 1).bind fun t293 => (if t293 < 0 then (some false) else (if t293 = bt278.1 then (some true) else (some false))))) else (some false)) else (some false))))) else (some false))))) else (some false))))) else (some false))))) else (some false)) = some r := by rw [if_pos rfl] at H; exact H
   clear H
   have H := H1
   clear H1
   by_cases c15 : t266 = t254
   ·rw [if_pos c15] at H
    have c15b0 : (t266 == t254) = true := beq_iff_eq.mpr c15
    have c15b1 : (t266 != t254) = false := bne_eq_false_iff_eq.mpr c15
    clear c15
    by_cases c16 : (t267 != t255) = true
    ·rw [if_pos c16] at H
     have c16b0 : (t267 != t255) = true := c16
     (try (have c16b1 : decide (t267 = t255) = false := by simpa using c16))
     (try (have c16b2 : (t267 == t255) = false := by simpa using c16))
     (try (have c16b3 : ¬ (t267 = t255) := by simpa using c16))
     clear c16
     exact absurd ((Option.some.inj H).trans hT_) (by decide)
    ·rw [if_neg c16] at H
     have c16b0 : (t267 != t255) = false := by simpa using c16
     (try (have c16b1 : decide (t267 = t255) = true := by simpa using c16))
     (try (have c16b2 : (t267 == t255) = true := by simpa using c16))
     clear c16
     replace H := Option.bind_eq_some_iff.mp H
     obtain ⟨⟨t270, t271⟩, A170, H⟩ := H
     replace H : ((laws_eqClaimList.f k t257 t258 t270 t271).bind fun t274 => (if t274 = true then ((laws_markClaimList.f k t257 t258 1).bind fun bt275 => (if bt275.1 < 0 then (some false) else ((laws_eqClaimList.f k t262 t263 t250 t251).bind fun t277 => (if t277 = true then ((laws_markClaimList.f k t262 t263 1).bind fun bt278 => ((laws_heldClaimList.f k t262 bt278.2 1).bind fun t280 => (if t280 < 0 then (some false) else (if t280 = bt278.1 then ((laws_toClaimList.f k a0_0 l0_1).bind fun bt281 => ((impl_CompleteClaim.f k bt281.1 bt281.2 a1 a2).bind fun bt285 => ((laws_eqClaimList.f k bt285.1 bt285.2.1 t250 t251).bind fun t292 => (if t292 = true then (if bt285.2.2.1 = t254 then (if (bt285.2.2.2 != t255) = true then (some false) else ((laws_heldClaimList.f k t262 bt278.2 1).bind fun t293 => (if t293 < 0 then (some false) else (if t293 = bt278.1 then (some true) else (some false))))) else (some false)) else (some false))))) else (some false))))) else (some false))))) else (some false))) = some r := H
     have A17 := Aside0.mk A170
     clear A170
     replace H := Option.bind_eq_some_iff.mp H
     obtain ⟨t274, A180, H⟩ := H
     replace H : (if t274 = true then ((laws_markClaimList.f k t257 t258 1).bind fun bt275 => (if bt275.1 < 0 then (some false) else ((laws_eqClaimList.f k t262 t263 t250 t251).bind fun t277 => (if t277 = true then ((laws_markClaimList.f k t262 t263 1).bind fun bt278 => ((laws_heldClaimList.f k t262 bt278.2 1).bind fun t280 => (if t280 < 0 then (some false) else (if t280 = bt278.1 then ((laws_toClaimList.f k a0_0 l0_1).bind fun bt281 => ((impl_CompleteClaim.f k bt281.1 bt281.2 a1 a2).bind fun bt285 => ((laws_eqClaimList.f k bt285.1 bt285.2.1 t250 t251).bind fun t292 => (if t292 = true then (if bt285.2.2.1 = t254 then (if (bt285.2.2.2 != t255) = true then (some false) else ((laws_heldClaimList.f k t262 bt278.2 1).bind fun t293 => (if t293 < 0 then (some false) else (if t293 = bt278.1 then (some true) else (some false))))) else (some false)) else (some false))))) else (some false))))) else (some false))))) else (some false)) = some r := H
     have A18 := Aside0.mk A180
     clear A180
     by_cases c19 : t274 = true
     ·subst c19
      have H1 : ((laws_markClaimList.f k t257 t258 1).bind fun bt275 => (if bt275.1 < 0 then (some false) else ((laws_eqClaimList.f k t262 t263 t250 t251).bind fun t277 => (if t277 = true then ((laws_markClaimList.f k t262 t263 1).bind fun bt278 => ((laws_heldClaimList.f k t262 bt278.2 1).bind fun t280 => (if t280 < 0 then (some false) else (if t280 = bt278.1 then ((laws_toClaimList.f k a0_0 l0_1).bind fun bt281 => ((impl_CompleteClaim.f k bt281.1 bt281.2 a1 a2).bind fun bt285 => ((laws_eqClaimList.f k bt285.1 bt285.2.1 t250 t251).bind fun t292 => (if t292 = true then (if bt285.2.2.1 = t254 then (if (bt285.2.2.2 != t255) = true then (some false) else ((laws_heldClaimList.f k t262 bt278.2 1).bind fun t293 => (if t293 < 0 then (some false) else (if t293 = bt278.1 then (some true) else (some false))))) else (some false)) else (some false))))) else (some false))))) else (some false))))) = some r := by rw [if_pos rfl] at H; exact H
      clear H
      have H := H1
      clear H1
      replace H := Option.bind_eq_some_iff.mp H
      obtain ⟨⟨t275, t276⟩, A200, H⟩ := H
      replace H : (if t275 < 0 then (some false) else ((laws_eqClaimList.f k t262 t263 t250 t251).bind fun t277 => (if t277 = true then ((laws_markClaimList.f k t262 t263 1).bind fun bt278 => ((laws_heldClaimList.f k t262 bt278.2 1).bind fun t280 => (if t280 < 0 then (some false) else (if t280 = bt278.1 then ((laws_toClaimList.f k a0_0 l0_1).bind fun bt281 => ((impl_CompleteClaim.f k bt281.1 bt281.2 a1 a2).bind fun bt285 => ((laws_eqClaimList.f k bt285.1 bt285.2.1 t250 t251).bind fun t292 => (if t292 = true then (if bt285.2.2.1 = t254 then (if (bt285.2.2.2 != t255) = true then (some false) else ((laws_heldClaimList.f k t262 bt278.2 1).bind fun t293 => (if t293 < 0 then (some false) else (if t293 = bt278.1 then (some true) else (some false))))) else (some false)) else (some false))))) else (some false))))) else (some false)))) = some r := H
      have A20 := Aside0.mk A200
      clear A200
      by_cases c21 : t275 < 0
      ·rw [if_pos c21] at H
       have c21b0 : decide (t275 < 0) = true := decide_eq_true c21
       clear c21
       exact absurd ((Option.some.inj H).trans hT_) (by decide)
      ·rw [if_neg c21] at H
       have c21b0 : decide (t275 < 0) = false := decide_eq_false c21
       clear c21
       replace H := Option.bind_eq_some_iff.mp H
       obtain ⟨t277, A220, H⟩ := H
       replace H : (if t277 = true then ((laws_markClaimList.f k t262 t263 1).bind fun bt278 => ((laws_heldClaimList.f k t262 bt278.2 1).bind fun t280 => (if t280 < 0 then (some false) else (if t280 = bt278.1 then ((laws_toClaimList.f k a0_0 l0_1).bind fun bt281 => ((impl_CompleteClaim.f k bt281.1 bt281.2 a1 a2).bind fun bt285 => ((laws_eqClaimList.f k bt285.1 bt285.2.1 t250 t251).bind fun t292 => (if t292 = true then (if bt285.2.2.1 = t254 then (if (bt285.2.2.2 != t255) = true then (some false) else ((laws_heldClaimList.f k t262 bt278.2 1).bind fun t293 => (if t293 < 0 then (some false) else (if t293 = bt278.1 then (some true) else (some false))))) else (some false)) else (some false))))) else (some false))))) else (some false)) = some r := H
       have A22 := Aside0.mk A220
       clear A220
       by_cases c23 : t277 = true
       ·subst c23
        have H1 : ((laws_markClaimList.f k t262 t263 1).bind fun bt278 => ((laws_heldClaimList.f k t262 bt278.2 1).bind fun t280 => (if t280 < 0 then (some false) else (if t280 = bt278.1 then ((laws_toClaimList.f k a0_0 l0_1).bind fun bt281 => ((impl_CompleteClaim.f k bt281.1 bt281.2 a1 a2).bind fun bt285 => ((laws_eqClaimList.f k bt285.1 bt285.2.1 t250 t251).bind fun t292 => (if t292 = true then (if bt285.2.2.1 = t254 then (if (bt285.2.2.2 != t255) = true then (some false) else ((laws_heldClaimList.f k t262 bt278.2 1).bind fun t293 => (if t293 < 0 then (some false) else (if t293 = bt278.1 then (some true) else (some false))))) else (some false)) else (some false))))) else (some false))))) = some r := by rw [if_pos rfl] at H; exact H
        clear H
        have H := H1
        clear H1
        replace H := Option.bind_eq_some_iff.mp H
        obtain ⟨⟨t278, t279⟩, A240, H⟩ := H
        replace H : ((laws_heldClaimList.f k t262 t279 1).bind fun t280 => (if t280 < 0 then (some false) else (if t280 = t278 then ((laws_toClaimList.f k a0_0 l0_1).bind fun bt281 => ((impl_CompleteClaim.f k bt281.1 bt281.2 a1 a2).bind fun bt285 => ((laws_eqClaimList.f k bt285.1 bt285.2.1 t250 t251).bind fun t292 => (if t292 = true then (if bt285.2.2.1 = t254 then (if (bt285.2.2.2 != t255) = true then (some false) else ((laws_heldClaimList.f k t262 t279 1).bind fun t293 => (if t293 < 0 then (some false) else (if t293 = t278 then (some true) else (some false))))) else (some false)) else (some false))))) else (some false)))) = some r := H
        have A24 := Aside0.mk A240
        clear A240
        replace H := Option.bind_eq_some_iff.mp H
        obtain ⟨t280, A250, H⟩ := H
        replace H : (if t280 < 0 then (some false) else (if t280 = t278 then ((laws_toClaimList.f k a0_0 l0_1).bind fun bt281 => ((impl_CompleteClaim.f k bt281.1 bt281.2 a1 a2).bind fun bt285 => ((laws_eqClaimList.f k bt285.1 bt285.2.1 t250 t251).bind fun t292 => (if t292 = true then (if bt285.2.2.1 = t254 then (if (bt285.2.2.2 != t255) = true then (some false) else ((laws_heldClaimList.f k t262 t279 1).bind fun t293 => (if t293 < 0 then (some false) else (if t293 = t278 then (some true) else (some false))))) else (some false)) else (some false))))) else (some false))) = some r := H
        have A25 := Aside0.mk A250
        clear A250
        by_cases c26 : t280 < 0
        ·rw [if_pos c26] at H
         have c26b0 : decide (t280 < 0) = true := decide_eq_true c26
         clear c26
         exact absurd ((Option.some.inj H).trans hT_) (by decide)
        ·rw [if_neg c26] at H
         have c26b0 : decide (t280 < 0) = false := decide_eq_false c26
         clear c26
         by_cases c27 : t280 = t278
         ·rw [if_pos c27] at H
          have c27b0 : (t280 == t278) = true := beq_iff_eq.mpr c27
          have c27b1 : (t280 != t278) = false := bne_eq_false_iff_eq.mpr c27
          clear c27
          replace H := Option.bind_eq_some_iff.mp H
          obtain ⟨⟨t281, t282⟩, A280, H⟩ := H
          replace H : ((impl_CompleteClaim.f k t281 t282 a1 a2).bind fun bt285 => ((laws_eqClaimList.f k bt285.1 bt285.2.1 t250 t251).bind fun t292 => (if t292 = true then (if bt285.2.2.1 = t254 then (if (bt285.2.2.2 != t255) = true then (some false) else ((laws_heldClaimList.f k t262 t279 1).bind fun t293 => (if t293 < 0 then (some false) else (if t293 = t278 then (some true) else (some false))))) else (some false)) else (some false)))) = some r := H
          have A28 := Aside0.mk A280
          clear A280
          replace H := Option.bind_eq_some_iff.mp H
          obtain ⟨⟨t285, t286, t289, t290⟩, A290, H⟩ := H
          replace H : ((laws_eqClaimList.f k t285 t286 t250 t251).bind fun t292 => (if t292 = true then (if t289 = t254 then (if (t290 != t255) = true then (some false) else ((laws_heldClaimList.f k t262 t279 1).bind fun t293 => (if t293 < 0 then (some false) else (if t293 = t278 then (some true) else (some false))))) else (some false)) else (some false))) = some r := H
          have A29 := Aside0.mk A290
          clear A290
          replace H := Option.bind_eq_some_iff.mp H
          obtain ⟨t292, A300, H⟩ := H
          replace H : (if t292 = true then (if t289 = t254 then (if (t290 != t255) = true then (some false) else ((laws_heldClaimList.f k t262 t279 1).bind fun t293 => (if t293 < 0 then (some false) else (if t293 = t278 then (some true) else (some false))))) else (some false)) else (some false)) = some r := H
          have A30 := Aside0.mk A300
          clear A300
          by_cases c31 : t292 = true
          ·subst c31
           have H1 : (if t289 = t254 then (if (t290 != t255) = true then (some false) else ((laws_heldClaimList.f k t262 t279 1).bind fun t293 => (if t293 < 0 then (some false) else (if t293 = t278 then (some true) else (some false))))) else (some false)) = some r := by rw [if_pos rfl] at H; exact H
           clear H
           have H := H1
           clear H1
           by_cases c32 : t289 = t254
           ·rw [if_pos c32] at H
            have c32b0 : (t289 == t254) = true := beq_iff_eq.mpr c32
            have c32b1 : (t289 != t254) = false := bne_eq_false_iff_eq.mpr c32
            clear c32
            by_cases c33 : (t290 != t255) = true
            ·rw [if_pos c33] at H
             have c33b0 : (t290 != t255) = true := c33
             (try (have c33b1 : decide (t290 = t255) = false := by simpa using c33))
             (try (have c33b2 : (t290 == t255) = false := by simpa using c33))
             (try (have c33b3 : ¬ (t290 = t255) := by simpa using c33))
             clear c33
             exact absurd ((Option.some.inj H).trans hT_) (by decide)
            ·rw [if_neg c33] at H
             have c33b0 : (t290 != t255) = false := by simpa using c33
             (try (have c33b1 : decide (t290 = t255) = true := by simpa using c33))
             (try (have c33b2 : (t290 == t255) = true := by simpa using c33))
             clear c33
             replace H := Option.bind_eq_some_iff.mp H
             obtain ⟨t293, A340, H⟩ := H
             replace H : (if t293 < 0 then (some false) else (if t293 = t278 then (some true) else (some false))) = some r := H
             have A34 := Aside0.mk A340
             clear A340
             by_cases c35 : t293 < 0
             ·rw [if_pos c35] at H
              have c35b0 : decide (t293 < 0) = true := decide_eq_true c35
              clear c35
              exact absurd ((Option.some.inj H).trans hT_) (by decide)
             ·rw [if_neg c35] at H
              have c35b0 : decide (t293 < 0) = false := decide_eq_false c35
              clear c35
              by_cases c36 : t293 = t278
              ·rw [if_pos c36] at H
               have c36b0 : (t293 == t278) = true := beq_iff_eq.mpr c36
               have c36b1 : (t293 != t278) = false := bne_eq_false_iff_eq.mpr c36
               clear c36
               obtain rfl := Option.some.inj H
               go_enter Try.func4, Try.ntmps4
               try go_wp2_with (first | ((with_reducible refine gate_dst (N := 3) rfl ?_); refine box_event ?hg (N := 3) ?hd (cs := #[.int .i64 a0_0, .slice A0_1 l0_1.length c0_1]) (t := 31) ?hr ?_; (case hd => rfl); (case hg => rfl); (case hr => exact tG); intro gb244 hg w37 hbox hb; have n0_ := Aside0.mk (below_step tB hb); have n1_ := Aside0.mk (hbox); have n2_ := Aside0.mk ((by rw [hg]; exact (below_size tB) : w.heap.size ≤ gb244)); have n3_ := Aside0.mk ((by rw [hg]; exact (below_size tB) : w.heap.size ≤ gb244)); clear HB; have HB := n0_; have BK244 := n1_; have GW244 := n2_; have GE244 := n3_; clear n0_ n1_ n2_ n3_; clear hb hbox hg; obtain ⟨hcz38_0, hcz38_1, hfz38_0, hfz38_1⟩ := bc2 BK244.out) | ((with_reducible refine gate_callee (f := 20) rfl ?_); refine goesL_ (some 23) rfl rfl Try.func20 (by kernel_rfl) rfl #[.agg #[.int .i64 a0_0, .slice A0_1 l0_1.length c0_1], .int .i64 1048576] rfl tL ?_; (with_reducible refine (laws_szClaimList.calls a0_0 _ _ l0_1 1048576 t245 _ ?side1 ?side2 A4.out).mono ?_); (case side1 => repeat (first | exact (Kd.C_below HR0_1.out HB.out) | (with_reducible refine Kd.C_alloc ?_ _) | (with_reducible refine Kd.C_drewN ?_ _) | (with_reducible refine Kd.C_drew ?_))); (case side2 => exact HC0_1.out); rintro e w39 ⟨rfl, hb⟩; refine ⟨_, rfl, ?_⟩; have n0_ := Aside0.mk (blk_below (g := gb244) (o := .cells #[.int .i64 a0_0, .slice A0_1 l0_1.length c0_1] 31 (0, 0)) (tK BK244) hb); have n1_ := Aside0.mk (below_step tB hb); clear BK244; clear HB; have BK244 := n0_; have HB := n1_; clear n0_ n1_; (try clear hb); (try clear hb2); (try clear hk); (try clear hi); obtain ⟨hcz40_0, hcz40_1, hfz40_0, hfz40_1⟩ := bc2 BK244.out) | ((with_reducible refine gate_callee (f := 22) rfl ?_); refine goesL_ (some 28) rfl rfl Try.func22 (by kernel_rfl) rfl #[.agg #[.int .i64 a0_0, .slice A0_1 l0_1.length c0_1]] rfl tL ?_; (with_reducible refine (laws_toClaimList.calls k a0_0 _ _ l0_1 t246 t247 _ ?side1 ?side2 A9.out).mono ?_); (case side1 => repeat (first | exact (Kd.C_below HR0_1.out HB.out) | (with_reducible refine Kd.C_alloc ?_ _) | (with_reducible refine Kd.C_drewN ?_ _) | (with_reducible refine Kd.C_drew ?_))); (case side2 => exact HC0_1.out); rintro e w41 ⟨v248, rfl, ho0, hb⟩; refine ⟨_, rfl, ?_⟩; have n0_ := Aside0.mk (Kd.R_lower ho0 (below_size tB)); have n1_ := Aside0.mk (blk_below (g := gb244) (o := .cells #[.int .i64 a0_0, .slice A0_1 l0_1.length c0_1] 31 (0, 0)) (tK BK244) hb); have n2_ := Aside0.mk (below_step tB hb); clear BK244; clear HB; have HO249 := n0_; have BK244 := n1_; have HB := n2_; clear n0_ n1_ n2_; (try clear hb); (try clear hb2); (try clear hk); (try clear hi); (try clear ho0); obtain ⟨Ao42, co42, eo42⟩ := Kd.R_slice HO249.out; subst eo42) | ((with_reducible refine gate_callee (f := 21) rfl ?_); refine goesL_ (some 31) rfl rfl Try.func21 (by kernel_rfl) rfl #[.agg #[.int .i64 t246, .slice Ao42 t247.length co42], .int .i64 a1, .int .i64 a2] rfl tL ?_; (with_reducible refine (spec_CompleteClaim.calls k t246 _ _ t247 a1 a2 t250 t251 t254 t255 _ ?side1 ?side2 A10.out).mono ?_); (case side1 => repeat (first | exact (Kd.R_reads' HO249.out).2.2 | (with_reducible refine Kd.C_alloc ?_ _) | (with_reducible refine Kd.C_drewN ?_ _) | (with_reducible refine Kd.C_drew ?_))); (case side2 => exact (Kd.R_reads' HO249.out).2.1); rintro e w43 ⟨v252, rfl, ho0, hb⟩; refine ⟨_, rfl, ?_⟩; have n0_ := Aside0.mk (Kd.R_elder' (tR HO249) (Kd.R_base ho0) hb); have n1_ := Aside0.mk (Kd.R_lower (Kd.R_new' ho0 (Kd.R_lt (tR HO249))) (below_size tB)); have n2_ := Aside0.mk (blk_below (g := gb244) (o := .cells #[.int .i64 a0_0, .slice A0_1 l0_1.length c0_1] 31 (0, 0)) (tK BK244) hb); have n3_ := Aside0.mk (below_step tB hb); clear HO249; clear BK244; clear HB; have HO249 := n0_; have HO253 := n1_; have BK244 := n2_; have HB := n3_; clear n0_ n1_ n2_ n3_; (try clear hb); (try clear hb2); (try clear hk); (try clear hi); (try clear ho0)) | ((with_reducible refine gate_dst (N := 8) rfl ?_); refine box_event ?hg (N := 8) ?hd (cs := #[.int .i64 0, .slice none 0 0]) (t := 35) ?hr ?_; (case hd => rfl); (case hg => rfl); (case hr => exact tG); intro gb256 hg w44 hbox hb; have n0_ := Aside0.mk (Kd.R_below (tR HO249) hb); have n1_ := Aside0.mk (Kd.R_below (tR HO253) hb); have n2_ := Aside0.mk (blk_below (g := gb244) (o := .cells #[.int .i64 a0_0, .slice A0_1 l0_1.length c0_1] 31 (0, 0)) (tK BK244) hb); have n3_ := Aside0.mk (below_step tB hb); have n4_ := Aside0.mk (hbox); have n5_ := Aside0.mk ((by rw [hg]; exact (below_size tB) : w.heap.size ≤ gb256)); have n6_ := Aside0.mk ((by rw [hg]; exact (below_size tB) : w.heap.size ≤ gb256)); have n7_ := Aside0.mk ((by rw [hg]; exact Nat.ne_of_lt (blk_lt (g := gb244) (o := .cells #[.int .i64 a0_0, .slice A0_1 l0_1.length c0_1] 31 (0, 0)) (tK BK244)) : gb244 ≠ gb256)); have n8_ := Aside0.mk ((by rw [hg]; exact Nat.ne_of_gt (blk_lt (g := gb244) (o := .cells #[.int .i64 a0_0, .slice A0_1 l0_1.length c0_1] 31 (0, 0)) (tK BK244)) : gb256 ≠ gb244)); clear HO249; clear HO253; clear BK244; clear HB; have HO249 := n0_; have HO253 := n1_; have BK244 := n2_; have HB := n3_; have BK256 := n4_; have GW256 := n5_; have GE256 := n6_; have NB244_256 := n7_; have NB256_244 := n8_; clear n0_ n1_ n2_ n3_ n4_ n5_ n6_ n7_ n8_; clear hb hbox hg; have hnb45 := NB256_244.out; have hnc45 := NB244_256.out; obtain ⟨hcz46_0, hcz46_1, hfz46_0, hfz46_1⟩ := bc2 BK256.out; obtain ⟨Ao47, co47, eo47⟩ := Kd.R_slice HO253.out; subst eo47; obtain ⟨hcz48_0, hcz48_1, hfz48_0, hfz48_1⟩ := bc2 BK244.out) | ((with_reducible refine gate_callee (f := 22) rfl ?_); refine goesL_ (some 36) rfl rfl Try.func22 (by kernel_rfl) rfl #[.agg #[.int .i64 a0_0, .slice A0_1 l0_1.length c0_1]] rfl tL ?_; (with_reducible refine (laws_toClaimList.calls k a0_0 _ _ l0_1 t257 t258 _ ?side1 ?side2 A11.out).mono ?_); (case side1 => exact Kd.C_below HR0_1.out tB); (case side2 => exact HC0_1.out); rintro e w49 ⟨v259, rfl, ho0, hb⟩; refine ⟨_, rfl, ?_⟩; have n0_ := Aside0.mk (Kd.R_elder' (by (with_reducible repeat (first | apply Kd.R_alloc | apply Kd.R_drewN | apply Kd.R_drew)); exact (Kd.R_mono (Kd.R_far (p := ⟨gb256, 1, none⟩) (Kd.R_far (p := ⟨gb256, 0, none⟩) (Kd.R_types HO249.out BK256.out (by decide)) (fun _ hk => hk.2) (.int .i64 t250)) (fun _ hk => hk.2) (.slice Ao47 t251.length co47)) (fun _ h_ => h_.1))) (Kd.R_base ho0) hb); have n1_ := Aside0.mk (Kd.R_elder' (by (with_reducible repeat (first | apply Kd.R_alloc | apply Kd.R_drewN | apply Kd.R_drew)); exact (Kd.R_mono (Kd.R_far (p := ⟨gb256, 1, none⟩) (Kd.R_far (p := ⟨gb256, 0, none⟩) (Kd.R_types HO253.out BK256.out (by decide)) (fun _ hk => hk.2) (.int .i64 t250)) (fun _ hk => hk.2) (.slice Ao47 t251.length co47)) (fun _ h_ => h_.1))) (Kd.R_base ho0) hb); have n2_ := Aside0.mk (Kd.R_lower (Kd.R_new' (Kd.R_new' ho0 (Kd.R_lt (by (with_reducible repeat (first | apply Kd.R_alloc | apply Kd.R_drewN | apply Kd.R_drew)); exact (Kd.R_mono (Kd.R_far (p := ⟨gb256, 1, none⟩) (Kd.R_far (p := ⟨gb256, 0, none⟩) (Kd.R_types HO249.out BK256.out (by decide)) (fun _ hk => hk.2) (.int .i64 t250)) (fun _ hk => hk.2) (.slice Ao47 t251.length co47)) (fun _ h_ => h_.1))))) (Kd.R_lt (by (with_reducible repeat (first | apply Kd.R_alloc | apply Kd.R_drewN | apply Kd.R_drew)); exact (Kd.R_mono (Kd.R_far (p := ⟨gb256, 1, none⟩) (Kd.R_far (p := ⟨gb256, 0, none⟩) (Kd.R_types HO253.out BK256.out (by decide)) (fun _ hk => hk.2) (.int .i64 t250)) (fun _ hk => hk.2) (.slice Ao47 t251.length co47)) (fun _ h_ => h_.1))))) (below_size tB)); have n3_ := Aside0.mk (blk_below (g := gb244) (o := .cells #[.int .i64 a0_0, .slice A0_1 l0_1.length c0_1] 31 (0, 0)) (by (with_reducible repeat (first | refine blk_drewN ?_ _ | refine blk_drew ?_ | refine blk_alloc ?_ _)); refine blk_far ?_ NB244_256.out _; (with_reducible repeat (first | refine blk_drewN ?_ _ | refine blk_drew ?_ | refine blk_alloc ?_ _)); refine blk_far ?_ NB244_256.out _; (with_reducible repeat (first | refine blk_drewN ?_ _ | refine blk_drew ?_ | refine blk_alloc ?_ _)); exact BK244.out) hb); have n4_ := Aside0.mk (blk_below (g := gb256) (o := .cells #[.int .i64 t250, .slice Ao47 t251.length co47] 35 (0, 0)) (by (with_reducible repeat (first | refine blk_drewN ?_ _ | refine blk_drew ?_ | refine blk_alloc ?_ _)); refine blk_put (cs := #[.int .i64 t250, .slice none 0 0]) ?_ 1 _ rfl; (with_reducible repeat (first | refine blk_drewN ?_ _ | refine blk_drew ?_ | refine blk_alloc ?_ _)); refine blk_put (cs := #[.int .i64 0, .slice none 0 0]) ?_ 0 _ rfl; (with_reducible repeat (first | refine blk_drewN ?_ _ | refine blk_drew ?_ | refine blk_alloc ?_ _)); exact BK256.out) hb); have n5_ := Aside0.mk (below_step tB hb); clear HO249; clear HO253; clear BK244; clear BK256; clear HB; have HO249 := n0_; have HO253 := n1_; have HO260 := n2_; have BK244 := n3_; have BK256 := n4_; have HB := n5_; clear n0_ n1_ n2_ n3_ n4_ n5_; (try clear hb); (try clear hb2); (try clear hk); (try clear hi); (try clear ho0)) | ((with_reducible refine gate_dst (N := 11) rfl ?_); refine box_event ?hg (N := 11) ?hd (cs := #[.int .i64 0, .slice none 0 0]) (t := 35) ?hr ?_; (case hd => rfl); (case hg => rfl); (case hr => exact tG); intro gb261 hg w50 hbox hb; have n0_ := Aside0.mk (Kd.R_below (tR HO249) hb); have n1_ := Aside0.mk (Kd.R_below (tR HO253) hb); have n2_ := Aside0.mk (Kd.R_below (tR HO260) hb); have n3_ := Aside0.mk (blk_below (g := gb244) (o := .cells #[.int .i64 a0_0, .slice A0_1 l0_1.length c0_1] 31 (0, 0)) (tK BK244) hb); have n4_ := Aside0.mk (blk_below (g := gb256) (o := .cells #[.int .i64 t250, .slice Ao47 t251.length co47] 35 (0, 0)) (tK BK256) hb); have n5_ := Aside0.mk (below_step tB hb); have n6_ := Aside0.mk (hbox); have n7_ := Aside0.mk ((by rw [hg]; exact (below_size tB) : w.heap.size ≤ gb261)); have n8_ := Aside0.mk ((by rw [hg]; exact (below_size tB) : w.heap.size ≤ gb261)); have n9_ := Aside0.mk ((by rw [hg]; exact Nat.ne_of_lt (blk_lt (g := gb244) (o := .cells #[.int .i64 a0_0, .slice A0_1 l0_1.length c0_1] 31 (0, 0)) (tK BK244)) : gb244 ≠ gb261)); have n10_ := Aside0.mk ((by rw [hg]; exact Nat.ne_of_gt (blk_lt (g := gb244) (o := .cells #[.int .i64 a0_0, .slice A0_1 l0_1.length c0_1] 31 (0, 0)) (tK BK244)) : gb261 ≠ gb244)); have n11_ := Aside0.mk ((by rw [hg]; exact Nat.ne_of_lt (blk_lt (g := gb256) (o := .cells #[.int .i64 t250, .slice Ao47 t251.length co47] 35 (0, 0)) (tK BK256)) : gb256 ≠ gb261)); have n12_ := Aside0.mk ((by rw [hg]; exact Nat.ne_of_gt (blk_lt (g := gb256) (o := .cells #[.int .i64 t250, .slice Ao47 t251.length co47] 35 (0, 0)) (tK BK256)) : gb261 ≠ gb256)); clear HO249; clear HO253; clear HO260; clear BK244; clear BK256; clear HB; have HO249 := n0_; have HO253 := n1_; have HO260 := n2_; have BK244 := n3_; have BK256 := n4_; have HB := n5_; have BK261 := n6_; have GW261 := n7_; have GE261 := n8_; have NB244_261 := n9_; have NB261_244 := n10_; have NB256_261 := n11_; have NB261_256 := n12_; clear n0_ n1_ n2_ n3_ n4_ n5_ n6_ n7_ n8_ n9_ n10_ n11_ n12_; clear hb hbox hg; have hnb51 := NB261_244.out; have hnc51 := NB244_261.out; have hnb52 := NB261_256.out; have hnc52 := NB256_261.out; obtain ⟨hcz53_0, hcz53_1, hfz53_0, hfz53_1⟩ := bc2 BK261.out; obtain ⟨Ao54, co54, eo54⟩ := Kd.R_slice HO260.out; subst eo54) | ((with_reducible refine gate_callee (f := 23) rfl ?_); refine goesL_ (some 41) rfl rfl Try.func23 (by kernel_rfl) rfl #[.agg #[.int .i64 t257, .slice Ao54 t258.length co54], .int .i64 a1, .int .i64 a2] rfl tL ?_; (with_reducible refine (impl_CompleteClaim.calls k t257 _ _ t258 a1 a2 t262 t263 t266 t267 _ ?side1 ?side2 A12.out).mono ?_); (case side1 => refine (Kd.R_reads' (e := 104) (base := w.heap.size) (ok := fun k_ => ((True ∧ some k_ ≠ (.slice Ao42 t247.length co42 : Value).ownBlock) ∧ some k_ ≠ (.slice Ao47 t251.length co47 : Value).ownBlock)) (n := t258.length) (c := co54) ?_).2.2; exact (by (with_reducible repeat (first | apply Kd.R_alloc | apply Kd.R_drewN | apply Kd.R_drew)); exact (Kd.R_mono (Kd.R_far (p := ⟨gb261, 1, none⟩) (Kd.R_far (p := ⟨gb261, 0, none⟩) (Kd.R_types HO260.out BK261.out (by decide)) (fun _ hk => hk.2) (.int .i64 t257)) (fun _ hk => hk.2) (.slice Ao54 t258.length co54)) (fun _ h_ => h_.1)))); (case side2 => exact (Kd.R_reads' HO260.out).2.1); rintro e w55 ⟨v264, rfl, ho0, hb⟩; refine ⟨_, rfl, ?_⟩; have n0_ := Aside0.mk (Kd.R_elder' (by (with_reducible repeat (first | apply Kd.R_alloc | apply Kd.R_drewN | apply Kd.R_drew)); exact (Kd.R_mono (Kd.R_far (p := ⟨gb261, 1, none⟩) (Kd.R_far (p := ⟨gb261, 0, none⟩) (Kd.R_types HO249.out BK261.out (by decide)) (fun _ hk => hk.2) (.int .i64 t257)) (fun _ hk => hk.2) (.slice Ao54 t258.length co54)) (fun _ h_ => h_.1))) (Kd.R_base ho0) hb); have n1_ := Aside0.mk (Kd.R_elder' (by (with_reducible repeat (first | apply Kd.R_alloc | apply Kd.R_drewN | apply Kd.R_drew)); exact (Kd.R_mono (Kd.R_far (p := ⟨gb261, 1, none⟩) (Kd.R_far (p := ⟨gb261, 0, none⟩) (Kd.R_types HO253.out BK261.out (by decide)) (fun _ hk => hk.2) (.int .i64 t257)) (fun _ hk => hk.2) (.slice Ao54 t258.length co54)) (fun _ h_ => h_.1))) (Kd.R_base ho0) hb); have n2_ := Aside0.mk (Kd.R_elder' (by (with_reducible repeat (first | apply Kd.R_alloc | apply Kd.R_drewN | apply Kd.R_drew)); exact (Kd.R_mono (Kd.R_far (p := ⟨gb261, 1, none⟩) (Kd.R_far (p := ⟨gb261, 0, none⟩) (Kd.R_types HO260.out BK261.out (by decide)) (fun _ hk => hk.2) (.int .i64 t257)) (fun _ hk => hk.2) (.slice Ao54 t258.length co54)) (fun _ h_ => h_.1))) (Kd.R_base ho0) hb); have n3_ := Aside0.mk (Kd.R_lower (Kd.R_new' (Kd.R_new' (Kd.R_new' ho0 (Kd.R_lt (by (with_reducible repeat (first | apply Kd.R_alloc | apply Kd.R_drewN | apply Kd.R_drew)); exact (Kd.R_mono (Kd.R_far (p := ⟨gb261, 1, none⟩) (Kd.R_far (p := ⟨gb261, 0, none⟩) (Kd.R_types HO249.out BK261.out (by decide)) (fun _ hk => hk.2) (.int .i64 t257)) (fun _ hk => hk.2) (.slice Ao54 t258.length co54)) (fun _ h_ => h_.1))))) (Kd.R_lt (by (with_reducible repeat (first | apply Kd.R_alloc | apply Kd.R_drewN | apply Kd.R_drew)); exact (Kd.R_mono (Kd.R_far (p := ⟨gb261, 1, none⟩) (Kd.R_far (p := ⟨gb261, 0, none⟩) (Kd.R_types HO253.out BK261.out (by decide)) (fun _ hk => hk.2) (.int .i64 t257)) (fun _ hk => hk.2) (.slice Ao54 t258.length co54)) (fun _ h_ => h_.1))))) (Kd.R_lt (by (with_reducible repeat (first | apply Kd.R_alloc | apply Kd.R_drewN | apply Kd.R_drew)); exact (Kd.R_mono (Kd.R_far (p := ⟨gb261, 1, none⟩) (Kd.R_far (p := ⟨gb261, 0, none⟩) (Kd.R_types HO260.out BK261.out (by decide)) (fun _ hk => hk.2) (.int .i64 t257)) (fun _ hk => hk.2) (.slice Ao54 t258.length co54)) (fun _ h_ => h_.1))))) (below_size tB)); have n4_ := Aside0.mk (blk_below (g := gb244) (o := .cells #[.int .i64 a0_0, .slice A0_1 l0_1.length c0_1] 31 (0, 0)) (by (with_reducible repeat (first | refine blk_drewN ?_ _ | refine blk_drew ?_ | refine blk_alloc ?_ _)); refine blk_far ?_ NB244_261.out _; (with_reducible repeat (first | refine blk_drewN ?_ _ | refine blk_drew ?_ | refine blk_alloc ?_ _)); refine blk_far ?_ NB244_261.out _; (with_reducible repeat (first | refine blk_drewN ?_ _ | refine blk_drew ?_ | refine blk_alloc ?_ _)); exact BK244.out) hb); have n5_ := Aside0.mk (blk_below (g := gb256) (o := .cells #[.int .i64 t250, .slice Ao47 t251.length co47] 35 (0, 0)) (by (with_reducible repeat (first | refine blk_drewN ?_ _ | refine blk_drew ?_ | refine blk_alloc ?_ _)); refine blk_far ?_ NB256_261.out _; (with_reducible repeat (first | refine blk_drewN ?_ _ | refine blk_drew ?_ | refine blk_alloc ?_ _)); refine blk_far ?_ NB256_261.out _; (with_reducible repeat (first | refine blk_drewN ?_ _ | refine blk_drew ?_ | refine blk_alloc ?_ _)); exact BK256.out) hb); have n6_ := Aside0.mk (blk_below (g := gb261) (o := .cells #[.int .i64 t257, .slice Ao54 t258.length co54] 35 (0, 0)) (by (with_reducible repeat (first | refine blk_drewN ?_ _ | refine blk_drew ?_ | refine blk_alloc ?_ _)); refine blk_put (cs := #[.int .i64 t257, .slice none 0 0]) ?_ 1 _ rfl; (with_reducible repeat (first | refine blk_drewN ?_ _ | refine blk_drew ?_ | refine blk_alloc ?_ _)); refine blk_put (cs := #[.int .i64 0, .slice none 0 0]) ?_ 0 _ rfl; (with_reducible repeat (first | refine blk_drewN ?_ _ | refine blk_drew ?_ | refine blk_alloc ?_ _)); exact BK261.out) hb); have n7_ := Aside0.mk (below_step tB hb); clear HO249; clear HO253; clear HO260; clear BK244; clear BK256; clear BK261; clear HB; have HO249 := n0_; have HO253 := n1_; have HO260 := n2_; have HO265 := n3_; have BK244 := n4_; have BK256 := n5_; have BK261 := n6_; have HB := n7_; clear n0_ n1_ n2_ n3_ n4_ n5_ n6_ n7_; (try clear hb); (try clear hb2); (try clear hk); (try clear hi); (try clear ho0)) | ((with_reducible refine gate_dst (N := 12) rfl ?_); refine box_event ?hg (N := 12) ?hd (cs := #[.int .i64 0, .slice none 0 0]) (t := 35) ?hr ?_; (case hd => rfl); (case hg => rfl); (case hr => exact tG); intro gb268 hg w56 hbox hb; have n0_ := Aside0.mk (Kd.R_below (tR HO249) hb); have n1_ := Aside0.mk (Kd.R_below (tR HO253) hb); have n2_ := Aside0.mk (Kd.R_below (tR HO260) hb); have n3_ := Aside0.mk (Kd.R_below (tR HO265) hb); have n4_ := Aside0.mk (blk_below (g := gb244) (o := .cells #[.int .i64 a0_0, .slice A0_1 l0_1.length c0_1] 31 (0, 0)) (tK BK244) hb); have n5_ := Aside0.mk (blk_below (g := gb256) (o := .cells #[.int .i64 t250, .slice Ao47 t251.length co47] 35 (0, 0)) (tK BK256) hb); have n6_ := Aside0.mk (blk_below (g := gb261) (o := .cells #[.int .i64 t257, .slice Ao54 t258.length co54] 35 (0, 0)) (tK BK261) hb); have n7_ := Aside0.mk (below_step tB hb); have n8_ := Aside0.mk (hbox); have n9_ := Aside0.mk ((by rw [hg]; exact (below_size tB) : w.heap.size ≤ gb268)); have n10_ := Aside0.mk ((by rw [hg]; exact (below_size tB) : w.heap.size ≤ gb268)); have n11_ := Aside0.mk ((by rw [hg]; exact Nat.ne_of_lt (blk_lt (g := gb244) (o := .cells #[.int .i64 a0_0, .slice A0_1 l0_1.length c0_1] 31 (0, 0)) (tK BK244)) : gb244 ≠ gb268)); have n12_ := Aside0.mk ((by rw [hg]; exact Nat.ne_of_gt (blk_lt (g := gb244) (o := .cells #[.int .i64 a0_0, .slice A0_1 l0_1.length c0_1] 31 (0, 0)) (tK BK244)) : gb268 ≠ gb244)); have n13_ := Aside0.mk ((by rw [hg]; exact Nat.ne_of_lt (blk_lt (g := gb256) (o := .cells #[.int .i64 t250, .slice Ao47 t251.length co47] 35 (0, 0)) (tK BK256)) : gb256 ≠ gb268)); have n14_ := Aside0.mk ((by rw [hg]; exact Nat.ne_of_gt (blk_lt (g := gb256) (o := .cells #[.int .i64 t250, .slice Ao47 t251.length co47] 35 (0, 0)) (tK BK256)) : gb268 ≠ gb256)); have n15_ := Aside0.mk ((by rw [hg]; exact Nat.ne_of_lt (blk_lt (g := gb261) (o := .cells #[.int .i64 t257, .slice Ao54 t258.length co54] 35 (0, 0)) (tK BK261)) : gb261 ≠ gb268)); have n16_ := Aside0.mk ((by rw [hg]; exact Nat.ne_of_gt (blk_lt (g := gb261) (o := .cells #[.int .i64 t257, .slice Ao54 t258.length co54] 35 (0, 0)) (tK BK261)) : gb268 ≠ gb261)); clear HO249; clear HO253; clear HO260; clear HO265; clear BK244; clear BK256; clear BK261; clear HB; have HO249 := n0_; have HO253 := n1_; have HO260 := n2_; have HO265 := n3_; have BK244 := n4_; have BK256 := n5_; have BK261 := n6_; have HB := n7_; have BK268 := n8_; have GW268 := n9_; have GE268 := n10_; have NB244_268 := n11_; have NB268_244 := n12_; have NB256_268 := n13_; have NB268_256 := n14_; have NB261_268 := n15_; have NB268_261 := n16_; clear n0_ n1_ n2_ n3_ n4_ n5_ n6_ n7_ n8_ n9_ n10_ n11_ n12_ n13_ n14_ n15_ n16_; clear hb hbox hg; have hnb57 := NB268_244.out; have hnc57 := NB244_268.out; have hnb58 := NB268_256.out; have hnc58 := NB256_268.out; have hnb59 := NB268_261.out; have hnc59 := NB261_268.out; obtain ⟨hcz60_0, hcz60_1, hfz60_0, hfz60_1⟩ := bc2 BK268.out; obtain ⟨Ao61, co61, eo61⟩ := Kd.R_slice HO265.out; subst eo61; obtain ⟨hcz62_0, hcz62_1, hfz62_0, hfz62_1⟩ := bc2 BK256.out) | ((with_reducible refine gate_callee (f := 24) rfl ?_); refine goesL_ (some 47) rfl rfl Try.func24 (by kernel_rfl) rfl #[.agg #[.int .i64 t262, .slice Ao61 t263.length co61], .agg #[.int .i64 t250, .slice Ao47 t251.length co47]] rfl tL ?_; (with_reducible refine (laws_eqClaimList.calls k t262 _ _ t263 t250 _ _ t251 true _ ?side1 ?side2 ?side3 ?side4 A13.out).mono ?_); (case side1 => refine (Kd.R_reads' (e := 104) (base := w.heap.size) (ok := fun k_ => (((True ∧ some k_ ≠ (.slice Ao42 t247.length co42 : Value).ownBlock) ∧ some k_ ≠ (.slice Ao47 t251.length co47 : Value).ownBlock) ∧ some k_ ≠ (.slice Ao54 t258.length co54 : Value).ownBlock)) (n := t263.length) (c := co61) ?_).2.2; exact (by (with_reducible repeat (first | apply Kd.R_alloc | apply Kd.R_drewN | apply Kd.R_drew)); exact (Kd.R_mono (Kd.R_far (p := ⟨gb268, 1, none⟩) (Kd.R_far (p := ⟨gb268, 0, none⟩) (Kd.R_types HO265.out BK268.out (by decide)) (fun _ hk => hk.2) (.int .i64 t262)) (fun _ hk => hk.2) (.slice Ao61 t263.length co61)) (fun _ h_ => h_.1)))); (case side2 => exact (Kd.R_reads' HO265.out).2.1); (case side3 => refine (Kd.R_reads' (e := 104) (base := w.heap.size) (ok := fun k_ => (((True ∧ some k_ ≠ (.slice Ao42 t247.length co42 : Value).ownBlock) ∧ some k_ ≠ (.slice Ao54 t258.length co54 : Value).ownBlock) ∧ some k_ ≠ (.slice Ao61 t263.length co61 : Value).ownBlock)) (n := t251.length) (c := co47) ?_).2.2; exact (by (with_reducible repeat (first | apply Kd.R_alloc | apply Kd.R_drewN | apply Kd.R_drew)); exact (Kd.R_mono (Kd.R_far (p := ⟨gb268, 1, none⟩) (Kd.R_far (p := ⟨gb268, 0, none⟩) (Kd.R_types HO253.out BK268.out (by decide)) (fun _ hk => hk.2) (.int .i64 t262)) (fun _ hk => hk.2) (.slice Ao61 t263.length co61)) (fun _ h_ => h_.1)))); (case side4 => exact (Kd.R_reads' HO253.out).2.1); rintro e w63 ⟨rfl, hb⟩; refine ⟨_, rfl, ?_⟩; have n0_ := Aside0.mk (Kd.R_below (by (with_reducible repeat (first | apply Kd.R_alloc | apply Kd.R_drewN | apply Kd.R_drew)); exact (Kd.R_mono (Kd.R_far (p := ⟨gb268, 1, none⟩) (Kd.R_far (p := ⟨gb268, 0, none⟩) (Kd.R_types HO249.out BK268.out (by decide)) (fun _ hk => hk.2) (.int .i64 t262)) (fun _ hk => hk.2) (.slice Ao61 t263.length co61)) (fun _ h_ => h_.1))) hb); have n1_ := Aside0.mk (Kd.R_below (by (with_reducible repeat (first | apply Kd.R_alloc | apply Kd.R_drewN | apply Kd.R_drew)); exact (Kd.R_mono (Kd.R_far (p := ⟨gb268, 1, none⟩) (Kd.R_far (p := ⟨gb268, 0, none⟩) (Kd.R_types HO253.out BK268.out (by decide)) (fun _ hk => hk.2) (.int .i64 t262)) (fun _ hk => hk.2) (.slice Ao61 t263.length co61)) (fun _ h_ => h_.1))) hb); have n2_ := Aside0.mk (Kd.R_below (by (with_reducible repeat (first | apply Kd.R_alloc | apply Kd.R_drewN | apply Kd.R_drew)); exact (Kd.R_mono (Kd.R_far (p := ⟨gb268, 1, none⟩) (Kd.R_far (p := ⟨gb268, 0, none⟩) (Kd.R_types HO260.out BK268.out (by decide)) (fun _ hk => hk.2) (.int .i64 t262)) (fun _ hk => hk.2) (.slice Ao61 t263.length co61)) (fun _ h_ => h_.1))) hb); have n3_ := Aside0.mk (Kd.R_below (by (with_reducible repeat (first | apply Kd.R_alloc | apply Kd.R_drewN | apply Kd.R_drew)); exact (Kd.R_mono (Kd.R_far (p := ⟨gb268, 1, none⟩) (Kd.R_far (p := ⟨gb268, 0, none⟩) (Kd.R_types HO265.out BK268.out (by decide)) (fun _ hk => hk.2) (.int .i64 t262)) (fun _ hk => hk.2) (.slice Ao61 t263.length co61)) (fun _ h_ => h_.1))) hb); have n4_ := Aside0.mk (blk_below (g := gb244) (o := .cells #[.int .i64 a0_0, .slice A0_1 l0_1.length c0_1] 31 (0, 0)) (by (with_reducible repeat (first | refine blk_drewN ?_ _ | refine blk_drew ?_ | refine blk_alloc ?_ _)); refine blk_far ?_ NB244_268.out _; (with_reducible repeat (first | refine blk_drewN ?_ _ | refine blk_drew ?_ | refine blk_alloc ?_ _)); refine blk_far ?_ NB244_268.out _; (with_reducible repeat (first | refine blk_drewN ?_ _ | refine blk_drew ?_ | refine blk_alloc ?_ _)); exact BK244.out) hb); have n5_ := Aside0.mk (blk_below (g := gb256) (o := .cells #[.int .i64 t250, .slice Ao47 t251.length co47] 35 (0, 0)) (by (with_reducible repeat (first | refine blk_drewN ?_ _ | refine blk_drew ?_ | refine blk_alloc ?_ _)); refine blk_far ?_ NB256_268.out _; (with_reducible repeat (first | refine blk_drewN ?_ _ | refine blk_drew ?_ | refine blk_alloc ?_ _)); refine blk_far ?_ NB256_268.out _; (with_reducible repeat (first | refine blk_drewN ?_ _ | refine blk_drew ?_ | refine blk_alloc ?_ _)); exact BK256.out) hb); have n6_ := Aside0.mk (blk_below (g := gb261) (o := .cells #[.int .i64 t257, .slice Ao54 t258.length co54] 35 (0, 0)) (by (with_reducible repeat (first | refine blk_drewN ?_ _ | refine blk_drew ?_ | refine blk_alloc ?_ _)); refine blk_far ?_ NB261_268.out _; (with_reducible repeat (first | refine blk_drewN ?_ _ | refine blk_drew ?_ | refine blk_alloc ?_ _)); refine blk_far ?_ NB261_268.out _; (with_reducible repeat (first | refine blk_drewN ?_ _ | refine blk_drew ?_ | refine blk_alloc ?_ _)); exact BK261.out) hb); have n7_ := Aside0.mk (blk_below (g := gb268) (o := .cells #[.int .i64 t262, .slice Ao61 t263.length co61] 35 (0, 0)) (by (with_reducible repeat (first | refine blk_drewN ?_ _ | refine blk_drew ?_ | refine blk_alloc ?_ _)); refine blk_put (cs := #[.int .i64 t262, .slice none 0 0]) ?_ 1 _ rfl; (with_reducible repeat (first | refine blk_drewN ?_ _ | refine blk_drew ?_ | refine blk_alloc ?_ _)); refine blk_put (cs := #[.int .i64 0, .slice none 0 0]) ?_ 0 _ rfl; (with_reducible repeat (first | refine blk_drewN ?_ _ | refine blk_drew ?_ | refine blk_alloc ?_ _)); exact BK268.out) hb); have n8_ := Aside0.mk (below_step tB hb); clear HO249; clear HO253; clear HO260; clear HO265; clear BK244; clear BK256; clear BK261; clear BK268; clear HB; have HO249 := n0_; have HO253 := n1_; have HO260 := n2_; have HO265 := n3_; have BK244 := n4_; have BK256 := n5_; have BK261 := n6_; have BK268 := n7_; have HB := n8_; clear n0_ n1_ n2_ n3_ n4_ n5_ n6_ n7_ n8_; (try clear hb); (try clear hb2); (try clear hk); (try clear hi)))
               have n0_ := Aside0.mk (Kd.R_drew HO249.out)
               have n1_ := Aside0.mk (Kd.R_drew HO253.out)
               have n2_ := Aside0.mk (Kd.R_drew HO260.out)
               have n3_ := Aside0.mk (Kd.R_drew HO265.out)
               have n4_ := Aside0.mk (blk_drew BK244.out)
               have n5_ := Aside0.mk (blk_drew BK256.out)
               have n6_ := Aside0.mk (blk_drew BK261.out)
               have n7_ := Aside0.mk (blk_drew BK268.out)
               have n8_ := Aside0.mk (below_drew1 HB.out)
               clear HO249
               clear HO253
               clear HO260
               clear HO265
               clear BK244
               clear BK256
               clear BK261
               clear BK268
               clear HB
               have HO249 := n0_
               have HO253 := n1_
               have HO260 := n2_
               have HO265 := n3_
               have BK244 := n4_
               have BK256 := n5_
               have BK261 := n6_
               have BK268 := n7_
               have HB := n8_
               clear n0_ n1_ n2_ n3_ n4_ n5_ n6_ n7_ n8_
               refine start_ (n := 5) (S := fun w' => w'.cell? ⟨gb261, 0, none⟩ = some (.int .i64 t257) ∧ w'.cell? ⟨gb261, 1, none⟩ = some (.slice Ao54 t258.length co54) ∧ w'.cell? ⟨gb244, 0, none⟩ = some (.int .i64 a0_0) ∧ w'.cell? ⟨gb244, 1, none⟩ = some (.slice A0_1 l0_1.length c0_1)) (ds := []) #[false, false, false, false, false] (by kernel_rfl) rfl rfl ⟨(blk_cell BK261.out 0).trans rfl, (blk_cell BK261.out 1).trans rfl, (blk_cell BK244.out 0).trans rfl, (blk_cell BK244.out 1).trans rfl⟩ (fun hHeld => ?_)
               generalize w63.drew = w64 at HO249 HO253 HO260 HO265 BK244 BK256 BK261 BK268 HB hHeld ⊢
               refine take_ (i := 0) (N := some 59) (v := ?_) (a' := ?_) #[true, false, false, false, false] rfl rfl (by kernel_rfl) (fun _ _ _ h => h) (Or.inl ⟨by rfl, ?_⟩) hHeld ?_ ?_
               rotate_left
               ·rintro w' ⟨s0, s1, s2, s3⟩
                go_simp
                with_reducible rfl
               rotate_left
               ·simp only [Act.put, List.setIfInBounds_toArray, List.set_cons_zero, List.set_cons_succ, i64_w, i32_w]
                rfl
               refine take_ (i := 1) (N := some 60) (v := ?_) (a' := ?_) #[true, true, false, false, false] rfl rfl (by kernel_rfl) (fun _ _ _ h => h) (Or.inl ⟨by rfl, ?_⟩) hHeld ?_ ?_
               rotate_left
               ·rintro w' ⟨s0, s1, s2, s3⟩
                go_simp
                with_reducible rfl
               rotate_left
               ·simp only [Act.put, List.setIfInBounds_toArray, List.set_cons_zero, List.set_cons_succ, i64_w, i32_w]
                rfl
               refine one_ (i := 2) (N := some 61) #[true, true, true, false, false] rfl rfl (by kernel_rfl) (by decide) (fun K hK => ?_)
               refine goes_ Try.func22 (by kernel_rfl) rfl #[.agg #[.int .i64 a0_0, .slice A0_1 l0_1.length c0_1]] (by rfl) rfl rfl tL ?_
               with_reducible refine (laws_toClaimList.calls k a0_0 _ _ l0_1 t270 t271 _ ?side1 ?side2 A17.out).mono ?_
               (case side1 => repeat (first | exact (Kd.C_below HR0_1.out HB.out) | (with_reducible refine Kd.C_alloc ?_ _) | (with_reducible refine Kd.C_drewN ?_ _) | (with_reducible refine Kd.C_drew ?_)))
               (case side2 => exact HC0_1.out)
               rintro e w65 ⟨v272, rfl, ho0, hb⟩
               refine ⟨_, rfl, ?_⟩
               have n0_ := Aside0.mk (Kd.R_elder' (tR HO249) (Kd.R_base ho0) hb)
               have n1_ := Aside0.mk (Kd.R_elder' (tR HO253) (Kd.R_base ho0) hb)
               have n2_ := Aside0.mk (Kd.R_elder' (tR HO260) (Kd.R_base ho0) hb)
               have n3_ := Aside0.mk (Kd.R_elder' (tR HO265) (Kd.R_base ho0) hb)
               have n4_ := Aside0.mk (Kd.R_lower (Kd.R_new' (Kd.R_new' (Kd.R_new' (Kd.R_new' ho0 (Kd.R_lt (tR HO249))) (Kd.R_lt (tR HO253))) (Kd.R_lt (tR HO260))) (Kd.R_lt (tR HO265))) (below_size tB))
               have n5_ := Aside0.mk (blk_below (g := gb244) (o := .cells #[.int .i64 a0_0, .slice A0_1 l0_1.length c0_1] 31 (0, 0)) (tK BK244) hb)
               have n6_ := Aside0.mk (blk_below (g := gb256) (o := .cells #[.int .i64 t250, .slice Ao47 t251.length co47] 35 (0, 0)) (tK BK256) hb)
               have n7_ := Aside0.mk (blk_below (g := gb261) (o := .cells #[.int .i64 t257, .slice Ao54 t258.length co54] 35 (0, 0)) (tK BK261) hb)
               have n8_ := Aside0.mk (blk_below (g := gb268) (o := .cells #[.int .i64 t262, .slice Ao61 t263.length co61] 35 (0, 0)) (tK BK268) hb)
               have n9_ := Aside0.mk (below_step tB hb)
               clear HO249
               clear HO253
               clear HO260
               clear HO265
               clear BK244
               clear BK256
               clear BK261
               clear BK268
               clear HB
               have HO249 := n0_
               have HO253 := n1_
               have HO260 := n2_
               have HO265 := n3_
               have HO273 := n4_
               have BK244 := n5_
               have BK256 := n6_
               have BK261 := n7_
               have BK268 := n8_
               have HB := n9_
               clear n0_ n1_ n2_ n3_ n4_ n5_ n6_ n7_ n8_ n9_
               (try clear hb)
               (try clear hb2)
               (try clear hk)
               (try clear hi)
               (try clear ho0)
               obtain ⟨Ao66, co66, eo66⟩ := Kd.R_slice HO273.out
               (first | subst eo66 | (injection eo66 with f1_ f2_ f3_; have f4_ := f1_.symm; have f5_ := f3_.symm; clear f1_ f2_ f3_; subst f4_; subst f5_))
               refine hK.out _ _ ⟨(blk_cell BK261.out 0).trans rfl, (blk_cell BK261.out 1).trans rfl, (blk_cell BK244.out 0).trans rfl, (blk_cell BK244.out 1).trans rfl⟩ (fun hHeld => ?_)
               clear hK K
               refine norm_ (a' := ?_) ?_ ?_
               rotate_left
               ·show Act.put _ (some 61) _ = _
                simp only [Act.put, List.setIfInBounds_toArray, List.set_cons_zero, List.set_cons_succ, i64_w, i32_w]
                rfl
               refine one_ (i := 3) (N := some 62) #[true, true, true, true, false] rfl rfl (by kernel_rfl) (by decide) (fun K hK => ?_)
               refine goes_ Try.func24 (by kernel_rfl) rfl #[.agg #[.int .i64 t257, .slice Ao54 t258.length co54], .agg #[.int .i64 t270, .slice Ao66 t271.length co66]] (by rfl) rfl rfl tL ?_
               with_reducible refine (laws_eqClaimList.calls k t257 _ _ t258 t270 _ _ t271 true _ ?side1 ?side2 ?side3 ?side4 A18.out).mono ?_
               (case side1 => repeat (first | exact (Kd.R_reads' HO260.out).2.2 | (with_reducible refine Kd.C_alloc ?_ _) | (with_reducible refine Kd.C_drewN ?_ _) | (with_reducible refine Kd.C_drew ?_)))
               (case side2 => exact (Kd.R_reads' HO260.out).2.1)
               (case side3 => repeat (first | exact (Kd.R_reads' HO273.out).2.2 | (with_reducible refine Kd.C_alloc ?_ _) | (with_reducible refine Kd.C_drewN ?_ _) | (with_reducible refine Kd.C_drew ?_)))
               (case side4 => exact (Kd.R_reads' HO273.out).2.1)
               rintro e w67 ⟨rfl, hb⟩
               refine ⟨_, rfl, ?_⟩
               have n0_ := Aside0.mk (Kd.R_below (tR HO249) hb)
               have n1_ := Aside0.mk (Kd.R_below (tR HO253) hb)
               have n2_ := Aside0.mk (Kd.R_below (tR HO260) hb)
               have n3_ := Aside0.mk (Kd.R_below (tR HO265) hb)
               have n4_ := Aside0.mk (Kd.R_below (tR HO273) hb)
               have n5_ := Aside0.mk (blk_below (g := gb244) (o := .cells #[.int .i64 a0_0, .slice A0_1 l0_1.length c0_1] 31 (0, 0)) (tK BK244) hb)
               have n6_ := Aside0.mk (blk_below (g := gb256) (o := .cells #[.int .i64 t250, .slice Ao47 t251.length co47] 35 (0, 0)) (tK BK256) hb)
               have n7_ := Aside0.mk (blk_below (g := gb261) (o := .cells #[.int .i64 t257, .slice Ao54 t258.length co54] 35 (0, 0)) (tK BK261) hb)
               have n8_ := Aside0.mk (blk_below (g := gb268) (o := .cells #[.int .i64 t262, .slice Ao61 t263.length co61] 35 (0, 0)) (tK BK268) hb)
               have n9_ := Aside0.mk (below_step tB hb)
               clear HO249
               clear HO253
               clear HO260
               clear HO265
               clear HO273
               clear BK244
               clear BK256
               clear BK261
               clear BK268
               clear HB
               have HO249 := n0_
               have HO253 := n1_
               have HO260 := n2_
               have HO265 := n3_
               have HO273 := n4_
               have BK244 := n5_
               have BK256 := n6_
               have BK261 := n7_
               have BK268 := n8_
               have HB := n9_
               clear n0_ n1_ n2_ n3_ n4_ n5_ n6_ n7_ n8_ n9_
               (try clear hb)
               (try clear hb2)
               (try clear hk)
               (try clear hi)
               refine hK.out _ _ ⟨(blk_cell BK261.out 0).trans rfl, (blk_cell BK261.out 1).trans rfl, (blk_cell BK244.out 0).trans rfl, (blk_cell BK244.out 1).trans rfl⟩ (fun hHeld => ?_)
               clear hK K
               refine norm_ (a' := ?_) ?_ ?_
               rotate_left
               ·show Act.put _ (some 62) _ = _
                simp only [Act.put, List.setIfInBounds_toArray, List.set_cons_zero, List.set_cons_succ, i64_w, i32_w]
                rfl
               refine pure_ (i := 4) (N := some 63) (v := ?_) (a' := ?_) #[true, true, true, true, true] rfl rfl (by kernel_rfl) (fun _ _ _ h => h) (Or.inl ⟨by rfl, ?_⟩) ?_ ?_
               rotate_left
               ·intro w'
                go_simp
                with_reducible rfl
               rotate_left
               ·simp only [Act.put, List.setIfInBounds_toArray, List.set_cons_zero, List.set_cons_succ, i64_w, i32_w]
                rfl
               refine done_ (by kernel_rfl) ?_
               obtain ⟨hcz68_0, hcz68_1, hfz68_0, hfz68_1⟩ := bc2 BK261.out
               try go_wp2_with (first | ((with_reducible refine gate_callee (f := 25) rfl ?_); refine goesL_ (some 66) rfl rfl Try.func25 (by kernel_rfl) rfl #[.agg #[.int .i64 t257, .slice Ao54 t258.length co54], .int .i64 1] rfl tL ?_; (with_reducible refine (laws_markClaimList.calls k t257 (fun k_ => some k_ = (.slice Ao54 t258.length co54 : Value).ownBlock) (.slice Ao54 t258.length co54) t258 1 t275 t276 w _ ?side1 ?side2 A20.out).mono ?_); (case side1 => exact tB); (case side2 => exact Kd.R_tight rfl HO260.out); rintro e w69 ⟨rfl, hy0, hb, hkp⟩; refine ⟨_, rfl, ?_⟩; have n0_ := Aside0.mk (blk_kept (tK BK244) hkp (fun hs_ => (fun e_ => (Kd.R_ne HO260.out BK244.out (by decide)) e_) hs_)); have n1_ := Aside0.mk (Kd.R_mono (ok' := fun k_ => some k_ ≠ (.slice Ao47 t251.length co47 : Value).ownBlock ∧ some k_ ≠ (.slice Ao54 t258.length co54 : Value).ownBlock ∧ some k_ ≠ (.slice Ao61 t263.length co61 : Value).ownBlock ∧ some k_ ≠ (.slice Ao66 t271.length co66 : Value).ownBlock) (Kd.R_keptB (HO249.out) hkp tN9) tP9); have n2_ := Aside0.mk (Kd.R_mono (ok' := fun k_ => some k_ ≠ (.slice Ao42 t247.length co42 : Value).ownBlock ∧ some k_ ≠ (.slice Ao54 t258.length co54 : Value).ownBlock ∧ some k_ ≠ (.slice Ao61 t263.length co61 : Value).ownBlock ∧ some k_ ≠ (.slice Ao66 t271.length co66 : Value).ownBlock) (Kd.R_keptB (HO253.out) hkp tN9) tP9); have n3_ := Aside0.mk (blk_kept (tK BK256) hkp (fun hs_ => (fun e_ => (Kd.R_ne HO260.out BK256.out (by decide)) e_) hs_)); have n4_ := Aside0.mk (Kd.R_reok rfl hy0 (fun k_ e_ => HO260.out.1 k_ e_)); have n5_ := Aside0.mk (blk_kept (tK BK261) hkp (fun hs_ => (fun e_ => (Kd.R_ne HO260.out BK261.out (by decide)) e_) hs_)); have n6_ := Aside0.mk (Kd.R_mono (ok' := fun k_ => some k_ ≠ (.slice Ao42 t247.length co42 : Value).ownBlock ∧ some k_ ≠ (.slice Ao47 t251.length co47 : Value).ownBlock ∧ some k_ ≠ (.slice Ao54 t258.length co54 : Value).ownBlock ∧ some k_ ≠ (.slice Ao66 t271.length co66 : Value).ownBlock) (Kd.R_keptB (HO265.out) hkp tN9) tP9); have n7_ := Aside0.mk (blk_kept (tK BK268) hkp (fun hs_ => (fun e_ => (Kd.R_ne HO260.out BK268.out (by decide)) e_) hs_)); have n8_ := Aside0.mk (Kd.R_mono (ok' := fun k_ => some k_ ≠ (.slice Ao42 t247.length co42 : Value).ownBlock ∧ some k_ ≠ (.slice Ao47 t251.length co47 : Value).ownBlock ∧ some k_ ≠ (.slice Ao54 t258.length co54 : Value).ownBlock ∧ some k_ ≠ (.slice Ao61 t263.length co61 : Value).ownBlock) (Kd.R_keptB (HO273.out) hkp tN9) tP9); have n9_ := Aside0.mk (hb); clear BK244; clear HO249; clear HO253; clear BK256; clear HO260; clear BK261; clear HO265; clear BK268; clear HO273; clear HB; have BK244 := n0_; have HO249 := n1_; have HO253 := n2_; have BK256 := n3_; have HO260 := n4_; have BK261 := n5_; have HO265 := n6_; have BK268 := n7_; have HO273 := n8_; have HB := n9_; clear n0_ n1_ n2_ n3_ n4_ n5_ n6_ n7_ n8_ n9_; (try clear hb); (try clear hkp); (try clear hy0); obtain ⟨hcz70_0, hcz70_1, hfz70_0, hfz70_1⟩ := bc2 BK268.out; obtain ⟨hcz71_0, hcz71_1, hfz71_0, hfz71_1⟩ := bc2 BK256.out) | (go_at_call 24; (with_reducible refine (laws_eqClaimList.calls k t262 _ _ t263 t250 _ _ t251 true _ ?side1 ?side2 ?side3 ?side4 A22.out).mono ?_); (case side1 => repeat (first | exact (Kd.R_reads' HO265.out).2.2 | (with_reducible refine Kd.C_alloc ?_ _) | (with_reducible refine Kd.C_drewN ?_ _) | (with_reducible refine Kd.C_drew ?_))); (case side2 => exact (Kd.R_reads' HO265.out).2.1); (case side3 => repeat (first | exact (Kd.R_reads' HO253.out).2.2 | (with_reducible refine Kd.C_alloc ?_ _) | (with_reducible refine Kd.C_drewN ?_ _) | (with_reducible refine Kd.C_drew ?_))); (case side4 => exact (Kd.R_reads' HO253.out).2.1); rintro e w72 ⟨rfl, hb⟩; have n0_ := Aside0.mk (Kd.R_below (tR HO249) hb); have n1_ := Aside0.mk (Kd.R_below (tR HO253) hb); have n2_ := Aside0.mk (Kd.R_below (tR HO260) hb); have n3_ := Aside0.mk (Kd.R_below (tR HO265) hb); have n4_ := Aside0.mk (Kd.R_below (tR HO273) hb); have n5_ := Aside0.mk (blk_below (g := gb244) (o := .cells #[.int .i64 a0_0, .slice A0_1 l0_1.length c0_1] 31 (0, 0)) (tK BK244) hb); have n6_ := Aside0.mk (blk_below (g := gb256) (o := .cells #[.int .i64 t250, .slice Ao47 t251.length co47] 35 (0, 0)) (tK BK256) hb); have n7_ := Aside0.mk (blk_below (g := gb261) (o := .cells #[.int .i64 t257, .slice Ao54 t258.length co54] 35 (0, 0)) (tK BK261) hb); have n8_ := Aside0.mk (blk_below (g := gb268) (o := .cells #[.int .i64 t262, .slice Ao61 t263.length co61] 35 (0, 0)) (tK BK268) hb); have n9_ := Aside0.mk (below_step tB hb); clear HO249; clear HO253; clear HO260; clear HO265; clear HO273; clear BK244; clear BK256; clear BK261; clear BK268; clear HB; have HO249 := n0_; have HO253 := n1_; have HO260 := n2_; have HO265 := n3_; have HO273 := n4_; have BK244 := n5_; have BK256 := n6_; have BK261 := n7_; have BK268 := n8_; have HB := n9_; clear n0_ n1_ n2_ n3_ n4_ n5_ n6_ n7_ n8_ n9_; (try clear hb); (try clear hb2); (try clear hk); (try clear hi); obtain ⟨hcz73_0, hcz73_1, hfz73_0, hfz73_1⟩ := bc2 BK268.out) | ((with_reducible refine gate_callee (f := 25) rfl ?_); refine goesL_ (some 87) rfl rfl Try.func25 (by kernel_rfl) rfl #[.agg #[.int .i64 t262, .slice Ao61 t263.length co61], .int .i64 1] rfl tL ?_; (with_reducible refine (laws_markClaimList.calls k t262 (fun k_ => some k_ = (.slice Ao61 t263.length co61 : Value).ownBlock) (.slice Ao61 t263.length co61) t263 1 t278 t279 w _ ?side1 ?side2 A24.out).mono ?_); (case side1 => exact tB); (case side2 => exact Kd.R_tight rfl HO265.out); rintro e w74 ⟨rfl, hy0, hb, hkp⟩; refine ⟨_, rfl, ?_⟩; have n0_ := Aside0.mk (blk_kept (tK BK244) hkp (fun hs_ => (fun e_ => (Kd.R_ne HO265.out BK244.out (by decide)) e_) hs_)); have n1_ := Aside0.mk (Kd.R_mono (ok' := fun k_ => some k_ ≠ (.slice Ao47 t251.length co47 : Value).ownBlock ∧ some k_ ≠ (.slice Ao54 t258.length co54 : Value).ownBlock ∧ some k_ ≠ (.slice Ao61 t263.length co61 : Value).ownBlock ∧ some k_ ≠ (.slice Ao66 t271.length co66 : Value).ownBlock) (Kd.R_keptB (HO249.out) hkp tN9) tP9); have n2_ := Aside0.mk (Kd.R_mono (ok' := fun k_ => some k_ ≠ (.slice Ao42 t247.length co42 : Value).ownBlock ∧ some k_ ≠ (.slice Ao54 t258.length co54 : Value).ownBlock ∧ some k_ ≠ (.slice Ao61 t263.length co61 : Value).ownBlock ∧ some k_ ≠ (.slice Ao66 t271.length co66 : Value).ownBlock) (Kd.R_keptB (HO253.out) hkp tN9) tP9); have n3_ := Aside0.mk (blk_kept (tK BK256) hkp (fun hs_ => (fun e_ => (Kd.R_ne HO265.out BK256.out (by decide)) e_) hs_)); have n4_ := Aside0.mk (Kd.R_mono (ok' := fun k_ => some k_ ≠ (.slice Ao42 t247.length co42 : Value).ownBlock ∧ some k_ ≠ (.slice Ao47 t251.length co47 : Value).ownBlock ∧ some k_ ≠ (.slice Ao61 t263.length co61 : Value).ownBlock ∧ some k_ ≠ (.slice Ao66 t271.length co66 : Value).ownBlock) (Kd.R_keptB (HO260.out) hkp tN9) tP9); have n5_ := Aside0.mk (blk_kept (tK BK261) hkp (fun hs_ => (fun e_ => (Kd.R_ne HO265.out BK261.out (by decide)) e_) hs_)); have n6_ := Aside0.mk (Kd.R_reok rfl hy0 (fun k_ e_ => HO265.out.1 k_ e_)); have n7_ := Aside0.mk (blk_kept (tK BK268) hkp (fun hs_ => (fun e_ => (Kd.R_ne HO265.out BK268.out (by decide)) e_) hs_)); have n8_ := Aside0.mk (Kd.R_mono (ok' := fun k_ => some k_ ≠ (.slice Ao42 t247.length co42 : Value).ownBlock ∧ some k_ ≠ (.slice Ao47 t251.length co47 : Value).ownBlock ∧ some k_ ≠ (.slice Ao54 t258.length co54 : Value).ownBlock ∧ some k_ ≠ (.slice Ao61 t263.length co61 : Value).ownBlock) (Kd.R_keptB (HO273.out) hkp tN9) tP9); have n9_ := Aside0.mk (hb); clear BK244; clear HO249; clear HO253; clear BK256; clear HO260; clear BK261; clear HO265; clear BK268; clear HO273; clear HB; have BK244 := n0_; have HO249 := n1_; have HO253 := n2_; have BK256 := n3_; have HO260 := n4_; have BK261 := n5_; have HO265 := n6_; have BK268 := n7_; have HO273 := n8_; have HB := n9_; clear n0_ n1_ n2_ n3_ n4_ n5_ n6_ n7_ n8_ n9_; (try clear hb); (try clear hkp); (try clear hy0); obtain ⟨hcz75_0, hcz75_1, hfz75_0, hfz75_1⟩ := bc2 BK268.out) | ((with_reducible refine gate_callee (f := 26) rfl ?_); refine goesL_ (some 90) rfl rfl Try.func26 (by kernel_rfl) rfl #[.agg #[.int .i64 t262, .slice Ao61 t279.length co61], .int .i64 1] rfl (by (try simp only [List.map_toArray, List.map_cons, List.map_nil]); first | done | (rw [show t279.length = t263.length from (Kd.R_reads' HO265.out).1.symm] <;> rfl) | rfl | (simp only [List.length_drop, List.length_take]; rfl)) ?_; (with_reducible refine (laws_heldClaimList.calls k t262 _ _ t279 1 t280 _ ?side1 ?side2 A25.out).mono ?_); (case side1 => repeat (first | exact (Kd.R_reads' HO265.out).2.2 | (with_reducible refine Kd.C_alloc ?_ _) | (with_reducible refine Kd.C_drewN ?_ _) | (with_reducible refine Kd.C_drew ?_))); (case side2 => rw [show t279.length = t263.length from (Kd.R_reads' HO265.out).1.symm]; exact (Kd.R_reads' HO265.out).2.1); rintro e w76 ⟨rfl, hb⟩; refine ⟨_, rfl, ?_⟩; have n0_ := Aside0.mk (Kd.R_below (tR HO249) hb); have n1_ := Aside0.mk (Kd.R_below (tR HO253) hb); have n2_ := Aside0.mk (Kd.R_below (tR HO260) hb); have n3_ := Aside0.mk (Kd.R_below (tR HO265) hb); have n4_ := Aside0.mk (Kd.R_below (tR HO273) hb); have n5_ := Aside0.mk (blk_below (g := gb244) (o := .cells #[.int .i64 a0_0, .slice A0_1 l0_1.length c0_1] 31 (0, 0)) (tK BK244) hb); have n6_ := Aside0.mk (blk_below (g := gb256) (o := .cells #[.int .i64 t250, .slice Ao47 t251.length co47] 35 (0, 0)) (tK BK256) hb); have n7_ := Aside0.mk (blk_below (g := gb261) (o := .cells #[.int .i64 t257, .slice Ao54 t258.length co54] 35 (0, 0)) (tK BK261) hb); have n8_ := Aside0.mk (blk_below (g := gb268) (o := .cells #[.int .i64 t262, .slice Ao61 t263.length co61] 35 (0, 0)) (tK BK268) hb); have n9_ := Aside0.mk (below_step tB hb); clear HO249; clear HO253; clear HO260; clear HO265; clear HO273; clear BK244; clear BK256; clear BK261; clear BK268; clear HB; have HO249 := n0_; have HO253 := n1_; have HO260 := n2_; have HO265 := n3_; have HO273 := n4_; have BK244 := n5_; have BK256 := n6_; have BK261 := n7_; have BK268 := n8_; have HB := n9_; clear n0_ n1_ n2_ n3_ n4_ n5_ n6_ n7_ n8_ n9_; (try clear hb); (try clear hb2); (try clear hk); (try clear hi); obtain ⟨hcz77_0, hcz77_1, hfz77_0, hfz77_1⟩ := bc2 BK244.out) | ((with_reducible refine gate_callee (f := 22) rfl ?_); refine goesL_ (some 98) rfl rfl Try.func22 (by kernel_rfl) rfl #[.agg #[.int .i64 a0_0, .slice A0_1 l0_1.length c0_1]] rfl tL ?_; (with_reducible refine (laws_toClaimList.calls k a0_0 _ _ l0_1 t281 t282 _ ?side1 ?side2 A28.out).mono ?_); (case side1 => repeat (first | exact (Kd.C_below HR0_1.out HB.out) | (with_reducible refine Kd.C_alloc ?_ _) | (with_reducible refine Kd.C_drewN ?_ _) | (with_reducible refine Kd.C_drew ?_))); (case side2 => exact HC0_1.out); rintro e w78 ⟨v283, rfl, ho0, hb⟩; refine ⟨_, rfl, ?_⟩; have n0_ := Aside0.mk (Kd.R_elder' (tR HO249) (Kd.R_base ho0) hb); have n1_ := Aside0.mk (Kd.R_elder' (tR HO253) (Kd.R_base ho0) hb); have n2_ := Aside0.mk (Kd.R_elder' (tR HO260) (Kd.R_base ho0) hb); have n3_ := Aside0.mk (Kd.R_elder' (tR HO265) (Kd.R_base ho0) hb); have n4_ := Aside0.mk (Kd.R_elder' (tR HO273) (Kd.R_base ho0) hb); have n5_ := Aside0.mk (Kd.R_lower (Kd.R_new' (Kd.R_new' (Kd.R_new' (Kd.R_new' (Kd.R_new' ho0 (Kd.R_lt (tR HO249))) (Kd.R_lt (tR HO253))) (Kd.R_lt (tR HO260))) (Kd.R_lt (tR HO265))) (Kd.R_lt (tR HO273))) (below_size tB)); have n6_ := Aside0.mk (blk_below (g := gb244) (o := .cells #[.int .i64 a0_0, .slice A0_1 l0_1.length c0_1] 31 (0, 0)) (tK BK244) hb); have n7_ := Aside0.mk (blk_below (g := gb256) (o := .cells #[.int .i64 t250, .slice Ao47 t251.length co47] 35 (0, 0)) (tK BK256) hb); have n8_ := Aside0.mk (blk_below (g := gb261) (o := .cells #[.int .i64 t257, .slice Ao54 t258.length co54] 35 (0, 0)) (tK BK261) hb); have n9_ := Aside0.mk (blk_below (g := gb268) (o := .cells #[.int .i64 t262, .slice Ao61 t263.length co61] 35 (0, 0)) (tK BK268) hb); have n10_ := Aside0.mk (below_step tB hb); clear HO249; clear HO253; clear HO260; clear HO265; clear HO273; clear BK244; clear BK256; clear BK261; clear BK268; clear HB; have HO249 := n0_; have HO253 := n1_; have HO260 := n2_; have HO265 := n3_; have HO273 := n4_; have HO284 := n5_; have BK244 := n6_; have BK256 := n7_; have BK261 := n8_; have BK268 := n9_; have HB := n10_; clear n0_ n1_ n2_ n3_ n4_ n5_ n6_ n7_ n8_ n9_ n10_; (try clear hb); (try clear hb2); (try clear hk); (try clear hi); (try clear ho0); obtain ⟨Ao79, co79, eo79⟩ := Kd.R_slice HO284.out; subst eo79) | ((with_reducible refine gate_callee (f := 23) rfl ?_); refine goesL_ (some 101) rfl rfl Try.func23 (by kernel_rfl) rfl #[.agg #[.int .i64 t281, .slice Ao79 t282.length co79], .int .i64 a1, .int .i64 a2] rfl tL ?_; (with_reducible refine (impl_CompleteClaim.calls k t281 _ _ t282 a1 a2 t285 t286 t289 t290 _ ?side1 ?side2 A29.out).mono ?_); (case side1 => repeat (first | exact (Kd.R_reads' HO284.out).2.2 | (with_reducible refine Kd.C_alloc ?_ _) | (with_reducible refine Kd.C_drewN ?_ _) | (with_reducible refine Kd.C_drew ?_))); (case side2 => exact (Kd.R_reads' HO284.out).2.1); rintro e w80 ⟨v287, rfl, ho0, hb⟩; refine ⟨_, rfl, ?_⟩; have n0_ := Aside0.mk (Kd.R_elder' (tR HO249) (Kd.R_base ho0) hb); have n1_ := Aside0.mk (Kd.R_elder' (tR HO253) (Kd.R_base ho0) hb); have n2_ := Aside0.mk (Kd.R_elder' (tR HO260) (Kd.R_base ho0) hb); have n3_ := Aside0.mk (Kd.R_elder' (tR HO265) (Kd.R_base ho0) hb); have n4_ := Aside0.mk (Kd.R_elder' (tR HO273) (Kd.R_base ho0) hb); have n5_ := Aside0.mk (Kd.R_elder' (tR HO284) (Kd.R_base ho0) hb); have n6_ := Aside0.mk (Kd.R_lower (Kd.R_new' (Kd.R_new' (Kd.R_new' (Kd.R_new' (Kd.R_new' (Kd.R_new' ho0 (Kd.R_lt (tR HO249))) (Kd.R_lt (tR HO253))) (Kd.R_lt (tR HO260))) (Kd.R_lt (tR HO265))) (Kd.R_lt (tR HO273))) (Kd.R_lt (tR HO284))) (below_size tB)); have n7_ := Aside0.mk (blk_below (g := gb244) (o := .cells #[.int .i64 a0_0, .slice A0_1 l0_1.length c0_1] 31 (0, 0)) (tK BK244) hb); have n8_ := Aside0.mk (blk_below (g := gb256) (o := .cells #[.int .i64 t250, .slice Ao47 t251.length co47] 35 (0, 0)) (tK BK256) hb); have n9_ := Aside0.mk (blk_below (g := gb261) (o := .cells #[.int .i64 t257, .slice Ao54 t258.length co54] 35 (0, 0)) (tK BK261) hb); have n10_ := Aside0.mk (blk_below (g := gb268) (o := .cells #[.int .i64 t262, .slice Ao61 t263.length co61] 35 (0, 0)) (tK BK268) hb); have n11_ := Aside0.mk (below_step tB hb); clear HO249; clear HO253; clear HO260; clear HO265; clear HO273; clear HO284; clear BK244; clear BK256; clear BK261; clear BK268; clear HB; have HO249 := n0_; have HO253 := n1_; have HO260 := n2_; have HO265 := n3_; have HO273 := n4_; have HO284 := n5_; have HO288 := n6_; have BK244 := n7_; have BK256 := n8_; have BK261 := n9_; have BK268 := n10_; have HB := n11_; clear n0_ n1_ n2_ n3_ n4_ n5_ n6_ n7_ n8_ n9_ n10_ n11_; (try clear hb); (try clear hb2); (try clear hk); (try clear hi); (try clear ho0)) | ((with_reducible refine gate_dst (N := 18) rfl ?_); refine box_event ?hg (N := 18) ?hd (cs := #[.int .i64 0, .slice none 0 0]) (t := 35) ?hr ?_; (case hd => rfl); (case hg => rfl); (case hr => exact tG); intro gb291 hg w81 hbox hb; have n0_ := Aside0.mk (Kd.R_below (tR HO249) hb); have n1_ := Aside0.mk (Kd.R_below (tR HO253) hb); have n2_ := Aside0.mk (Kd.R_below (tR HO260) hb); have n3_ := Aside0.mk (Kd.R_below (tR HO265) hb); have n4_ := Aside0.mk (Kd.R_below (tR HO273) hb); have n5_ := Aside0.mk (Kd.R_below (tR HO284) hb); have n6_ := Aside0.mk (Kd.R_below (tR HO288) hb); have n7_ := Aside0.mk (blk_below (g := gb244) (o := .cells #[.int .i64 a0_0, .slice A0_1 l0_1.length c0_1] 31 (0, 0)) (tK BK244) hb); have n8_ := Aside0.mk (blk_below (g := gb256) (o := .cells #[.int .i64 t250, .slice Ao47 t251.length co47] 35 (0, 0)) (tK BK256) hb); have n9_ := Aside0.mk (blk_below (g := gb261) (o := .cells #[.int .i64 t257, .slice Ao54 t258.length co54] 35 (0, 0)) (tK BK261) hb); have n10_ := Aside0.mk (blk_below (g := gb268) (o := .cells #[.int .i64 t262, .slice Ao61 t263.length co61] 35 (0, 0)) (tK BK268) hb); have n11_ := Aside0.mk (below_step tB hb); have n12_ := Aside0.mk (hbox); have n13_ := Aside0.mk ((by rw [hg]; exact (below_size tB) : w.heap.size ≤ gb291)); have n14_ := Aside0.mk ((by rw [hg]; exact (below_size tB) : w.heap.size ≤ gb291)); have n15_ := Aside0.mk ((by rw [hg]; exact Nat.ne_of_lt (blk_lt (g := gb244) (o := .cells #[.int .i64 a0_0, .slice A0_1 l0_1.length c0_1] 31 (0, 0)) (tK BK244)) : gb244 ≠ gb291)); have n16_ := Aside0.mk ((by rw [hg]; exact Nat.ne_of_gt (blk_lt (g := gb244) (o := .cells #[.int .i64 a0_0, .slice A0_1 l0_1.length c0_1] 31 (0, 0)) (tK BK244)) : gb291 ≠ gb244)); have n17_ := Aside0.mk ((by rw [hg]; exact Nat.ne_of_lt (blk_lt (g := gb256) (o := .cells #[.int .i64 t250, .slice Ao47 t251.length co47] 35 (0, 0)) (tK BK256)) : gb256 ≠ gb291)); have n18_ := Aside0.mk ((by rw [hg]; exact Nat.ne_of_gt (blk_lt (g := gb256) (o := .cells #[.int .i64 t250, .slice Ao47 t251.length co47] 35 (0, 0)) (tK BK256)) : gb291 ≠ gb256)); have n19_ := Aside0.mk ((by rw [hg]; exact Nat.ne_of_lt (blk_lt (g := gb261) (o := .cells #[.int .i64 t257, .slice Ao54 t258.length co54] 35 (0, 0)) (tK BK261)) : gb261 ≠ gb291)); have n20_ := Aside0.mk ((by rw [hg]; exact Nat.ne_of_gt (blk_lt (g := gb261) (o := .cells #[.int .i64 t257, .slice Ao54 t258.length co54] 35 (0, 0)) (tK BK261)) : gb291 ≠ gb261)); have n21_ := Aside0.mk ((by rw [hg]; exact Nat.ne_of_lt (blk_lt (g := gb268) (o := .cells #[.int .i64 t262, .slice Ao61 t263.length co61] 35 (0, 0)) (tK BK268)) : gb268 ≠ gb291)); have n22_ := Aside0.mk ((by rw [hg]; exact Nat.ne_of_gt (blk_lt (g := gb268) (o := .cells #[.int .i64 t262, .slice Ao61 t263.length co61] 35 (0, 0)) (tK BK268)) : gb291 ≠ gb268)); clear HO249; clear HO253; clear HO260; clear HO265; clear HO273; clear HO284; clear HO288; clear BK244; clear BK256; clear BK261; clear BK268; clear HB; have HO249 := n0_; have HO253 := n1_; have HO260 := n2_; have HO265 := n3_; have HO273 := n4_; have HO284 := n5_; have HO288 := n6_; have BK244 := n7_; have BK256 := n8_; have BK261 := n9_; have BK268 := n10_; have HB := n11_; have BK291 := n12_; have GW291 := n13_; have GE291 := n14_; have NB244_291 := n15_; have NB291_244 := n16_; have NB256_291 := n17_; have NB291_256 := n18_; have NB261_291 := n19_; have NB291_261 := n20_; have NB268_291 := n21_; have NB291_268 := n22_; clear n0_ n1_ n2_ n3_ n4_ n5_ n6_ n7_ n8_ n9_ n10_ n11_ n12_ n13_ n14_ n15_ n16_ n17_ n18_ n19_ n20_ n21_ n22_; clear hb hbox hg; have hnb82 := NB291_244.out; have hnc82 := NB244_291.out; have hnb83 := NB291_256.out; have hnc83 := NB256_291.out; have hnb84 := NB291_261.out; have hnc84 := NB261_291.out; have hnb85 := NB291_268.out; have hnc85 := NB268_291.out; obtain ⟨hcz86_0, hcz86_1, hfz86_0, hfz86_1⟩ := bc2 BK291.out; obtain ⟨Ao87, co87, eo87⟩ := Kd.R_slice HO288.out; subst eo87; obtain ⟨hcz88_0, hcz88_1, hfz88_0, hfz88_1⟩ := bc2 BK256.out) | ((with_reducible refine gate_callee (f := 24) rfl ?_); refine goesL_ (some 107) rfl rfl Try.func24 (by kernel_rfl) rfl #[.agg #[.int .i64 t285, .slice Ao87 t286.length co87], .agg #[.int .i64 t250, .slice Ao47 t251.length co47]] rfl tL ?_; (with_reducible refine (laws_eqClaimList.calls k t285 _ _ t286 t250 _ _ t251 true _ ?side1 ?side2 ?side3 ?side4 A30.out).mono ?_); (case side1 => refine (Kd.R_reads' (e := 104) (base := w.heap.size) (ok := fun k_ => ((((((True ∧ some k_ ≠ (.slice Ao42 t247.length co42 : Value).ownBlock) ∧ some k_ ≠ (.slice Ao47 t251.length co47 : Value).ownBlock) ∧ some k_ ≠ (.slice Ao54 t258.length co54 : Value).ownBlock) ∧ some k_ ≠ (.slice Ao61 t263.length co61 : Value).ownBlock) ∧ some k_ ≠ (.slice Ao66 t271.length co66 : Value).ownBlock) ∧ some k_ ≠ (.slice Ao79 t282.length co79 : Value).ownBlock)) (n := t286.length) (c := co87) ?_).2.2; exact (by (with_reducible repeat (first | apply Kd.R_alloc | apply Kd.R_drewN | apply Kd.R_drew)); exact (Kd.R_mono (Kd.R_far (p := ⟨gb291, 1, none⟩) (Kd.R_far (p := ⟨gb291, 0, none⟩) (Kd.R_types HO288.out BK291.out (by decide)) (fun _ hk => hk.2) (.int .i64 t285)) (fun _ hk => hk.2) (.slice Ao87 t286.length co87)) (fun _ h_ => h_.1)))); (case side2 => exact (Kd.R_reads' HO288.out).2.1); (case side3 => refine (Kd.R_reads' (e := 104) (base := w.heap.size) (ok := fun k_ => (((some k_ ≠ (.slice Ao42 t247.length co42 : Value).ownBlock ∧ (some k_ ≠ (.slice Ao54 t258.length co54 : Value).ownBlock ∧ (some k_ ≠ (.slice Ao61 t263.length co61 : Value).ownBlock ∧ some k_ ≠ (.slice Ao66 t271.length co66 : Value).ownBlock))) ∧ some k_ ≠ (.slice Ao79 t282.length co79 : Value).ownBlock) ∧ some k_ ≠ (.slice Ao87 t286.length co87 : Value).ownBlock)) (n := t251.length) (c := co47) ?_).2.2; exact (by (with_reducible repeat (first | apply Kd.R_alloc | apply Kd.R_drewN | apply Kd.R_drew)); exact (Kd.R_mono (Kd.R_far (p := ⟨gb291, 1, none⟩) (Kd.R_far (p := ⟨gb291, 0, none⟩) (Kd.R_types HO253.out BK291.out (by decide)) (fun _ hk => hk.2) (.int .i64 t285)) (fun _ hk => hk.2) (.slice Ao87 t286.length co87)) (fun _ h_ => h_.1)))); (case side4 => exact (Kd.R_reads' HO253.out).2.1); rintro e w89 ⟨rfl, hb⟩; refine ⟨_, rfl, ?_⟩; have n0_ := Aside0.mk (Kd.R_below (by (with_reducible repeat (first | apply Kd.R_alloc | apply Kd.R_drewN | apply Kd.R_drew)); exact (Kd.R_mono (Kd.R_far (p := ⟨gb291, 1, none⟩) (Kd.R_far (p := ⟨gb291, 0, none⟩) (Kd.R_types HO249.out BK291.out (by decide)) (fun _ hk => hk.2) (.int .i64 t285)) (fun _ hk => hk.2) (.slice Ao87 t286.length co87)) (fun _ h_ => h_.1))) hb); have n1_ := Aside0.mk (Kd.R_below (by (with_reducible repeat (first | apply Kd.R_alloc | apply Kd.R_drewN | apply Kd.R_drew)); exact (Kd.R_mono (Kd.R_far (p := ⟨gb291, 1, none⟩) (Kd.R_far (p := ⟨gb291, 0, none⟩) (Kd.R_types HO253.out BK291.out (by decide)) (fun _ hk => hk.2) (.int .i64 t285)) (fun _ hk => hk.2) (.slice Ao87 t286.length co87)) (fun _ h_ => h_.1))) hb); have n2_ := Aside0.mk (Kd.R_below (by (with_reducible repeat (first | apply Kd.R_alloc | apply Kd.R_drewN | apply Kd.R_drew)); exact (Kd.R_mono (Kd.R_far (p := ⟨gb291, 1, none⟩) (Kd.R_far (p := ⟨gb291, 0, none⟩) (Kd.R_types HO260.out BK291.out (by decide)) (fun _ hk => hk.2) (.int .i64 t285)) (fun _ hk => hk.2) (.slice Ao87 t286.length co87)) (fun _ h_ => h_.1))) hb); have n3_ := Aside0.mk (Kd.R_below (by (with_reducible repeat (first | apply Kd.R_alloc | apply Kd.R_drewN | apply Kd.R_drew)); exact (Kd.R_mono (Kd.R_far (p := ⟨gb291, 1, none⟩) (Kd.R_far (p := ⟨gb291, 0, none⟩) (Kd.R_types HO265.out BK291.out (by decide)) (fun _ hk => hk.2) (.int .i64 t285)) (fun _ hk => hk.2) (.slice Ao87 t286.length co87)) (fun _ h_ => h_.1))) hb); have n4_ := Aside0.mk (Kd.R_below (by (with_reducible repeat (first | apply Kd.R_alloc | apply Kd.R_drewN | apply Kd.R_drew)); exact (Kd.R_mono (Kd.R_far (p := ⟨gb291, 1, none⟩) (Kd.R_far (p := ⟨gb291, 0, none⟩) (Kd.R_types HO273.out BK291.out (by decide)) (fun _ hk => hk.2) (.int .i64 t285)) (fun _ hk => hk.2) (.slice Ao87 t286.length co87)) (fun _ h_ => h_.1))) hb); have n5_ := Aside0.mk (Kd.R_below (by (with_reducible repeat (first | apply Kd.R_alloc | apply Kd.R_drewN | apply Kd.R_drew)); exact (Kd.R_mono (Kd.R_far (p := ⟨gb291, 1, none⟩) (Kd.R_far (p := ⟨gb291, 0, none⟩) (Kd.R_types HO284.out BK291.out (by decide)) (fun _ hk => hk.2) (.int .i64 t285)) (fun _ hk => hk.2) (.slice Ao87 t286.length co87)) (fun _ h_ => h_.1))) hb); have n6_ := Aside0.mk (Kd.R_below (by (with_reducible repeat (first | apply Kd.R_alloc | apply Kd.R_drewN | apply Kd.R_drew)); exact (Kd.R_mono (Kd.R_far (p := ⟨gb291, 1, none⟩) (Kd.R_far (p := ⟨gb291, 0, none⟩) (Kd.R_types HO288.out BK291.out (by decide)) (fun _ hk => hk.2) (.int .i64 t285)) (fun _ hk => hk.2) (.slice Ao87 t286.length co87)) (fun _ h_ => h_.1))) hb); have n7_ := Aside0.mk (blk_below (g := gb244) (o := .cells #[.int .i64 a0_0, .slice A0_1 l0_1.length c0_1] 31 (0, 0)) (by (with_reducible repeat (first | refine blk_drewN ?_ _ | refine blk_drew ?_ | refine blk_alloc ?_ _)); refine blk_far ?_ NB244_291.out _; (with_reducible repeat (first | refine blk_drewN ?_ _ | refine blk_drew ?_ | refine blk_alloc ?_ _)); refine blk_far ?_ NB244_291.out _; (with_reducible repeat (first | refine blk_drewN ?_ _ | refine blk_drew ?_ | refine blk_alloc ?_ _)); exact BK244.out) hb); have n8_ := Aside0.mk (blk_below (g := gb256) (o := .cells #[.int .i64 t250, .slice Ao47 t251.length co47] 35 (0, 0)) (by (with_reducible repeat (first | refine blk_drewN ?_ _ | refine blk_drew ?_ | refine blk_alloc ?_ _)); refine blk_far ?_ NB256_291.out _; (with_reducible repeat (first | refine blk_drewN ?_ _ | refine blk_drew ?_ | refine blk_alloc ?_ _)); refine blk_far ?_ NB256_291.out _; (with_reducible repeat (first | refine blk_drewN ?_ _ | refine blk_drew ?_ | refine blk_alloc ?_ _)); exact BK256.out) hb); have n9_ := Aside0.mk (blk_below (g := gb261) (o := .cells #[.int .i64 t257, .slice Ao54 t258.length co54] 35 (0, 0)) (by (with_reducible repeat (first | refine blk_drewN ?_ _ | refine blk_drew ?_ | refine blk_alloc ?_ _)); refine blk_far ?_ NB261_291.out _; (with_reducible repeat (first | refine blk_drewN ?_ _ | refine blk_drew ?_ | refine blk_alloc ?_ _)); refine blk_far ?_ NB261_291.out _; (with_reducible repeat (first | refine blk_drewN ?_ _ | refine blk_drew ?_ | refine blk_alloc ?_ _)); exact BK261.out) hb); have n10_ := Aside0.mk (blk_below (g := gb268) (o := .cells #[.int .i64 t262, .slice Ao61 t263.length co61] 35 (0, 0)) (by (with_reducible repeat (first | refine blk_drewN ?_ _ | refine blk_drew ?_ | refine blk_alloc ?_ _)); refine blk_far ?_ NB268_291.out _; (with_reducible repeat (first | refine blk_drewN ?_ _ | refine blk_drew ?_ | refine blk_alloc ?_ _)); refine blk_far ?_ NB268_291.out _; (with_reducible repeat (first | refine blk_drewN ?_ _ | refine blk_drew ?_ | refine blk_alloc ?_ _)); exact BK268.out) hb); have n11_ := Aside0.mk (blk_below (g := gb291) (o := .cells #[.int .i64 t285, .slice Ao87 t286.length co87] 35 (0, 0)) (by (with_reducible repeat (first | refine blk_drewN ?_ _ | refine blk_drew ?_ | refine blk_alloc ?_ _)); refine blk_put (cs := #[.int .i64 t285, .slice none 0 0]) ?_ 1 _ rfl; (with_reducible repeat (first | refine blk_drewN ?_ _ | refine blk_drew ?_ | refine blk_alloc ?_ _)); refine blk_put (cs := #[.int .i64 0, .slice none 0 0]) ?_ 0 _ rfl; (with_reducible repeat (first | refine blk_drewN ?_ _ | refine blk_drew ?_ | refine blk_alloc ?_ _)); exact BK291.out) hb); have n12_ := Aside0.mk (below_step tB hb); clear HO249; clear HO253; clear HO260; clear HO265; clear HO273; clear HO284; clear HO288; clear BK244; clear BK256; clear BK261; clear BK268; clear BK291; clear HB; have HO249 := n0_; have HO253 := n1_; have HO260 := n2_; have HO265 := n3_; have HO273 := n4_; have HO284 := n5_; have HO288 := n6_; have BK244 := n7_; have BK256 := n8_; have BK261 := n9_; have BK268 := n10_; have BK291 := n11_; have HB := n12_; clear n0_ n1_ n2_ n3_ n4_ n5_ n6_ n7_ n8_ n9_ n10_ n11_ n12_; (try clear hb); (try clear hb2); (try clear hk); (try clear hi); obtain ⟨hcz90_0, hcz90_1, hfz90_0, hfz90_1⟩ := bc2 BK268.out) | ((with_reducible refine gate_callee (f := 26) rfl ?_); refine goesL_ (some 121) rfl rfl Try.func26 (by kernel_rfl) rfl #[.agg #[.int .i64 t262, .slice Ao61 t279.length co61], .int .i64 1] rfl (by (try simp only [List.map_toArray, List.map_cons, List.map_nil]); first | done | (rw [show t279.length = t263.length from (Kd.R_reads' HO265.out).1.symm] <;> rfl) | rfl | (simp only [List.length_drop, List.length_take]; rfl)) ?_; (with_reducible refine (laws_heldClaimList.calls k t262 _ _ t279 1 t293 _ ?side1 ?side2 A34.out).mono ?_); (case side1 => repeat (first | exact (Kd.R_reads' HO265.out).2.2 | (with_reducible refine Kd.C_alloc ?_ _) | (with_reducible refine Kd.C_drewN ?_ _) | (with_reducible refine Kd.C_drew ?_))); (case side2 => rw [show t279.length = t263.length from (Kd.R_reads' HO265.out).1.symm]; exact (Kd.R_reads' HO265.out).2.1); rintro e w91 ⟨rfl, hb⟩; refine ⟨_, rfl, ?_⟩; have n0_ := Aside0.mk (Kd.R_below (tR HO249) hb); have n1_ := Aside0.mk (Kd.R_below (tR HO253) hb); have n2_ := Aside0.mk (Kd.R_below (tR HO260) hb); have n3_ := Aside0.mk (Kd.R_below (tR HO265) hb); have n4_ := Aside0.mk (Kd.R_below (tR HO273) hb); have n5_ := Aside0.mk (Kd.R_below (tR HO284) hb); have n6_ := Aside0.mk (Kd.R_below (tR HO288) hb); have n7_ := Aside0.mk (blk_below (g := gb244) (o := .cells #[.int .i64 a0_0, .slice A0_1 l0_1.length c0_1] 31 (0, 0)) (tK BK244) hb); have n8_ := Aside0.mk (blk_below (g := gb256) (o := .cells #[.int .i64 t250, .slice Ao47 t251.length co47] 35 (0, 0)) (tK BK256) hb); have n9_ := Aside0.mk (blk_below (g := gb261) (o := .cells #[.int .i64 t257, .slice Ao54 t258.length co54] 35 (0, 0)) (tK BK261) hb); have n10_ := Aside0.mk (blk_below (g := gb268) (o := .cells #[.int .i64 t262, .slice Ao61 t263.length co61] 35 (0, 0)) (tK BK268) hb); have n11_ := Aside0.mk (blk_below (g := gb291) (o := .cells #[.int .i64 t285, .slice Ao87 t286.length co87] 35 (0, 0)) (tK BK291) hb); have n12_ := Aside0.mk (below_step tB hb); clear HO249; clear HO253; clear HO260; clear HO265; clear HO273; clear HO284; clear HO288; clear BK244; clear BK256; clear BK261; clear BK268; clear BK291; clear HB; have HO249 := n0_; have HO253 := n1_; have HO260 := n2_; have HO265 := n3_; have HO273 := n4_; have HO284 := n5_; have HO288 := n6_; have BK244 := n7_; have BK256 := n8_; have BK261 := n9_; have BK268 := n10_; have BK291 := n11_; have HB := n12_; clear n0_ n1_ n2_ n3_ n4_ n5_ n6_ n7_ n8_ n9_ n10_ n11_ n12_; (try clear hb); (try clear hb2); (try clear hk); (try clear hi)))
               go_ret
               exact ⟨tE, tB⟩
              ·rw [if_neg c36] at H
               have c36b0 : (t293 == t278) = false := beq_eq_false_iff_ne.mpr c36
               have c36b1 : (t293 != t278) = true := bne_iff_ne.mpr c36
               exact absurd ((Option.some.inj H).trans hT_) (by decide)
           ·rw [if_neg c32] at H
            have c32b0 : (t289 == t254) = false := beq_eq_false_iff_ne.mpr c32
            have c32b1 : (t289 != t254) = true := bne_iff_ne.mpr c32
            exact absurd ((Option.some.inj H).trans hT_) (by decide)
          ·replace c31 := Bool.eq_false_iff.mpr c31
           subst c31
           have H1 : (some false) = some r := by rw [if_neg (show ¬ (false = true) by decide)] at H; exact H
           clear H
           have H := H1
           clear H1
           exact absurd ((Option.some.inj H).trans hT_) (by decide)
         ·rw [if_neg c27] at H
          have c27b0 : (t280 == t278) = false := beq_eq_false_iff_ne.mpr c27
          have c27b1 : (t280 != t278) = true := bne_iff_ne.mpr c27
          exact absurd ((Option.some.inj H).trans hT_) (by decide)
       ·replace c23 := Bool.eq_false_iff.mpr c23
        subst c23
        have H1 : (some false) = some r := by rw [if_neg (show ¬ (false = true) by decide)] at H; exact H
        clear H
        have H := H1
        clear H1
        exact absurd ((Option.some.inj H).trans hT_) (by decide)
     ·replace c19 := Bool.eq_false_iff.mpr c19
      subst c19
      have H1 : (some false) = some r := by rw [if_neg (show ¬ (false = true) by decide)] at H; exact H
      clear H
      have H := H1
      clear H1
      exact absurd ((Option.some.inj H).trans hT_) (by decide)
   ·rw [if_neg c15] at H
    have c15b0 : (t266 == t254) = false := beq_eq_false_iff_ne.mpr c15
    have c15b1 : (t266 != t254) = true := bne_iff_ne.mpr c15
    exact absurd ((Option.some.inj H).trans hT_) (by decide)
  ·replace c14 := Bool.eq_false_iff.mpr c14
   subst c14
   have H1 : (some false) = some r := by rw [if_neg (show ¬ (false = true) by decide)] at H; exact H
   clear H
   have H := H1
   clear H1
   exact absurd ((Option.some.inj H).trans hT_) (by decide)

end Go.Proofs.Ytjggdakbphjomaa.ZFnExactCompleteClaim
