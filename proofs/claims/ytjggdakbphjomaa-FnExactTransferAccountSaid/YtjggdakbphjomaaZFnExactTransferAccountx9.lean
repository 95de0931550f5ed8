/- The machine side: for each Go function a Lean function and the contract that the Go code answers as it does; printed by program (wip/tmpl/pprint.sh). -/
import Derived.Test.YtjggdakbphjomaaZFnExactTransferAccountx0
import Derived.Test.YtjggdakbphjomaaZFnExactTransferAccountx1
import Derived.Test.YtjggdakbphjomaaZFnExactTransferAccountx4
import Derived.Test.YtjggdakbphjomaaZFnExactTransferAccountx8
namespace Go.Proofs.Ytjggdakbphjomaa.ZFnExactTransferAccount
open Go.RowKit Go.Proofs.YtjggdakbphjomaaW.PrintWords Go.Proofs.YtjggdakbphjomaaW.PrintLast Go.Proofs.YtjggdakbphjomaaW.PrintMore
attribute [local go_sem] max2_int min2_int max_two min_two max_three min_three max_four min_four   -- for this text's walks alone
set_option linter.unusedVariables false
set_option linter.unusedSimpArgs false

theorem tN9 {P : Prop} (h : P := by intro k_ hk_ hs_; first | exact hk_ hs_ | exact hk_.1 hs_ | exact hk_.2 hs_ | exact hk_.1.1 hs_ | exact hk_.1.2 hs_ | exact hk_.2.1 hs_ | exact hk_.2.2 hs_ | exact hk_.1.1.1 hs_ | exact hk_.1.1.2 hs_ | exact hk_.1.2.1 hs_ | exact hk_.1.2.2 hs_ | exact hk_.2.1.1 hs_ | exact hk_.2.1.2 hs_ | exact hk_.2.2.1 hs_ | exact hk_.2.2.2 hs_ | exact hk_.1.1.1.1 hs_ | exact hk_.1.1.1.2 hs_ | exact hk_.1.1.2.1 hs_ | exact hk_.1.1.2.2 hs_ | exact hk_.1.2.1.1 hs_ | exact hk_.1.2.1.2 hs_ | exact hk_.1.2.2.1 hs_ | exact hk_.1.2.2.2 hs_ | exact hk_.2.1.1.1 hs_ | exact hk_.2.1.1.2 hs_ | exact hk_.2.1.2.1 hs_ | exact hk_.2.1.2.2 hs_ | exact hk_.2.2.1.1 hs_ | exact hk_.2.2.1.2 hs_ | exact hk_.2.2.2.1 hs_ | exact hk_.2.2.2.2 hs_ | exact hk_.1.1.1.1.1 hs_ | exact hk_.1.1.1.1.2 hs_ | exact hk_.1.1.1.2.1 hs_ | exact hk_.1.1.1.2.2 hs_ | exact hk_.1.1.2.1.1 hs_ | exact hk_.1.1.2.1.2 hs_ | exact hk_.1.1.2.2.1 hs_ | exact hk_.1.1.2.2.2 hs_ | exact hk_.1.2.1.1.1 hs_ | exact hk_.1.2.1.1.2 hs_ | exact hk_.1.2.1.2.1 hs_ | exact hk_.1.2.1.2.2 hs_ | exact hk_.1.2.2.1.1 hs_ | exact hk_.1.2.2.1.2 hs_ | exact hk_.1.2.2.2.1 hs_ | exact hk_.1.2.2.2.2 hs_ | exact hk_.2.1.1.1.1 hs_ | exact hk_.2.1.1.1.2 hs_ | exact hk_.2.1.1.2.1 hs_ | exact hk_.2.1.1.2.2 hs_ | exact hk_.2.1.2.1.1 hs_ | exact hk_.2.1.2.1.2 hs_ | exact hk_.2.1.2.2.1 hs_ | exact hk_.2.1.2.2.2 hs_ | exact hk_.2.2.1.1.1 hs_ | exact hk_.2.2.1.1.2 hs_ | exact hk_.2.2.1.2.1 hs_ | exact hk_.2.2.1.2.2 hs_ | exact hk_.2.2.2.1.1 hs_ | exact hk_.2.2.2.1.2 hs_ | exact hk_.2.2.2.2.1 hs_ | exact hk_.2.2.2.2.2 hs_ | exact hk_.1.1.1.1.1.1 hs_ | exact hk_.1.1.1.1.1.2 hs_ | exact hk_.1.1.1.1.2.1 hs_ | exact hk_.1.1.1.1.2.2 hs_ | exact hk_.1.1.1.2.1.1 hs_ | exact hk_.1.1.1.2.1.2 hs_ | exact hk_.1.1.1.2.2.1 hs_ | exact hk_.1.1.1.2.2.2 hs_ | exact hk_.1.1.2.1.1.1 hs_ | exact hk_.1.1.2.1.1.2 hs_ | exact hk_.1.1.2.1.2.1 hs_ | exact hk_.1.1.2.1.2.2 hs_ | exact hk_.1.1.2.2.1.1 hs_ | exact hk_.1.1.2.2.1.2 hs_ | exact hk_.1.1.2.2.2.1 hs_ | exact hk_.1.1.2.2.2.2 hs_ | exact hk_.1.2.1.1.1.1 hs_ | exact hk_.1.2.1.1.1.2 hs_ | exact hk_.1.2.1.1.2.1 hs_ | exact hk_.1.2.1.1.2.2 hs_ | exact hk_.1.2.1.2.1.1 hs_ | exact hk_.1.2.1.2.1.2 hs_ | exact hk_.1.2.1.2.2.1 hs_ | exact hk_.1.2.1.2.2.2 hs_ | exact hk_.1.2.2.1.1.1 hs_ | exact hk_.1.2.2.1.1.2 hs_ | exact hk_.1.2.2.1.2.1 hs_ | exact hk_.1.2.2.1.2.2 hs_ | exact hk_.1.2.2.2.1.1 hs_ | exact hk_.1.2.2.2.1.2 hs_ | exact hk_.1.2.2.2.2.1 hs_ | exact hk_.1.2.2.2.2.2 hs_ | exact hk_.2.1.1.1.1.1 hs_ | exact hk_.2.1.1.1.1.2 hs_ | exact hk_.2.1.1.1.2.1 hs_ | exact hk_.2.1.1.1.2.2 hs_ | exact hk_.2.1.1.2.1.1 hs_ | exact hk_.2.1.1.2.1.2 hs_ | exact hk_.2.1.1.2.2.1 hs_ | exact hk_.2.1.1.2.2.2 hs_ | exact hk_.2.1.2.1.1.1 hs_ | exact hk_.2.1.2.1.1.2 hs_ | exact hk_.2.1.2.1.2.1 hs_ | exact hk_.2.1.2.1.2.2 hs_ | exact hk_.2.1.2.2.1.1 hs_ | exact hk_.2.1.2.2.1.2 hs_ | exact hk_.2.1.2.2.2.1 hs_ | exact hk_.2.1.2.2.2.2 hs_ | exact hk_.2.2.1.1.1.1 hs_ | exact hk_.2.2.1.1.1.2 hs_ | exact hk_.2.2.1.1.2.1 hs_ | exact hk_.2.2.1.1.2.2 hs_ | exact hk_.2.2.1.2.1.1 hs_ | exact hk_.2.2.1.2.1.2 hs_ | exact hk_.2.2.1.2.2.1 hs_ | exact hk_.2.2.1.2.2.2 hs_ | exact hk_.2.2.2.1.1.1 hs_ | exact hk_.2.2.2.1.1.2 hs_ | exact hk_.2.2.2.1.2.1 hs_ | exact hk_.2.2.2.1.2.2 hs_ | exact hk_.2.2.2.2.1.1 hs_ | exact hk_.2.2.2.2.1.2 hs_ | exact hk_.2.2.2.2.2.1 hs_ | exact hk_.2.2.2.2.2.2 hs_) : P := h
theorem tP9 {P : Prop} (h : P := by intro k_ hk_; (repeat' (first | exact True.intro | (with_reducible refine And.intro ?_ ?_))); all_goals (first | exact hk_ | exact hk_.1 | exact hk_.2 | exact hk_.1.1 | exact hk_.1.2 | exact hk_.2.1 | exact hk_.2.2 | exact hk_.1.1.1 | exact hk_.1.1.2 | exact hk_.1.2.1 | exact hk_.1.2.2 | exact hk_.2.1.1 | exact hk_.2.1.2 | exact hk_.2.2.1 | exact hk_.2.2.2 | exact hk_.1.1.1.1 | exact hk_.1.1.1.2 | exact hk_.1.1.2.1 | exact hk_.1.1.2.2 | exact hk_.1.2.1.1 | exact hk_.1.2.1.2 | exact hk_.1.2.2.1 | exact hk_.1.2.2.2 | exact hk_.2.1.1.1 | exact hk_.2.1.1.2 | exact hk_.2.1.2.1 | exact hk_.2.1.2.2 | exact hk_.2.2.1.1 | exact hk_.2.2.1.2 | exact hk_.2.2.2.1 | exact hk_.2.2.2.2 | exact hk_.1.1.1.1.1 | exact hk_.1.1.1.1.2 | exact hk_.1.1.1.2.1 | exact hk_.1.1.1.2.2 | exact hk_.1.1.2.1.1 | exact hk_.1.1.2.1.2 | exact hk_.1.1.2.2.1 | exact hk_.1.1.2.2.2 | exact hk_.1.2.1.1.1 | exact hk_.1.2.1.1.2 | exact hk_.1.2.1.2.1 | exact hk_.1.2.1.2.2 | exact hk_.1.2.2.1.1 | exact hk_.1.2.2.1.2 | exact hk_.1.2.2.2.1 | exact hk_.1.2.2.2.2 | exact hk_.2.1.1.1.1 | exact hk_.2.1.1.1.2 | exact hk_.2.1.1.2.1 | exact hk_.2.1.1.2.2 | exact hk_.2.1.2.1.1 | exact hk_.2.1.2.1.2 | exact hk_.2.1.2.2.1 | exact hk_.2.1.2.2.2 | exact hk_.2.2.1.1.1 | exact hk_.2.2.1.1.2 | exact hk_.2.2.1.2.1 | exact hk_.2.2.1.2.2 | exact hk_.2.2.2.1.1 | exact hk_.2.2.2.1.2 | exact hk_.2.2.2.2.1 | exact hk_.2.2.2.2.2 | exact hk_.1.1.1.1.1.1 | exact hk_.1.1.1.1.1.2 | exact hk_.1.1.1.1.2.1 | exact hk_.1.1.1.1.2.2 | exact hk_.1.1.1.2.1.1 | exact hk_.1.1.1.2.1.2 | exact hk_.1.1.1.2.2.1 | exact hk_.1.1.1.2.2.2 | exact hk_.1.1.2.1.1.1 | exact hk_.1.1.2.1.1.2 | exact hk_.1.1.2.1.2.1 | exact hk_.1.1.2.1.2.2 | exact hk_.1.1.2.2.1.1 | exact hk_.1.1.2.2.1.2 | exact hk_.1.1.2.2.2.1 | exact hk_.1.1.2.2.2.2 | exact hk_.1.2.1.1.1.1 | exact hk_.1.2.1.1.1.2 | exact hk_.1.2.1.1.2.1 | exact hk_.1.2.1.1.2.2 | exact hk_.1.2.1.2.1.1 | exact hk_.1.2.1.2.1.2 | exact hk_.1.2.1.2.2.1 | exact hk_.1.2.1.2.2.2 | exact hk_.1.2.2.1.1.1 | exact hk_.1.2.2.1.1.2 | exact hk_.1.2.2.1.2.1 | exact hk_.1.2.2.1.2.2 | exact hk_.1.2.2.2.1.1 | exact hk_.1.2.2.2.1.2 | exact hk_.1.2.2.2.2.1 | exact hk_.1.2.2.2.2.2 | exact hk_.2.1.1.1.1.1 | exact hk_.2.1.1.1.1.2 | exact hk_.2.1.1.1.2.1 | exact hk_.2.1.1.1.2.2 | exact hk_.2.1.1.2.1.1 | exact hk_.2.1.1.2.1.2 | exact hk_.2.1.1.2.2.1 | exact hk_.2.1.1.2.2.2 | exact hk_.2.1.2.1.1.1 | exact hk_.2.1.2.1.1.2 | exact hk_.2.1.2.1.2.1 | exact hk_.2.1.2.1.2.2 | exact hk_.2.1.2.2.1.1 | exact hk_.2.1.2.2.1.2 | exact hk_.2.1.2.2.2.1 | exact hk_.2.1.2.2.2.2 | exact hk_.2.2.1.1.1.1 | exact hk_.2.2.1.1.1.2 | exact hk_.2.2.1.1.2.1 | exact hk_.2.2.1.1.2.2 | exact hk_.2.2.1.2.1.1 | exact hk_.2.2.1.2.1.2 | exact hk_.2.2.1.2.2.1 | exact hk_.2.2.1.2.2.2 | exact hk_.2.2.2.1.1.1 | exact hk_.2.2.2.1.1.2 | exact hk_.2.2.2.1.2.1 | exact hk_.2.2.2.1.2.2 | exact hk_.2.2.2.2.1.1 | exact hk_.2.2.2.2.1.2 | exact hk_.2.2.2.2.2.1 | exact hk_.2.2.2.2.2.2)) : P := h
/-! ### laws_markCredentialS: function 109 -/
def laws_markCredentialS.l0 : Nat → List (S123) → Int → Int → Option (Int × (List (S123)))
 | 0, _, _, _ => none
 | k + 1, x0, x1, x5 => if x5 < (x0.length : Int) then (if 0 ≤ x5 then ((some (x0.set (x5 : Int).toNat (⟨x1, (rd_T123 x0 x5).f1, (rd_T123 x0 x5).f2, (rd_T123 x0 x5).f3⟩ : S123) : List (S123))).bind fun y325 => ((some (y325.set (x5 : Int).toNat (⟨(rd_T123 y325 x5).f0, wrap64 (x1 + 1), (rd_T123 y325 x5).f2, (rd_T123 y325 x5).f3⟩ : S123) : List (S123))).bind fun y326 => ((some (y326.set (x5 : Int).toNat (⟨(rd_T123 y326 x5).f0, (rd_T123 y326 x5).f1, wrap64 ((wrap64 (x1 + 1)) + 1), (rd_T123 y326 x5).f3⟩ : S123) : List (S123))).bind fun y327 => (laws_markCredentialS.l0 k (y327.set (x5 : Int).toNat (⟨(rd_T123 y327 x5).f0, (rd_T123 y327 x5).f1, (rd_T123 y327 x5).f2, ((Int.tmod (wrap64 ((wrap64 ((wrap64 (x1 + 1)) + 1)) + 1)) 3) == 0)⟩ : S123)) (wrap64 ((wrap64 ((wrap64 ((wrap64 (x1 + 1)) + 1)) + 1)) + 1)) (wrap64 (x5 + 1)))))) else (none)) else (some (x1, x0))
def laws_markCredentialS.f (k : Nat) (l0 : List (S123)) (a1 : Int) : Option (Int × (List (S123))) := laws_markCredentialS.l0 k l0 a1 0
theorem laws_markCredentialS.mono_l : ∀ k, (∀ y0 y1 y2, LeO (laws_markCredentialS.l0 k y0 y1 y2) (laws_markCredentialS.l0 (k + 1) y0 y1 y2))
 | 0 => fun _ _ _ r h => by simp [laws_markCredentialS.l0] at h
 | k + 1 => by
  have ih0 := laws_markCredentialS.mono_l k
  ·intro y0 y1 y2
   unfold laws_markCredentialS.l0
   repeat' first
   | (with_reducible exact ih0 _ _ _)
   | (with_reducible exact LeO.refl _)
   | (with_reducible exact LeO.none _)
   | (with_reducible refine LeO.ite ?_ ?_)
   | (with_reducible refine LeO.bind ?_ (fun _ => ?_))
   | exact ih0 _ _ _
   | exact LeO.none _
   | refine LeO.ite ?_ ?_
   | refine LeO.bind ?_ (fun _ => ?_)
theorem laws_markCredentialS.mono : ∀ a0 a1 k, LeO (laws_markCredentialS.f k a0 a1) (laws_markCredentialS.f (k + 1) a0 a1) := by
 intro a0 a1 k
 have ih0 := laws_markCredentialS.mono_l k
 unfold laws_markCredentialS.f
 repeat' first
   | (with_reducible exact ih0 _ _ _)
   | (with_reducible exact LeO.refl _)
   | (with_reducible exact LeO.none _)
   | (with_reducible refine LeO.ite ?_ ?_)
   | (with_reducible refine LeO.bind ?_ (fun _ => ?_))
   | exact ih0 _ _ _
   | exact LeO.none _
   | refine LeO.ite ?_ ?_
   | refine LeO.bind ?_ (fun _ => ?_)
set_option maxHeartbeats 8000000 in
set_option maxRecDepth 100000 in
theorem laws_markCredentialS.calls (k : Nat) (P0_ : Nat → Prop) (u9000_ : Value) (l0 : List (S123)) (a1 : Int) (r1 : Int) (r2 : List (S123)) (w0 w : World) (hB : Below w0.heap.size w0 w) (ho0 : Kd.R k123 123 w w0.heap.size P0_ u9000_ l0) (h : laws_markCredentialS.f k l0 a1 = some (r1, r2)) :
  Calls Try.prog 109 #[u9000_, .int .i64 a1] w fun e w' => e = .returned (.int .i64 r1) ∧ Kd.R k123 123 w' w0.heap.size (fun k_ => (P0_ k_ ∨ w.heap.size ≤ k_)) u9000_ r2 ∧ Below w0.heap.size w0 w' ∧ Kept w w' (fun k_ => P0_ k_) := by
 have HO0 := Aside0.mk (show Kd.R k123 123 w w0.heap.size (fun k_ => (P0_ k_ ∨ w.heap.size ≤ k_)) u9000_ l0 from Kd.R_mono ho0 (fun k_ hk => (.inl hk)))
 have HK := Aside0.mk (Kept.refl w (fun k_ => P0_ k_))
 have HW0 := Aside0.mk hB.size
 have HB := Aside0.mk hB
 clear hB
 have H : (laws_markCredentialS.l0 k l0 a1 0) = some (r1, r2) := h
 clear h
 have H' := Aside0.mk H
 clear H
 go_enter Try.func109, Try.ntmps109
 go_wp2
 go_loopg [1, 5] k (fun kq v1 v5 w' => ∃ (x0_1 : List (S123)) (x1_1 : Int) (x5_1 : Int), v1 = .int .i64 x1_1 ∧ v5 = .int .i64 x5_1 ∧ Aside0 (laws_markCredentialS.l0 kq x0_1 x1_1 x5_1 = some (r1, r2)) ∧ Aside0 (kq ≤ k) ∧ Aside0 (Kd.R k123 123 w' w0.heap.size (fun k_ => (P0_ k_ ∨ w.heap.size ≤ k_)) u9000_ x0_1) ∧ Aside0 (Kept w w' (fun k_ => P0_ k_)) ∧ Aside0 (Below w0.heap.size w0 w'))
 case atStart => exact ⟨(l0), (a1), (0), tS, tS, H', ⟨Nat.le_refl _⟩, ⟨tR HO0⟩, ⟨by repeat (first | (with_reducible first | exact HK.out | apply Kept.alloc | apply Kept.drewN | apply Kept.drew) | exact HK.out)⟩, ⟨tB⟩⟩
 case round =>
  clear H'
  try clear c1
  try clear p2
  obtain ⟨x0_1, x1_1, x5_1, rfl, rfl, HA, HK1, HO_0, HK, HB⟩ := hrel
  cases gk with
  | zero => exact absurd HA.out (by simp [laws_markCredentialS.l0])
  | succ k1 =>
   have H := HA.out
   clear HA
   simp only [laws_markCredentialS.l0] at H
   by_cases c3 : x5_1 < (x0_1.length : Int)
   ·rw [if_pos c3] at H
    have c3b0 : decide (x5_1 < (x0_1.length : Int)) = true := decide_eq_true c3
    clear c3
    by_cases c4 : 0 ≤ x5_1
    ·rw [if_pos c4] at H
     have c4b0 : decide (0 ≤ x5_1) = true := decide_eq_true c4
     clear c4
     obtain ⟨y325, hy325⟩ : ∃ y_ : List (S123), y_ = (x0_1.set (x5_1 : Int).toNat (⟨x1_1, (rd_T123 x0_1 x5_1).f1, (rd_T123 x0_1 x5_1).f2, (rd_T123 x0_1 x5_1).f3⟩ : S123)) := ⟨_, rfl⟩
     replace H : ((some (y325.set (x5_1 : Int).toNat (⟨(rd_T123 y325 x5_1).f0, wrap64 (x1_1 + 1), (rd_T123 y325 x5_1).f2, (rd_T123 y325 x5_1).f3⟩ : S123) : List (S123))).bind fun y326 => ((some (y326.set (x5_1 : Int).toNat (⟨(rd_T123 y326 x5_1).f0, (rd_T123 y326 x5_1).f1, wrap64 ((wrap64 (x1_1 + 1)) + 1), (rd_T123 y326 x5_1).f3⟩ : S123) : List (S123))).bind fun y327 => (laws_markCredentialS.l0 k1 (y327.set (x5_1 : Int).toNat (⟨(rd_T123 y327 x5_1).f0, (rd_T123 y327 x5_1).f1, (rd_T123 y327 x5_1).f2, ((Int.tmod (wrap64 ((wrap64 ((wrap64 (x1_1 + 1)) + 1)) + 1)) 3) == 0)⟩ : S123)) (wrap64 ((wrap64 ((wrap64 ((wrap64 (x1_1 + 1)) + 1)) + 1)) + 1)) (wrap64 (x5_1 + 1))))) = some (r1, r2) := by first | (rw [hy325]; with_reducible exact H) | (have H2_ := (Option.bind_some _ _).symm.trans H; rw [hy325]; with_reducible exact H2_) | (have H2_ := (Option.bind_some _ _).symm.trans H; with_reducible exact H2_) | with_reducible exact H | (rw [hy325]; exact H) | exact H
     have Ny325 := Aside0.mk hy325
     clear hy325
     obtain ⟨y326, hy326⟩ : ∃ y_ : List (S123), y_ = (y325.set (x5_1 : Int).toNat (⟨(rd_T123 y325 x5_1).f0, wrap64 (x1_1 + 1), (rd_T123 y325 x5_1).f2, (rd_T123 y325 x5_1).f3⟩ : S123)) := ⟨_, rfl⟩
     replace H : ((some (y326.set (x5_1 : Int).toNat (⟨(rd_T123 y326 x5_1).f0, (rd_T123 y326 x5_1).f1, wrap64 ((wrap64 (x1_1 + 1)) + 1), (rd_T123 y326 x5_1).f3⟩ : S123) : List (S123))).bind fun y327 => (laws_markCredentialS.l0 k1 (y327.set (x5_1 : Int).toNat (⟨(rd_T123 y327 x5_1).f0, (rd_T123 y327 x5_1).f1, (rd_T123 y327 x5_1).f2, ((Int.tmod (wrap64 ((wrap64 ((wrap64 (x1_1 + 1)) + 1)) + 1)) 3) == 0)⟩ : S123)) (wrap64 ((wrap64 ((wrap64 ((wrap64 (x1_1 + 1)) + 1)) + 1)) + 1)) (wrap64 (x5_1 + 1)))) = some (r1, r2) := by first | (rw [hy326]; with_reducible exact H) | (have H2_ := (Option.bind_some _ _).symm.trans H; rw [hy326]; with_reducible exact H2_) | (have H2_ := (Option.bind_some _ _).symm.trans H; with_reducible exact H2_) | with_reducible exact H | (rw [hy326]; exact H) | exact H
     have Ny326 := Aside0.mk hy326
     clear hy326
     obtain ⟨y327, hy327⟩ : ∃ y_ : List (S123), y_ = (y326.set (x5_1 : Int).toNat (⟨(rd_T123 y326 x5_1).f0, (rd_T123 y326 x5_1).f1, wrap64 ((wrap64 (x1_1 + 1)) + 1), (rd_T123 y326 x5_1).f3⟩ : S123)) := ⟨_, rfl⟩
     replace H : (laws_markCredentialS.l0 k1 (y327.set (x5_1 : Int).toNat (⟨(rd_T123 y327 x5_1).f0, (rd_T123 y327 x5_1).f1, (rd_T123 y327 x5_1).f2, ((Int.tmod (wrap64 ((wrap64 ((wrap64 (x1_1 + 1)) + 1)) + 1)) 3) == 0)⟩ : S123)) (wrap64 ((wrap64 ((wrap64 ((wrap64 (x1_1 + 1)) + 1)) + 1)) + 1)) (wrap64 (x5_1 + 1))) = some (r1, r2) := by first | (rw [hy327]; with_reducible exact H) | (have H2_ := (Option.bind_some _ _).symm.trans H; rw [hy327]; with_reducible exact H2_) | (have H2_ := (Option.bind_some _ _).symm.trans H; with_reducible exact H2_) | with_reducible exact H | (rw [hy327]; exact H) | exact H
     have Ny327 := Aside0.mk hy327
     clear hy327
     obtain ⟨y328, hy328⟩ : ∃ y_ : List (S123), y_ = (y327.set (x5_1 : Int).toNat (⟨(rd_T123 y327 x5_1).f0, (rd_T123 y327 x5_1).f1, (rd_T123 y327 x5_1).f2, ((Int.tmod (wrap64 ((wrap64 ((wrap64 (x1_1 + 1)) + 1)) + 1)) 3) == 0)⟩ : S123)) := ⟨_, rfl⟩
     replace H : (laws_markCredentialS.l0 k1 y328 (wrap64 ((wrap64 ((wrap64 ((wrap64 (x1_1 + 1)) + 1)) + 1)) + 1)) (wrap64 (x5_1 + 1))) = some (r1, r2) := by first | (rw [hy328]; with_reducible exact H) | (have H2_ := (Option.bind_some _ _).symm.trans H; rw [hy328]; with_reducible exact H2_) | (have H2_ := (Option.bind_some _ _).symm.trans H; with_reducible exact H2_) | with_reducible exact H | (rw [hy328]; exact H) | exact H
     have Ny328 := Aside0.mk hy328
     clear hy328
     have H' := Aside0.mk H
     clear H
     obtain ⟨Ao9, co9, eo9⟩ := Kd.R_slice HO_0.out
     subst eo9
     have p5 : 0 ≤ (x5_1 : Int) := of_decide_eq_true tA
     have q5 : (x5_1 : Int) < ((x0_1.length : Int) : Int) := of_decide_eq_true tA
     obtain ⟨go5, co5, eo5, gb5, gl5, cl5, HG5⟩ := Kd.R_form HO_0.out (by omega)
     (first | cases eo5 | (injection eo5 with ea_ en_ ec_; (first | subst ea_ | (injection ea_ with ea_; subst ea_)); subst ec_; clear en_))
     have GB5 := Aside0.mk gb5
     have GG5 := Aside0.mk HG5
     clear gb5 gl5 HG5
     have HMgo5 := Aside0.mk (show (P0_ go5 ∨ w.heap.size ≤ go5) from (HO_0.out.1 _ rfl))
     obtain ⟨ce5, hcl5, hM5, hcc5, hfr5⟩ := Kd.R_elem HO_0.out z123 (x5_1 : Int) p5 q5
     obtain rfl := k123_openM hM5
     have hx5_0 : wr.cell? ⟨go5, (x5_1 : Int).toNat * 4, none⟩ = some (.int .i64 ((rd_T123 x0_1 x5_1).f0)) := hcc5 0 _ rfl
     have hx5_1 : wr.cell? ⟨go5, (x5_1 : Int).toNat * 4 + 1, none⟩ = some (.int .i64 ((rd_T123 x0_1 x5_1).f1)) := hcc5 1 _ rfl
     have hx5_2 : wr.cell? ⟨go5, (x5_1 : Int).toNat * 4 + 2, none⟩ = some (.int .i64 ((rd_T123 x0_1 x5_1).f2)) := hcc5 2 _ rfl
     have hx5_3 : wr.cell? ⟨go5, (x5_1 : Int).toNat * 4 + 3, none⟩ = some (.bool ((rd_T123 x0_1 x5_1).f3)) := hcc5 3 _ rfl
     have hf5_0 : wr.frozen? ⟨go5, (x5_1 : Int).toNat * 4, none⟩ = false := hfr5 0
     have hf5_1 : wr.frozen? ⟨go5, (x5_1 : Int).toNat * 4 + 1, none⟩ = false := hfr5 1
     have hf5_2 : wr.frozen? ⟨go5, (x5_1 : Int).toNat * 4 + 2, none⟩ = false := hfr5 2
     have hf5_3 : wr.frozen? ⟨go5, (x5_1 : Int).toNat * 4 + 3, none⟩ = false := hfr5 3
     clear hcl5 hcc5 hfr5 hM5
     replace p5 := eq_true p5
     replace q5 := eq_true q5
     have HX10 := Aside0.mk (show Kd.R k123 123 wr w0.heap.size (fun k_ => (P0_ k_ ∨ w.heap.size ≤ k_)) (.slice (some ⟨go5, 0, none⟩) x0_1.length co9) x0_1 from (tR HO_0))
     obtain ⟨ce10, hcl10, hM10, hcc10, hfr10⟩ := Kd.R_elem HX10.out z123 (x5_1 : Int) (of_decide_eq_true tA) (by have h_ : (x5_1 : Int) < ((x0_1.length : Int) : Int) := of_decide_eq_true tA; first | exact h_ | (have e_ := (Kd.R_reads' HO_0.out).1; omega) | simpa using h_)
     obtain rfl := k123_openM hM10
     have HP10 := Kd.R_seg HX10.out (x5_1 : Int) (of_decide_eq_true tA) (by have h_ : (x5_1 : Int) < ((x0_1.length : Int) : Int) := of_decide_eq_true tA; first | exact h_ | (have e_ := (Kd.R_reads' HO_0.out).1; omega) | simpa using h_) (seg := [.int .i64 x1_1]) (j := 0) hcl10 hcc10 (show 1 ≤ 4 from by decide) (x' := (⟨x1_1, (rd_T123 x0_1 x5_1).f1, (rd_T123 x0_1 x5_1).f2, (rd_T123 x0_1 x5_1).f3⟩ : S123)) (k123_mkM _ _ _ (⟨x1_1, (rd_T123 x0_1 x5_1).f1, (rd_T123 x0_1 x5_1).f2, (rd_T123 x0_1 x5_1).f3⟩ : S123) ) (fun _ hk => hk)
     have hx10_0 := hcc10 0 _ rfl
     (try simp only [show (k123).sz = 4 from rfl, Nat.mul_one, Nat.add_zero] at hx10_0)
     have hf10_0 := hfr10 0
     (try simp only [show (k123).sz = 4 from rfl, Nat.mul_one, Nat.add_zero] at hf10_0)
     clear hcl10 hcc10 hfr10 hM10
     go_wp2_with (first | ((with_reducible refine gate_store (t := 3) (p := 16) rfl ?_); refine store_event (t := 3) (p := 16) (v := ?vo_w11) (w1 := (wr.setCell ⟨go5, (x5_1 : Int).toNat * 4, none⟩ (.int .i64 x1_1))) ?hg ?ho ?hn ?hr ?_; (case ho => rfl); (case hg => rfl); (case hn => rfl); (case hr => first | (go_simp; done) | (go_simp; rfl)); intro w11 hw; have hg : wr.grownBy w11 (some go5) := (by rw [hw]; exact HP10.2); have hp_ : Kd.R k123 123 w11 w0.heap.size (fun k_ => (P0_ k_ ∨ w.heap.size ≤ k_)) (.slice (some ⟨go5, 0, none⟩) x0_1.length co9) y325 := (by rw [hw, Ny325.out]; exact HP10.1); clear HP10; have n0_ := Aside0.mk (hp_); have n1_ := Aside0.mk ((by rw [hw]; exact below_set (HB.out) GB5.out : Below w0.heap.size w0 w11)); have n2_ := Aside0.mk (Kept.of_grown (S := (fun k_ => P0_ k_)) hg (by repeat (first | (with_reducible first | exact HK.out | apply Kept.alloc | apply Kept.drewN | apply Kept.drew) | exact HK.out)) (fun k_ e_ => (HO_0.out.1 k_ e_))); clear HO_0; clear HB; clear HK; have HO_0 := n0_; have HB := n1_; have HK := n2_; clear n0_ n1_ n2_; clear hg hw hp_; have p6 : 0 ≤ (x5_1 : Int) := of_decide_eq_true tA; have q6 : (x5_1 : Int) < ((x0_1.length : Int) : Int) := of_decide_eq_true tA; obtain ⟨ce6, hcl6, hM6, hcc6, hfr6⟩ := Kd.R_elem HO_0.out z123 (x5_1 : Int) p6 q6; obtain rfl := k123_openM hM6; have hx6_0 : w11.cell? ⟨go5, (x5_1 : Int).toNat * 4, none⟩ = some (.int .i64 ((rd_T123 y325 x5_1).f0)) := hcc6 0 _ rfl; have hx6_1 : w11.cell? ⟨go5, (x5_1 : Int).toNat * 4 + 1, none⟩ = some (.int .i64 ((rd_T123 y325 x5_1).f1)) := hcc6 1 _ rfl; have hx6_2 : w11.cell? ⟨go5, (x5_1 : Int).toNat * 4 + 2, none⟩ = some (.int .i64 ((rd_T123 y325 x5_1).f2)) := hcc6 2 _ rfl; have hx6_3 : w11.cell? ⟨go5, (x5_1 : Int).toNat * 4 + 3, none⟩ = some (.bool ((rd_T123 y325 x5_1).f3)) := hcc6 3 _ rfl; have hf6_0 : w11.frozen? ⟨go5, (x5_1 : Int).toNat * 4, none⟩ = false := hfr6 0; have hf6_1 : w11.frozen? ⟨go5, (x5_1 : Int).toNat * 4 + 1, none⟩ = false := hfr6 1; have hf6_2 : w11.frozen? ⟨go5, (x5_1 : Int).toNat * 4 + 2, none⟩ = false := hfr6 2; have hf6_3 : w11.frozen? ⟨go5, (x5_1 : Int).toNat * 4 + 3, none⟩ = false := hfr6 3; clear hcl6 hcc6 hfr6 hM6; replace p6 := eq_true p6; replace q6 := eq_true q6; have HX12 := Aside0.mk (show Kd.R k123 123 w11 w0.heap.size (fun k_ => (P0_ k_ ∨ w.heap.size ≤ k_)) (.slice (some ⟨go5, 0, none⟩) x0_1.length co9) y325 from (tR HO_0)); obtain ⟨ce12, hcl12, hM12, hcc12, hfr12⟩ := Kd.R_elem HX12.out z123 (x5_1 : Int) (of_decide_eq_true tA) (by have h_ : (x5_1 : Int) < ((x0_1.length : Int) : Int) := of_decide_eq_true tA; first | exact h_ | (have e_ := (Kd.R_reads' HO_0.out).1; omega) | simpa using h_); obtain rfl := k123_openM hM12; have HP12 := Kd.R_seg HX12.out (x5_1 : Int) (of_decide_eq_true tA) (by have h_ : (x5_1 : Int) < ((x0_1.length : Int) : Int) := of_decide_eq_true tA; first | exact h_ | (have e_ := (Kd.R_reads' HO_0.out).1; omega) | simpa using h_) (seg := [.int .i64 (wrap64 (x1_1 + 1))]) (j := 1) hcl12 hcc12 (show 2 ≤ 4 from by decide) (x' := (⟨(rd_T123 y325 x5_1).f0, wrap64 (x1_1 + 1), (rd_T123 y325 x5_1).f2, (rd_T123 y325 x5_1).f3⟩ : S123)) (k123_mkM _ _ _ (⟨(rd_T123 y325 x5_1).f0, wrap64 (x1_1 + 1), (rd_T123 y325 x5_1).f2, (rd_T123 y325 x5_1).f3⟩ : S123) ) (fun _ hk => hk); have hx12_1 := hcc12 1 _ rfl; (try simp only [show (k123).sz = 4 from rfl, Nat.mul_one, Nat.add_zero] at hx12_1); have hf12_1 := hfr12 1; (try simp only [show (k123).sz = 4 from rfl, Nat.mul_one, Nat.add_zero] at hf12_1); clear hcl12 hcc12 hfr12 hM12) | ((with_reducible refine gate_store (t := 3) (p := 23) rfl ?_); refine store_event (t := 3) (p := 23) (v := ?vo_w13) (w1 := (w11.setCell ⟨go5, (x5_1 : Int).toNat * 4 + 1, none⟩ (.int .i64 (wrap64 (x1_1 + 1))))) ?hg ?ho ?hn ?hr ?_; (case ho => rfl); (case hg => rfl); (case hn => rfl); (case hr => first | (go_simp; done) | (go_simp; rfl)); intro w13 hw; have hg : w11.grownBy w13 (some go5) := (by rw [hw]; exact HP12.2); have hp_ : Kd.R k123 123 w13 w0.heap.size (fun k_ => (P0_ k_ ∨ w.heap.size ≤ k_)) (.slice (some ⟨go5, 0, none⟩) x0_1.length co9) y326 := (by rw [hw, Ny326.out]; exact HP12.1); clear HP12; have n0_ := Aside0.mk (hp_); have n1_ := Aside0.mk ((by rw [hw]; exact below_set (HB.out) GB5.out : Below w0.heap.size w0 w13)); have n2_ := Aside0.mk (Kept.of_grown (S := (fun k_ => P0_ k_)) hg (by repeat (first | (with_reducible first | exact HK.out | apply Kept.alloc | apply Kept.drewN | apply Kept.drew) | exact HK.out)) (fun k_ e_ => (HO_0.out.1 k_ e_))); clear HO_0; clear HB; clear HK; have HO_0 := n0_; have HB := n1_; have HK := n2_; clear n0_ n1_ n2_; clear hg hw hp_; have p7 : 0 ≤ (x5_1 : Int) := of_decide_eq_true tA; have q7 : (x5_1 : Int) < ((x0_1.length : Int) : Int) := of_decide_eq_true tA; obtain ⟨ce7, hcl7, hM7, hcc7, hfr7⟩ := Kd.R_elem HO_0.out z123 (x5_1 : Int) p7 q7; obtain rfl := k123_openM hM7; have hx7_0 : w13.cell? ⟨go5, (x5_1 : Int).toNat * 4, none⟩ = some (.int .i64 ((rd_T123 y326 x5_1).f0)) := hcc7 0 _ rfl; have hx7_1 : w13.cell? ⟨go5, (x5_1 : Int).toNat * 4 + 1, none⟩ = some (.int .i64 ((rd_T123 y326 x5_1).f1)) := hcc7 1 _ rfl; have hx7_2 : w13.cell? ⟨go5, (x5_1 : Int).toNat * 4 + 2, none⟩ = some (.int .i64 ((rd_T123 y326 x5_1).f2)) := hcc7 2 _ rfl; have hx7_3 : w13.cell? ⟨go5, (x5_1 : Int).toNat * 4 + 3, none⟩ = some (.bool ((rd_T123 y326 x5_1).f3)) := hcc7 3 _ rfl; have hf7_0 : w13.frozen? ⟨go5, (x5_1 : Int).toNat * 4, none⟩ = false := hfr7 0; have hf7_1 : w13.frozen? ⟨go5, (x5_1 : Int).toNat * 4 + 1, none⟩ = false := hfr7 1; have hf7_2 : w13.frozen? ⟨go5, (x5_1 : Int).toNat * 4 + 2, none⟩ = false := hfr7 2; have hf7_3 : w13.frozen? ⟨go5, (x5_1 : Int).toNat * 4 + 3, none⟩ = false := hfr7 3; clear hcl7 hcc7 hfr7 hM7; replace p7 := eq_true p7; replace q7 := eq_true q7; have HX14 := Aside0.mk (show Kd.R k123 123 w13 w0.heap.size (fun k_ => (P0_ k_ ∨ w.heap.size ≤ k_)) (.slice (some ⟨go5, 0, none⟩) x0_1.length co9) y326 from (tR HO_0)); obtain ⟨ce14, hcl14, hM14, hcc14, hfr14⟩ := Kd.R_elem HX14.out z123 (x5_1 : Int) (of_decide_eq_true tA) (by have h_ : (x5_1 : Int) < ((x0_1.length : Int) : Int) := of_decide_eq_true tA; first | exact h_ | (have e_ := (Kd.R_reads' HO_0.out).1; omega) | simpa using h_); obtain rfl := k123_openM hM14; have HP14 := Kd.R_seg HX14.out (x5_1 : Int) (of_decide_eq_true tA) (by have h_ : (x5_1 : Int) < ((x0_1.length : Int) : Int) := of_decide_eq_true tA; first | exact h_ | (have e_ := (Kd.R_reads' HO_0.out).1; omega) | simpa using h_) (seg := [.int .i64 (wrap64 ((wrap64 (x1_1 + 1)) + 1))]) (j := 2) hcl14 hcc14 (show 3 ≤ 4 from by decide) (x' := (⟨(rd_T123 y326 x5_1).f0, (rd_T123 y326 x5_1).f1, wrap64 ((wrap64 (x1_1 + 1)) + 1), (rd_T123 y326 x5_1).f3⟩ : S123)) (k123_mkM _ _ _ (⟨(rd_T123 y326 x5_1).f0, (rd_T123 y326 x5_1).f1, wrap64 ((wrap64 (x1_1 + 1)) + 1), (rd_T123 y326 x5_1).f3⟩ : S123) ) (fun _ hk => hk); have hx14_2 := hcc14 2 _ rfl; (try simp only [show (k123).sz = 4 from rfl, Nat.mul_one, Nat.add_zero] at hx14_2); have hf14_2 := hfr14 2; (try simp only [show (k123).sz = 4 from rfl, Nat.mul_one, Nat.add_zero] at hf14_2); clear hcl14 hcc14 hfr14 hM14) | ((with_reducible refine gate_store (t := 3) (p := 30) rfl ?_); refine store_event (t := 3) (p := 30) (v := ?vo_w15) (w1 := (w13.setCell ⟨go5, (x5_1 : Int).toNat * 4 + 2, none⟩ (.int .i64 (wrap64 ((wrap64 (x1_1 + 1)) + 1))))) ?hg ?ho ?hn ?hr ?_; (case ho => rfl); (case hg => rfl); (case hn => rfl); (case hr => first | (go_simp; done) | (go_simp; rfl)); intro w15 hw; have hg : w13.grownBy w15 (some go5) := (by rw [hw]; exact HP14.2); have hp_ : Kd.R k123 123 w15 w0.heap.size (fun k_ => (P0_ k_ ∨ w.heap.size ≤ k_)) (.slice (some ⟨go5, 0, none⟩) x0_1.length co9) y327 := (by rw [hw, Ny327.out]; exact HP14.1); clear HP14; have n0_ := Aside0.mk (hp_); have n1_ := Aside0.mk ((by rw [hw]; exact below_set (HB.out) GB5.out : Below w0.heap.size w0 w15)); have n2_ := Aside0.mk (Kept.of_grown (S := (fun k_ => P0_ k_)) hg (by repeat (first | (with_reducible first | exact HK.out | apply Kept.alloc | apply Kept.drewN | apply Kept.drew) | exact HK.out)) (fun k_ e_ => (HO_0.out.1 k_ e_))); clear HO_0; clear HB; clear HK; have HO_0 := n0_; have HB := n1_; have HK := n2_; clear n0_ n1_ n2_; clear hg hw hp_; have p8 : 0 ≤ (x5_1 : Int) := of_decide_eq_true tA; have q8 : (x5_1 : Int) < ((x0_1.length : Int) : Int) := of_decide_eq_true tA; obtain ⟨ce8, hcl8, hM8, hcc8, hfr8⟩ := Kd.R_elem HO_0.out z123 (x5_1 : Int) p8 q8; obtain rfl := k123_openM hM8; have hx8_0 : w15.cell? ⟨go5, (x5_1 : Int).toNat * 4, none⟩ = some (.int .i64 ((rd_T123 y327 x5_1).f0)) := hcc8 0 _ rfl; have hx8_1 : w15.cell? ⟨go5, (x5_1 : Int).toNat * 4 + 1, none⟩ = some (.int .i64 ((rd_T123 y327 x5_1).f1)) := hcc8 1 _ rfl; have hx8_2 : w15.cell? ⟨go5, (x5_1 : Int).toNat * 4 + 2, none⟩ = some (.int .i64 ((rd_T123 y327 x5_1).f2)) := hcc8 2 _ rfl; have hx8_3 : w15.cell? ⟨go5, (x5_1 : Int).toNat * 4 + 3, none⟩ = some (.bool ((rd_T123 y327 x5_1).f3)) := hcc8 3 _ rfl; have hf8_0 : w15.frozen? ⟨go5, (x5_1 : Int).toNat * 4, none⟩ = false := hfr8 0; have hf8_1 : w15.frozen? ⟨go5, (x5_1 : Int).toNat * 4 + 1, none⟩ = false := hfr8 1; have hf8_2 : w15.frozen? ⟨go5, (x5_1 : Int).toNat * 4 + 2, none⟩ = false := hfr8 2; have hf8_3 : w15.frozen? ⟨go5, (x5_1 : Int).toNat * 4 + 3, none⟩ = false := hfr8 3; clear hcl8 hcc8 hfr8 hM8; replace p8 := eq_true p8; replace q8 := eq_true q8; have HX16 := Aside0.mk (show Kd.R k123 123 w15 w0.heap.size (fun k_ => (P0_ k_ ∨ w.heap.size ≤ k_)) (.slice (some ⟨go5, 0, none⟩) x0_1.length co9) y327 from (tR HO_0)); obtain ⟨ce16, hcl16, hM16, hcc16, hfr16⟩ := Kd.R_elem HX16.out z123 (x5_1 : Int) (of_decide_eq_true tA) (by have h_ : (x5_1 : Int) < ((x0_1.length : Int) : Int) := of_decide_eq_true tA; first | exact h_ | (have e_ := (Kd.R_reads' HO_0.out).1; omega) | simpa using h_); obtain rfl := k123_openM hM16; have HP16 := Kd.R_seg HX16.out (x5_1 : Int) (of_decide_eq_true tA) (by have h_ : (x5_1 : Int) < ((x0_1.length : Int) : Int) := of_decide_eq_true tA; first | exact h_ | (have e_ := (Kd.R_reads' HO_0.out).1; omega) | simpa using h_) (seg := [.bool ((Int.tmod (wrap64 ((wrap64 ((wrap64 (x1_1 + 1)) + 1)) + 1)) 3) == 0)]) (j := 3) hcl16 hcc16 (show 4 ≤ 4 from by decide) (x' := (⟨(rd_T123 y327 x5_1).f0, (rd_T123 y327 x5_1).f1, (rd_T123 y327 x5_1).f2, ((Int.tmod (wrap64 ((wrap64 ((wrap64 (x1_1 + 1)) + 1)) + 1)) 3) == 0)⟩ : S123)) (k123_mkM _ _ _ (⟨(rd_T123 y327 x5_1).f0, (rd_T123 y327 x5_1).f1, (rd_T123 y327 x5_1).f2, ((Int.tmod (wrap64 ((wrap64 ((wrap64 (x1_1 + 1)) + 1)) + 1)) 3) == 0)⟩ : S123) ) (fun _ hk => hk); have hx16_3 := hcc16 3 _ rfl; (try simp only [show (k123).sz = 4 from rfl, Nat.mul_one, Nat.add_zero] at hx16_3); have hf16_3 := hfr16 3; (try simp only [show (k123).sz = 4 from rfl, Nat.mul_one, Nat.add_zero] at hf16_3); clear hcl16 hcc16 hfr16 hM16) | ((with_reducible refine gate_store (t := 4) (p := 39) rfl ?_); refine store_event (t := 4) (p := 39) (v := ?vo_w17) (w1 := (w15.setCell ⟨go5, (x5_1 : Int).toNat * 4 + 3, none⟩ (.bool ((Int.tmod (wrap64 ((wrap64 ((wrap64 (x1_1 + 1)) + 1)) + 1)) 3) == 0)))) ?hg ?ho ?hn ?hr ?_; (case ho => rfl); (case hg => rfl); (case hn => rfl); (case hr => first | (go_simp; done) | (go_simp; rfl)); intro w17 hw; have hg : w15.grownBy w17 (some go5) := (by rw [hw]; exact HP16.2); have hp_ : Kd.R k123 123 w17 w0.heap.size (fun k_ => (P0_ k_ ∨ w.heap.size ≤ k_)) (.slice (some ⟨go5, 0, none⟩) x0_1.length co9) y328 := (by rw [hw, Ny328.out]; exact HP16.1); clear HP16; have n0_ := Aside0.mk (hp_); have n1_ := Aside0.mk ((by rw [hw]; exact below_set (HB.out) GB5.out : Below w0.heap.size w0 w17)); have n2_ := Aside0.mk (Kept.of_grown (S := (fun k_ => P0_ k_)) hg (by repeat (first | (with_reducible first | exact HK.out | apply Kept.alloc | apply Kept.drewN | apply Kept.drew) | exact HK.out)) (fun k_ e_ => (HO_0.out.1 k_ e_))); clear HO_0; clear HB; clear HK; have HO_0 := n0_; have HB := n1_; have HK := n2_; clear n0_ n1_ n2_; clear hg hw hp_))
     go_roundg k1
     case measure => have := HK1.out; omega
     case rel => exact ⟨(y328), (wrap64 ((wrap64 ((wrap64 ((wrap64 (x1_1 + 1)) + 1)) + 1)) + 1)), (wrap64 (x5_1 + 1)), tS, tS, H', ⟨tI⟩, ⟨tR HO_0⟩, ⟨by repeat (first | (with_reducible first | exact HK.out | apply Kept.alloc | apply Kept.drewN | apply Kept.drew) | exact HK.out)⟩, ⟨tB⟩⟩
    ·rw [if_neg c4] at H
     exact absurd H (by simp)
   ·rw [if_neg c3] at H
    have c3b0 : decide (x5_1 < (x0_1.length : Int)) = false := decide_eq_false c3
    clear c3
    simp only [Option.some.injEq, Prod.mk.injEq] at H
    obtain ⟨rfl, rfl⟩ := H
    obtain ⟨Ao18, co18, eo18⟩ := Kd.R_slice HO_0.out
    subst eo18
    go_wp2
    go_ret
    exact ⟨tE, tR HO_0, tB, by repeat (first | (with_reducible first | exact HK.out | apply Kept.alloc | apply Kept.drewN | apply Kept.drew) | exact HK.out)⟩

/-! ### laws_markAccount: function 49 -/
def laws_markAccount.f (k : Nat) (a0_0 : Int) (a0_1 : Int) (l0_2 : List (S123)) (a1 : Int) : Option (Int × (List (S123))) := (laws_markCredentialS.f k l0_2 a1).bind fun bt330 => (some (bt330.1, bt330.2))
theorem laws_markAccount.mono : ∀ a0 a1 a2 a3 k, LeO (laws_markAccount.f k a0 a1 a2 a3) (laws_markAccount.f (k + 1) a0 a1 a2 a3) := by
 intro a0 a1 a2 a3 k
 unfold laws_markAccount.f
 repeat' first
   | (with_reducible exact laws_markCredentialS.mono _ _ _)
   | (with_reducible exact LeO.refl _)
   | (with_reducible exact LeO.none _)
   | (with_reducible refine LeO.ite ?_ ?_)
   | (with_reducible refine LeO.bind ?_ (fun _ => ?_))
   | exact laws_markCredentialS.mono _ _ _
   | exact LeO.none _
   | refine LeO.ite ?_ ?_
   | refine LeO.bind ?_ (fun _ => ?_)
set_option maxHeartbeats 8000000 in
set_option maxRecDepth 100000 in
theorem laws_markAccount.calls (k : Nat) (a0_0 : Int) (a0_1 : Int) (P0_2_ : Nat → Prop) (u9000_ : Value) (l0_2 : List (S123)) (a1 : Int) (r1 : Int) (r2 : List (S123)) (w0 w : World) (hB : Below w0.heap.size w0 w) (ho0_2 : Kd.R k123 123 w w0.heap.size P0_2_ u9000_ l0_2) (h : laws_markAccount.f k a0_0 a0_1 l0_2 a1 = some (r1, r2)) :
  Calls Try.prog 49 #[.agg #[.int .i64 a0_0, .int .i64 a0_1, u9000_], .int .i64 a1] w fun e w' => e = .returned (.int .i64 r1) ∧ Kd.R k123 123 w' w0.heap.size (fun k_ => (P0_2_ k_ ∨ w.heap.size ≤ k_)) u9000_ r2 ∧ Below w0.heap.size w0 w' ∧ Kept w w' (fun k_ => P0_2_ k_) := by
 have hu76 := Try.underlying76
 have HO0_2 := Aside0.mk (show Kd.R k123 123 w w0.heap.size (fun k_ => (P0_2_ k_ ∨ w.heap.size ≤ k_)) u9000_ l0_2 from Kd.R_mono ho0_2 (fun k_ hk => (.inl hk)))
 have HK := Aside0.mk (Kept.refl w (fun k_ => P0_2_ k_))
 have HW0 := Aside0.mk hB.size
 have HB := Aside0.mk hB
 clear hB
 have H : ((laws_markCredentialS.f k l0_2 a1).bind fun bt330 => (some (bt330.1, bt330.2))) = some (r1, r2) := h
 clear h
 replace H := Option.bind_eq_some_iff.mp H
 obtain ⟨⟨t330, t331⟩, A30, H⟩ := H
 replace H : (some (t330, t331)) = some (r1, r2) := H
 have A3 := Aside0.mk A30
 clear A30
 simp only [Option.some.injEq, Prod.mk.injEq] at H
 obtain ⟨rfl, rfl⟩ := H
 obtain ⟨Ao4, co4, eo4⟩ := Kd.R_slice HO0_2.out
 subst eo4
 go_enter Try.func49, Try.ntmps49
 go_wp2_with (first | ((with_reducible refine gate_dst (N := 2) rfl ?_); refine box_event ?hg (N := 2) ?hd (cs := #[.int .i64 a0_0, .int .i64 a0_1, .slice Ao4 l0_2.length co4]) (t := 76) ?hr ?_; (case hd => rfl); (case hg => rfl); (case hr => exact tG); intro gb329 hg w5 hbox hb; have n0_ := Aside0.mk (Kd.R_below (tR HO0_2) hb); have n1_ := Aside0.mk (Kept.below (S := (fun k_ => P0_2_ k_)) (by repeat (first | (with_reducible first | exact HK.out | apply Kept.alloc | apply Kept.drewN | apply Kept.drew) | exact HK.out)) hb); have n2_ := Aside0.mk (below_step tB hb); have n3_ := Aside0.mk (hbox); have n4_ := Aside0.mk ((by rw [hg]; exact (by first | exact HK.out.1 | exact (show Kept w _ (fun k_ => P0_2_ k_) from by repeat (first | (with_reducible first | exact HK.out | apply Kept.alloc | apply Kept.drewN | apply Kept.drew) | exact HK.out)).1) : w.heap.size ≤ gb329)); have n5_ := Aside0.mk ((by rw [hg]; exact (below_size tB) : w0.heap.size ≤ gb329)); clear HO0_2; clear HK; clear HB; have HO0_2 := n0_; have HK := n1_; have HB := n2_; have BK329 := n3_; have GW329 := n4_; have GE329 := n5_; clear n0_ n1_ n2_ n3_ n4_ n5_; clear hb hbox hg; obtain ⟨hcz6_0, hcz6_1, hcz6_2, hfz6_0, hfz6_1, hfz6_2⟩ := bc3 BK329.out) | ((with_reducible refine gate_callee (f := 109) rfl ?_); refine goesL_ (some 8) rfl rfl Try.func109 (by kernel_rfl) rfl #[.slice Ao4 l0_2.length co4, .int .i64 a1] rfl tL ?_; (with_reducible refine (laws_markCredentialS.calls k (fun k_ => some k_ = (.slice Ao4 l0_2.length co4 : Value).ownBlock) (.slice Ao4 l0_2.length co4) l0_2 a1 t330 t331 w0 _ ?side1 ?side2 A3.out).mono ?_); (case side1 => exact tB); (case side2 => exact Kd.R_tight rfl HO0_2.out); rintro e w7 ⟨rfl, hy0, hb, hkp⟩; refine ⟨_, rfl, ?_⟩; have n0_ := Aside0.mk (Kd.R_reok rfl hy0 (fun k_ e_ => HO0_2.out.1 k_ e_)); have n1_ := Aside0.mk (blk_kept (tK BK329) hkp (fun hs_ => (fun e_ => (Kd.R_ne HO0_2.out BK329.out (by decide)) e_) hs_)); have n2_ := Aside0.mk (Kept.then_ (S := (fun k_ => P0_2_ k_)) (by repeat (first | (with_reducible first | exact HK.out | apply Kept.alloc | apply Kept.drewN | apply Kept.drew | refine Kept.setCell ?_ (.inr GW329.out) _) | exact HK.out)) hkp (fun k_ hs_ => (fun e_ => (HO0_2.out.1 k_ e_.symm)) hs_)); have n3_ := Aside0.mk (hb); clear HO0_2; clear BK329; clear HK; clear HB; have HO0_2 := n0_; have BK329 := n1_; have HK := n2_; have HB := n3_; clear n0_ n1_ n2_ n3_; (try clear hb); (try clear hkp); (try clear hy0)))
 go_ret
 exact ⟨tE, tR HO0_2, tB, by repeat (first | (with_reducible first | exact HK.out | apply Kept.alloc | apply Kept.drewN | apply Kept.drew | refine Kept.setCell ?_ (.inr GW329.out) _) | exact HK.out)⟩

/-! ### laws_heldCredentialS: function 110 -/
def laws_heldCredentialS.l0 : Nat → List (S123) → Int → Int → Option (Int)
 | 0, _, _, _ => none
 | k + 1, x0, x1, x5 => if x5 < (x0.length : Int) then (if 0 ≤ x5 then (if ((rd_T123 x0 x5).f0) = x1 then (if ((rd_T123 x0 x5).f1) = (wrap64 (x1 + 1)) then (if ((rd_T123 x0 x5).f2) = (wrap64 ((wrap64 (x1 + 1)) + 1)) then (if (((rd_T123 x0 x5).f3) != ((Int.tmod (wrap64 ((wrap64 ((wrap64 (x1 + 1)) + 1)) + 1)) 3) == 0)) = true then (some (-1)) else (laws_heldCredentialS.l0 k x0 (wrap64 ((wrap64 ((wrap64 ((wrap64 (x1 + 1)) + 1)) + 1)) + 1)) (wrap64 (x5 + 1)))) else (some (-1))) else (some (-1))) else (some (-1))) else (none)) else (some x1)
def laws_heldCredentialS.f (k : Nat) (l0 : List (S123)) (a1 : Int) : Option (Int) := laws_heldCredentialS.l0 k l0 a1 0
theorem laws_heldCredentialS.mono_l : ∀ k, (∀ y0 y1 y2, LeO (laws_heldCredentialS.l0 k y0 y1 y2) (laws_heldCredentialS.l0 (k + 1) y0 y1 y2))
 | 0 => fun _ _ _ r h => by simp [laws_heldCredentialS.l0] at h
 | k + 1 => by
  have ih0 := laws_heldCredentialS.mono_l k
  ·intro y0 y1 y2
   unfold laws_heldCredentialS.l0
   repeat' first
   | (with_reducible exact ih0 _ _ _)
   | (with_reducible exact LeO.refl _)
   | (with_reducible exact LeO.none _)
   | (with_reducible refine LeO.ite ?_ ?_)
   | (with_reducible refine LeO.bind ?_ (fun _ => ?_))
   | exact ih0 _ _ _
   | exact LeO.none _
   | refine LeO.ite ?_ ?_
   | refine LeO.bind ?_ (fun _ => ?_)
theorem laws_heldCredentialS.mono : ∀ a0 a1 k, LeO (laws_heldCredentialS.f k a0 a1) (laws_heldCredentialS.f (k + 1) a0 a1) := by
 intro a0 a1 k
 have ih0 := laws_heldCredentialS.mono_l k
 unfold laws_heldCredentialS.f
 repeat' first
   | (with_reducible exact ih0 _ _ _)
   | (with_reducible exact LeO.refl _)
   | (with_reducible exact LeO.none _)
   | (with_reducible refine LeO.ite ?_ ?_)
   | (with_reducible refine LeO.bind ?_ (fun _ => ?_))
   | exact ih0 _ _ _
   | exact LeO.none _
   | refine LeO.ite ?_ ?_
   | refine LeO.bind ?_ (fun _ => ?_)
set_option maxHeartbeats 8000000 in
set_option maxRecDepth 100000 in
theorem laws_heldCredentialS.calls (k : Nat) (A0 : Option Addr) (c0 : Nat) (l0 : List (S123)) (a1 : Int) (r : Int) (w : World) (hr0 : Kd.C k123 w A0 l0.length l0) (hc0 : l0.length ≤ c0) (h : laws_heldCredentialS.f k l0 a1 = some r) :
  Calls Try.prog 110 #[.slice A0 l0.length c0, .int .i64 a1] w fun e w' => e = .returned (.int .i64 r) ∧ Drawn0 w w' := by
 have HR0 := Aside0.mk hr0
 have HC0 := Aside0.mk hc0
 clear hr0 hc0
 have H : (laws_heldCredentialS.l0 k l0 a1 0) = some r := h
 clear h
 have H' := Aside0.mk H
 clear H
 go_enter Try.func110, Try.ntmps110
 go_wp2
 go_loopg [1, 5] k (fun kq v1 v5 w' => ∃ (x1_1 : Int) (x5_1 : Int), v1 = .int .i64 x1_1 ∧ v5 = .int .i64 x5_1 ∧ Aside0 (laws_heldCredentialS.l0 kq l0 x1_1 x5_1 = some r) ∧ Aside0 (kq ≤ k) ∧ Drawn0 w w')
 case atStart => exact ⟨(a1), (0), tS, tS, H', ⟨Nat.le_refl _⟩, by repeat (first | exact Drawn0.refl _ | apply Drawn0.step)⟩
 case round =>
  clear H'
  try clear c1
  try clear p2
  obtain ⟨x1_1, x5_1, rfl, rfl, HA, HK1, ⟨m1, rfl⟩⟩ := hrel
  cases gk with
  | zero => exact absurd HA.out (by simp [laws_heldCredentialS.l0])
  | succ k1 =>
   have H := HA.out
   clear HA
   simp only [laws_heldCredentialS.l0] at H
   by_cases c3 : x5_1 < (l0.length : Int)
   ·rw [if_pos c3] at H
    have c3b0 : decide (x5_1 < (l0.length : Int)) = true := decide_eq_true c3
    clear c3
    by_cases c4 : 0 ≤ x5_1
    ·rw [if_pos c4] at H
     have c4b0 : decide (0 ≤ x5_1) = true := decide_eq_true c4
     clear c4
     by_cases c5 : ((rd_T123 l0 x5_1).f0) = x1_1
     ·rw [if_pos c5] at H
      have c5b0 : (((rd_T123 l0 x5_1).f0) == x1_1) = true := beq_iff_eq.mpr c5
      have c5b1 : (((rd_T123 l0 x5_1).f0) != x1_1) = false := bne_eq_false_iff_eq.mpr c5
      clear c5
      by_cases c6 : ((rd_T123 l0 x5_1).f1) = (wrap64 (x1_1 + 1))
      ·rw [if_pos c6] at H
       have c6b0 : (((rd_T123 l0 x5_1).f1) == (wrap64 (x1_1 + 1))) = true := beq_iff_eq.mpr c6
       have c6b1 : (((rd_T123 l0 x5_1).f1) != (wrap64 (x1_1 + 1))) = false := bne_eq_false_iff_eq.mpr c6
       clear c6
       by_cases c7 : ((rd_T123 l0 x5_1).f2) = (wrap64 ((wrap64 (x1_1 + 1)) + 1))
       ·rw [if_pos c7] at H
        have c7b0 : (((rd_T123 l0 x5_1).f2) == (wrap64 ((wrap64 (x1_1 + 1)) + 1))) = true := beq_iff_eq.mpr c7
        have c7b1 : (((rd_T123 l0 x5_1).f2) != (wrap64 ((wrap64 (x1_1 + 1)) + 1))) = false := bne_eq_false_iff_eq.mpr c7
        clear c7
        by_cases c8 : (((rd_T123 l0 x5_1).f3) != ((Int.tmod (wrap64 ((wrap64 ((wrap64 (x1_1 + 1)) + 1)) + 1)) 3) == 0)) = true
        ·rw [if_pos c8] at H
         have c8b0 : (((rd_T123 l0 x5_1).f3) != ((Int.tmod (wrap64 ((wrap64 ((wrap64 (x1_1 + 1)) + 1)) + 1)) 3) == 0)) = true := c8
         (try (have c8b1 : decide (((rd_T123 l0 x5_1).f3) = ((Int.tmod (wrap64 ((wrap64 ((wrap64 (x1_1 + 1)) + 1)) + 1)) 3) == 0)) = false := by simpa using c8))
         (try (have c8b2 : (((rd_T123 l0 x5_1).f3) == ((Int.tmod (wrap64 ((wrap64 ((wrap64 (x1_1 + 1)) + 1)) + 1)) 3) == 0)) = false := by simpa using c8))
         (try (have c8b3 : ¬ (((rd_T123 l0 x5_1).f3) = ((Int.tmod (wrap64 ((wrap64 ((wrap64 (x1_1 + 1)) + 1)) + 1)) 3) == 0)) := by simpa using c8))
         clear c8
         obtain rfl := Option.some.inj H
         have p332 : 0 ≤ (x5_1 : Int) := of_decide_eq_true tA
         have q332 : x5_1 < (l0.length : Int) := of_decide_eq_true tA
         obtain ⟨ad332, e332, hx332_0, hx332_1, hx332_2, hx332_3⟩ := at_T123 HR0.out x5_1 p332 q332
         cases e332
         replace p332 := eq_true p332
         replace q332 := eq_true q332
         have p333 : 0 ≤ (x5_1 : Int) := of_decide_eq_true tA
         have q333 : x5_1 < (l0.length : Int) := of_decide_eq_true tA
         obtain ⟨ad333, e333, hx333_0, hx333_1, hx333_2, hx333_3⟩ := at_T123 HR0.out x5_1 p333 q333
         obtain rfl : ad332 = ad333 := (by injection e333)
         replace p333 := eq_true p333
         replace q333 := eq_true q333
         have p334 : 0 ≤ (x5_1 : Int) := of_decide_eq_true tA
         have q334 : x5_1 < (l0.length : Int) := of_decide_eq_true tA
         obtain ⟨ad334, e334, hx334_0, hx334_1, hx334_2, hx334_3⟩ := at_T123 HR0.out x5_1 p334 q334
         obtain rfl : ad332 = ad334 := (by injection e334)
         replace p334 := eq_true p334
         replace q334 := eq_true q334
         have p335 : 0 ≤ (x5_1 : Int) := of_decide_eq_true tA
         have q335 : x5_1 < (l0.length : Int) := of_decide_eq_true tA
         obtain ⟨ad335, e335, hx335_0, hx335_1, hx335_2, hx335_3⟩ := at_T123 HR0.out x5_1 p335 q335
         obtain rfl : ad332 = ad335 := (by injection e335)
         replace p335 := eq_true p335
         replace q335 := eq_true q335
         go_wp2
         go_ret
         exact ⟨tS, by repeat (first | exact Drawn0.refl _ | apply Drawn0.step)⟩
        ·rw [if_neg c8] at H
         have c8b0 : (((rd_T123 l0 x5_1).f3) != ((Int.tmod (wrap64 ((wrap64 ((wrap64 (x1_1 + 1)) + 1)) + 1)) 3) == 0)) = false := by simpa using c8
         (try (have c8b1 : decide (((rd_T123 l0 x5_1).f3) = ((Int.tmod (wrap64 ((wrap64 ((wrap64 (x1_1 + 1)) + 1)) + 1)) 3) == 0)) = true := by simpa using c8))
         (try (have c8b2 : (((rd_T123 l0 x5_1).f3) == ((Int.tmod (wrap64 ((wrap64 ((wrap64 (x1_1 + 1)) + 1)) + 1)) 3) == 0)) = true := by simpa using c8))
         clear c8
         have H' := Aside0.mk H
         clear H
         have p332 : 0 ≤ (x5_1 : Int) := of_decide_eq_true tA
         have q332 : x5_1 < (l0.length : Int) := of_decide_eq_true tA
         obtain ⟨ad332, e332, hx332_0, hx332_1, hx332_2, hx332_3⟩ := at_T123 HR0.out x5_1 p332 q332
         cases e332
         replace p332 := eq_true p332
         replace q332 := eq_true q332
         have p333 : 0 ≤ (x5_1 : Int) := of_decide_eq_true tA
         have q333 : x5_1 < (l0.length : Int) := of_decide_eq_true tA
         obtain ⟨ad333, e333, hx333_0, hx333_1, hx333_2, hx333_3⟩ := at_T123 HR0.out x5_1 p333 q333
         obtain rfl : ad332 = ad333 := (by injection e333)
         replace p333 := eq_true p333
         replace q333 := eq_true q333
         have p334 : 0 ≤ (x5_1 : Int) := of_decide_eq_true tA
         have q334 : x5_1 < (l0.length : Int) := of_decide_eq_true tA
         obtain ⟨ad334, e334, hx334_0, hx334_1, hx334_2, hx334_3⟩ := at_T123 HR0.out x5_1 p334 q334
         obtain rfl : ad332 = ad334 := (by injection e334)
         replace p334 := eq_true p334
         replace q334 := eq_true q334
         have p335 : 0 ≤ (x5_1 : Int) := of_decide_eq_true tA
         have q335 : x5_1 < (l0.length : Int) := of_decide_eq_true tA
         obtain ⟨ad335, e335, hx335_0, hx335_1, hx335_2, hx335_3⟩ := at_T123 HR0.out x5_1 p335 q335
         obtain rfl : ad332 = ad335 := (by injection e335)
         replace p335 := eq_true p335
         replace q335 := eq_true q335
         go_wp2
         go_roundg k1
         case measure => have := HK1.out; omega
         case rel => exact ⟨(wrap64 ((wrap64 ((wrap64 ((wrap64 (x1_1 + 1)) + 1)) + 1)) + 1)), (wrap64 (x5_1 + 1)), tS, tS, H', ⟨tI⟩, by repeat (first | exact Drawn0.refl _ | apply Drawn0.step)⟩
       ·rw [if_neg c7] at H
        have c7b0 : (((rd_T123 l0 x5_1).f2) == (wrap64 ((wrap64 (x1_1 + 1)) + 1))) = false := beq_eq_false_iff_ne.mpr c7
        have c7b1 : (((rd_T123 l0 x5_1).f2) != (wrap64 ((wrap64 (x1_1 + 1)) + 1))) = true := bne_iff_ne.mpr c7
        obtain rfl := Option.some.inj H
        have p332 : 0 ≤ (x5_1 : Int) := of_decide_eq_true tA
        have q332 : x5_1 < (l0.length : Int) := of_decide_eq_true tA
        obtain ⟨ad332, e332, hx332_0, hx332_1, hx332_2, hx332_3⟩ := at_T123 HR0.out x5_1 p332 q332
        cases e332
        replace p332 := eq_true p332
        replace q332 := eq_true q332
        have p333 : 0 ≤ (x5_1 : Int) := of_decide_eq_true tA
        have q333 : x5_1 < (l0.length : Int) := of_decide_eq_true tA
        obtain ⟨ad333, e333, hx333_0, hx333_1, hx333_2, hx333_3⟩ := at_T123 HR0.out x5_1 p333 q333
        obtain rfl : ad332 = ad333 := (by injection e333)
        replace p333 := eq_true p333
        replace q333 := eq_true q333
        have p334 : 0 ≤ (x5_1 : Int) := of_decide_eq_true tA
        have q334 : x5_1 < (l0.length : Int) := of_decide_eq_true tA
        obtain ⟨ad334, e334, hx334_0, hx334_1, hx334_2, hx334_3⟩ := at_T123 HR0.out x5_1 p334 q334
        obtain rfl : ad332 = ad334 := (by injection e334)
        replace p334 := eq_true p334
        replace q334 := eq_true q334
        go_wp2
        go_ret
        exact ⟨tS, by repeat (first | exact Drawn0.refl _ | apply Drawn0.step)⟩
      ·rw [if_neg c6] at H
       have c6b0 : (((rd_T123 l0 x5_1).f1) == (wrap64 (x1_1 + 1))) = false := beq_eq_false_iff_ne.mpr c6
       have c6b1 : (((rd_T123 l0 x5_1).f1) != (wrap64 (x1_1 + 1))) = true := bne_iff_ne.mpr c6
       obtain rfl := Option.some.inj H
       have p332 : 0 ≤ (x5_1 : Int) := of_decide_eq_true tA
       have q332 : x5_1 < (l0.length : Int) := of_decide_eq_true tA
       obtain ⟨ad332, e332, hx332_0, hx332_1, hx332_2, hx332_3⟩ := at_T123 HR0.out x5_1 p332 q332
       cases e332
       replace p332 := eq_true p332
       replace q332 := eq_true q332
       have p333 : 0 ≤ (x5_1 : Int) := of_decide_eq_true tA
       have q333 : x5_1 < (l0.length : Int) := of_decide_eq_true tA
       obtain ⟨ad333, e333, hx333_0, hx333_1, hx333_2, hx333_3⟩ := at_T123 HR0.out x5_1 p333 q333
       obtain rfl : ad332 = ad333 := (by injection e333)
       replace p333 := eq_true p333
       replace q333 := eq_true q333
       go_wp2
       go_ret
       exact ⟨tS, by repeat (first | exact Drawn0.refl _ | apply Drawn0.step)⟩
     ·rw [if_neg c5] at H
      have c5b0 : (((rd_T123 l0 x5_1).f0) == x1_1) = false := beq_eq_false_iff_ne.mpr c5
      have c5b1 : (((rd_T123 l0 x5_1).f0) != x1_1) = true := bne_iff_ne.mpr c5
      obtain rfl := Option.some.inj H
      have p332 : 0 ≤ (x5_1 : Int) := of_decide_eq_true tA
      have q332 : x5_1 < (l0.length : Int) := of_decide_eq_true tA
      obtain ⟨ad332, e332, hx332_0, hx332_1, hx332_2, hx332_3⟩ := at_T123 HR0.out x5_1 p332 q332
      cases e332
      replace p332 := eq_true p332
      replace q332 := eq_true q332
      go_wp2
      go_ret
      exact ⟨tS, by repeat (first | exact Drawn0.refl _ | apply Drawn0.step)⟩
    ·rw [if_neg c4] at H
     exact absurd H (by simp)
   ·rw [if_neg c3] at H
    have c3b0 : decide (x5_1 < (l0.length : Int)) = false := decide_eq_false c3
    clear c3
    obtain rfl := Option.some.inj H
    go_wp2
    go_ret
    exact ⟨tS, by repeat (first | exact Drawn0.refl _ | apply Drawn0.step)⟩

/-! ### laws_heldAccount: function 50 -/
def laws_heldAccount.f (k : Nat) (a0_0 : Int) (a0_1 : Int) (l0_2 : List (S123)) (a1 : Int) : Option (Int) := (laws_heldCredentialS.f k l0_2 a1).bind fun t337 => (if t337 < 0 then (some (-1)) else (some t337))
theorem laws_heldAccount.mono : ∀ a0 a1 a2 a3 k, LeO (laws_heldAccount.f k a0 a1 a2 a3) (laws_heldAccount.f (k + 1) a0 a1 a2 a3) := by
 intro a0 a1 a2 a3 k
 unfold laws_heldAccount.f
 repeat' first
   | (with_reducible exact laws_heldCredentialS.mono _ _ _)
   | (with_reducible exact LeO.refl _)
   | (with_reducible exact LeO.none _)
   | (with_reducible refine LeO.ite ?_ ?_)
   | (with_reducible refine LeO.bind ?_ (fun _ => ?_))
   | exact laws_heldCredentialS.mono _ _ _
   | exact LeO.none _
   | refine LeO.ite ?_ ?_
   | refine LeO.bind ?_ (fun _ => ?_)
set_option maxHeartbeats 8000000 in
set_option maxRecDepth 100000 in
theorem laws_heldAccount.calls (k : Nat) (a0_0 : Int) (a0_1 : Int) (A0_2 : Option Addr) (c0_2 : Nat) (l0_2 : List (S123)) (a1 : Int) (r : Int) (w : World) (hr0_2 : Kd.C k123 w A0_2 l0_2.length l0_2) (hc0_2 : l0_2.length ≤ c0_2) (h : laws_heldAccount.f k a0_0 a0_1 l0_2 a1 = some r) :
  Calls Try.prog 50 #[.agg #[.int .i64 a0_0, .int .i64 a0_1, .slice A0_2 l0_2.length c0_2], .int .i64 a1] w fun e w' => e = .returned (.int .i64 r) ∧ Below w.heap.size w w' := by
 have hu76 := Try.underlying76
 have HR0_2 := Aside0.mk hr0_2
 have HC0_2 := Aside0.mk hc0_2
 clear hr0_2 hc0_2
 have HB := Aside0.mk (Below.refl w.heap.size w)
 have H : ((laws_heldCredentialS.f k l0_2 a1).bind fun t337 => (if t337 < 0 then (some (-1)) else (some t337))) = some r := h
 clear h
 replace H := Option.bind_eq_some_iff.mp H
 obtain ⟨t337, A30, H⟩ := H
 replace H : (if t337 < 0 then (some (-1)) else (some t337)) = some r := H
 have A3 := Aside0.mk A30
 clear A30
 by_cases c4 : t337 < 0
 ·rw [if_pos c4] at H
  have c4b0 : decide (t337 < 0) = true := decide_eq_true c4
  clear c4
  obtain rfl := Option.some.inj H
  go_enter Try.func50, Try.ntmps50
  go_wp2_with (first | ((with_reducible refine gate_dst (N := 2) rfl ?_); refine box_event ?hg (N := 2) ?hd (cs := #[.int .i64 a0_0, .int .i64 a0_1, .slice A0_2 l0_2.length c0_2]) (t := 76) ?hr ?_; (case hd => rfl); (case hg => rfl); (case hr => exact tG); intro gb336 hg w5 hbox hb; have n0_ := Aside0.mk (below_step tB hb); have n1_ := Aside0.mk (hbox); have n2_ := Aside0.mk ((by rw [hg]; exact (below_size tB) : w.heap.size ≤ gb336)); have n3_ := Aside0.mk ((by rw [hg]; exact (below_size tB) : w.heap.size ≤ gb336)); clear HB; have HB := n0_; have BK336 := n1_; have GW336 := n2_; have GE336 := n3_; clear n0_ n1_ n2_ n3_; clear hb hbox hg; obtain ⟨hcz6_0, hcz6_1, hcz6_2, hfz6_0, hfz6_1, hfz6_2⟩ := bc3 BK336.out) | ((with_reducible refine gate_callee (f := 110) rfl ?_); refine goesL_ (some 8) rfl rfl Try.func110 (by kernel_rfl) rfl #[.slice A0_2 l0_2.length c0_2, .int .i64 a1] rfl tL ?_; (with_reducible refine (laws_heldCredentialS.calls k _ _ l0_2 a1 t337 _ ?side1 ?side2 A3.out).mono ?_); (case side1 => repeat (first | exact (Kd.C_below HR0_2.out HB.out) | (with_reducible refine Kd.C_alloc ?_ _) | (with_reducible refine Kd.C_drewN ?_ _) | (with_reducible refine Kd.C_drew ?_))); (case side2 => exact HC0_2.out); rintro e w' ⟨rfl, ⟨nd, rfl⟩⟩; refine ⟨_, rfl, ?_⟩))
  go_ret
  exact ⟨tE, tB⟩
 ·rw [if_neg c4] at H
  have c4b0 : decide (t337 < 0) = false := decide_eq_false c4
  clear c4
  obtain rfl := Option.some.inj H
  go_enter Try.func50, Try.ntmps50
  go_wp2_with (first | ((with_reducible refine gate_dst (N := 2) rfl ?_); refine box_event ?hg (N := 2) ?hd (cs := #[.int .i64 a0_0, .int .i64 a0_1, .slice A0_2 l0_2.length c0_2]) (t := 76) ?hr ?_; (case hd => rfl); (case hg => rfl); (case hr => exact tG); intro gb336 hg w7 hbox hb; have n0_ := Aside0.mk (below_step tB hb); have n1_ := Aside0.mk (hbox); have n2_ := Aside0.mk ((by rw [hg]; exact (below_size tB) : w.heap.size ≤ gb336)); have n3_ := Aside0.mk ((by rw [hg]; exact (below_size tB) : w.heap.size ≤ gb336)); clear HB; have HB := n0_; have BK336 := n1_; have GW336 := n2_; have GE336 := n3_; clear n0_ n1_ n2_ n3_; clear hb hbox hg; obtain ⟨hcz8_0, hcz8_1, hcz8_2, hfz8_0, hfz8_1, hfz8_2⟩ := bc3 BK336.out) | ((with_reducible refine gate_callee (f := 110) rfl ?_); refine goesL_ (some 8) rfl rfl Try.func110 (by kernel_rfl) rfl #[.slice A0_2 l0_2.length c0_2, .int .i64 a1] rfl tL ?_; (with_reducible refine (laws_heldCredentialS.calls k _ _ l0_2 a1 t337 _ ?side1 ?side2 A3.out).mono ?_); (case side1 => repeat (first | exact (Kd.C_below HR0_2.out HB.out) | (with_reducible refine Kd.C_alloc ?_ _) | (with_reducible refine Kd.C_drewN ?_ _) | (with_reducible refine Kd.C_drew ?_))); (case side2 => exact HC0_2.out); rintro e w' ⟨rfl, ⟨nd, rfl⟩⟩; refine ⟨_, rfl, ?_⟩))
  go_ret
  exact ⟨tE, tB⟩

/-! ### laws_FnExactTransferAccount: function 10 -/
def laws_FnExactTransferAccount.f (k : Nat) (a0_0 : Int) (a0_1 : Int) (l0_2 : List (S145)) (a1 : Int) (a2 : Int) : Option (Bool) := (laws_szAccount.f a0_0 a0_1 l0_2 1048576).bind fun t339 => (if t339 < 0 then (some true) else ((laws_toAccount.f k a0_0 a0_1 l0_2).bind fun bt340 => ((spec_TransferAccount.f k bt340.1 bt340.2.1 bt340.2.2 a1 a2).bind fun bt345 => ((laws_toAccount.f k a0_0 a0_1 l0_2).bind fun bt352 => ((impl_TransferAccount.f k bt352.1 bt352.2.1 bt352.2.2 a1 a2).bind fun bt358 => ((laws_eqAccount.f k bt358.1 bt358.2.1 bt358.2.2.1 bt345.1 bt345.2.1 bt345.2.2.1).bind fun t365 => (if t365 = true then (if (bt358.2.2.2 != bt345.2.2.2) = true then (some false) else ((laws_toAccount.f k a0_0 a0_1 l0_2).bind fun bt366 => ((laws_eqAccount.f k bt352.1 bt352.2.1 bt352.2.2 bt366.1 bt366.2.1 bt366.2.2).bind fun t371 => (if t371 = true then ((laws_markAccount.f k bt352.1 bt352.2.1 bt352.2.2 1).bind fun bt372 => (if bt372.1 < 0 then (some false) else ((laws_eqAccount.f k bt358.1 bt358.2.1 bt358.2.2.1 bt345.1 bt345.2.1 bt345.2.2.1).bind fun t374 => (if t374 = true then ((laws_markAccount.f k bt358.1 bt358.2.1 bt358.2.2.1 1).bind fun bt375 => ((laws_heldAccount.f k bt358.1 bt358.2.1 bt375.2 1).bind fun t377 => (if t377 < 0 then (some false) else (if t377 = bt375.1 then ((laws_toAccount.f k a0_0 a0_1 l0_2).bind fun bt378 => ((impl_TransferAccount.f k bt378.1 bt378.2.1 bt378.2.2 a1 a2).bind fun bt383 => ((laws_eqAccount.f k bt383.1 bt383.2.1 bt383.2.2.1 bt345.1 bt345.2.1 bt345.2.2.1).bind fun t390 => (if t390 = true then (if (bt383.2.2.2 != bt345.2.2.2) = true then (some false) else ((laws_heldAccount.f k bt358.1 bt358.2.1 bt375.2 1).bind fun t391 => (if t391 < 0 then (some false) else (if t391 = bt375.1 then (some true) else (some false))))) else (some false))))) else (some false))))) else (some false))))) else (some false))))) else (some false))))))))
theorem laws_FnExactTransferAccount.mono : ∀ a0 a1 a2 a3 a4 k, LeO (laws_FnExactTransferAccount.f k a0 a1 a2 a3 a4) (laws_FnExactTransferAccount.f (k + 1) a0 a1 a2 a3 a4) := by
 intro a0 a1 a2 a3 a4 k
 unfold laws_FnExactTransferAccount.f
 repeat' first
   | (with_reducible exact impl_TransferAccount.mono _ _ _ _ _ _)
   | (with_reducible exact laws_eqAccount.mono _ _ _ _ _ _ _)
   | (with_reducible exact laws_heldAccount.mono _ _ _ _ _)
   | (with_reducible exact laws_markAccount.mono _ _ _ _ _)
   | (with_reducible exact laws_toAccount.mono _ _ _ _)
   | (with_reducible exact spec_TransferAccount.mono _ _ _ _ _ _)
   | (with_reducible exact LeO.refl _)
   | (with_reducible exact LeO.none _)
   | (with_reducible refine LeO.ite ?_ ?_)
   | (with_reducible refine LeO.bind ?_ (fun _ => ?_))
   | exact impl_TransferAccount.mono _ _ _ _ _ _
   | exact laws_eqAccount.mono _ _ _ _ _ _ _
   | exact laws_heldAccount.mono _ _ _ _ _
   | exact laws_markAccount.mono _ _ _ _ _
   | exact laws_toAccount.mono _ _ _ _
   | exact spec_TransferAccount.mono _ _ _ _ _ _
   | exact LeO.none _
   | refine LeO.ite ?_ ?_
   | refine LeO.bind ?_ (fun _ => ?_)
set_option maxHeartbeats 8000000 in
set_option maxRecDepth 100000 in
theorem laws_FnExactTransferAccount.calls (k : Nat) (a0_0 : Int) (a0_1 : Int) (A0_2 : Option Addr) (c0_2 : Nat) (l0_2 : List (S145)) (a1 : Int) (a2 : Int) (r : Bool) (w : World) (hr0_2 : Kd.C k145 w A0_2 l0_2.length l0_2) (hc0_2 : l0_2.length ≤ c0_2) (hT_ : r = true) (h : laws_FnExactTransferAccount.f k a0_0 a0_1 l0_2 a1 a2 = some r) :
  Calls Try.prog 10 #[.agg #[.int .i64 a0_0, .int .i64 a0_1, .slice A0_2 l0_2.length c0_2], .int .i64 a1, .int .i64 a2] w fun e w' => e = .returned (.bool r) ∧ Below w.heap.size w w' := by
 have hu72 := Try.underlying72
 have hu76 := Try.underlying76
 have HR0_2 := Aside0.mk hr0_2
 have HC0_2 := Aside0.mk hc0_2
 clear hr0_2 hc0_2
 have HB := Aside0.mk (Below.refl w.heap.size w)
 have H : ((laws_szAccount.f a0_0 a0_1 l0_2 1048576).bind fun t339 => (if t339 < 0 then (some true) else ((laws_toAccount.f k a0_0 a0_1 l0_2).bind fun bt340 => ((spec_TransferAccount.f k bt340.1 bt340.2.1 bt340.2.2 a1 a2).bind fun bt345 => ((laws_toAccount.f k a0_0 a0_1 l0_2).bind fun bt352 => ((impl_TransferAccount.f k bt352.1 bt352.2.1 bt352.2.2 a1 a2).bind fun bt358 => ((laws_eqAccount.f k bt358.1 bt358.2.1 bt358.2.2.1 bt345.1 bt345.2.1 bt345.2.2.1).bind fun t365 => (if t365 = true then (if (bt358.2.2.2 != bt345.2.2.2) = true then (some false) else ((laws_toAccount.f k a0_0 a0_1 l0_2).bind fun bt366 => ((laws_eqAccount.f k bt352.1 bt352.2.1 bt352.2.2 bt366.1 bt366.2.1 bt366.2.2).bind fun t371 => (if t371 = true then ((laws_markAccount.f k bt352.1 bt352.2.1 bt352.2.2 1).bind fun bt372 => (if bt372.1 < 0 then (some false) else ((laws_eqAccount.f k bt358.1 bt358.2.1 bt358.2.2.1 bt345.1 bt345.2.1 bt345.2.2.1).bind fun t374 => (if t374 = true then ((laws_markAccount.f k bt358.1 bt358.2.1 bt358.2.2.1 1).bind fun bt375 => ((laws_heldAccount.f k bt358.1 bt358.2.1 bt375.2 1).bind fun t377 => (if t377 < 0 then (some false) else (if t377 = bt375.1 then ((laws_toAccount.f k a0_0 a0_1 l0_2).bind fun bt378 => ((impl_TransferAccount.f k bt378.1 bt378.2.1 bt378.2.2 a1 a2).bind fun bt383 => ((laws_eqAccount.f k bt383.1 bt383.2.1 bt383.2.2.1 bt345.1 bt345.2.1 bt345.2.2.1).bind fun t390 => (if t390 = true then (if (bt383.2.2.2 != bt345.2.2.2) = true then (some false) else ((laws_heldAccount.f k bt358.1 bt358.2.1 bt375.2 1).bind fun t391 => (if t391 < 0 then (some false) else (if t391 = bt375.1 then (some true) else (some false))))) else (some false))))) else (some false))))) else (some false))))) else (some false))))) else (some false))))))))) = some r := h
 clear h
 replace H := Option.bind_eq_some_iff.mp H
 obtain ⟨t339, A40, H⟩ := H
 replace H : (if t339 < 0 then (some true) else ((laws_toAccount.f k a0_0 a0_1 l0_2).bind fun bt340 => ((spec_TransferAccount.f k bt340.1 bt340.2.1 bt340.2.2 a1 a2).bind fun bt345 => ((laws_toAccount.f k a0_0 a0_1 l0_2).bind fun bt352 => ((impl_TransferAccount.f k bt352.1 bt352.2.1 bt352.2.2 a1 a2).bind fun bt358 => ((laws_eqAccount.f k bt358.1 bt358.2.1 bt358.2.2.1 bt345.1 bt345.2.1 bt345.2.2.1).bind fun t365 => (if t365 = true then (if (bt358.2.2.2 != bt345.2.2.2) = true then (some false) else ((laws_toAccount.f k a0_0 a0_1 l0_2).bind fun bt366 => ((laws_eqAccount.f k bt352.1 bt352.2.1 bt352.2.2 bt366.1 bt366.2.1 bt366.2.2).bind fun t371 => (if t371 = true then ((laws_markAccount.f k bt352.1 bt352.2.1 bt352.2.2 1).bind fun bt372 => (if bt372.1 < 0 then (some false) else ((laws_eqAccount.f k bt358.1 bt358.2.1 bt358.2.2.1 bt345.1 bt345.2.1 bt345.2.2.1).bind fun t374 => (if t374 = true then ((laws_markAccount.f k bt358.1 bt358.2.1 bt358.2.2.1 1).bind fun bt375 => ((laws_heldAccount.f k bt358.1 bt358.2.1 bt375.2 1).bind fun t377 => (if t377 < 0 then (some false) else (if t377 = bt375.1 then ((laws_toAccount.f k a0_0 a0_1 l0_2).bind fun bt378 => ((impl_TransferAccount.f k bt378.1 bt378.2.1 bt378.2.2 a1 a2).bind fun bt383 => ((laws_eqAccount.f k bt383.1 bt383.2.1 bt383.2.2.1 bt345.1 bt345.2.1 bt345.2.2.1).bind fun t390 => (if t390 = true then (if (bt383.2.2.2 != bt345.2.2.2) = true then (some false) else ((laws_heldAccount.f k bt358.1 bt358.2.1 bt375.2 1).bind fun t391 => (if t391 < 0 then (some false) else (if t391 = bt375.1 then (some true) else (some false))))) else (some false))))) else (some false))))) else (some false))))) else (some false))))) else (some false)))))))) = some r := H
 have A4 := Aside0.mk A40
 clear A40
 by_cases c5 : t339 < 0
 ·rw [if_pos c5] at H
  have c5b0 : decide (t339 < 0) = true := decide_eq_true c5
  clear c5
  obtain rfl := Option.some.inj H
  go_enter Try.func10, Try.ntmps10
  go_wp2_with (first | ((with_reducible refine gate_dst (N := 3) rfl ?_); refine box_event ?hg (N := 3) ?hd (cs := #[.int .i64 a0_0, .int .i64 a0_1, .slice A0_2 l0_2.length c0_2]) (t := 72) ?hr ?_; (case hd => rfl); (case hg => rfl); (case hr => exact tG); intro gb338 hg w6 hbox hb; have n0_ := Aside0.mk (below_step tB hb); have n1_ := Aside0.mk (hbox); have n2_ := Aside0.mk ((by rw [hg]; exact (below_size tB) : w.heap.size ≤ gb338)); have n3_ := Aside0.mk ((by rw [hg]; exact (below_size tB) : w.heap.size ≤ gb338)); clear HB; have HB := n0_; have BK338 := n1_; have GW338 := n2_; have GE338 := n3_; clear n0_ n1_ n2_ n3_; clear hb hbox hg; obtain ⟨hcz7_0, hcz7_1, hcz7_2, hfz7_0, hfz7_1, hfz7_2⟩ := bc3 BK338.out) | ((with_reducible refine gate_callee (f := 44) rfl ?_); refine goesL_ (some 20) rfl rfl Try.func44 (by kernel_rfl) rfl #[.agg #[.int .i64 a0_0, .int .i64 a0_1, .slice A0_2 l0_2.length c0_2], .int .i64 1048576] rfl tL ?_; (with_reducible refine (laws_szAccount.calls a0_0 a0_1 _ _ l0_2 1048576 t339 _ ?side1 ?side2 A4.out).mono ?_); (case side1 => repeat (first | exact (Kd.C_below HR0_2.out HB.out) | (with_reducible refine Kd.C_alloc ?_ _) | (with_reducible refine Kd.C_drewN ?_ _) | (with_reducible refine Kd.C_drew ?_))); (case side2 => exact HC0_2.out); rintro e w8 ⟨rfl, hb⟩; refine ⟨_, rfl, ?_⟩; have n0_ := Aside0.mk (blk_below (g := gb338) (o := .cells #[.int .i64 a0_0, .int .i64 a0_1, .slice A0_2 l0_2.length c0_2] 72 (0, 0)) (tK BK338) hb); have n1_ := Aside0.mk (below_step tB hb); clear BK338; clear HB; have BK338 := n0_; have HB := n1_; clear n0_ n1_; (try clear hb); (try clear hb2); (try clear hk); (try clear hi)))
  go_ret
  exact ⟨tE, tB⟩
 ·rw [if_neg c5] at H
  have c5b0 : decide (t339 < 0) = false := decide_eq_false c5
  clear c5
  replace H := Option.bind_eq_some_iff.mp H
  obtain ⟨⟨t340, t341, t342⟩, A90, H⟩ := H
  replace H : ((spec_TransferAccount.f k t340 t341 t342 a1 a2).bind fun bt345 => ((laws_toAccount.f k a0_0 a0_1 l0_2).bind fun bt352 => ((impl_TransferAccount.f k bt352.1 bt352.2.1 bt352.2.2 a1 a2).bind fun bt358 => ((laws_eqAccount.f k bt358.1 bt358.2.1 bt358.2.2.1 bt345.1 bt345.2.1 bt345.2.2.1).bind fun t365 => (if t365 = true then (if (bt358.2.2.2 != bt345.2.2.2) = true then (some false) else ((laws_toAccount.f k a0_0 a0_1 l0_2).bind fun bt366 => ((laws_eqAccount.f k bt352.1 bt352.2.1 bt352.2.2 bt366.1 bt366.2.1 bt366.2.2).bind fun t371 => (if t371 = true then ((laws_markAccount.f k bt352.1 bt352.2.1 bt352.2.2 1).bind fun bt372 => (if bt372.1 < 0 then (some false) else ((laws_eqAccount.f k bt358.1 bt358.2.1 bt358.2.2.1 bt345.1 bt345.2.1 bt345.2.2.1).bind fun t374 => (if t374 = true then ((laws_markAccount.f k bt358.1 bt358.2.1 bt358.2.2.1 1).bind fun bt375 => ((laws_heldAccount.f k bt358.1 bt358.2.1 bt375.2 1).bind fun t377 => (if t377 < 0 then (some false) else (if t377 = bt375.1 then ((laws_toAccount.f k a0_0 a0_1 l0_2).bind fun bt378 => ((impl_TransferAccount.f k bt378.1 bt378.2.1 bt378.2.2 a1 a2).bind fun bt383 => ((laws_eqAccount.f k bt383.1 bt383.2.1 bt383.2.2.1 bt345.1 bt345.2.1 bt345.2.2.1).bind fun t390 => (if t390 = true then (if (bt383.2.2.2 != bt345.2.2.2) = true then (some false) else ((laws_heldAccount.f k bt358.1 bt358.2.1 bt375.2 1).bind fun t391 => (if t391 < 0 then (some false) else (if t391 = bt375.1 then (some true) else (some false))))) else (some false))))) else (some false))))) else (some false))))) else (some false))))) else (some false)))))) = some r := H
  have A9 := Aside0.mk A90
  clear A90
  replace H := Option.bind_eq_some_iff.mp H
  obtain ⟨⟨t345, t346, t347, t350⟩, A100, H⟩ := H
  replace H : ((laws_toAccount.f k a0_0 a0_1 l0_2).bind fun bt352 => ((impl_TransferAccount.f k bt352.1 bt352.2.1 bt352.2.2 a1 a2).bind fun bt358 => ((laws_eqAccount.f k bt358.1 bt358.2.1 bt358.2.2.1 t345 t346 t347).bind fun t365 => (if t365 = true then (if (bt358.2.2.2 != t350) = true then (some false) else ((laws_toAccount.f k a0_0 a0_1 l0_2).bind fun bt366 => ((laws_eqAccount.f k bt352.1 bt352.2.1 bt352.2.2 bt366.1 bt366.2.1 bt366.2.2).bind fun t371 => (if t371 = true then ((laws_markAccount.f k bt352.1 bt352.2.1 bt352.2.2 1).bind fun bt372 => (if bt372.1 < 0 then (some false) else ((laws_eqAccount.f k bt358.1 bt358.2.1 bt358.2.2.1 t345 t346 t347).bind fun t374 => (if t374 = true then ((laws_markAccount.f k bt358.1 bt358.2.1 bt358.2.2.1 1).bind fun bt375 => ((laws_heldAccount.f k bt358.1 bt358.2.1 bt375.2 1).bind fun t377 => (if t377 < 0 then (some false) else (if t377 = bt375.1 then ((laws_toAccount.f k a0_0 a0_1 l0_2).bind fun bt378 => ((impl_TransferAccount.f k bt378.1 bt378.2.1 bt378.2.2 a1 a2).bind fun bt383 => ((laws_eqAccount.f k bt383.1 bt383.2.1 bt383.2.2.1 t345 t346 t347).bind fun t390 => (if t390 = true then (if (bt383.2.2.2 != t350) = true then (some false) else ((laws_heldAccount.f k bt358.1 bt358.2.1 bt375.2 1).bind fun t391 => (if t391 < 0 then (some false) else (if t391 = bt375.1 then (some true) else (some false))))) else (some false))))) else (some false))))) else (some false))))) else (some false))))) else (some false))))) = some r := H
  have A10 := Aside0.mk A100
  clear A100
  replace H := Option.bind_eq_some_iff.mp H
  obtain ⟨⟨t352, t353, t354⟩, A110, H⟩ := H
  replace H : ((impl_TransferAccount.f k t352 t353 t354 a1 a2).bind fun bt358 => ((laws_eqAccount.f k bt358.1 bt358.2.1 bt358.2.2.1 t345 t346 t347).bind fun t365 => (if t365 = true then (if (bt358.2.2.2 != t350) = true then (some false) else ((laws_toAccount.f k a0_0 a0_1 l0_2).bind fun bt366 => ((laws_eqAccount.f k t352 t353 t354 bt366.1 bt366.2.1 bt366.2.2).bind fun t371 => (if t371 = true then ((laws_markAccount.f k t352 t353 t354 1).bind fun bt372 => (if bt372.1 < 0 then (some false) else ((laws_eqAccount.f k bt358.1 bt358.2.1 bt358.2.2.1 t345 t346 t347).bind fun t374 => (if t374 = true then ((laws_markAccount.f k bt358.1 bt358.2.1 bt358.2.2.1 1).bind fun bt375 => ((laws_heldAccount.f k bt358.1 bt358.2.1 bt375.2 1).bind fun t377 => (if t377 < 0 then (some false) else (if t377 = bt375.1 then ((laws_toAccount.f k a0_0 a0_1 l0_2).bind fun bt378 => ((impl_TransferAccount.f k bt378.1 bt378.2.1 bt378.2.2 a1 a2).bind fun bt383 => ((laws_eqAccount.f k bt383.1 bt383.2.1 bt383.2.2.1 t345 t346 t347).bind fun t390 => (if t390 = true then (if (bt383.2.2.2 != t350) = true then (some false) else ((laws_heldAccount.f k bt358.1 bt358.2.1 bt375.2 1).bind fun t391 => (if t391 < 0 then (some false) else (if t391 = bt375.1 then (some true) else (some false))))) else (some false))))) else (some false))))) else (some false))))) else (some false))))) else (some false)))) = some r := H
  have A11 := Aside0.mk A110
  clear A110
  replace H := Option.bind_eq_some_iff.mp H
  obtain ⟨⟨t358, t359, t360, t363⟩, A120, H⟩ := H
  replace H : ((laws_eqAccount.f k t358 t359 t360 t345 t346 t347).bind fun t365 => (if t365 = true then (if (t363 != t350) = true then (some false) else ((laws_toAccount.f k a0_0 a0_1 l0_2).bind fun bt366 => ((laws_eqAccount.f k t352 t353 t354 bt366.1 bt366.2.1 bt366.2.2).bind fun t371 => (if t371 = true then ((laws_markAccount.f k t352 t353 t354 1).bind fun bt372 => (if bt372.1 < 0 then (some false) else ((laws_eqAccount.f k t358 t359 t360 t345 t346 t347).bind fun t374 => (if t374 = true then ((laws_markAccount.f k t358 t359 t360 1).bind fun bt375 => ((laws_heldAccount.f k t358 t359 bt375.2 1).bind fun t377 => (if t377 < 0 then (some false) else (if t377 = bt375.1 then ((laws_toAccount.f k a0_0 a0_1 l0_2).bind fun bt378 => ((impl_TransferAccount.f k bt378.1 bt378.2.1 bt378.2.2 a1 a2).bind fun bt383 => ((laws_eqAccount.f k bt383.1 bt383.2.1 bt383.2.2.1 t345 t346 t347).bind fun t390 => (if t390 = true then (if (bt383.2.2.2 != t350) = true then (some false) else ((laws_heldAccount.f k t358 t359 bt375.2 1).bind fun t391 => (if t391 < 0 then (some false) else (if t391 = bt375.1 then (some true) else (some false))))) else (some false))))) else (some false))))) else (some false))))) else (some false))))) else (some false))) = some r := H
  have A12 := Aside0.mk A120
  clear A120
  replace H := Option.bind_eq_some_iff.mp H
  obtain ⟨t365, A130, H⟩ := H
  replace H : (if t365 = true then (if (t363 != t350) = true then (some false) else ((laws_toAccount.f k a0_0 a0_1 l0_2).bind fun bt366 => ((laws_eqAccount.f k t352 t353 t354 bt366.1 bt366.2.1 bt366.2.2).bind fun t371 => (if t371 = true then ((laws_markAccount.f k t352 t353 t354 1).bind fun bt372 => (if bt372.1 < 0 then (some false) else ((laws_eqAccount.f k t358 t359 t360 t345 t346 t347).bind fun t374 => (if t374 = true then ((laws_markAccount.f k t358 t359 t360 1).bind fun bt375 => ((laws_heldAccount.f k t358 t359 bt375.2 1).bind fun t377 => (if t377 < 0 then (some false) else (if t377 = bt375.1 then ((laws_toAccount.f k a0_0 a0_1 l0_2).bind fun bt378 => ((impl_TransferAccount.f k bt378.1 bt378.2.1 bt378.2.2 a1 a2).bind fun bt383 => ((laws_eqAccount.f k bt383.1 bt383.2.1 bt383.2.2.1 t345 t346 t347).bind fun t390 => (if t390 = true then (if (bt383.2.2.2 != t350) = true then (some false) else ((laws_heldAccount.f k t358 t359 bt375.2 1).bind fun t391 => (if t391 < 0 then (some false) else (if t391 = bt375.1 then (some true) else (some false))))) else (some false))))) else (some false))))) else (some false))))) else (some false))))) else (some false)) = some r := H
  have A13 := Aside0.mk A130
  clear A130
  by_cases c14 : t365 = true
  ·subst c14
   have H1 : (if (t363 != t350) = true then (some false) else ((laws_toAccount.f k a0_0 a0_1 l0_2).bind fun bt366 => ((laws_eqAccount.f k t352 t353 t354 bt366.1 bt366.2.1 bt366.2.2).bind fun t371 => (if t371 = true then ((laws_markAccount.f k t352 t353 t354 1).bind fun bt372 => (if bt372.1 < 0 then (some false) else ((laws_eqAccount.f k t358 t359 t360 t345 t346 t347).bind fun t374 => (if t374 = true then ((laws_markAccount.f k t358 t359 t360 1).bind fun bt375 => ((laws_heldAccount.f k t358 t359 bt375.2 1).bind fun t377 => (if t377 < 0 then (some false) else (if t377 = bt375.1 then ((laws_toAccount.f k a0_0 a0_1 l0_2).bind fun bt378 => ((impl_TransferAccount.f k bt378.1 bt378.2.1 bt378.2.2 a1 a2).bind fun bt383 => ((laws_eqAccount.f k bt383.1 bt383.2.1 bt383.2.2.1 t345 t346 t347).bind fun t390 => (if t390 = true then (if (bt383.2.2.2 != t350) = true then (some false) else ((laws_heldAccount.f k t358 t359 bt375.2 1).bind fun t391 => (if t391 < 0 then (some false) else (if t391 = bt375.1 then (some true) else (some false))))) else (some false))))) else (some false))))) else (some false))))) else (some false))))) = some r := by rw [if_pos rfl] at H; exact H
   clear H
   have H := H1
   clear H1
   by_cases c15 : (t363 != t350) = true
   ·rw [if_pos c15] at H
    have c15b0 : (t363 != t350) = true := c15
    (try (have c15b1 : decide (t363 = t350) = false := by simpa using c15))
    (try (have c15b2 : (t363 == t350) = false := by simpa using c15))
    (try (have c15b3 : ¬ (t363 = t350) := by simpa using c15))
    clear c15
    exact absurd ((Option.some.inj H).trans hT_) (by decide)
   ·rw [if_neg c15] at H
    have c15b0 : (t363 != t350) = false := by simpa using c15
    (try (have c15b1 : decide (t363 = t350) = true := by simpa using c15))
    (try (have c15b2 : (t363 == t350) = true := by simpa using c15))
    clear c15
    replace H := Option.bind_eq_some_iff.mp H
    obtain ⟨⟨t366, t367, t368⟩, A160, H⟩ := H
    replace H : ((laws_eqAccount.f k t352 t353 t354 t366 t367 t368).bind fun t371 => (if t371 = true then ((laws_markAccount.f k t352 t353 t354 1).bind fun bt372 => (if bt372.1 < 0 then (some false) else ((laws_eqAccount.f k t358 t359 t360 t345 t346 t347).bind fun t374 => (if t374 = true then ((laws_markAccount.f k t358 t359 t360 1).bind fun bt375 => ((laws_heldAccount.f k t358 t359 bt375.2 1).bind fun t377 => (if t377 < 0 then (some false) else (if t377 = bt375.1 then ((laws_toAccount.f k a0_0 a0_1 l0_2).bind fun bt378 => ((impl_TransferAccount.f k bt378.1 bt378.2.1 bt378.2.2 a1 a2).bind fun bt383 => ((laws_eqAccount.f k bt383.1 bt383.2.1 bt383.2.2.1 t345 t346 t347).bind fun t390 => (if t390 = true then (if (bt383.2.2.2 != t350) = true then (some false) else ((laws_heldAccount.f k t358 t359 bt375.2 1).bind fun t391 => (if t391 < 0 then (some false) else (if t391 = bt375.1 then (some true) else (some false))))) else (some false))))) else (some false))))) else (some false))))) else (some false))) = some r := H
    have A16 := Aside0.mk A160
    clear A160
    replace H := Option.bind_eq_some_iff.mp H
    obtain ⟨t371, A170, H⟩ := H
    replace H : (if t371 = true then ((laws_markAccount.f k t352 t353 t354 1).bind fun bt372 => (if bt372.1 < 0 then (some false) else ((laws_eqAccount.f k t358 t359 t360 t345 t346 t347).bind fun t374 => (if t374 = true then ((laws_markAccount.f k t358 t359 t360 1).bind fun bt375 => ((laws_heldAccount.f k t358 t359 bt375.2 1).bind fun t377 => (if t377 < 0 then (some false) else (if t377 = bt375.1 then ((laws_toAccount.f k a0_0 a0_1 l0_2).bind fun bt378 => ((impl_TransferAccount.f k bt378.1 bt378.2.1 bt378.2.2 a1 a2).bind fun bt383 => ((laws_eqAccount.f k bt383.1 bt383.2.1 bt383.2.2.1 t345 t346 t347).bind fun t390 => (if t390 = true then (if (bt383.2.2.2 != t350) = true then (some false) else ((laws_heldAccount.f k t358 t359 bt375.2 1).bind fun t391 => (if t391 < 0 then (some false) else (if t391 = bt375.1 then (some true) else (some false))))) else (some false))))) else (some false))))) else (some false))))) else (some false)) = some r := H
    have A17 := Aside0.mk A170
    clear A170
    by_cases c18 : t371 = true
    ·subst c18
     have H1 : ((laws_markAccount.f k t352 t353 t354 1).bind fun bt372 => (if bt372.1 < 0 then (some false) else ((laws_eqAccount.f k t358 t359 t360 t345 t346 t347).bind fun t374 => (if t374 = true then ((laws_markAccount.f k t358 t359 t360 1).bind fun bt375 => ((laws_heldAccount.f k t358 t359 bt375.2 1).bind fun t377 => (if t377 < 0 then (some false) else (if t377 = bt375.1 then ((laws_toAccount.f k a0_0 a0_1 l0_2).bind fun bt378 => ((impl_TransferAccount.f k bt378.1 bt378.2.1 bt378.2.2 a1 a2).bind fun bt383 => ((laws_eqAccount.f k bt383.1 bt383.2.1 bt383.2.2.1 t345 t346 t347).bind fun t390 => (if t390 = true then (if (bt383.2.2.2 != t350) = true then (some false) else ((laws_heldAccount.f k t358 t359 bt375.2 1).bind fun t391 => (if t391 < 0 then (some false) else (if t391 = bt375.1 then (some true) else (some false))))) else (some false))))) else (some false))))) else (some false))))) = some r := by rw [if_pos rfl] at H; exact H
     clear H
     have H := H1
     clear H1
     replace H := Option.bind_eq_some_iff.mp H
     obtain ⟨⟨t372, t373⟩, A190, H⟩ := H
     replace H : (if t372 < 0 then (some false) else ((laws_eqAccount.f k t358 t359 t360 t345 t346 t347).bind fun t374 => (if t374 = true then ((laws_markAccount.f k t358 t359 t360 1).bind fun bt375 => ((laws_heldAccount.f k t358 t359 bt375.2 1).bind fun t377 => (if t377 < 0 then (some false) else (if t377 = bt375.1 then ((laws_toAccount.f k a0_0 a0_1 l0_2).bind fun bt378 => ((impl_TransferAccount.f k bt378.1 bt378.2.1 bt378.2.2 a1 a2).bind fun bt383 => ((laws_eqAccount.f k bt383.1 bt383.2.1 bt383.2.2.1 t345 t346 t347).bind fun t390 => (if t390 = true then (if (bt383.2.2.2 != t350) = true then (some false) else ((laws_heldAccount.f k t358 t359 bt375.2 1).bind fun t391 => (if t391 < 0 then (some false) else (if t391 = bt375.1 then (some true) else (some false))))) else (some false))))) else (some false))))) else (some false)))) = some r := H
     have A19 := Aside0.mk A190
     clear A190
     by_cases c20 : t372 < 0
     ·rw [if_pos c20] at H
      have c20b0 : decide (t372 < 0) = true := decide_eq_true c20
      clear c20
      exact absurd ((Option.some.inj H).trans hT_) (by decide)
     ·rw [if_neg c20] at H
      have c20b0 : decide (t372 < 0) = false := decide_eq_false c20
      clear c20
      replace H := Option.bind_eq_some_iff.mp H
      obtain ⟨t374, A210, H⟩ := H
      replace H : (if t374 = true then ((laws_markAccount.f k t358 t359 t360 1).bind fun bt375 => ((laws_heldAccount.f k t358 t359 bt375.2 1).bind fun t377 => (if t377 < 0 then (some false) else (if t377 = bt375.1 then ((laws_toAccount.f k a0_0 a0_1 l0_2).bind fun bt378 => ((impl_TransferAccount.f k bt378.1 bt378.2.1 bt378.2.2 a1 a2).bind fun bt383 => ((laws_eqAccount.f k bt383.1 bt383.2.1 bt383.2.2.1 t345 t346 t347).bind fun t390 => (if t390 = true then (if (bt383.2.2.2 != t350) = true then (some false) else ((laws_heldAccount.f k t358 t359 bt375.2 1).bind fun t391 => (if t391 < 0 then (some false) else (if t391 = bt375.1 then (some true) else (some false))))) else (some false))))) else (some false))))) else (some false)) = some r := H
      have A21 := Aside0.mk A210
      clear A210
      by_cases c22 : t374 = true
      ·subst c22
       have H1 : ((laws_markAccount.f k t358 t359 t360 1).bind fun bt375 => ((laws_heldAccount.f k t358 t359 bt375.2 1).bind fun t377 => (if t377 < 0 then (some false) else (if t377 = bt375.1 then ((laws_toAccount.f k a0_0 a0_1 l0_2).bind fun bt378 => ((impl_TransferAccount.f k bt378.1 bt378.2.1 bt378.2.2 a1 a2).bind fun bt383 => ((laws_eqAccount.f k bt383.1 bt383.2.1 bt383.2.2.1 t345 t346 t347).bind fun t390 => (if t390 = true then (if (bt383.2.2.2 != t350) = true then (some false) else ((laws_heldAccount.f k t358 t359 bt375.2 1).bind fun t391 => (if t391 < 0 then (some false) else (if t391 = bt375.1 then (some true) else (some false))))) else (some false))))) else (some false))))) = some r := by rw [if_pos rfl] at H; exact H
       clear H
       have H := H1
       clear H1
       replace H := Option.bind_eq_some_iff.mp H
       obtain ⟨⟨t375, t376⟩, A230, H⟩ := H
       replace H : ((laws_heldAccount.f k t358 t359 t376 1).bind fun t377 => (if t377 < 0 then (some false) else (if t377 = t375 then ((laws_toAccount.f k a0_0 a0_1 l0_2).bind fun bt378 => ((impl_TransferAccount.f k bt378.1 bt378.2.1 bt378.2.2 a1 a2).bind fun bt383 => ((laws_eqAccount.f k bt383.1 bt383.2.1 bt383.2.2.1 t345 t346 t347).bind fun t390 => (if t390 = true then (if (bt383.2.2.2 != t350) = true then (some false) else ((laws_heldAccount.f k t358 t359 t376 1).bind fun t391 => (if t391 < 0 then (some false) else (if t391 = t375 then (some true) else (some false))))) else (some false))))) else (some false)))) = some r := H
       have A23 := Aside0.mk A230
       clear A230
       replace H := Option.bind_eq_some_iff.mp H
       obtain ⟨t377, A240, H⟩ := H
       replace H : (if t377 < 0 then (some false) else (if t377 = t375 then ((laws_toAccount.f k a0_0 a0_1 l0_2).bind fun bt378 => ((impl_TransferAccount.f k bt378.1 bt378.2.1 bt378.2.2 a1 a2).bind fun bt383 => ((laws_eqAccount.f k bt383.1 bt383.2.1 bt383.2.2.1 t345 t346 t347).bind fun t390 => (if t390 = true then (if (bt383.2.2.2 != t350) = true then (some false) else ((laws_heldAccount.f k t358 t359 t376 1).bind fun t391 => (if t391 < 0 then (some false) else (if t391 = t375 then (some true) else (some false))))) else (some false))))) else (some false))) = some r := H
       have A24 := Aside0.mk A240
       clear A240
       by_cases c25 : t377 < 0
       ·rw [if_pos c25] at H
        have c25b0 : decide (t377 < 0) = true := decide_eq_true c25
        clear c25
        exact absurd ((Option.some.inj H).trans hT_) (by decide)
       ·rw [if_neg c25] at H
        have c25b0 : decide (t377 < 0) = false := decide_eq_false c25
        clear c25
        by_cases c26 : t377 = t375
        ·rw [if_pos c26] at H
         have c26b0 : (t377 == t375) = true := beq_iff_eq.mpr c26
         have c26b1 : (t377 != t375) = false := bne_eq_false_iff_eq.mpr c26
         clear c26
         replace H := Option.bind_eq_some_iff.mp H
         obtain ⟨⟨t378, t379, t380⟩, A270, H⟩ := H
         replace H : ((impl_TransferAccount.f k t378 t379 t380 a1 a2).bind fun bt383 => ((laws_eqAccount.f k bt383.1 bt383.2.1 bt383.2.2.1 t345 t346 t347).bind fun t390 => (if t390 = true then (if (bt383.2.2.2 != t350) = true then (some false) else ((laws_heldAccount.f k t358 t359 t376 1).bind fun t391 => (if t391 < 0 then (some false) else (if t391 = t375 then (some true) else (some false))))) else (some false)))) = some r := H
         have A27 := Aside0.mk A270
         clear A270
         replace H := Option.bind_eq_some_iff.mp H
         obtain ⟨⟨t383, t384, t385, t388⟩, A280, H⟩ := H
         replace H : ((laws_eqAccount.f k t383 t384 t385 t345 t346 t347).bind fun t390 => (if t390 = true then (if (t388 != t350) = true then (some false) else ((laws_heldAccount.f k t358 t359 t376 1).bind fun t391 => (if t391 < 0 then (some false) else (if t391 = t375 then (some true) else (some false))))) else (some false))) = some r := H
         have A28 := Aside0.mk A280
         clear A280
         replace H := Option.bind_eq_some_iff.mp H
         obtain ⟨t390, A290, H⟩ := H
         replace H : (if t390 = true then (if (t388 != t350) = true then (some false) else ((laws_heldAccount.f k t358 t359 t376 1).bind fun t391 => (if t391 < 0 then (some false) else (if t391 = t375 then (some true) else (some false))))) else (some false)) = some r := H
         have A29 := Aside0.mk A290
         clear A290
         by_cases c30 : t390 = true
         ·subst c30
          have H1 : (if (t388 != t350) = true then (some false) else ((laws_heldAccount.f k t358 t359 t376 1).bind fun t391 => (if t391 < 0 then (some false) else (if t391 = t375 then (some true) else (some false))))) = some r := by rw [if_pos rfl] at H; exact H
          clear H
          have H := H1
          clear H1
          by_cases c31 : (t388 != t350) = true
          ·rw [if_pos c31] at H
           have c31b0 : (t388 != t350) = true := c31
           (try (have c31b1 : decide (t388 = t350) = false := by simpa using c31))
           (try (have c31b2 : (t388 == t350) = false := by simpa using c31))
           (try (have c31b3 : ¬ (t388 = t350) := by simpa using c31))
           clear c31
           exact absurd ((Option.some.inj H).trans hT_) (by decide)
          ·rw [if_neg c31] at H
           have c31b0 : (t388 != t350) = false := by simpa using c31
           (try (have c31b1 : decide (t388 = t350) = true := by simpa using c31))
           (try (have c31b2 : (t388 == t350) = true := by simpa using c31))
           clear c31
           replace H := Option.bind_eq_some_iff.mp H
           obtain ⟨t391, A320, H⟩ := H
           replace H : (if t391 < 0 then (some false) else (if t391 = t375 then (some true) else (some false))) = some r := H
           have A32 := Aside0.mk A320
           clear A320
           by_cases c33 : t391 < 0
           ·rw [if_pos c33] at H
            have c33b0 : decide (t391 < 0) = true := decide_eq_true c33
            clear c33
            exact absurd ((Option.some.inj H).trans hT_) (by decide)
           ·rw [if_neg c33] at H
            have c33b0 : decide (t391 < 0) = false := decide_eq_false c33
            clear c33
            by_cases c34 : t391 = t375
            ·rw [if_pos c34] at H
             have c34b0 : (t391 == t375) = true := beq_iff_eq.mpr c34
             have c34b1 : (t391 != t375) = false := bne_eq_false_iff_eq.mpr c34
             clear c34
             obtain rfl := Option.some.inj H
             go_enter Try.func10, Try.ntmps10
             try go_wp2_with (first | ((with_reducible refine gate_dst (N := 3) rfl ?_); refine box_event ?hg (N := 3) ?hd (cs := #[.int .i64 a0_0, .int .i64 a0_1, .slice A0_2 l0_2.length c0_2]) (t := 72) ?hr ?_; (case hd => rfl); (case hg => rfl); (case hr => exact tG); intro gb338 hg w35 hbox hb; have n0_ := Aside0.mk (below_step tB hb); have n1_ := Aside0.mk (hbox); have n2_ := Aside0.mk ((by rw [hg]; exact (below_size tB) : w.heap.size ≤ gb338)); have n3_ := Aside0.mk ((by rw [hg]; exact (below_size tB) : w.heap.size ≤ gb338)); clear HB; have HB := n0_; have BK338 := n1_; have GW338 := n2_; have GE338 := n3_; clear n0_ n1_ n2_ n3_; clear hb hbox hg; obtain ⟨hcz36_0, hcz36_1, hcz36_2, hfz36_0, hfz36_1, hfz36_2⟩ := bc3 BK338.out) | ((with_reducible refine gate_callee (f := 44) rfl ?_); refine goesL_ (some 20) rfl rfl Try.func44 (by kernel_rfl) rfl #[.agg #[.int .i64 a0_0, .int .i64 a0_1, .slice A0_2 l0_2.length c0_2], .int .i64 1048576] rfl tL ?_; (with_reducible refine (laws_szAccount.calls a0_0 a0_1 _ _ l0_2 1048576 t339 _ ?side1 ?side2 A4.out).mono ?_); (case side1 => repeat (first | exact (Kd.C_below HR0_2.out HB.out) | (with_reducible refine Kd.C_alloc ?_ _) | (with_reducible refine Kd.C_drewN ?_ _) | (with_reducible refine Kd.C_drew ?_))); (case side2 => exact HC0_2.out); rintro e w37 ⟨rfl, hb⟩; refine ⟨_, rfl, ?_⟩; have n0_ := Aside0.mk (blk_below (g := gb338) (o := .cells #[.int .i64 a0_0, .int .i64 a0_1, .slice A0_2 l0_2.length c0_2] 72 (0, 0)) (tK BK338) hb); have n1_ := Aside0.mk (below_step tB hb); clear BK338; clear HB; have BK338 := n0_; have HB := n1_; clear n0_ n1_; (try clear hb); (try clear hb2); (try clear hk); (try clear hi); obtain ⟨hcz38_0, hcz38_1, hcz38_2, hfz38_0, hfz38_1, hfz38_2⟩ := bc3 BK338.out) | ((with_reducible refine gate_callee (f := 46) rfl ?_); refine goesL_ (some 25) rfl rfl Try.func46 (by kernel_rfl) rfl #[.agg #[.int .i64 a0_0, .int .i64 a0_1, .slice A0_2 l0_2.length c0_2]] rfl tL ?_; (with_reducible refine (laws_toAccount.calls k a0_0 a0_1 _ _ l0_2 t340 t341 t342 _ ?side1 ?side2 A9.out).mono ?_); (case side1 => repeat (first | exact (Kd.C_below HR0_2.out HB.out) | (with_reducible refine Kd.C_alloc ?_ _) | (with_reducible refine Kd.C_drewN ?_ _) | (with_reducible refine Kd.C_drew ?_))); (case side2 => exact HC0_2.out); rintro e w39 ⟨v343, rfl, ho0, hb⟩; refine ⟨_, rfl, ?_⟩; have n0_ := Aside0.mk (Kd.R_lower ho0 (below_size tB)); have n1_ := Aside0.mk (blk_below (g := gb338) (o := .cells #[.int .i64 a0_0, .int .i64 a0_1, .slice A0_2 l0_2.length c0_2] 72 (0, 0)) (tK BK338) hb); have n2_ := Aside0.mk (below_step tB hb); clear BK338; clear HB; have HO344 := n0_; have BK338 := n1_; have HB := n2_; clear n0_ n1_ n2_; (try clear hb); (try clear hb2); (try clear hk); (try clear hi); (try clear ho0); obtain ⟨Ao40, co40, eo40⟩ := Kd.R_slice HO344.out; subst eo40) | ((with_reducible refine gate_callee (f := 45) rfl ?_); refine goesL_ (some 28) rfl rfl Try.func45 (by kernel_rfl) rfl #[.agg #[.int .i64 t340, .int .i64 t341, .slice Ao40 t342.length co40], .int .i64 a1, .int .i64 a2] rfl tL ?_; (with_reducible refine (spec_TransferAccount.calls k t340 t341 _ _ t342 a1 a2 t345 t346 t347 t350 _ ?side1 ?side2 A10.out).mono ?_); (case side1 => repeat (first | exact (Kd.R_reads' HO344.out).2.2 | (with_reducible refine Kd.C_alloc ?_ _) | (with_reducible refine Kd.C_drewN ?_ _) | (with_reducible refine Kd.C_drew ?_))); (case side2 => exact (Kd.R_reads' HO344.out).2.1); rintro e w41 ⟨v348, rfl, ho0, hb⟩; refine ⟨_, rfl, ?_⟩; have n0_ := Aside0.mk (Kd.R_elder' (tR HO344) (Kd.R_base ho0) hb); have n1_ := Aside0.mk (Kd.R_lower (Kd.R_new' ho0 (Kd.R_lt (tR HO344))) (below_size tB)); have n2_ := Aside0.mk (blk_below (g := gb338) (o := .cells #[.int .i64 a0_0, .int .i64 a0_1, .slice A0_2 l0_2.length c0_2] 72 (0, 0)) (tK BK338) hb); have n3_ := Aside0.mk (below_step tB hb); clear HO344; clear BK338; clear HB; have HO344 := n0_; have HO349 := n1_; have BK338 := n2_; have HB := n3_; clear n0_ n1_ n2_ n3_; (try clear hb); (try clear hb2); (try clear hk); (try clear hi); (try clear ho0)) | ((with_reducible refine gate_dst (N := 8) rfl ?_); refine box_event ?hg (N := 8) ?hd (cs := #[.int .i64 0, .int .i64 0, .slice none 0 0]) (t := 76) ?hr ?_; (case hd => rfl); (case hg => rfl); (case hr => exact tG); intro gb351 hg w42 hbox hb; have n0_ := Aside0.mk (Kd.R_below (tR HO344) hb); have n1_ := Aside0.mk (Kd.R_below (tR HO349) hb); have n2_ := Aside0.mk (blk_below (g := gb338) (o := .cells #[.int .i64 a0_0, .int .i64 a0_1, .slice A0_2 l0_2.length c0_2] 72 (0, 0)) (tK BK338) hb); have n3_ := Aside0.mk (below_step tB hb); have n4_ := Aside0.mk (hbox); have n5_ := Aside0.mk ((by rw [hg]; exact (below_size tB) : w.heap.size ≤ gb351)); have n6_ := Aside0.mk ((by rw [hg]; exact (below_size tB) : w.heap.size ≤ gb351)); have n7_ := Aside0.mk ((by rw [hg]; exact Nat.ne_of_lt (blk_lt (g := gb338) (o := .cells #[.int .i64 a0_0, .int .i64 a0_1, .slice A0_2 l0_2.length c0_2] 72 (0, 0)) (tK BK338)) : gb338 ≠ gb351)); have n8_ := Aside0.mk ((by rw [hg]; exact Nat.ne_of_gt (blk_lt (g := gb338) (o := .cells #[.int .i64 a0_0, .int .i64 a0_1, .slice A0_2 l0_2.length c0_2] 72 (0, 0)) (tK BK338)) : gb351 ≠ gb338)); clear HO344; clear HO349; clear BK338; clear HB; have HO344 := n0_; have HO349 := n1_; have BK338 := n2_; have HB := n3_; have BK351 := n4_; have GW351 := n5_; have GE351 := n6_; have NB338_351 := n7_; have NB351_338 := n8_; clear n0_ n1_ n2_ n3_ n4_ n5_ n6_ n7_ n8_; clear hb hbox hg; have hnb43 := NB351_338.out; have hnc43 := NB338_351.out; obtain ⟨hcz44_0, hcz44_1, hcz44_2, hfz44_0, hfz44_1, hfz44_2⟩ := bc3 BK351.out; obtain ⟨Ao45, co45, eo45⟩ := Kd.R_slice HO349.out; subst eo45; obtain ⟨hcz46_0, hcz46_1, hcz46_2, hfz46_0, hfz46_1, hfz46_2⟩ := bc3 BK338.out) | ((with_reducible refine gate_callee (f := 46) rfl ?_); refine goesL_ (some 32) rfl rfl Try.func46 (by kernel_rfl) rfl #[.agg #[.int .i64 a0_0, .int .i64 a0_1, .slice A0_2 l0_2.length c0_2]] rfl tL ?_; (with_reducible refine (laws_toAccount.calls k a0_0 a0_1 _ _ l0_2 t352 t353 t354 _ ?side1 ?side2 A11.out).mono ?_); (case side1 => exact Kd.C_below HR0_2.out tB); (case side2 => exact HC0_2.out); rintro e w47 ⟨v355, rfl, ho0, hb⟩; refine ⟨_, rfl, ?_⟩; have n0_ := Aside0.mk (Kd.R_elder' (by (with_reducible repeat (first | apply Kd.R_alloc | apply Kd.R_drewN | apply Kd.R_drew)); exact (Kd.R_mono (Kd.R_far (p := ⟨gb351, 2, none⟩) (Kd.R_far (p := ⟨gb351, 1, none⟩) (Kd.R_far (p := ⟨gb351, 0, none⟩) (Kd.R_types HO344.out BK351.out (by decide)) (fun _ hk => hk.2) (.int .i64 t345)) (fun _ hk => hk.2) (.int .i64 t346)) (fun _ hk => hk.2) (.slice Ao45 t347.length co45)) (fun _ h_ => h_.1))) (Kd.R_base ho0) hb); have n1_ := Aside0.mk (Kd.R_elder' (by (with_reducible repeat (first | apply Kd.R_alloc | apply Kd.R_drewN | apply Kd.R_drew)); exact (Kd.R_mono (Kd.R_far (p := ⟨gb351, 2, none⟩) (Kd.R_far (p := ⟨gb351, 1, none⟩) (Kd.R_far (p := ⟨gb351, 0, none⟩) (Kd.R_types HO349.out BK351.out (by decide)) (fun _ hk => hk.2) (.int .i64 t345)) (fun _ hk => hk.2) (.int .i64 t346)) (fun _ hk => hk.2) (.slice Ao45 t347.length co45)) (fun _ h_ => h_.1))) (Kd.R_base ho0) hb); have n2_ := Aside0.mk (Kd.R_lower (Kd.R_new' (Kd.R_new' ho0 (Kd.R_lt (by (with_reducible repeat (first | apply Kd.R_alloc | apply Kd.R_drewN | apply Kd.R_drew)); exact (Kd.R_mono (Kd.R_far (p := ⟨gb351, 2, none⟩) (Kd.R_far (p := ⟨gb351, 1, none⟩) (Kd.R_far (p := ⟨gb351, 0, none⟩) (Kd.R_types HO344.out BK351.out (by decide)) (fun _ hk => hk.2) (.int .i64 t345)) (fun _ hk => hk.2) (.int .i64 t346)) (fun _ hk => hk.2) (.slice Ao45 t347.length co45)) (fun _ h_ => h_.1))))) (Kd.R_lt (by (with_reducible repeat (first | apply Kd.R_alloc | apply Kd.R_drewN | apply Kd.R_drew)); exact (Kd.R_mono (Kd.R_far (p := ⟨gb351, 2, none⟩) (Kd.R_far (p := ⟨gb351, 1, none⟩) (Kd.R_far (p := ⟨gb351, 0, none⟩) (Kd.R_types HO349.out BK351.out (by decide)) (fun _ hk => hk.2) (.int .i64 t345)) (fun _ hk => hk.2) (.int .i64 t346)) (fun _ hk => hk.2) (.slice Ao45 t347.length co45)) (fun _ h_ => h_.1))))) (below_size tB)); have n3_ := Aside0.mk (blk_below (g := gb338) (o := .cells #[.int .i64 a0_0, .int .i64 a0_1, .slice A0_2 l0_2.length c0_2] 72 (0, 0)) (by (with_reducible repeat (first | refine blk_drewN ?_ _ | refine blk_drew ?_ | refine blk_alloc ?_ _)); refine blk_far ?_ NB338_351.out _; (with_reducible repeat (first | refine blk_drewN ?_ _ | refine blk_drew ?_ | refine blk_alloc ?_ _)); refine blk_far ?_ NB338_351.out _; (with_reducible repeat (first | refine blk_drewN ?_ _ | refine blk_drew ?_ | refine blk_alloc ?_ _)); refine blk_far ?_ NB338_351.out _; (with_reducible repeat (first | refine blk_drewN ?_ _ | refine blk_drew ?_ | refine blk_alloc ?_ _)); exact BK338.out) hb); have n4_ := Aside0.mk (blk_below (g := gb351) (o := .cells #[.int .i64 t345, .int .i64 t346, .slice Ao45 t347.length co45] 76 (0, 0)) (by (with_reducible repeat (first | refine blk_drewN ?_ _ | refine blk_drew ?_ | refine blk_alloc ?_ _)); refine blk_put (cs := #[.int .i64 t345, .int .i64 t346, .slice none 0 0]) ?_ 2 _ rfl; (with_reducible repeat (first | refine blk_drewN ?_ _ | refine blk_drew ?_ | refine blk_alloc ?_ _)); refine blk_put (cs := #[.int .i64 t345, .int .i64 0, .slice none 0 0]) ?_ 1 _ rfl; (with_reducible repeat (first | refine blk_drewN ?_ _ | refine blk_drew ?_ | refine blk_alloc ?_ _)); refine blk_put (cs := #[.int .i64 0, .int .i64 0, .slice none 0 0]) ?_ 0 _ rfl; (with_reducible repeat (first | refine blk_drewN ?_ _ | refine blk_drew ?_ | refine blk_alloc ?_ _)); exact BK351.out) hb); have n5_ := Aside0.mk (below_step tB hb); clear HO344; clear HO349; clear BK338; clear BK351; clear HB; have HO344 := n0_; have HO349 := n1_; have HO356 := n2_; have BK338 := n3_; have BK351 := n4_; have HB := n5_; clear n0_ n1_ n2_ n3_ n4_ n5_; (try clear hb); (try clear hb2); (try clear hk); (try clear hi); (try clear ho0)) | ((with_reducible refine gate_dst (N := 10) rfl ?_); refine box_event ?hg (N := 10) ?hd (cs := #[.int .i64 0, .int .i64 0, .slice none 0 0]) (t := 76) ?hr ?_; (case hd => rfl); (case hg => rfl); (case hr => exact tG); intro gb357 hg w48 hbox hb; have n0_ := Aside0.mk (Kd.R_below (tR HO344) hb); have n1_ := Aside0.mk (Kd.R_below (tR HO349) hb); have n2_ := Aside0.mk (Kd.R_below (tR HO356) hb); have n3_ := Aside0.mk (blk_below (g := gb338) (o := .cells #[.int .i64 a0_0, .int .i64 a0_1, .slice A0_2 l0_2.length c0_2] 72 (0, 0)) (tK BK338) hb); have n4_ := Aside0.mk (blk_below (g := gb351) (o := .cells #[.int .i64 t345, .int .i64 t346, .slice Ao45 t347.length co45] 76 (0, 0)) (tK BK351) hb); have n5_ := Aside0.mk (below_step tB hb); have n6_ := Aside0.mk (hbox); have n7_ := Aside0.mk ((by rw [hg]; exact (below_size tB) : w.heap.size ≤ gb357)); have n8_ := Aside0.mk ((by rw [hg]; exact (below_size tB) : w.heap.size ≤ gb357)); have n9_ := Aside0.mk ((by rw [hg]; exact Nat.ne_of_lt (blk_lt (g := gb338) (o := .cells #[.int .i64 a0_0, .int .i64 a0_1, .slice A0_2 l0_2.length c0_2] 72 (0, 0)) (tK BK338)) : gb338 ≠ gb357)); have n10_ := Aside0.mk ((by rw [hg]; exact Nat.ne_of_gt (blk_lt (g := gb338) (o := .cells #[.int .i64 a0_0, .int .i64 a0_1, .slice A0_2 l0_2.length c0_2] 72 (0, 0)) (tK BK338)) : gb357 ≠ gb338)); have n11_ := Aside0.mk ((by rw [hg]; exact Nat.ne_of_lt (blk_lt (g := gb351) (o := .cells #[.int .i64 t345, .int .i64 t346, .slice Ao45 t347.length co45] 76 (0, 0)) (tK BK351)) : gb351 ≠ gb357)); have n12_ := Aside0.mk ((by rw [hg]; exact Nat.ne_of_gt (blk_lt (g := gb351) (o := .cells #[.int .i64 t345, .int .i64 t346, .slice Ao45 t347.length co45] 76 (0, 0)) (tK BK351)) : gb357 ≠ gb351)); clear HO344; clear HO349; clear HO356; clear BK338; clear BK351; clear HB; have HO344 := n0_; have HO349 := n1_; have HO356 := n2_; have BK338 := n3_; have BK351 := n4_; have HB := n5_; have BK357 := n6_; have GW357 := n7_; have GE357 := n8_; have NB338_357 := n9_; have NB357_338 := n10_; have NB351_357 := n11_; have NB357_351 := n12_; clear n0_ n1_ n2_ n3_ n4_ n5_ n6_ n7_ n8_ n9_ n10_ n11_ n12_; clear hb hbox hg; have hnb49 := NB357_338.out; have hnc49 := NB338_357.out; have hnb50 := NB357_351.out; have hnc50 := NB351_357.out; obtain ⟨hcz51_0, hcz51_1, hcz51_2, hfz51_0, hfz51_1, hfz51_2⟩ := bc3 BK357.out; obtain ⟨Ao52, co52, eo52⟩ := Kd.R_slice HO356.out; subst eo52) | ((with_reducible refine gate_callee (f := 47) rfl ?_); refine goesL_ (some 37) rfl rfl Try.func47 (by kernel_rfl) rfl #[.agg #[.int .i64 t352, .int .i64 t353, .slice Ao52 t354.length co52], .int .i64 a1, .int .i64 a2] rfl tL ?_; (with_reducible refine (impl_TransferAccount.calls k t352 t353 _ _ t354 a1 a2 t358 t359 t360 t363 _ ?side1 ?side2 A12.out).mono ?_); (case side1 => refine (Kd.R_reads' (e := 123) (base := w.heap.size) (ok := fun k_ => ((True ∧ some k_ ≠ (.slice Ao40 t342.length co40 : Value).ownBlock) ∧ some k_ ≠ (.slice Ao45 t347.length co45 : Value).ownBlock)) (n := t354.length) (c := co52) ?_).2.2; exact (by (with_reducible repeat (first | apply Kd.R_alloc | apply Kd.R_drewN | apply Kd.R_drew)); exact (Kd.R_mono (Kd.R_far (p := ⟨gb357, 2, none⟩) (Kd.R_far (p := ⟨gb357, 1, none⟩) (Kd.R_far (p := ⟨gb357, 0, none⟩) (Kd.R_types HO356.out BK357.out (by decide)) (fun _ hk => hk.2) (.int .i64 t352)) (fun _ hk => hk.2) (.int .i64 t353)) (fun _ hk => hk.2) (.slice Ao52 t354.length co52)) (fun _ h_ => h_.1)))); (case side2 => exact (Kd.R_reads' HO356.out).2.1); rintro e w53 ⟨v361, rfl, ho0, hb⟩; refine ⟨_, rfl, ?_⟩; have n0_ := Aside0.mk (Kd.R_elder' (by (with_reducible repeat (first | apply Kd.R_alloc | apply Kd.R_drewN | apply Kd.R_drew)); exact (Kd.R_mono (Kd.R_far (p := ⟨gb357, 2, none⟩) (Kd.R_far (p := ⟨gb357, 1, none⟩) (Kd.R_far (p := ⟨gb357, 0, none⟩) (Kd.R_types HO344.out BK357.out (by decide)) (fun _ hk => hk.2) (.int .i64 t352)) (fun _ hk => hk.2) (.int .i64 t353)) (fun _ hk => hk.2) (.slice Ao52 t354.length co52)) (fun _ h_ => h_.1))) (Kd.R_base ho0) hb); have n1_ := Aside0.mk (Kd.R_elder' (by (with_reducible repeat (first | apply Kd.R_alloc | apply Kd.R_drewN | apply Kd.R_drew)); exact (Kd.R_mono (Kd.R_far (p := ⟨gb357, 2, none⟩) (Kd.R_far (p := ⟨gb357, 1, none⟩) (Kd.R_far (p := ⟨gb357, 0, none⟩) (Kd.R_types HO349.out BK357.out (by decide)) (fun _ hk => hk.2) (.int .i64 t352)) (fun _ hk => hk.2) (.int .i64 t353)) (fun _ hk => hk.2) (.slice Ao52 t354.length co52)) (fun _ h_ => h_.1))) (Kd.R_base ho0) hb); have n2_ := Aside0.mk (Kd.R_elder' (by (with_reducible repeat (first | apply Kd.R_alloc | apply Kd.R_drewN | apply Kd.R_drew)); exact (Kd.R_mono (Kd.R_far (p := ⟨gb357, 2, none⟩) (Kd.R_far (p := ⟨gb357, 1, none⟩) (Kd.R_far (p := ⟨gb357, 0, none⟩) (Kd.R_types HO356.out BK357.out (by decide)) (fun _ hk => hk.2) (.int .i64 t352)) (fun _ hk => hk.2) (.int .i64 t353)) (fun _ hk => hk.2) (.slice Ao52 t354.length co52)) (fun _ h_ => h_.1))) (Kd.R_base ho0) hb); have n3_ := Aside0.mk (Kd.R_lower (Kd.R_new' (Kd.R_new' (Kd.R_new' ho0 (Kd.R_lt (by (with_reducible repeat (first | apply Kd.R_alloc | apply Kd.R_drewN | apply Kd.R_drew)); exact (Kd.R_mono (Kd.R_far (p := ⟨gb357, 2, none⟩) (Kd.R_far (p := ⟨gb357, 1, none⟩) (Kd.R_far (p := ⟨gb357, 0, none⟩) (Kd.R_types HO344.out BK357.out (by decide)) (fun _ hk => hk.2) (.int .i64 t352)) (fun _ hk => hk.2) (.int .i64 t353)) (fun _ hk => hk.2) (.slice Ao52 t354.length co52)) (fun _ h_ => h_.1))))) (Kd.R_lt (by (with_reducible repeat (first | apply Kd.R_alloc | apply Kd.R_drewN | apply Kd.R_drew)); exact (Kd.R_mono (Kd.R_far (p := ⟨gb357, 2, none⟩) (Kd.R_far (p := ⟨gb357, 1, none⟩) (Kd.R_far (p := ⟨gb357, 0, none⟩) (Kd.R_types HO349.out BK357.out (by decide)) (fun _ hk => hk.2) (.int .i64 t352)) (fun _ hk => hk.2) (.int .i64 t353)) (fun _ hk => hk.2) (.slice Ao52 t354.length co52)) (fun _ h_ => h_.1))))) (Kd.R_lt (by (with_reducible repeat (first | apply Kd.R_alloc | apply Kd.R_drewN | apply Kd.R_drew)); exact (Kd.R_mono (Kd.R_far (p := ⟨gb357, 2, none⟩) (Kd.R_far (p := ⟨gb357, 1, none⟩) (Kd.R_far (p := ⟨gb357, 0, none⟩) (Kd.R_types HO356.out BK357.out (by decide)) (fun _ hk => hk.2) (.int .i64 t352)) (fun _ hk => hk.2) (.int .i64 t353)) (fun _ hk => hk.2) (.slice Ao52 t354.length co52)) (fun _ h_ => h_.1))))) (below_size tB)); have n4_ := Aside0.mk (blk_below (g := gb338) (o := .cells #[.int .i64 a0_0, .int .i64 a0_1, .slice A0_2 l0_2.length c0_2] 72 (0, 0)) (by (with_reducible repeat (first | refine blk_drewN ?_ _ | refine blk_drew ?_ | refine blk_alloc ?_ _)); refine blk_far ?_ NB338_357.out _; (with_reducible repeat (first | refine blk_drewN ?_ _ | refine blk_drew ?_ | refine blk_alloc ?_ _)); refine blk_far ?_ NB338_357.out _; (with_reducible repeat (first | refine blk_drewN ?_ _ | refine blk_drew ?_ | refine blk_alloc ?_ _)); refine blk_far ?_ NB338_357.out _; (with_reducible repeat (first | refine blk_drewN ?_ _ | refine blk_drew ?_ | refine blk_alloc ?_ _)); exact BK338.out) hb); have n5_ := Aside0.mk (blk_below (g := gb351) (o := .cells #[.int .i64 t345, .int .i64 t346, .slice Ao45 t347.length co45] 76 (0, 0)) (by (with_reducible repeat (first | refine blk_drewN ?_ _ | refine blk_drew ?_ | refine blk_alloc ?_ _)); refine blk_far ?_ NB351_357.out _; (with_reducible repeat (first | refine blk_drewN ?_ _ | refine blk_drew ?_ | refine blk_alloc ?_ _)); refine blk_far ?_ NB351_357.out _; (with_reducible repeat (first | refine blk_drewN ?_ _ | refine blk_drew ?_ | refine blk_alloc ?_ _)); refine blk_far ?_ NB351_357.out _; (with_reducible repeat (first | refine blk_drewN ?_ _ | refine blk_drew ?_ | refine blk_alloc ?_ _)); exact BK351.out) hb); have n6_ := Aside0.mk (blk_below (g := gb357) (o := .cells #[.int .i64 t352, .int .i64 t353, .slice Ao52 t354.length co52] 76 (0, 0)) (by (with_reducible repeat (first | refine blk_drewN ?_ _ | refine blk_drew ?_ | refine blk_alloc ?_ _)); refine blk_put (cs := #[.int .i64 t352, .int .i64 t353, .slice none 0 0]) ?_ 2 _ rfl; (with_reducible repeat (first | refine blk_drewN ?_ _ | refine blk_drew ?_ | refine blk_alloc ?_ _)); refine blk_put (cs := #[.int .i64 t352, .int .i64 0, .slice none 0 0]) ?_ 1 _ rfl; (with_reducible repeat (first | refine blk_drewN ?_ _ | refine blk_drew ?_ | refine blk_alloc ?_ _)); refine blk_put (cs := #[.int .i64 0, .int .i64 0, .slice none 0 0]) ?_ 0 _ rfl; (with_reducible repeat (first | refine blk_drewN ?_ _ | refine blk_drew ?_ | refine blk_alloc ?_ _)); exact BK357.out) hb); have n7_ := Aside0.mk (below_step tB hb); clear HO344; clear HO349; clear HO356; clear BK338; clear BK351; clear BK357; clear HB; have HO344 := n0_; have HO349 := n1_; have HO356 := n2_; have HO362 := n3_; have BK338 := n4_; have BK351 := n5_; have BK357 := n6_; have HB := n7_; clear n0_ n1_ n2_ n3_ n4_ n5_ n6_ n7_; (try clear hb); (try clear hb2); (try clear hk); (try clear hi); (try clear ho0)) | ((with_reducible refine gate_dst (N := 11) rfl ?_); refine box_event ?hg (N := 11) ?hd (cs := #[.int .i64 0, .int .i64 0, .slice none 0 0]) (t := 76) ?hr ?_; (case hd => rfl); (case hg => rfl); (case hr => exact tG); intro gb364 hg w54 hbox hb; have n0_ := Aside0.mk (Kd.R_below (tR HO344) hb); have n1_ := Aside0.mk (Kd.R_below (tR HO349) hb); have n2_ := Aside0.mk (Kd.R_below (tR HO356) hb); have n3_ := Aside0.mk (Kd.R_below (tR HO362) hb); have n4_ := Aside0.mk (blk_below (g := gb338) (o := .cells #[.int .i64 a0_0, .int .i64 a0_1, .slice A0_2 l0_2.length c0_2] 72 (0, 0)) (tK BK338) hb); have n5_ := Aside0.mk (blk_below (g := gb351) (o := .cells #[.int .i64 t345, .int .i64 t346, .slice Ao45 t347.length co45] 76 (0, 0)) (tK BK351) hb); have n6_ := Aside0.mk (blk_below (g := gb357) (o := .cells #[.int .i64 t352, .int .i64 t353, .slice Ao52 t354.length co52] 76 (0, 0)) (tK BK357) hb); have n7_ := Aside0.mk (below_step tB hb); have n8_ := Aside0.mk (hbox); have n9_ := Aside0.mk ((by rw [hg]; exact (below_size tB) : w.heap.size ≤ gb364)); have n10_ := Aside0.mk ((by rw [hg]; exact (below_size tB) : w.heap.size ≤ gb364)); have n11_ := Aside0.mk ((by rw [hg]; exact Nat.ne_of_lt (blk_lt (g := gb338) (o := .cells #[.int .i64 a0_0, .int .i64 a0_1, .slice A0_2 l0_2.length c0_2] 72 (0, 0)) (tK BK338)) : gb338 ≠ gb364)); have n12_ := Aside0.mk ((by rw [hg]; exact Nat.ne_of_gt (blk_lt (g := gb338) (o := .cells #[.int .i64 a0_0, .int .i64 a0_1, .slice A0_2 l0_2.length c0_2] 72 (0, 0)) (tK BK338)) : gb364 ≠ gb338)); have n13_ := Aside0.mk ((by rw [hg]; exact Nat.ne_of_lt (blk_lt (g := gb351) (o := .cells #[.int .i64 t345, .int .i64 t346, .slice Ao45 t347.length co45] 76 (0, 0)) (tK BK351)) : gb351 ≠ gb364)); have n14_ := Aside0.mk ((by rw [hg]; exact Nat.ne_of_gt (blk_lt (g := gb351) (o := .cells #[.int .i64 t345, .int .i64 t346, .slice Ao45 t347.length co45] 76 (0, 0)) (tK BK351)) : gb364 ≠ gb351)); have n15_ := Aside0.mk ((by rw [hg]; exact Nat.ne_of_lt (blk_lt (g := gb357) (o := .cells #[.int .i64 t352, .int .i64 t353, .slice Ao52 t354.length co52] 76 (0, 0)) (tK BK357)) : gb357 ≠ gb364)); have n16_ := Aside0.mk ((by rw [hg]; exact Nat.ne_of_gt (blk_lt (g := gb357) (o := .cells #[.int .i64 t352, .int .i64 t353, .slice Ao52 t354.length co52] 76 (0, 0)) (tK BK357)) : gb364 ≠ gb357)); clear HO344; clear HO349; clear HO356; clear HO362; clear BK338; clear BK351; clear BK357; clear HB; have HO344 := n0_; have HO349 := n1_; have HO356 := n2_; have HO362 := n3_; have BK338 := n4_; have BK351 := n5_; have BK357 := n6_; have HB := n7_; have BK364 := n8_; have GW364 := n9_; have GE364 := n10_; have NB338_364 := n11_; have NB364_338 := n12_; have NB351_364 := n13_; have NB364_351 := n14_; have NB357_364 := n15_; have NB364_357 := n16_; clear n0_ n1_ n2_ n3_ n4_ n5_ n6_ n7_ n8_ n9_ n10_ n11_ n12_ n13_ n14_ n15_ n16_; clear hb hbox hg; have hnb55 := NB364_338.out; have hnc55 := NB338_364.out; have hnb56 := NB364_351.out; have hnc56 := NB351_364.out; have hnb57 := NB364_357.out; have hnc57 := NB357_364.out; obtain ⟨hcz58_0, hcz58_1, hcz58_2, hfz58_0, hfz58_1, hfz58_2⟩ := bc3 BK364.out; obtain ⟨Ao59, co59, eo59⟩ := Kd.R_slice HO362.out; subst eo59; obtain ⟨hcz60_0, hcz60_1, hcz60_2, hfz60_0, hfz60_1, hfz60_2⟩ := bc3 BK351.out) | ((with_reducible refine gate_callee (f := 48) rfl ?_); refine goesL_ (some 42) rfl rfl Try.func48 (by kernel_rfl) rfl #[.agg #[.int .i64 t358, .int .i64 t359, .slice Ao59 t360.length co59], .agg #[.int .i64 t345, .int .i64 t346, .slice Ao45 t347.length co45]] rfl tL ?_; (with_reducible refine (laws_eqAccount.calls k t358 t359 _ _ t360 t345 t346 _ _ t347 true _ ?side1 ?side2 ?side3 ?side4 A13.out).mono ?_); (case side1 => refine (Kd.R_reads' (e := 123) (base := w.heap.size) (ok := fun k_ => (((True ∧ some k_ ≠ (.slice Ao40 t342.length co40 : Value).ownBlock) ∧ some k_ ≠ (.slice Ao45 t347.length co45 : Value).ownBlock) ∧ some k_ ≠ (.slice Ao52 t354.length co52 : Value).ownBlock)) (n := t360.length) (c := co59) ?_).2.2; exact (by (with_reducible repeat (first | apply Kd.R_alloc | apply Kd.R_drewN | apply Kd.R_drew)); exact (Kd.R_mono (Kd.R_far (p := ⟨gb364, 2, none⟩) (Kd.R_far (p := ⟨gb364, 1, none⟩) (Kd.R_far (p := ⟨gb364, 0, none⟩) (Kd.R_types HO362.out BK364.out (by decide)) (fun _ hk => hk.2) (.int .i64 t358)) (fun _ hk => hk.2) (.int .i64 t359)) (fun _ hk => hk.2) (.slice Ao59 t360.length co59)) (fun _ h_ => h_.1)))); (case side2 => exact (Kd.R_reads' HO362.out).2.1); (case side3 => refine (Kd.R_reads' (e := 123) (base := w.heap.size) (ok := fun k_ => (((True ∧ some k_ ≠ (.slice Ao40 t342.length co40 : Value).ownBlock) ∧ some k_ ≠ (.slice Ao52 t354.length co52 : Value).ownBlock) ∧ some k_ ≠ (.slice Ao59 t360.length co59 : Value).ownBlock)) (n := t347.length) (c := co45) ?_).2.2; exact (by (with_reducible repeat (first | apply Kd.R_alloc | apply Kd.R_drewN | apply Kd.R_drew)); exact (Kd.R_mono (Kd.R_far (p := ⟨gb364, 2, none⟩) (Kd.R_far (p := ⟨gb364, 1, none⟩) (Kd.R_far (p := ⟨gb364, 0, none⟩) (Kd.R_types HO349.out BK364.out (by decide)) (fun _ hk => hk.2) (.int .i64 t358)) (fun _ hk => hk.2) (.int .i64 t359)) (fun _ hk => hk.2) (.slice Ao59 t360.length co59)) (fun _ h_ => h_.1)))); (case side4 => exact (Kd.R_reads' HO349.out).2.1); rintro e w61 ⟨rfl, hb⟩; refine ⟨_, rfl, ?_⟩; have n0_ := Aside0.mk (Kd.R_below (by (with_reducible repeat (first | apply Kd.R_alloc | apply Kd.R_drewN | apply Kd.R_drew)); exact (Kd.R_mono (Kd.R_far (p := ⟨gb364, 2, none⟩) (Kd.R_far (p := ⟨gb364, 1, none⟩) (Kd.R_far (p := ⟨gb364, 0, none⟩) (Kd.R_types HO344.out BK364.out (by decide)) (fun _ hk => hk.2) (.int .i64 t358)) (fun _ hk => hk.2) (.int .i64 t359)) (fun _ hk => hk.2) (.slice Ao59 t360.length co59)) (fun _ h_ => h_.1))) hb); have n1_ := Aside0.mk (Kd.R_below (by (with_reducible repeat (first | apply Kd.R_alloc | apply Kd.R_drewN | apply Kd.R_drew)); exact (Kd.R_mono (Kd.R_far (p := ⟨gb364, 2, none⟩) (Kd.R_far (p := ⟨gb364, 1, none⟩) (Kd.R_far (p := ⟨gb364, 0, none⟩) (Kd.R_types HO349.out BK364.out (by decide)) (fun _ hk => hk.2) (.int .i64 t358)) (fun _ hk => hk.2) (.int .i64 t359)) (fun _ hk => hk.2) (.slice Ao59 t360.length co59)) (fun _ h_ => h_.1))) hb); have n2_ := Aside0.mk (Kd.R_below (by (with_reducible repeat (first | apply Kd.R_alloc | apply Kd.R_drewN | apply Kd.R_drew)); exact (Kd.R_mono (Kd.R_far (p := ⟨gb364, 2, none⟩) (Kd.R_far (p := ⟨gb364, 1, none⟩) (Kd.R_far (p := ⟨gb364, 0, none⟩) (Kd.R_types HO356.out BK364.out (by decide)) (fun _ hk => hk.2) (.int .i64 t358)) (fun _ hk => hk.2) (.int .i64 t359)) (fun _ hk => hk.2) (.slice Ao59 t360.length co59)) (fun _ h_ => h_.1))) hb); have n3_ := Aside0.mk (Kd.R_below (by (with_reducible repeat (first | apply Kd.R_alloc | apply Kd.R_drewN | apply Kd.R_drew)); exact (Kd.R_mono (Kd.R_far (p := ⟨gb364, 2, none⟩) (Kd.R_far (p := ⟨gb364, 1, none⟩) (Kd.R_far (p := ⟨gb364, 0, none⟩) (Kd.R_types HO362.out BK364.out (by decide)) (fun _ hk => hk.2) (.int .i64 t358)) (fun _ hk => hk.2) (.int .i64 t359)) (fun _ hk => hk.2) (.slice Ao59 t360.length co59)) (fun _ h_ => h_.1))) hb); have n4_ := Aside0.mk (blk_below (g := gb338) (o := .cells #[.int .i64 a0_0, .int .i64 a0_1, .slice A0_2 l0_2.length c0_2] 72 (0, 0)) (by (with_reducible repeat (first | refine blk_drewN ?_ _ | refine blk_drew ?_ | refine blk_alloc ?_ _)); refine blk_far ?_ NB338_364.out _; (with_reducible repeat (first | refine blk_drewN ?_ _ | refine blk_drew ?_ | refine blk_alloc ?_ _)); refine blk_far ?_ NB338_364.out _; (with_reducible repeat (first | refine blk_drewN ?_ _ | refine blk_drew ?_ | refine blk_alloc ?_ _)); refine blk_far ?_ NB338_364.out _; (with_reducible repeat (first | refine blk_drewN ?_ _ | refine blk_drew ?_ | refine blk_alloc ?_ _)); exact BK338.out) hb); have n5_ := Aside0.mk (blk_below (g := gb351) (o := .cells #[.int .i64 t345, .int .i64 t346, .slice Ao45 t347.length co45] 76 (0, 0)) (by (with_reducible repeat (first | refine blk_drewN ?_ _ | refine blk_drew ?_ | refine blk_alloc ?_ _)); refine blk_far ?_ NB351_364.out _; (with_reducible repeat (first | refine blk_drewN ?_ _ | refine blk_drew ?_ | refine blk_alloc ?_ _)); refine blk_far ?_ NB351_364.out _; (with_reducible repeat (first | refine blk_drewN ?_ _ | refine blk_drew ?_ | refine blk_alloc ?_ _)); refine blk_far ?_ NB351_364.out _; (with_reducible repeat (first | refine blk_drewN ?_ _ | refine blk_drew ?_ | refine blk_alloc ?_ _)); exact BK351.out) hb); have n6_ := Aside0.mk (blk_below (g := gb357) (o := .cells #[.int .i64 t352, .int .i64 t353, .slice Ao52 t354.length co52] 76 (0, 0)) (by (with_reducible repeat (first | refine blk_drewN ?_ _ | refine blk_drew ?_ | refine blk_alloc ?_ _)); refine blk_far ?_ NB357_364.out _; (with_reducible repeat (first | refine blk_drewN ?_ _ | refine blk_drew ?_ | refine blk_alloc ?_ _)); refine blk_far ?_ NB357_364.out _; (with_reducible repeat (first | refine blk_drewN ?_ _ | refine blk_drew ?_ | refine blk_alloc ?_ _)); refine blk_far ?_ NB357_364.out _; (with_reducible repeat (first | refine blk_drewN ?_ _ | refine blk_drew ?_ | refine blk_alloc ?_ _)); exact BK357.out) hb); have n7_ := Aside0.mk (blk_below (g := gb364) (o := .cells #[.int .i64 t358, .int .i64 t359, .slice Ao59 t360.length co59] 76 (0, 0)) (by (with_reducible repeat (first | refine blk_drewN ?_ _ | refine blk_drew ?_ | refine blk_alloc ?_ _)); refine blk_put (cs := #[.int .i64 t358, .int .i64 t359, .slice none 0 0]) ?_ 2 _ rfl; (with_reducible repeat (first | refine blk_drewN ?_ _ | refine blk_drew ?_ | refine blk_alloc ?_ _)); refine blk_put (cs := #[.int .i64 t358, .int .i64 0, .slice none 0 0]) ?_ 1 _ rfl; (with_reducible repeat (first | refine blk_drewN ?_ _ | refine blk_drew ?_ | refine blk_alloc ?_ _)); refine blk_put (cs := #[.int .i64 0, .int .i64 0, .slice none 0 0]) ?_ 0 _ rfl; (with_reducible repeat (first | refine blk_drewN ?_ _ | refine blk_drew ?_ | refine blk_alloc ?_ _)); exact BK364.out) hb); have n8_ := Aside0.mk (below_step tB hb); clear HO344; clear HO349; clear HO356; clear HO362; clear BK338; clear BK351; clear BK357; clear BK364; clear HB; have HO344 := n0_; have HO349 := n1_; have HO356 := n2_; have HO362 := n3_; have BK338 := n4_; have BK351 := n5_; have BK357 := n6_; have BK364 := n7_; have HB := n8_; clear n0_ n1_ n2_ n3_ n4_ n5_ n6_ n7_ n8_; (try clear hb); (try clear hb2); (try clear hk); (try clear hi)))
             have n0_ := Aside0.mk (Kd.R_drew HO344.out)
             have n1_ := Aside0.mk (Kd.R_drew HO349.out)
             have n2_ := Aside0.mk (Kd.R_drew HO356.out)
             have n3_ := Aside0.mk (Kd.R_drew HO362.out)
             have n4_ := Aside0.mk (blk_drew BK338.out)
             have n5_ := Aside0.mk (blk_drew BK351.out)
             have n6_ := Aside0.mk (blk_drew BK357.out)
             have n7_ := Aside0.mk (blk_drew BK364.out)
             have n8_ := Aside0.mk (below_drew1 HB.out)
             clear HO344
             clear HO349
             clear HO356
             clear HO362
             clear BK338
             clear BK351
             clear BK357
             clear BK364
             clear HB
             have HO344 := n0_
             have HO349 := n1_
             have HO356 := n2_
             have HO362 := n3_
             have BK338 := n4_
             have BK351 := n5_
             have BK357 := n6_
             have BK364 := n7_
             have HB := n8_
             clear n0_ n1_ n2_ n3_ n4_ n5_ n6_ n7_ n8_
             refine start_ (n := 5) (S := fun w' => w'.cell? ⟨gb357, 0, none⟩ = some (.int .i64 t352) ∧ w'.cell? ⟨gb357, 1, none⟩ = some (.int .i64 t353) ∧ w'.cell? ⟨gb357, 2, none⟩ = some (.slice Ao52 t354.length co52) ∧ w'.cell? ⟨gb338, 0, none⟩ = some (.int .i64 a0_0) ∧ w'.cell? ⟨gb338, 1, none⟩ = some (.int .i64 a0_1) ∧ w'.cell? ⟨gb338, 2, none⟩ = some (.slice A0_2 l0_2.length c0_2)) (ds := []) #[false, false, false, false, false] (by kernel_rfl) rfl rfl ⟨(blk_cell BK357.out 0).trans rfl, (blk_cell BK357.out 1).trans rfl, (blk_cell BK357.out 2).trans rfl, (blk_cell BK338.out 0).trans rfl, (blk_cell BK338.out 1).trans rfl, (blk_cell BK338.out 2).trans rfl⟩ (fun hHeld => ?_)
             generalize w61.drew = w62 at HO344 HO349 HO356 HO362 BK338 BK351 BK357 BK364 HB hHeld ⊢
             refine take_ (i := 0) (N := some 49) (v := ?_) (a' := ?_) #[true, false, false, false, false] rfl rfl (by kernel_rfl) (fun _ _ _ h => h) (Or.inl ⟨by rfl, ?_⟩) hHeld ?_ ?_
             rotate_left
             ·rintro w' ⟨s0, s1, s2, s3, s4, s5⟩
              go_simp
              with_reducible rfl
             rotate_left
             ·simp only [Act.put, List.setIfInBounds_toArray, List.set_cons_zero, List.set_cons_succ, i64_w, i32_w]
              rfl
             refine take_ (i := 1) (N := some 50) (v := ?_) (a' := ?_) #[true, true, false, false, false] rfl rfl (by kernel_rfl) (fun _ _ _ h => h) (Or.inl ⟨by rfl, ?_⟩) hHeld ?_ ?_
             rotate_left
             ·rintro w' ⟨s0, s1, s2, s3, s4, s5⟩
              go_simp
              with_reducible rfl
             rotate_left
             ·simp only [Act.put, List.setIfInBounds_toArray, List.set_cons_zero, List.set_cons_succ, i64_w, i32_w]
              rfl
             refine one_ (i := 2) (N := some 51) #[true, true, true, false, false] rfl rfl (by kernel_rfl) (by decide) (fun K hK => ?_)
             refine goes_ Try.func46 (by kernel_rfl) rfl #[.agg #[.int .i64 a0_0, .int .i64 a0_1, .slice A0_2 l0_2.length c0_2]] (by rfl) rfl rfl tL ?_
             with_reducible refine (laws_toAccount.calls k a0_0 a0_1 _ _ l0_2 t366 t367 t368 _ ?side1 ?side2 A16.out).mono ?_
             (case side1 => repeat (first | exact (Kd.C_below HR0_2.out HB.out) | (with_reducible refine Kd.C_alloc ?_ _) | (with_reducible refine Kd.C_drewN ?_ _) | (with_reducible refine Kd.C_drew ?_)))
             (case side2 => exact HC0_2.out)
             rintro e w63 ⟨v369, rfl, ho0, hb⟩
             refine ⟨_, rfl, ?_⟩
             have n0_ := Aside0.mk (Kd.R_elder' (tR HO344) (Kd.R_base ho0) hb)
             have n1_ := Aside0.mk (Kd.R_elder' (tR HO349) (Kd.R_base ho0) hb)
             have n2_ := Aside0.mk (Kd.R_elder' (tR HO356) (Kd.R_base ho0) hb)
             have n3_ := Aside0.mk (Kd.R_elder' (tR HO362) (Kd.R_base ho0) hb)
             have n4_ := Aside0.mk (Kd.R_lower (Kd.R_new' (Kd.R_new' (Kd.R_new' (Kd.R_new' ho0 (Kd.R_lt (tR HO344))) (Kd.R_lt (tR HO349))) (Kd.R_lt (tR HO356))) (Kd.R_lt (tR HO362))) (below_size tB))
             have n5_ := Aside0.mk (blk_below (g := gb338) (o := .cells #[.int .i64 a0_0, .int .i64 a0_1, .slice A0_2 l0_2.length c0_2] 72 (0, 0)) (tK BK338) hb)
             have n6_ := Aside0.mk (blk_below (g := gb351) (o := .cells #[.int .i64 t345, .int .i64 t346, .slice Ao45 t347.length co45] 76 (0, 0)) (tK BK351) hb)
             have n7_ := Aside0.mk (blk_below (g := gb357) (o := .cells #[.int .i64 t352, .int .i64 t353, .slice Ao52 t354.length co52] 76 (0, 0)) (tK BK357) hb)
             have n8_ := Aside0.mk (blk_below (g := gb364) (o := .cells #[.int .i64 t358, .int .i64 t359, .slice Ao59 t360.length co59] 76 (0, 0)) (tK BK364) hb)
             have n9_ := Aside0.mk (below_step tB hb)
             clear HO344
             clear HO349
             clear HO356
             clear HO362
             clear BK338
             clear BK351
             clear BK357
             clear BK364
             clear HB
             have HO344 := n0_
             have HO349 := n1_
             have HO356 := n2_
             have HO362 := n3_
             have HO370 := n4_
             have BK338 := n5_
             have BK351 := n6_
             have BK357 := n7_
             have BK364 := n8_
             have HB := n9_
             clear n0_ n1_ n2_ n3_ n4_ n5_ n6_ n7_ n8_ n9_
             (try clear hb)
             (try clear hb2)
             (try clear hk)
             (try clear hi)
             (try clear ho0)
             obtain ⟨Ao64, co64, eo64⟩ := Kd.R_slice HO370.out
             (first | subst eo64 | (injection eo64 with f1_ f2_ f3_; have f4_ := f1_.symm; have f5_ := f3_.symm; clear f1_ f2_ f3_; subst f4_; subst f5_))
             refine hK.out _ _ ⟨(blk_cell BK357.out 0).trans rfl, (blk_cell BK357.out 1).trans rfl, (blk_cell BK357.out 2).trans rfl, (blk_cell BK338.out 0).trans rfl, (blk_cell BK338.out 1).trans rfl, (blk_cell BK338.out 2).trans rfl⟩ (fun hHeld => ?_)
             clear hK K
             refine norm_ (a' := ?_) ?_ ?_
             rotate_left
             ·show Act.put _ (some 51) _ = _
              simp only [Act.put, List.setIfInBounds_toArray, List.set_cons_zero, List.set_cons_succ, i64_w, i32_w]
              rfl
             refine one_ (i := 3) (N := some 52) #[true, true, true, true, false] rfl rfl (by kernel_rfl) (by decide) (fun K hK => ?_)
             refine goes_ Try.func48 (by kernel_rfl) rfl #[.agg #[.int .i64 t352, .int .i64 t353, .slice Ao52 t354.length co52], .agg #[.int .i64 t366, .int .i64 t367, .slice Ao64 t368.length co64]] (by rfl) rfl rfl tL ?_
             with_reducible refine (laws_eqAccount.calls k t352 t353 _ _ t354 t366 t367 _ _ t368 true _ ?side1 ?side2 ?side3 ?side4 A17.out).mono ?_
             (case side1 => repeat (first | exact (Kd.R_reads' HO356.out).2.2 | (with_reducible refine Kd.C_alloc ?_ _) | (with_reducible refine Kd.C_drewN ?_ _) | (with_reducible refine Kd.C_drew ?_)))
             (case side2 => exact (Kd.R_reads' HO356.out).2.1)
             (case side3 => repeat (first | exact (Kd.R_reads' HO370.out).2.2 | (with_reducible refine Kd.C_alloc ?_ _) | (with_reducible refine Kd.C_drewN ?_ _) | (with_reducible refine Kd.C_drew ?_)))
             (case side4 => exact (Kd.R_reads' HO370.out).2.1)
             rintro e w65 ⟨rfl, hb⟩
             refine ⟨_, rfl, ?_⟩
             have n0_ := Aside0.mk (Kd.R_below (tR HO344) hb)
             have n1_ := Aside0.mk (Kd.R_below (tR HO349) hb)
             have n2_ := Aside0.mk (Kd.R_below (tR HO356) hb)
             have n3_ := Aside0.mk (Kd.R_below (tR HO362) hb)
             have n4_ := Aside0.mk (Kd.R_below (tR HO370) hb)
             have n5_ := Aside0.mk (blk_below (g := gb338) (o := .cells #[.int .i64 a0_0, .int .i64 a0_1, .slice A0_2 l0_2.length c0_2] 72 (0, 0)) (tK BK338) hb)
             have n6_ := Aside0.mk (blk_below (g := gb351) (o := .cells #[.int .i64 t345, .int .i64 t346, .slice Ao45 t347.length co45] 76 (0, 0)) (tK BK351) hb)
             have n7_ := Aside0.mk (blk_below (g := gb357) (o := .cells #[.int .i64 t352, .int .i64 t353, .slice Ao52 t354.length co52] 76 (0, 0)) (tK BK357) hb)
             have n8_ := Aside0.mk (blk_below (g := gb364) (o := .cells #[.int .i64 t358, .int .i64 t359, .slice Ao59 t360.length co59] 76 (0, 0)) (tK BK364) hb)
             have n9_ := Aside0.mk (below_step tB hb)
             clear HO344
             clear HO349
             clear HO356
             clear HO362
             clear HO370
             clear BK338
             clear BK351
             clear BK357
             clear BK364
             clear HB
             have HO344 := n0_
             have HO349 := n1_
             have HO356 := n2_
             have HO362 := n3_
             have HO370 := n4_
             have BK338 := n5_
             have BK351 := n6_
             have BK357 := n7_
             have BK364 := n8_
             have HB := n9_
             clear n0_ n1_ n2_ n3_ n4_ n5_ n6_ n7_ n8_ n9_
             (try clear hb)
             (try clear hb2)
             (try clear hk)
             (try clear hi)
             refine hK.out _ _ ⟨(blk_cell BK357.out 0).trans rfl, (blk_cell BK357.out 1).trans rfl, (blk_cell BK357.out 2).trans rfl, (blk_cell BK338.out 0).trans rfl, (blk_cell BK338.out 1).trans rfl, (blk_cell BK338.out 2).trans rfl⟩ (fun hHeld => ?_)
             clear hK K
             refine norm_ (a' := ?_) ?_ ?_
             rotate_left
             ·show Act.put _ (some 52) _ = _
              simp only [Act.put, List.setIfInBounds_toArray, List.set_cons_zero, List.set_cons_succ, i64_w, i32_w]
              rfl
             refine pure_ (i := 4) (N := some 53) (v := ?_) (a' := ?_) #[true, true, true, true, true] rfl rfl (by kernel_rfl) (fun _ _ _ h => h) (Or.inl ⟨by rfl, ?_⟩) ?_ ?_
             rotate_left
             ·intro w'
              go_simp
              with_reducible rfl
             rotate_left
             ·simp only [Act.put, List.setIfInBounds_toArray, List.set_cons_zero, List.set_cons_succ, i64_w, i32_w]
              rfl
             refine done_ (by kernel_rfl) ?_
             obtain ⟨hcz66_0, hcz66_1, hcz66_2, hfz66_0, hfz66_1, hfz66_2⟩ := bc3 BK357.out
             try go_wp2_with (first | ((with_reducible refine gate_callee (f := 49) rfl ?_); refine goesL_ (some 56) rfl rfl Try.func49 (by kernel_rfl) rfl #[.agg #[.int .i64 t352, .int .i64 t353, .slice Ao52 t354.length co52], .int .i64 1] rfl tL ?_; (with_reducible refine (laws_markAccount.calls k t352 t353 (fun k_ => some k_ = (.slice Ao52 t354.length co52 : Value).ownBlock) (.slice Ao52 t354.length co52) t354 1 t372 t373 w _ ?side1 ?side2 A19.out).mono ?_); (case side1 => exact tB); (case side2 => exact Kd.R_tight rfl HO356.out); rintro e w67 ⟨rfl, hy0, hb, hkp⟩; refine ⟨_, rfl, ?_⟩; have n0_ := Aside0.mk (blk_kept (tK BK338) hkp (fun hs_ => (fun e_ => (Kd.R_ne HO356.out BK338.out (by decide)) e_) hs_)); have n1_ := Aside0.mk (Kd.R_mono (ok' := fun k_ => some k_ ≠ (.slice Ao45 t347.length co45 : Value).ownBlock ∧ some k_ ≠ (.slice Ao52 t354.length co52 : Value).ownBlock ∧ some k_ ≠ (.slice Ao59 t360.length co59 : Value).ownBlock ∧ some k_ ≠ (.slice Ao64 t368.length co64 : Value).ownBlock) (Kd.R_keptB (HO344.out) hkp tN9) tP9); have n2_ := Aside0.mk (Kd.R_mono (ok' := fun k_ => some k_ ≠ (.slice Ao40 t342.length co40 : Value).ownBlock ∧ some k_ ≠ (.slice Ao52 t354.length co52 : Value).ownBlock ∧ some k_ ≠ (.slice Ao59 t360.length co59 : Value).ownBlock ∧ some k_ ≠ (.slice Ao64 t368.length co64 : Value).ownBlock) (Kd.R_keptB (HO349.out) hkp tN9) tP9); have n3_ := Aside0.mk (blk_kept (tK BK351) hkp (fun hs_ => (fun e_ => (Kd.R_ne HO356.out BK351.out (by decide)) e_) hs_)); have n4_ := Aside0.mk (Kd.R_reok rfl hy0 (fun k_ e_ => HO356.out.1 k_ e_)); have n5_ := Aside0.mk (blk_kept (tK BK357) hkp (fun hs_ => (fun e_ => (Kd.R_ne HO356.out BK357.out (by decide)) e_) hs_)); have n6_ := Aside0.mk (Kd.R_mono (ok' := fun k_ => some k_ ≠ (.slice Ao40 t342.length co40 : Value).ownBlock ∧ some k_ ≠ (.slice Ao45 t347.length co45 : Value).ownBlock ∧ some k_ ≠ (.slice Ao52 t354.length co52 : Value).ownBlock ∧ some k_ ≠ (.slice Ao64 t368.length co64 : Value).ownBlock) (Kd.R_keptB (HO362.out) hkp tN9) tP9); have n7_ := Aside0.mk (blk_kept (tK BK364) hkp (fun hs_ => (fun e_ => (Kd.R_ne HO356.out BK364.out (by decide)) e_) hs_)); have n8_ := Aside0.mk (Kd.R_mono (ok' := fun k_ => some k_ ≠ (.slice Ao40 t342.length co40 : Value).ownBlock ∧ some k_ ≠ (.slice Ao45 t347.length co45 : Value).ownBlock ∧ some k_ ≠ (.slice Ao52 t354.length co52 : Value).ownBlock ∧ some k_ ≠ (.slice Ao59 t360.length co59 : Value).ownBlock) (Kd.R_keptB (HO370.out) hkp tN9) tP9); have n9_ := Aside0.mk (hb); clear BK338; clear HO344; clear HO349; clear BK351; clear HO356; clear BK357; clear HO362; clear BK364; clear HO370; clear HB; have BK338 := n0_; have HO344 := n1_; have HO349 := n2_; have BK351 := n3_; have HO356 := n4_; have BK357 := n5_; have HO362 := n6_; have BK364 := n7_; have HO370 := n8_; have HB := n9_; clear n0_ n1_ n2_ n3_ n4_ n5_ n6_ n7_ n8_ n9_; (try clear hb); (try clear hkp); (try clear hy0); obtain ⟨hcz68_0, hcz68_1, hcz68_2, hfz68_0, hfz68_1, hfz68_2⟩ := bc3 BK364.out; obtain ⟨hcz69_0, hcz69_1, hcz69_2, hfz69_0, hfz69_1, hfz69_2⟩ := bc3 BK351.out) | (go_at_call 48; (with_reducible refine (laws_eqAccount.calls k t358 t359 _ _ t360 t345 t346 _ _ t347 true _ ?side1 ?side2 ?side3 ?side4 A21.out).mono ?_); (case side1 => repeat (first | exact (Kd.R_reads' HO362.out).2.2 | (with_reducible refine Kd.C_alloc ?_ _) | (with_reducible refine Kd.C_drewN ?_ _) | (with_reducible refine Kd.C_drew ?_))); (case side2 => exact (Kd.R_reads' HO362.out).2.1); (case side3 => repeat (first | exact (Kd.R_reads' HO349.out).2.2 | (with_reducible refine Kd.C_alloc ?_ _) | (with_reducible refine Kd.C_drewN ?_ _) | (with_reducible refine Kd.C_drew ?_))); (case side4 => exact (Kd.R_reads' HO349.out).2.1); rintro e w70 ⟨rfl, hb⟩; have n0_ := Aside0.mk (Kd.R_below (tR HO344) hb); have n1_ := Aside0.mk (Kd.R_below (tR HO349) hb); have n2_ := Aside0.mk (Kd.R_below (tR HO356) hb); have n3_ := Aside0.mk (Kd.R_below (tR HO362) hb); have n4_ := Aside0.mk (Kd.R_below (tR HO370) hb); have n5_ := Aside0.mk (blk_below (g := gb338) (o := .cells #[.int .i64 a0_0, .int .i64 a0_1, .slice A0_2 l0_2.length c0_2] 72 (0, 0)) (tK BK338) hb); have n6_ := Aside0.mk (blk_below (g := gb351) (o := .cells #[.int .i64 t345, .int .i64 t346, .slice Ao45 t347.length co45] 76 (0, 0)) (tK BK351) hb); have n7_ := Aside0.mk (blk_below (g := gb357) (o := .cells #[.int .i64 t352, .int .i64 t353, .slice Ao52 t354.length co52] 76 (0, 0)) (tK BK357) hb); have n8_ := Aside0.mk (blk_below (g := gb364) (o := .cells #[.int .i64 t358, .int .i64 t359, .slice Ao59 t360.length co59] 76 (0, 0)) (tK BK364) hb); have n9_ := Aside0.mk (below_step tB hb); clear HO344; clear HO349; clear HO356; clear HO362; clear HO370; clear BK338; clear BK351; clear BK357; clear BK364; clear HB; have HO344 := n0_; have HO349 := n1_; have HO356 := n2_; have HO362 := n3_; have HO370 := n4_; have BK338 := n5_; have BK351 := n6_; have BK357 := n7_; have BK364 := n8_; have HB := n9_; clear n0_ n1_ n2_ n3_ n4_ n5_ n6_ n7_ n8_ n9_; (try clear hb); (try clear hb2); (try clear hk); (try clear hi); obtain ⟨hcz71_0, hcz71_1, hcz71_2, hfz71_0, hfz71_1, hfz71_2⟩ := bc3 BK364.out) | ((with_reducible refine gate_callee (f := 49) rfl ?_); refine goesL_ (some 72) rfl rfl Try.func49 (by kernel_rfl) rfl #[.agg #[.int .i64 t358, .int .i64 t359, .slice Ao59 t360.length co59], .int .i64 1] rfl tL ?_; (with_reducible refine (laws_markAccount.calls k t358 t359 (fun k_ => some k_ = (.slice Ao59 t360.length co59 : Value).ownBlock) (.slice Ao59 t360.length co59) t360 1 t375 t376 w _ ?side1 ?side2 A23.out).mono ?_); (case side1 => exact tB); (case side2 => exact Kd.R_tight rfl HO362.out); rintro e w72 ⟨rfl, hy0, hb, hkp⟩; refine ⟨_, rfl, ?_⟩; have n0_ := Aside0.mk (blk_kept (tK BK338) hkp (fun hs_ => (fun e_ => (Kd.R_ne HO362.out BK338.out (by decide)) e_) hs_)); have n1_ := Aside0.mk (Kd.R_mono (ok' := fun k_ => some k_ ≠ (.slice Ao45 t347.length co45 : Value).ownBlock ∧ some k_ ≠ (.slice Ao52 t354.length co52 : Value).ownBlock ∧ some k_ ≠ (.slice Ao59 t360.length co59 : Value).ownBlock ∧ some k_ ≠ (.slice Ao64 t368.length co64 : Value).ownBlock) (Kd.R_keptB (HO344.out) hkp tN9) tP9); have n2_ := Aside0.mk (Kd.R_mono (ok' := fun k_ => some k_ ≠ (.slice Ao40 t342.length co40 : Value).ownBlock ∧ some k_ ≠ (.slice Ao52 t354.length co52 : Value).ownBlock ∧ some k_ ≠ (.slice Ao59 t360.length co59 : Value).ownBlock ∧ some k_ ≠ (.slice Ao64 t368.length co64 : Value).ownBlock) (Kd.R_keptB (HO349.out) hkp tN9) tP9); have n3_ := Aside0.mk (blk_kept (tK BK351) hkp (fun hs_ => (fun e_ => (Kd.R_ne HO362.out BK351.out (by decide)) e_) hs_)); have n4_ := Aside0.mk (Kd.R_mono (ok' := fun k_ => some k_ ≠ (.slice Ao40 t342.length co40 : Value).ownBlock ∧ some k_ ≠ (.slice Ao45 t347.length co45 : Value).ownBlock ∧ some k_ ≠ (.slice Ao59 t360.length co59 : Value).ownBlock ∧ some k_ ≠ (.slice Ao64 t368.length co64 : Value).ownBlock) (Kd.R_keptB (HO356.out) hkp tN9) tP9); have n5_ := Aside0.mk (blk_kept (tK BK357) hkp (fun hs_ => (fun e_ => (Kd.R_ne HO362.out BK357.out (by decide)) e_) hs_)); have n6_ := Aside0.mk (Kd.R_reok rfl hy0 (fun k_ e_ => HO362.out.1 k_ e_)); have n7_ := Aside0.mk (blk_kept (tK BK364) hkp (fun hs_ => (fun e_ => (Kd.R_ne HO362.out BK364.out (by decide)) e_) hs_)); have n8_ := Aside0.mk (Kd.R_mono (ok' := fun k_ => some k_ ≠ (.slice Ao40 t342.length co40 : Value).ownBlock ∧ some k_ ≠ (.slice Ao45 t347.length co45 : Value).ownBlock ∧ some k_ ≠ (.slice Ao52 t354.length co52 : Value).ownBlock ∧ some k_ ≠ (.slice Ao59 t360.length co59 : Value).ownBlock) (Kd.R_keptB (HO370.out) hkp tN9) tP9); have n9_ := Aside0.mk (hb); clear BK338; clear HO344; clear HO349; clear BK351; clear HO356; clear BK357; clear HO362; clear BK364; clear HO370; clear HB; have BK338 := n0_; have HO344 := n1_; have HO349 := n2_; have BK351 := n3_; have HO356 := n4_; have BK357 := n5_; have HO362 := n6_; have BK364 := n7_; have HO370 := n8_; have HB := n9_; clear n0_ n1_ n2_ n3_ n4_ n5_ n6_ n7_ n8_ n9_; (try clear hb); (try clear hkp); (try clear hy0); obtain ⟨hcz73_0, hcz73_1, hcz73_2, hfz73_0, hfz73_1, hfz73_2⟩ := bc3 BK364.out) | ((with_reducible refine gate_callee (f := 50) rfl ?_); refine goesL_ (some 75) rfl rfl Try.func50 (by kernel_rfl) rfl #[.agg #[.int .i64 t358, .int .i64 t359, .slice Ao59 t376.length co59], .int .i64 1] rfl (by (try simp only [List.map_toArray, List.map_cons, List.map_nil]); first | done | (rw [show t376.length = t360.length from (Kd.R_reads' HO362.out).1.symm] <;> rfl) | rfl | (simp only [List.length_drop, List.length_take]; rfl)) ?_; (with_reducible refine (laws_heldAccount.calls k t358 t359 _ _ t376 1 t377 _ ?side1 ?side2 A24.out).mono ?_); (case side1 => repeat (first | exact (Kd.R_reads' HO362.out).2.2 | (with_reducible refine Kd.C_alloc ?_ _) | (with_reducible refine Kd.C_drewN ?_ _) | (with_reducible refine Kd.C_drew ?_))); (case side2 => rw [show t376.length = t360.length from (Kd.R_reads' HO362.out).1.symm]; exact (Kd.R_reads' HO362.out).2.1); rintro e w74 ⟨rfl, hb⟩; refine ⟨_, rfl, ?_⟩; have n0_ := Aside0.mk (Kd.R_below (tR HO344) hb); have n1_ := Aside0.mk (Kd.R_below (tR HO349) hb); have n2_ := Aside0.mk (Kd.R_below (tR HO356) hb); have n3_ := Aside0.mk (Kd.R_below (tR HO362) hb); have n4_ := Aside0.mk (Kd.R_below (tR HO370) hb); have n5_ := Aside0.mk (blk_below (g := gb338) (o := .cells #[.int .i64 a0_0, .int .i64 a0_1, .slice A0_2 l0_2.length c0_2] 72 (0, 0)) (tK BK338) hb); have n6_ := Aside0.mk (blk_below (g := gb351) (o := .cells #[.int .i64 t345, .int .i64 t346, .slice Ao45 t347.length co45] 76 (0, 0)) (tK BK351) hb); have n7_ := Aside0.mk (blk_below (g := gb357) (o := .cells #[.int .i64 t352, .int .i64 t353, .slice Ao52 t354.length co52] 76 (0, 0)) (tK BK357) hb); have n8_ := Aside0.mk (blk_below (g := gb364) (o := .cells #[.int .i64 t358, .int .i64 t359, .slice Ao59 t360.length co59] 76 (0, 0)) (tK BK364) hb); have n9_ := Aside0.mk (below_step tB hb); clear HO344; clear HO349; clear HO356; clear HO362; clear HO370; clear BK338; clear BK351; clear BK357; clear BK364; clear HB; have HO344 := n0_; have HO349 := n1_; have HO356 := n2_; have HO362 := n3_; have HO370 := n4_; have BK338 := n5_; have BK351 := n6_; have BK357 := n7_; have BK364 := n8_; have HB := n9_; clear n0_ n1_ n2_ n3_ n4_ n5_ n6_ n7_ n8_ n9_; (try clear hb); (try clear hb2); (try clear hk); (try clear hi); obtain ⟨hcz75_0, hcz75_1, hcz75_2, hfz75_0, hfz75_1, hfz75_2⟩ := bc3 BK338.out) | ((with_reducible refine gate_callee (f := 46) rfl ?_); refine goesL_ (some 83) rfl rfl Try.func46 (by kernel_rfl) rfl #[.agg #[.int .i64 a0_0, .int .i64 a0_1, .slice A0_2 l0_2.length c0_2]] rfl tL ?_; (with_reducible refine (laws_toAccount.calls k a0_0 a0_1 _ _ l0_2 t378 t379 t380 _ ?side1 ?side2 A27.out).mono ?_); (case side1 => repeat (first | exact (Kd.C_below HR0_2.out HB.out) | (with_reducible refine Kd.C_alloc ?_ _) | (with_reducible refine Kd.C_drewN ?_ _) | (with_reducible refine Kd.C_drew ?_))); (case side2 => exact HC0_2.out); rintro e w76 ⟨v381, rfl, ho0, hb⟩; refine ⟨_, rfl, ?_⟩; have n0_ := Aside0.mk (Kd.R_elder' (tR HO344) (Kd.R_base ho0) hb); have n1_ := Aside0.mk (Kd.R_elder' (tR HO349) (Kd.R_base ho0) hb); have n2_ := Aside0.mk (Kd.R_elder' (tR HO356) (Kd.R_base ho0) hb); have n3_ := Aside0.mk (Kd.R_elder' (tR HO362) (Kd.R_base ho0) hb); have n4_ := Aside0.mk (Kd.R_elder' (tR HO370) (Kd.R_base ho0) hb); have n5_ := Aside0.mk (Kd.R_lower (Kd.R_new' (Kd.R_new' (Kd.R_new' (Kd.R_new' (Kd.R_new' ho0 (Kd.R_lt (tR HO344))) (Kd.R_lt (tR HO349))) (Kd.R_lt (tR HO356))) (Kd.R_lt (tR HO362))) (Kd.R_lt (tR HO370))) (below_size tB)); have n6_ := Aside0.mk (blk_below (g := gb338) (o := .cells #[.int .i64 a0_0, .int .i64 a0_1, .slice A0_2 l0_2.length c0_2] 72 (0, 0)) (tK BK338) hb); have n7_ := Aside0.mk (blk_below (g := gb351) (o := .cells #[.int .i64 t345, .int .i64 t346, .slice Ao45 t347.length co45] 76 (0, 0)) (tK BK351) hb); have n8_ := Aside0.mk (blk_below (g := gb357) (o := .cells #[.int .i64 t352, .int .i64 t353, .slice Ao52 t354.length co52] 76 (0, 0)) (tK BK357) hb); have n9_ := Aside0.mk (blk_below (g := gb364) (o := .cells #[.int .i64 t358, .int .i64 t359, .slice Ao59 t360.length co59] 76 (0, 0)) (tK BK364) hb); have n10_ := Aside0.mk (below_step tB hb); clear HO344; clear HO349; clear HO356; clear HO362; clear HO370; clear BK338; clear BK351; clear BK357; clear BK364; clear HB; have HO344 := n0_; have HO349 := n1_; have HO356 := n2_; have HO362 := n3_; have HO370 := n4_; have HO382 := n5_; have BK338 := n6_; have BK351 := n7_; have BK357 := n8_; have BK364 := n9_; have HB := n10_; clear n0_ n1_ n2_ n3_ n4_ n5_ n6_ n7_ n8_ n9_ n10_; (try clear hb); (try clear hb2); (try clear hk); (try clear hi); (try clear ho0); obtain ⟨Ao77, co77, eo77⟩ := Kd.R_slice HO382.out; subst eo77) | ((with_reducible refine gate_callee (f := 47) rfl ?_); refine goesL_ (some 86) rfl rfl Try.func47 (by kernel_rfl) rfl #[.agg #[.int .i64 t378, .int .i64 t379, .slice Ao77 t380.length co77], .int .i64 a1, .int .i64 a2] rfl tL ?_; (with_reducible refine (impl_TransferAccount.calls k t378 t379 _ _ t380 a1 a2 t383 t384 t385 t388 _ ?side1 ?side2 A28.out).mono ?_); (case side1 => repeat (first | exact (Kd.R_reads' HO382.out).2.2 | (with_reducible refine Kd.C_alloc ?_ _) | (with_reducible refine Kd.C_drewN ?_ _) | (with_reducible refine Kd.C_drew ?_))); (case side2 => exact (Kd.R_reads' HO382.out).2.1); rintro e w78 ⟨v386, rfl, ho0, hb⟩; refine ⟨_, rfl, ?_⟩; have n0_ := Aside0.mk (Kd.R_elder' (tR HO344) (Kd.R_base ho0) hb); have n1_ := Aside0.mk (Kd.R_elder' (tR HO349) (Kd.R_base ho0) hb); have n2_ := Aside0.mk (Kd.R_elder' (tR HO356) (Kd.R_base ho0) hb); have n3_ := Aside0.mk (Kd.R_elder' (tR HO362) (Kd.R_base ho0) hb); have n4_ := Aside0.mk (Kd.R_elder' (tR HO370) (Kd.R_base ho0) hb); have n5_ := Aside0.mk (Kd.R_elder' (tR HO382) (Kd.R_base ho0) hb); have n6_ := Aside0.mk (Kd.R_lower (Kd.R_new' (Kd.R_new' (Kd.R_new' (Kd.R_new' (Kd.R_new' (Kd.R_new' ho0 (Kd.R_lt (tR HO344))) (Kd.R_lt (tR HO349))) (Kd.R_lt (tR HO356))) (Kd.R_lt (tR HO362))) (Kd.R_lt (tR HO370))) (Kd.R_lt (tR HO382))) (below_size tB)); have n7_ := Aside0.mk (blk_below (g := gb338) (o := .cells #[.int .i64 a0_0, .int .i64 a0_1, .slice A0_2 l0_2.length c0_2] 72 (0, 0)) (tK BK338) hb); have n8_ := Aside0.mk (blk_below (g := gb351) (o := .cells #[.int .i64 t345, .int .i64 t346, .slice Ao45 t347.length co45] 76 (0, 0)) (tK BK351) hb); have n9_ := Aside0.mk (blk_below (g := gb357) (o := .cells #[.int .i64 t352, .int .i64 t353, .slice Ao52 t354.length co52] 76 (0, 0)) (tK BK357) hb); have n10_ := Aside0.mk (blk_below (g := gb364) (o := .cells #[.int .i64 t358, .int .i64 t359, .slice Ao59 t360.length co59] 76 (0, 0)) (tK BK364) hb); have n11_ := Aside0.mk (below_step tB hb); clear HO344; clear HO349; clear HO356; clear HO362; clear HO370; clear HO382; clear BK338; clear BK351; clear BK357; clear BK364; clear HB; have HO344 := n0_; have HO349 := n1_; have HO356 := n2_; have HO362 := n3_; have HO370 := n4_; have HO382 := n5_; have HO387 := n6_; have BK338 := n7_; have BK351 := n8_; have BK357 := n9_; have BK364 := n10_; have HB := n11_; clear n0_ n1_ n2_ n3_ n4_ n5_ n6_ n7_ n8_ n9_ n10_ n11_; (try clear hb); (try clear hb2); (try clear hk); (try clear hi); (try clear ho0)) | ((with_reducible refine gate_dst (N := 16) rfl ?_); refine box_event ?hg (N := 16) ?hd (cs := #[.int .i64 0, .int .i64 0, .slice none 0 0]) (t := 76) ?hr ?_; (case hd => rfl); (case hg => rfl); (case hr => exact tG); intro gb389 hg w79 hbox hb; have n0_ := Aside0.mk (Kd.R_below (tR HO344) hb); have n1_ := Aside0.mk (Kd.R_below (tR HO349) hb); have n2_ := Aside0.mk (Kd.R_below (tR HO356) hb); have n3_ := Aside0.mk (Kd.R_below (tR HO362) hb); have n4_ := Aside0.mk (Kd.R_below (tR HO370) hb); have n5_ := Aside0.mk (Kd.R_below (tR HO382) hb); have n6_ := Aside0.mk (Kd.R_below (tR HO387) hb); have n7_ := Aside0.mk (blk_below (g := gb338) (o := .cells #[.int .i64 a0_0, .int .i64 a0_1, .slice A0_2 l0_2.length c0_2] 72 (0, 0)) (tK BK338) hb); have n8_ := Aside0.mk (blk_below (g := gb351) (o := .cells #[.int .i64 t345, .int .i64 t346, .slice Ao45 t347.length co45] 76 (0, 0)) (tK BK351) hb); have n9_ := Aside0.mk (blk_below (g := gb357) (o := .cells #[.int .i64 t352, .int .i64 t353, .slice Ao52 t354.length co52] 76 (0, 0)) (tK BK357) hb); have n10_ := Aside0.mk (blk_below (g := gb364) (o := .cells #[.int .i64 t358, .int .i64 t359, .slice Ao59 t360.length co59] 76 (0, 0)) (tK BK364) hb); have n11_ := Aside0.mk (below_step tB hb); have n12_ := Aside0.mk (hbox); have n13_ := Aside0.mk ((by rw [hg]; exact (below_size tB) : w.heap.size ≤ gb389)); have n14_ := Aside0.mk ((by rw [hg]; exact (below_size tB) : w.heap.size ≤ gb389)); have n15_ := Aside0.mk ((by rw [hg]; exact Nat.ne_of_lt (blk_lt (g := gb338) (o := .cells #[.int .i64 a0_0, .int .i64 a0_1, .slice A0_2 l0_2.length c0_2] 72 (0, 0)) (tK BK338)) : gb338 ≠ gb389)); have n16_ := Aside0.mk ((by rw [hg]; exact Nat.ne_of_gt (blk_lt (g := gb338) (o := .cells #[.int .i64 a0_0, .int .i64 a0_1, .slice A0_2 l0_2.length c0_2] 72 (0, 0)) (tK BK338)) : gb389 ≠ gb338)); have n17_ := Aside0.mk ((by rw [hg]; exact Nat.ne_of_lt (blk_lt (g := gb351) (o := .cells #[.int .i64 t345, .int .i64 t346, .slice Ao45 t347.length co45] 76 (0, 0)) (tK BK351)) : gb351 ≠ gb389)); have n18_ := Aside0.mk ((by rw [hg]; exact Nat.ne_of_gt (blk_lt (g := gb351) (o := .cells #[.int .i64 t345, .int .i64 t346, .slice Ao45 t347.length co45] 76 (0, 0)) (tK BK351)) : gb389 ≠ gb351)); have n19_ := Aside0.mk ((by rw [hg]; exact Nat.ne_of_lt (blk_lt (g := gb357) (o := .cells #[.int .i64 t352, .int .i64 t353, .slice Ao52 t354.length co52] 76 (0, 0)) (tK BK357)) : gb357 ≠ gb389)); have n20_ := Aside0.mk ((by rw [hg]; exact Nat.ne_of_gt (blk_lt (g := gb357) (o := .cells #[.int .i64 t352, .int .i64 t353, .slice Ao52 t354.length co52] 76 (0, 0)) (tK BK357)) : gb389 ≠ gb357)); have n21_ := Aside0.mk ((by rw [hg]; exact Nat.ne_of_lt (blk_lt (g := gb364) (o := .cells #[.int .i64 t358, .int .i64 t359, .slice Ao59 t360.length co59] 76 (0, 0)) (tK BK364)) : gb364 ≠ gb389)); have n22_ := Aside0.mk ((by rw [hg]; exact Nat.ne_of_gt (blk_lt (g := gb364) (o := .cells #[.int .i64 t358, .int .i64 t359, .slice Ao59 t360.length co59] 76 (0, 0)) (tK BK364)) : gb389 ≠ gb364)); clear HO344; clear HO349; clear HO356; clear HO362; clear HO370; clear HO382; clear HO387; clear BK338; clear BK351; clear BK357; clear BK364; clear HB; have HO344 := n0_; have HO349 := n1_; have HO356 := n2_; have HO362 := n3_; have HO370 := n4_; have HO382 := n5_; have HO387 := n6_; have BK338 := n7_; have BK351 := n8_; have BK357 := n9_; have BK364 := n10_; have HB := n11_; have BK389 := n12_; have GW389 := n13_; have GE389 := n14_; have NB338_389 := n15_; have NB389_338 := n16_; have NB351_389 := n17_; have NB389_351 := n18_; have NB357_389 := n19_; have NB389_357 := n20_; have NB364_389 := n21_; have NB389_364 := n22_; clear n0_ n1_ n2_ n3_ n4_ n5_ n6_ n7_ n8_ n9_ n10_ n11_ n12_ n13_ n14_ n15_ n16_ n17_ n18_ n19_ n20_ n21_ n22_; clear hb hbox hg; have hnb80 := NB389_338.out; have hnc80 := NB338_389.out; have hnb81 := NB389_351.out; have hnc81 := NB351_389.out; have hnb82 := NB389_357.out; have hnc82 := NB357_389.out; have hnb83 := NB389_364.out; have hnc83 := NB364_389.out; obtain ⟨hcz84_0, hcz84_1, hcz84_2, hfz84_0, hfz84_1, hfz84_2⟩ := bc3 BK389.out; obtain ⟨Ao85, co85, eo85⟩ := Kd.R_slice HO387.out; subst eo85; obtain ⟨hcz86_0, hcz86_1, hcz86_2, hfz86_0, hfz86_1, hfz86_2⟩ := bc3 BK351.out) | ((with_reducible refine gate_callee (f := 48) rfl ?_); refine goesL_ (some 91) rfl rfl Try.func48 (by kernel_rfl) rfl #[.agg #[.int .i64 t383, .int .i64 t384, .slice Ao85 t385.length co85], .agg #[.int .i64 t345, .int .i64 t346, .slice Ao45 t347.length co45]] rfl tL ?_; (with_reducible refine (laws_eqAccount.calls k t383 t384 _ _ t385 t345 t346 _ _ t347 true _ ?side1 ?side2 ?side3 ?side4 A29.out).mono ?_); (case side1 => refine (Kd.R_reads' (e := 123) (base := w.heap.size) (ok := fun k_ => ((((((True ∧ some k_ ≠ (.slice Ao40 t342.length co40 : Value).ownBlock) ∧ some k_ ≠ (.slice Ao45 t347.length co45 : Value).ownBlock) ∧ some k_ ≠ (.slice Ao52 t354.length co52 : Value).ownBlock) ∧ some k_ ≠ (.slice Ao59 t360.length co59 : Value).ownBlock) ∧ some k_ ≠ (.slice Ao64 t368.length co64 : Value).ownBlock) ∧ some k_ ≠ (.slice Ao77 t380.length co77 : Value).ownBlock)) (n := t385.length) (c := co85) ?_).2.2; exact (by (with_reducible repeat (first | apply Kd.R_alloc | apply Kd.R_drewN | apply Kd.R_drew)); exact (Kd.R_mono (Kd.R_far (p := ⟨gb389, 2, none⟩) (Kd.R_far (p := ⟨gb389, 1, none⟩) (Kd.R_far (p := ⟨gb389, 0, none⟩) (Kd.R_types HO387.out BK389.out (by decide)) (fun _ hk => hk.2) (.int .i64 t383)) (fun _ hk => hk.2) (.int .i64 t384)) (fun _ hk => hk.2) (.slice Ao85 t385.length co85)) (fun _ h_ => h_.1)))); (case side2 => exact (Kd.R_reads' HO387.out).2.1); (case side3 => refine (Kd.R_reads' (e := 123) (base := w.heap.size) (ok := fun k_ => (((some k_ ≠ (.slice Ao40 t342.length co40 : Value).ownBlock ∧ (some k_ ≠ (.slice Ao52 t354.length co52 : Value).ownBlock ∧ (some k_ ≠ (.slice Ao59 t360.length co59 : Value).ownBlock ∧ some k_ ≠ (.slice Ao64 t368.length co64 : Value).ownBlock))) ∧ some k_ ≠ (.slice Ao77 t380.length co77 : Value).ownBlock) ∧ some k_ ≠ (.slice Ao85 t385.length co85 : Value).ownBlock)) (n := t347.length) (c := co45) ?_).2.2; exact (by (with_reducible repeat (first | apply Kd.R_alloc | apply Kd.R_drewN | apply Kd.R_drew)); exact (Kd.R_mono (Kd.R_far (p := ⟨gb389, 2, none⟩) (Kd.R_far (p := ⟨gb389, 1, none⟩) (Kd.R_far (p := ⟨gb389, 0, none⟩) (Kd.R_types HO349.out BK389.out (by decide)) (fun _ hk => hk.2) (.int .i64 t383)) (fun _ hk => hk.2) (.int .i64 t384)) (fun _ hk => hk.2) (.slice Ao85 t385.length co85)) (fun _ h_ => h_.1)))); (case side4 => exact (Kd.R_reads' HO349.out).2.1); rintro e w87 ⟨rfl, hb⟩; refine ⟨_, rfl, ?_⟩; have n0_ := Aside0.mk (Kd.R_below (by (with_reducible repeat (first | apply Kd.R_alloc | apply Kd.R_drewN | apply Kd.R_drew)); exact (Kd.R_mono (Kd.R_far (p := ⟨gb389, 2, none⟩) (Kd.R_far (p := ⟨gb389, 1, none⟩) (Kd.R_far (p := ⟨gb389, 0, none⟩) (Kd.R_types HO344.out BK389.out (by decide)) (fun _ hk => hk.2) (.int .i64 t383)) (fun _ hk => hk.2) (.int .i64 t384)) (fun _ hk => hk.2) (.slice Ao85 t385.length co85)) (fun _ h_ => h_.1))) hb); have n1_ := Aside0.mk (Kd.R_below (by (with_reducible repeat (first | apply Kd.R_alloc | apply Kd.R_drewN | apply Kd.R_drew)); exact (Kd.R_mono (Kd.R_far (p := ⟨gb389, 2, none⟩) (Kd.R_far (p := ⟨gb389, 1, none⟩) (Kd.R_far (p := ⟨gb389, 0, none⟩) (Kd.R_types HO349.out BK389.out (by decide)) (fun _ hk => hk.2) (.int .i64 t383)) (fun _ hk => hk.2) (.int .i64 t384)) (fun _ hk => hk.2) (.slice Ao85 t385.length co85)) (fun _ h_ => h_.1))) hb); have n2_ := Aside0.mk (Kd.R_below (by (with_reducible repeat (first | apply Kd.R_alloc | apply Kd.R_drewN | apply Kd.R_drew)); exact (Kd.R_mono (Kd.R_far (p := ⟨gb389, 2, none⟩) (Kd.R_far (p := ⟨gb389, 1, none⟩) (Kd.R_far (p := ⟨gb389, 0, none⟩) (Kd.R_types HO356.out BK389.out (by decide)) (fun _ hk => hk.2) (.int .i64 t383)) (fun _ hk => hk.2) (.int .i64 t384)) (fun _ hk => hk.2) (.slice Ao85 t385.length co85)) (fun _ h_ => h_.1))) hb); have n3_ := Aside0.mk (Kd.R_below (by (with_reducible repeat (first | apply Kd.R_alloc | apply Kd.R_drewN | apply Kd.R_drew)); exact (Kd.R_mono (Kd.R_far (p := ⟨gb389, 2, none⟩) (Kd.R_far (p := ⟨gb389, 1, none⟩) (Kd.R_far (p := ⟨gb389, 0, none⟩) (Kd.R_types HO362.out BK389.out (by decide)) (fun _ hk => hk.2) (.int .i64 t383)) (fun _ hk => hk.2) (.int .i64 t384)) (fun _ hk => hk.2) (.slice Ao85 t385.length co85)) (fun _ h_ => h_.1))) hb); have n4_ := Aside0.mk (Kd.R_below (by (with_reducible repeat (first | apply Kd.R_alloc | apply Kd.R_drewN | apply Kd.R_drew)); exact (Kd.R_mono (Kd.R_far (p := ⟨gb389, 2, none⟩) (Kd.R_far (p := ⟨gb389, 1, none⟩) (Kd.R_far (p := ⟨gb389, 0, none⟩) (Kd.R_types HO370.out BK389.out (by decide)) (fun _ hk => hk.2) (.int .i64 t383)) (fun _ hk => hk.2) (.int .i64 t384)) (fun _ hk => hk.2) (.slice Ao85 t385.length co85)) (fun _ h_ => h_.1))) hb); have n5_ := Aside0.mk (Kd.R_below (by (with_reducible repeat (first | apply Kd.R_alloc | apply Kd.R_drewN | apply Kd.R_drew)); exact (Kd.R_mono (Kd.R_far (p := ⟨gb389, 2, none⟩) (Kd.R_far (p := ⟨gb389, 1, none⟩) (Kd.R_far (p := ⟨gb389, 0, none⟩) (Kd.R_types HO382.out BK389.out (by decide)) (fun _ hk => hk.2) (.int .i64 t383)) (fun _ hk => hk.2) (.int .i64 t384)) (fun _ hk => hk.2) (.slice Ao85 t385.length co85)) (fun _ h_ => h_.1))) hb); have n6_ := Aside0.mk (Kd.R_below (by (with_reducible repeat (first | apply Kd.R_alloc | apply Kd.R_drewN | apply Kd.R_drew)); exact (Kd.R_mono (Kd.R_far (p := ⟨gb389, 2, none⟩) (Kd.R_far (p := ⟨gb389, 1, none⟩) (Kd.R_far (p := ⟨gb389, 0, none⟩) (Kd.R_types HO387.out BK389.out (by decide)) (fun _ hk => hk.2) (.int .i64 t383)) (fun _ hk => hk.2) (.int .i64 t384)) (fun _ hk => hk.2) (.slice Ao85 t385.length co85)) (fun _ h_ => h_.1))) hb); have n7_ := Aside0.mk (blk_below (g := gb338) (o := .cells #[.int .i64 a0_0, .int .i64 a0_1, .slice A0_2 l0_2.length c0_2] 72 (0, 0)) (by (with_reducible repeat (first | refine blk_drewN ?_ _ | refine blk_drew ?_ | refine blk_alloc ?_ _)); refine blk_far ?_ NB338_389.out _; (with_reducible repeat (first | refine blk_drewN ?_ _ | refine blk_drew ?_ | refine blk_alloc ?_ _)); refine blk_far ?_ NB338_389.out _; (with_reducible repeat (first | refine blk_drewN ?_ _ | refine blk_drew ?_ | refine blk_alloc ?_ _)); refine blk_far ?_ NB338_389.out _; (with_reducible repeat (first | refine blk_drewN ?_ _ | refine blk_drew ?_ | refine blk_alloc ?_ _)); exact BK338.out) hb); have n8_ := Aside0.mk (blk_below (g := gb351) (o := .cells #[.int .i64 t345, .int .i64 t346, .slice Ao45 t347.length co45] 76 (0, 0)) (by (with_reducible repeat (first | refine blk_drewN ?_ _ | refine blk_drew ?_ | refine blk_alloc ?_ _)); refine blk_far ?_ NB351_389.out _; (with_reducible repeat (first | refine blk_drewN ?_ _ | refine blk_drew ?_ | refine blk_alloc ?_ _)); refine blk_far ?_ NB351_389.out _; (with_reducible repeat (first | refine blk_drewN ?_ _ | refine blk_drew ?_ | refine blk_alloc ?_ _)); refine blk_far ?_ NB351_389.out _; (with_reducible repeat (first | refine blk_drewN ?_ _ | refine blk_drew ?_ | refine blk_alloc ?_ _)); exact BK351.out) hb); have n9_ := Aside0.mk (blk_below (g := gb357) (o := .cells #[.int .i64 t352, .int .i64 t353, .slice Ao52 t354.length co52] 76 (0, 0)) (by (with_reducible repeat (first | refine blk_drewN ?_ _ | refine blk_drew ?_ | refine blk_alloc ?_ _)); refine blk_far ?_ NB357_389.out _; (with_reducible repeat (first | refine blk_drewN ?_ _ | refine blk_drew ?_ | refine blk_alloc ?_ _)); refine blk_far ?_ NB357_389.out _; (with_reducible repeat (first | refine blk_drewN ?_ _ | refine blk_drew ?_ | refine blk_alloc ?_ _)); refine blk_far ?_ NB357_389.out _; (with_reducible repeat (first | refine blk_drewN ?_ _ | refine blk_drew ?_ | refine blk_alloc ?_ _)); exact BK357.out) hb); have n10_ := Aside0.mk (blk_below (g := gb364) (o := .cells #[.int .i64 t358, .int .i64 t359, .slice Ao59 t360.length co59] 76 (0, 0)) (by (with_reducible repeat (first | refine blk_drewN ?_ _ | refine blk_drew ?_ | refine blk_alloc ?_ _)); refine blk_far ?_ NB364_389.out _; (with_reducible repeat (first | refine blk_drewN ?_ _ | refine blk_drew ?_ | refine blk_alloc ?_ _)); refine blk_far ?_ NB364_389.out _; (with_reducible repeat (first | refine blk_drewN ?_ _ | refine blk_drew ?_ | refine blk_alloc ?_ _)); refine blk_far ?_ NB364_389.out _; (with_reducible repeat (first | refine blk_drewN ?_ _ | refine blk_drew ?_ | refine blk_alloc ?_ _)); exact BK364.out) hb); have n11_ := Aside0.mk (blk_below (g := gb389) (o := .cells #[.int .i64 t383, .int .i64 t384, .slice Ao85 t385.length co85] 76 (0, 0)) (by (with_reducible repeat (first | refine blk_drewN ?_ _ | refine blk_drew ?_ | refine blk_alloc ?_ _)); refine blk_put (cs := #[.int .i64 t383, .int .i64 t384, .slice none 0 0]) ?_ 2 _ rfl; (with_reducible repeat (first | refine blk_drewN ?_ _ | refine blk_drew ?_ | refine blk_alloc ?_ _)); refine blk_put (cs := #[.int .i64 t383, .int .i64 0, .slice none 0 0]) ?_ 1 _ rfl; (with_reducible repeat (first | refine blk_drewN ?_ _ | refine blk_drew ?_ | refine blk_alloc ?_ _)); refine blk_put (cs := #[.int .i64 0, .int .i64 0, .slice none 0 0]) ?_ 0 _ rfl; (with_reducible repeat (first | refine blk_drewN ?_ _ | refine blk_drew ?_ | refine blk_alloc ?_ _)); exact BK389.out) hb); have n12_ := Aside0.mk (below_step tB hb); clear HO344; clear HO349; clear HO356; clear HO362; clear HO370; clear HO382; clear HO387; clear BK338; clear BK351; clear BK357; clear BK364; clear BK389; clear HB; have HO344 := n0_; have HO349 := n1_; have HO356 := n2_; have HO362 := n3_; have HO370 := n4_; have HO382 := n5_; have HO387 := n6_; have BK338 := n7_; have BK351 := n8_; have BK357 := n9_; have BK364 := n10_; have BK389 := n11_; have HB := n12_; clear n0_ n1_ n2_ n3_ n4_ n5_ n6_ n7_ n8_ n9_ n10_ n11_ n12_; (try clear hb); (try clear hb2); (try clear hk); (try clear hi); obtain ⟨hcz88_0, hcz88_1, hcz88_2, hfz88_0, hfz88_1, hfz88_2⟩ := bc3 BK364.out) | ((with_reducible refine gate_callee (f := 50) rfl ?_); refine goesL_ (some 100) rfl rfl Try.func50 (by kernel_rfl) rfl #[.agg #[.int .i64 t358, .int .i64 t359, .slice Ao59 t376.length co59], .int .i64 1] rfl (by (try simp only [List.map_toArray, List.map_cons, List.map_nil]); first | done | (rw [show t376.length = t360.length from (Kd.R_reads' HO362.out).1.symm] <;> rfl) | rfl | (simp only [List.length_drop, List.length_take]; rfl)) ?_; (with_reducible refine (laws_heldAccount.calls k t358 t359 _ _ t376 1 t391 _ ?side1 ?side2 A32.out).mono ?_); (case side1 => repeat (first | exact (Kd.R_reads' HO362.out).2.2 | (with_reducible refine Kd.C_alloc ?_ _) | (with_reducible refine Kd.C_drewN ?_ _) | (with_reducible refine Kd.C_drew ?_))); (case side2 => rw [show t376.length = t360.length from (Kd.R_reads' HO362.out).1.symm]; exact (Kd.R_reads' HO362.out).2.1); rintro e w89 ⟨rfl, hb⟩; refine ⟨_, rfl, ?_⟩; have n0_ := Aside0.mk (Kd.R_below (tR HO344) hb); have n1_ := Aside0.mk (Kd.R_below (tR HO349) hb); have n2_ := Aside0.mk (Kd.R_below (tR HO356) hb); have n3_ := Aside0.mk (Kd.R_below (tR HO362) hb); have n4_ := Aside0.mk (Kd.R_below (tR HO370) hb); have n5_ := Aside0.mk (Kd.R_below (tR HO382) hb); have n6_ := Aside0.mk (Kd.R_below (tR HO387) hb); have n7_ := Aside0.mk (blk_below (g := gb338) (o := .cells #[.int .i64 a0_0, .int .i64 a0_1, .slice A0_2 l0_2.length c0_2] 72 (0, 0)) (tK BK338) hb); have n8_ := Aside0.mk (blk_below (g := gb351) (o := .cells #[.int .i64 t345, .int .i64 t346, .slice Ao45 t347.length co45] 76 (0, 0)) (tK BK351) hb); have n9_ := Aside0.mk (blk_below (g := gb357) (o := .cells #[.int .i64 t352, .int .i64 t353, .slice Ao52 t354.length co52] 76 (0, 0)) (tK BK357) hb); have n10_ := Aside0.mk (blk_below (g := gb364) (o := .cells #[.int .i64 t358, .int .i64 t359, .slice Ao59 t360.length co59] 76 (0, 0)) (tK BK364) hb); have n11_ := Aside0.mk (blk_below (g := gb389) (o := .cells #[.int .i64 t383, .int .i64 t384, .slice Ao85 t385.length co85] 76 (0, 0)) (tK BK389) hb); have n12_ := Aside0.mk (below_step tB hb); clear HO344; clear HO349; clear HO356; clear HO362; clear HO370; clear HO382; clear HO387; clear BK338; clear BK351; clear BK357; clear BK364; clear BK389; clear HB; have HO344 := n0_; have HO349 := n1_; have HO356 := n2_; have HO362 := n3_; have HO370 := n4_; have HO382 := n5_; have HO387 := n6_; have BK338 := n7_; have BK351 := n8_; have BK357 := n9_; have BK364 := n10_; have BK389 := n11_; have HB := n12_; clear n0_ n1_ n2_ n3_ n4_ n5_ n6_ n7_ n8_ n9_ n10_ n11_ n12_; (try clear hb); (try clear hb2); (try clear hk); (try clear hi)))
             go_ret
             exact ⟨tE, tB⟩
            ·rw [if_neg c34] at H
             have c34b0 : (t391 == t375) = false := beq_eq_false_iff_ne.mpr c34
             have c34b1 : (t391 != t375) = true := bne_iff_ne.mpr c34
             exact absurd ((Option.some.inj H).trans hT_) (by decide)
         ·replace c30 := Bool.eq_false_iff.mpr c30
          subst c30
          have H1 : (some false) = some r := by rw [if_neg (show ¬ (false = true) by decide)] at H; exact H
          clear H
          have H := H1
          clear H1
          exact absurd ((Option.some.inj H).trans hT_) (by decide)
        ·rw [if_neg c26] at H
         have c26b0 : (t377 == t375) = false := beq_eq_false_iff_ne.mpr c26
         have c26b1 : (t377 != t375) = true := bne_iff_ne.mpr c26
         exact absurd ((Option.some.inj H).trans hT_) (by decide)
      ·replace c22 := Bool.eq_false_iff.mpr c22
       subst c22
       have H1 : (some false) = some r := by rw [if_neg (show ¬ (false = true) by decide)] at H; exact H
       clear H
       have H := H1
       clear H1
       exact absurd ((Option.some.inj H).trans hT_) (by decide)
    ·replace c18 := Bool.eq_false_iff.mpr c18
     subst c18
     have H1 : (some false) = some r := by rw [if_neg (show ¬ (false = true) by decide)] at H; exact H
     clear H
     have H := H1
     clear H1
     exact absurd ((Option.some.inj H).trans hT_) (by decide)
  ·replace c14 := Bool.eq_false_iff.mpr c14
   subst c14
   have H1 : (some false) = some r := by rw [if_neg (show ¬ (false = true) by decide)] at H; exact H
   clear H
   have H := H1
   clear H1
   exact absurd ((Option.some.inj H).trans hT_) (by decide)

end Go.Proofs.Ytjggdakbphjomaa.ZFnExactTransferAccount
