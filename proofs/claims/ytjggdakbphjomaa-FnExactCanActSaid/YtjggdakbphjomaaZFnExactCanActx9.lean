/- The machine side: for each Go function a Lean function and the contract that the Go code answers as it does; printed by program (wip/tmpl/pprint.sh). -/
import Derived.Test.YtjggdakbphjomaaZFnExactCanActx0
import Derived.Test.YtjggdakbphjomaaZFnExactCanActx1
import Derived.Test.YtjggdakbphjomaaZFnExactCanActx5
import Derived.Test.YtjggdakbphjomaaZFnExactCanActx8
namespace Go.Proofs.Ytjggdakbphjomaa.ZFnExactCanAct
open Go.RowKit Go.Proofs.YtjggdakbphjomaaW.PrintWords Go.Proofs.YtjggdakbphjomaaW.PrintLast Go.Proofs.YtjggdakbphjomaaW.PrintMore
attribute [local go_sem] max2_int min2_int max_two min_two max_three min_three max_four min_four   -- for this text's walks alone
set_option linter.unusedVariables false
set_option linter.unusedSimpArgs false

/-! ### impl_CanAct: function 36 -/
def impl_CanAct.j0 : Nat → List (S64) → Int → Int → Int → Int → Bool → Option (Bool)
 | 0, _, _, _, _, _, _ => none
 | k + 1, x0, x1, x2, x3, x4, x20 => if x20 = true then (some false) else ((impl_ChainScopes.f k x0 x1 x2 x4).bind fun t238 => (if (Go.bits .and .i64 t238 x3) = 0 then (if x2 = x1 then ((impl_PrivateKey.f k x1).bind fun t239 => (some (t239 != 0))) else (some false)) else (some true)))
def impl_CanAct.f (k : Nat) (l0 : List (S64)) (a1 : Int) (a2 : Int) (a3 : Int) (a4 : Int) : Option (Bool) := if a3 = 1 then (impl_CanAct.j0 k l0 a1 a2 a3 a4 false) else (if a3 = 2 then (impl_CanAct.j0 k l0 a1 a2 a3 a4 false) else (impl_CanAct.j0 k l0 a1 a2 a3 a4 (a3 != 4)))
theorem impl_CanAct.mono_l : ∀ k, (∀ y0 y1 y2 y3 y4 y5, LeO (impl_CanAct.j0 k y0 y1 y2 y3 y4 y5) (impl_CanAct.j0 (k + 1) y0 y1 y2 y3 y4 y5))
 | 0 => fun _ _ _ _ _ _ r h => by simp [impl_CanAct.j0] at h
 | k + 1 => by
  have ih0 := impl_CanAct.mono_l k
  ·intro y0 y1 y2 y3 y4 y5
   unfold impl_CanAct.j0
   repeat' first
   | (with_reducible exact ih0 _ _ _ _ _ _)
   | (with_reducible exact impl_ChainScopes.mono _ _ _ _ _)
   | (with_reducible exact impl_PrivateKey.mono _ _)
   | (with_reducible exact LeO.refl _)
   | (with_reducible exact LeO.none _)
   | (with_reducible refine LeO.ite ?_ ?_)
   | (with_reducible refine LeO.bind ?_ (fun _ => ?_))
   | exact ih0 _ _ _ _ _ _
   | exact impl_ChainScopes.mono _ _ _ _ _
   | exact impl_PrivateKey.mono _ _
   | exact LeO.none _
   | refine LeO.ite ?_ ?_
   | refine LeO.bind ?_ (fun _ => ?_)
theorem impl_CanAct.mono : ∀ a0 a1 a2 a3 a4 k, LeO (impl_CanAct.f k a0 a1 a2 a3 a4) (impl_CanAct.f (k + 1) a0 a1 a2 a3 a4) := by
 intro a0 a1 a2 a3 a4 k
 have ih0 := impl_CanAct.mono_l k
 unfold impl_CanAct.f
 repeat' first
   | (with_reducible exact ih0 _ _ _ _ _ _)
   | (with_reducible exact impl_ChainScopes.mono _ _ _ _ _)
   | (with_reducible exact impl_PrivateKey.mono _ _)
   | (with_reducible exact LeO.refl _)
   | (with_reducible exact LeO.none _)
   | (with_reducible refine LeO.ite ?_ ?_)
   | (with_reducible refine LeO.bind ?_ (fun _ => ?_))
   | exact ih0 _ _ _ _ _ _
   | exact impl_ChainScopes.mono _ _ _ _ _
   | exact impl_PrivateKey.mono _ _
   | exact LeO.none _
   | refine LeO.ite ?_ ?_
   | refine LeO.bind ?_ (fun _ => ?_)
set_option maxHeartbeats 8000000 in
set_option maxRecDepth 100000 in
theorem impl_CanAct.calls (k : Nat) (A0 : Option Addr) (c0 : Nat) (l0 : List (S64)) (a1 : Int) (a2 : Int) (a3 : Int) (a4 : Int) (r : Bool) (w : World) (hr0 : Kd.C k64 w A0 l0.length l0) (hc0 : l0.length ≤ c0) (h : impl_CanAct.f k l0 a1 a2 a3 a4 = some r) :
  Calls Try.prog 36 #[.slice A0 l0.length c0, .int .i64 a1, .int .i64 a2, .int .i64 a3, .int .i64 a4] w fun e w' => e = .returned (.bool r) ∧ Below w.heap.size w w' := by
 have HR0 := Aside0.mk hr0
 have HC0 := Aside0.mk hc0
 clear hr0 hc0
 have HB := Aside0.mk (Below.refl w.heap.size w)
 have H : (if a3 = 1 then (impl_CanAct.j0 k l0 a1 a2 a3 a4 false) else (if a3 = 2 then (impl_CanAct.j0 k l0 a1 a2 a3 a4 false) else (impl_CanAct.j0 k l0 a1 a2 a3 a4 (a3 != 4)))) = some r := h
 clear h
 have HC6 := Aside0.mk H
 clear H
 go_enter Try.func36, Try.ntmps36
 go_upto_region 1 with (fail)
 go_cut [20] (fun v20 wc => ∃ (kq : Nat) (x20_5 : Bool), v20 = .bool x20_5 ∧ Aside0 (impl_CanAct.j0 kq l0 a1 a2 a3 a4 x20_5 = some r) ∧ Aside0 (kq ≤ k) ∧ Aside0 (Below w.heap.size w wc))
 case first =>
  have H := HC6.out
  clear HC6
  by_cases c7 : a3 = 1
  ·rw [if_pos c7] at H
   have c7b0 : (a3 == 1) = true := beq_iff_eq.mpr c7
   have c7b1 : (a3 != 1) = false := bne_eq_false_iff_eq.mpr c7
   clear c7
   (first | rw [c7b0] | (simp only [i64_w, i32_w]; rw [c7b0]) | skip)
   have H' := Aside0.mk H
   clear H
   go_wp2
   go_meet
   case rel => exact ⟨_, (false), tS, H', ⟨by first | omega | exact Nat.le_refl _⟩, ⟨tB⟩⟩
  ·rw [if_neg c7] at H
   have c7b0 : (a3 == 1) = false := beq_eq_false_iff_ne.mpr c7
   have c7b1 : (a3 != 1) = true := bne_iff_ne.mpr c7
   (first | rw [c7b0] | (simp only [i64_w, i32_w]; rw [c7b0]) | skip)
   by_cases c8 : a3 = 2
   ·rw [if_pos c8] at H
    have c8b0 : (a3 == 2) = true := beq_iff_eq.mpr c8
    have c8b1 : (a3 != 2) = false := bne_eq_false_iff_eq.mpr c8
    clear c8
    have H' := Aside0.mk H
    clear H
    go_wp2
    go_meet
    case rel => exact ⟨_, (false), tS, H', ⟨by first | omega | exact Nat.le_refl _⟩, ⟨tB⟩⟩
   ·rw [if_neg c8] at H
    have c8b0 : (a3 == 2) = false := beq_eq_false_iff_ne.mpr c8
    have c8b1 : (a3 != 2) = true := bne_iff_ne.mpr c8
    have H' := Aside0.mk H
    clear H
    go_wp2
    go_meet
    case rel => exact ⟨_, ((a3 != 4)), tS, H', ⟨by first | omega | exact Nat.le_refl _⟩, ⟨tB⟩⟩
 case rest =>
  clear HC6
  try clear p2
  try clear c3
  try clear c7
  try clear c7b0
  try clear c7b1
  try clear c8
  try clear c8b0
  try clear c8b1
  obtain ⟨kq, x20_5, rfl, HA, HJ5, HB⟩ := hcut
  cases kq with
  | zero => exact absurd HA.out (by simp [impl_CanAct.j0])
  | succ kj5 =>
   have H := HA.out
   clear HA
   simp only [impl_CanAct.j0] at H
   by_cases c9 : x20_5 = true
   ·subst c9
    have H1 : (some false) = some r := by rw [if_pos rfl] at H; exact H
    clear H
    have H := H1
    clear H1
    obtain rfl := Option.some.inj H
    go_wp2
    go_ret
    exact ⟨tE, tB⟩
   ·replace c9 := Bool.eq_false_iff.mpr c9
    subst c9
    have H1 : ((impl_ChainScopes.f kj5 l0 a1 a2 a4).bind fun t238 => (if (Go.bits .and .i64 t238 a3) = 0 then (if a2 = a1 then ((impl_PrivateKey.f kj5 a1).bind fun t239 => (some (t239 != 0))) else (some false)) else (some true))) = some r := by rw [if_neg (show ¬ (false = true) by decide)] at H; exact H
    clear H
    have H := H1
    clear H1
    replace H := Option.bind_eq_some_iff.mp H
    obtain ⟨t238, A100, H⟩ := H
    replace H : (if (Go.bits .and .i64 t238 a3) = 0 then (if a2 = a1 then ((impl_PrivateKey.f kj5 a1).bind fun t239 => (some (t239 != 0))) else (some false)) else (some true)) = some r := H
    have A10 := Aside0.mk A100
    clear A100
    by_cases c11 : (Go.bits .and .i64 t238 a3) = 0
    ·rw [if_pos c11] at H
     have c11b0 : ((Go.bits .and .i64 t238 a3) == 0) = true := beq_iff_eq.mpr c11
     have c11b1 : ((Go.bits .and .i64 t238 a3) != 0) = false := bne_eq_false_iff_eq.mpr c11
     clear c11
     by_cases c12 : a2 = a1
     ·rw [if_pos c12] at H
      have c12b0 : (a2 == a1) = true := beq_iff_eq.mpr c12
      have c12b1 : (a2 != a1) = false := bne_eq_false_iff_eq.mpr c12
      clear c12
      replace H := Option.bind_eq_some_iff.mp H
      obtain ⟨t239, A130, H⟩ := H
      replace H : (some (t239 != 0)) = some r := H
      have A13 := Aside0.mk A130
      clear A130
      obtain rfl := Option.some.inj H
      go_wp2_with (first | ((with_reducible refine gate_callee (f := 18) rfl ?_); refine goesL_ (some 25) rfl rfl Try.func18 (by kernel_rfl) rfl #[.slice A0 l0.length c0, .int .i64 a1, .int .i64 a2, .int .i64 a4] rfl tL ?_; (with_reducible refine (impl_ChainScopes.calls kj5 _ _ l0 a1 a2 a4 t238 _ ?side1 ?side2 A10.out).mono ?_); (case side1 => repeat (first | exact (Kd.C_below HR0.out HB.out) | (with_reducible refine Kd.C_alloc ?_ _) | (with_reducible refine Kd.C_drewN ?_ _) | (with_reducible refine Kd.C_drew ?_))); (case side2 => exact HC0.out); rintro e w14 ⟨rfl, hb⟩; refine ⟨_, rfl, ?_⟩; have n0_ := Aside0.mk (below_step tB hb); clear HB; have HB := n0_; clear n0_; (try clear hb); (try clear hb2); (try clear hk); (try clear hi)) | (go_at_call 91; (with_reducible refine (impl_PrivateKey.calls kj5 a1 t239 _ A13.out).mono ?_); rintro e w' ⟨rfl, ⟨nd, rfl⟩⟩))
      go_ret
      exact ⟨tE, tB⟩
     ·rw [if_neg c12] at H
      have c12b0 : (a2 == a1) = false := beq_eq_false_iff_ne.mpr c12
      have c12b1 : (a2 != a1) = true := bne_iff_ne.mpr c12
      obtain rfl := Option.some.inj H
      go_wp2_with (first | ((with_reducible refine gate_callee (f := 18) rfl ?_); refine goesL_ (some 25) rfl rfl Try.func18 (by kernel_rfl) rfl #[.slice A0 l0.length c0, .int .i64 a1, .int .i64 a2, .int .i64 a4] rfl tL ?_; (with_reducible refine (impl_ChainScopes.calls kj5 _ _ l0 a1 a2 a4 t238 _ ?side1 ?side2 A10.out).mono ?_); (case side1 => repeat (first | exact (Kd.C_below HR0.out HB.out) | (with_reducible refine Kd.C_alloc ?_ _) | (with_reducible refine Kd.C_drewN ?_ _) | (with_reducible refine Kd.C_drew ?_))); (case side2 => exact HC0.out); rintro e w15 ⟨rfl, hb⟩; refine ⟨_, rfl, ?_⟩; have n0_ := Aside0.mk (below_step tB hb); clear HB; have HB := n0_; clear n0_; (try clear hb); (try clear hb2); (try clear hk); (try clear hi)))
      go_ret
      exact ⟨tE, tB⟩
    ·rw [if_neg c11] at H
     have c11b0 : ((Go.bits .and .i64 t238 a3) == 0) = false := beq_eq_false_iff_ne.mpr c11
     have c11b1 : ((Go.bits .and .i64 t238 a3) != 0) = true := bne_iff_ne.mpr c11
     obtain rfl := Option.some.inj H
     go_wp2_with (first | ((with_reducible refine gate_callee (f := 18) rfl ?_); refine goesL_ (some 25) rfl rfl Try.func18 (by kernel_rfl) rfl #[.slice A0 l0.length c0, .int .i64 a1, .int .i64 a2, .int .i64 a4] rfl tL ?_; (with_reducible refine (impl_ChainScopes.calls kj5 _ _ l0 a1 a2 a4 t238 _ ?side1 ?side2 A10.out).mono ?_); (case side1 => repeat (first | exact (Kd.C_below HR0.out HB.out) | (with_reducible refine Kd.C_alloc ?_ _) | (with_reducible refine Kd.C_drewN ?_ _) | (with_reducible refine Kd.C_drew ?_))); (case side2 => exact HC0.out); rintro e w16 ⟨rfl, hb⟩; refine ⟨_, rfl, ?_⟩; have n0_ := Aside0.mk (below_step tB hb); clear HB; have HB := n0_; clear n0_; (try clear hb); (try clear hb2); (try clear hk); (try clear hi)))
     go_ret
     exact ⟨tE, tB⟩

/-! ### laws_FnExactCanAct: function 7 -/
def laws_FnExactCanAct.f (k : Nat) (l0 : List (S99)) (a1 : Int) (a2 : Int) (a3 : Int) (a4 : Int) : Option (Bool) := (laws_szGrantS.f l0 1048576).bind fun t240 => (if t240 < 0 then (some true) else ((laws_toGrantS.f k l0).bind fun t241 => ((spec_CanAct.f k t241 a1 a2 a3 a4).bind fun t244 => ((laws_toGrantS.f k l0).bind fun t245 => ((impl_CanAct.f k t245 a1 a2 a3 a4).bind fun t248 => (if (t248 != t244) = true then (some false) else ((laws_toGrantS.f k l0).bind fun t249 => ((laws_eqGrantS.f k t245 t249).bind fun t252 => (if t252 = true then (some true) else (some false))))))))))
theorem laws_FnExactCanAct.mono : ∀ a0 a1 a2 a3 a4 k, LeO (laws_FnExactCanAct.f k a0 a1 a2 a3 a4) (laws_FnExactCanAct.f (k + 1) a0 a1 a2 a3 a4) := by
 intro a0 a1 a2 a3 a4 k
 unfold laws_FnExactCanAct.f
 repeat' first
   | (with_reducible exact impl_CanAct.mono _ _ _ _ _ _)
   | (with_reducible exact laws_eqGrantS.mono _ _ _)
   | (with_reducible exact laws_toGrantS.mono _ _)
   | (with_reducible exact spec_CanAct.mono _ _ _ _ _ _)
   | (with_reducible exact LeO.refl _)
   | (with_reducible exact LeO.none _)
   | (with_reducible refine LeO.ite ?_ ?_)
   | (with_reducible refine LeO.bind ?_ (fun _ => ?_))
   | exact impl_CanAct.mono _ _ _ _ _ _
   | exact laws_eqGrantS.mono _ _ _
   | exact laws_toGrantS.mono _ _
   | exact spec_CanAct.mono _ _ _ _ _ _
   | exact LeO.none _
   | refine LeO.ite ?_ ?_
   | refine LeO.bind ?_ (fun _ => ?_)
set_option maxHeartbeats 8000000 in
set_option maxRecDepth 100000 in
theorem laws_FnExactCanAct.calls (k : Nat) (A0 : Option Addr) (c0 : Nat) (l0 : List (S99)) (a1 : Int) (a2 : Int) (a3 : Int) (a4 : Int) (r : Bool) (w : World) (hr0 : Kd.C k99 w A0 l0.length l0) (hc0 : l0.length ≤ c0) (hT_ : r = true) (h : laws_FnExactCanAct.f k l0 a1 a2 a3 a4 = some r) :
  Calls Try.prog 7 #[.slice A0 l0.length c0, .int .i64 a1, .int .i64 a2, .int .i64 a3, .int .i64 a4] w fun e w' => e = .returned (.bool r) ∧ Below w.heap.size w w' := by
 have HR0 := Aside0.mk hr0
 have HC0 := Aside0.mk hc0
 clear hr0 hc0
 have HB := Aside0.mk (Below.refl w.heap.size w)
 have H : ((laws_szGrantS.f l0 1048576).bind fun t240 => (if t240 < 0 then (some true) else ((laws_toGrantS.f k l0).bind fun t241 => ((spec_CanAct.f k t241 a1 a2 a3 a4).bind fun t244 => ((laws_toGrantS.f k l0).bind fun t245 => ((impl_CanAct.f k t245 a1 a2 a3 a4).bind fun t248 => (if (t248 != t244) = true then (some false) else ((laws_toGrantS.f k l0).bind fun t249 => ((laws_eqGrantS.f k t245 t249).bind fun t252 => (if t252 = true then (some true) else (some false))))))))))) = some r := h
 clear h
 replace H := Option.bind_eq_some_iff.mp H
 obtain ⟨t240, A60, H⟩ := H
 replace H : (if t240 < 0 then (some true) else ((laws_toGrantS.f k l0).bind fun t241 => ((spec_CanAct.f k t241 a1 a2 a3 a4).bind fun t244 => ((laws_toGrantS.f k l0).bind fun t245 => ((impl_CanAct.f k t245 a1 a2 a3 a4).bind fun t248 => (if (t248 != t244) = true then (some false) else ((laws_toGrantS.f k l0).bind fun t249 => ((laws_eqGrantS.f k t245 t249).bind fun t252 => (if t252 = true then (some true) else (some false)))))))))) = some r := H
 have A6 := Aside0.mk A60
 clear A60
 by_cases c7 : t240 < 0
 ·rw [if_pos c7] at H
  have c7b0 : decide (t240 < 0) = true := decide_eq_true c7
  clear c7
  obtain rfl := Option.some.inj H
  go_enter Try.func7, Try.ntmps7
  go_wp2_with (first | ((with_reducible refine gate_callee (f := 15) rfl ?_); refine goesL_ (some 17) rfl rfl Try.func15 (by kernel_rfl) rfl #[.slice A0 l0.length c0, .int .i64 1048576] rfl tL ?_; (with_reducible refine (laws_szGrantS.calls _ _ l0 1048576 t240 _ ?side1 ?side2 A6.out).mono ?_); (case side1 => repeat (first | exact HR0.out | (with_reducible refine Kd.C_alloc ?_ _) | (with_reducible refine Kd.C_drewN ?_ _) | (with_reducible refine Kd.C_drew ?_))); (case side2 => exact HC0.out); rintro e w' ⟨rfl, ⟨nd, rfl⟩⟩; refine ⟨_, rfl, ?_⟩))
  go_ret
  exact ⟨tE, tB⟩
 ·rw [if_neg c7] at H
  have c7b0 : decide (t240 < 0) = false := decide_eq_false c7
  clear c7
  replace H := Option.bind_eq_some_iff.mp H
  obtain ⟨t241, A80, H⟩ := H
  replace H : ((spec_CanAct.f k t241 a1 a2 a3 a4).bind fun t244 => ((laws_toGrantS.f k l0).bind fun t245 => ((impl_CanAct.f k t245 a1 a2 a3 a4).bind fun t248 => (if (t248 != t244) = true then (some false) else ((laws_toGrantS.f k l0).bind fun t249 => ((laws_eqGrantS.f k t245 t249).bind fun t252 => (if t252 = true then (some true) else (some false)))))))) = some r := H
  have A8 := Aside0.mk A80
  clear A80
  replace H := Option.bind_eq_some_iff.mp H
  obtain ⟨t244, A90, H⟩ := H
  replace H : ((laws_toGrantS.f k l0).bind fun t245 => ((impl_CanAct.f k t245 a1 a2 a3 a4).bind fun t248 => (if (t248 != t244) = true then (some false) else ((laws_toGrantS.f k l0).bind fun t249 => ((laws_eqGrantS.f k t245 t249).bind fun t252 => (if t252 = true then (some true) else (some false))))))) = some r := H
  have A9 := Aside0.mk A90
  clear A90
  replace H := Option.bind_eq_some_iff.mp H
  obtain ⟨t245, A100, H⟩ := H
  replace H : ((impl_CanAct.f k t245 a1 a2 a3 a4).bind fun t248 => (if (t248 != t244) = true then (some false) else ((laws_toGrantS.f k l0).bind fun t249 => ((laws_eqGrantS.f k t245 t249).bind fun t252 => (if t252 = true then (some true) else (some false)))))) = some r := H
  have A10 := Aside0.mk A100
  clear A100
  replace H := Option.bind_eq_some_iff.mp H
  obtain ⟨t248, A110, H⟩ := H
  replace H : (if (t248 != t244) = true then (some false) else ((laws_toGrantS.f k l0).bind fun t249 => ((laws_eqGrantS.f k t245 t249).bind fun t252 => (if t252 = true then (some true) else (some false))))) = some r := H
  have A11 := Aside0.mk A110
  clear A110
  by_cases c12 : (t248 != t244) = true
  ·rw [if_pos c12] at H
   have c12b0 : (t248 != t244) = true := c12
   (try (have c12b1 : decide (t248 = t244) = false := by simpa using c12))
   (try (have c12b2 : (t248 == t244) = false := by simpa using c12))
   (try (have c12b3 : ¬ (t248 = t244) := by simpa using c12))
   clear c12
   exact absurd ((Option.some.inj H).trans hT_) (by decide)
  ·rw [if_neg c12] at H
   have c12b0 : (t248 != t244) = false := by simpa using c12
   (try (have c12b1 : decide (t248 = t244) = true := by simpa using c12))
   (try (have c12b2 : (t248 == t244) = true := by simpa using c12))
   clear c12
   replace H := Option.bind_eq_some_iff.mp H
   obtain ⟨t249, A130, H⟩ := H
   replace H : ((laws_eqGrantS.f k t245 t249).bind fun t252 => (if t252 = true then (some true) else (some false))) = some r := H
   have A13 := Aside0.mk A130
   clear A130
   replace H := Option.bind_eq_some_iff.mp H
   obtain ⟨t252, A140, H⟩ := H
   replace H : (if t252 = true then (some true) else (some false)) = some r := H
   have A14 := Aside0.mk A140
   clear A140
   by_cases c15 : t252 = true
   ·subst c15
    have H1 : (some true) = some r := by rw [if_pos rfl] at H; exact H
    clear H
    have H := H1
    clear H1
    obtain rfl := Option.some.inj H
    go_enter Try.func7, Try.ntmps7
    go_wp2_with (first | ((with_reducible refine gate_callee (f := 15) rfl ?_); refine goesL_ (some 17) rfl rfl Try.func15 (by kernel_rfl) rfl #[.slice A0 l0.length c0, .int .i64 1048576] rfl tL ?_; (with_reducible refine (laws_szGrantS.calls _ _ l0 1048576 t240 _ ?side1 ?side2 A6.out).mono ?_); (case side1 => repeat (first | exact HR0.out | (with_reducible refine Kd.C_alloc ?_ _) | (with_reducible refine Kd.C_drewN ?_ _) | (with_reducible refine Kd.C_drew ?_))); (case side2 => exact HC0.out); rintro e w' ⟨rfl, ⟨nd, rfl⟩⟩; refine ⟨_, rfl, ?_⟩) | ((with_reducible refine gate_callee (f := 17) rfl ?_); refine goesL_ (some 21) rfl rfl Try.func17 (by kernel_rfl) rfl #[.slice A0 l0.length c0] rfl tL ?_; (with_reducible refine (laws_toGrantS.calls k _ _ l0 t241 _ ?side1 ?side2 A8.out).mono ?_); (case side1 => repeat (first | exact HR0.out | (with_reducible refine Kd.C_alloc ?_ _) | (with_reducible refine Kd.C_drewN ?_ _) | (with_reducible refine Kd.C_drew ?_))); (case side2 => exact HC0.out); rintro e w16 ⟨v242, rfl, ho0, hb⟩; refine ⟨_, rfl, ?_⟩; have n0_ := Aside0.mk (Kd.R_lower ho0 (below_size tB)); have n1_ := Aside0.mk (below_step tB hb); clear HB; have HO243 := n0_; have HB := n1_; clear n0_ n1_; (try clear hb); (try clear hb2); (try clear hk); (try clear hi); (try clear ho0); obtain ⟨Ao17, co17, eo17⟩ := Kd.R_slice HO243.out; subst eo17) | ((with_reducible refine gate_callee (f := 35) rfl ?_); refine goesL_ (some 26) rfl rfl Try.func35 (by kernel_rfl) rfl #[.slice Ao17 t241.length co17, .int .i64 a1, .int .i64 a2, .int .i64 a3, .int .i64 a4] rfl tL ?_; (with_reducible refine (spec_CanAct.calls k _ _ t241 a1 a2 a3 a4 t244 _ ?side1 ?side2 A9.out).mono ?_); (case side1 => repeat (first | exact (Kd.R_reads' HO243.out).2.2 | (with_reducible refine Kd.C_alloc ?_ _) | (with_reducible refine Kd.C_drewN ?_ _) | (with_reducible refine Kd.C_drew ?_))); (case side2 => exact (Kd.R_reads' HO243.out).2.1); rintro e w18 ⟨rfl, hb⟩; refine ⟨_, rfl, ?_⟩; have n0_ := Aside0.mk (Kd.R_below (tR HO243) hb); have n1_ := Aside0.mk (below_step tB hb); clear HO243; clear HB; have HO243 := n0_; have HB := n1_; clear n0_ n1_; (try clear hb); (try clear hb2); (try clear hk); (try clear hi)) | ((with_reducible refine gate_callee (f := 17) rfl ?_); refine goesL_ (some 28) rfl rfl Try.func17 (by kernel_rfl) rfl #[.slice A0 l0.length c0] rfl tL ?_; (with_reducible refine (laws_toGrantS.calls k _ _ l0 t245 _ ?side1 ?side2 A10.out).mono ?_); (case side1 => repeat (first | exact (Kd.C_below HR0.out HB.out) | (with_reducible refine Kd.C_alloc ?_ _) | (with_reducible refine Kd.C_drewN ?_ _) | (with_reducible refine Kd.C_drew ?_))); (case side2 => exact HC0.out); rintro e w19 ⟨v246, rfl, ho0, hb⟩; refine ⟨_, rfl, ?_⟩; have n0_ := Aside0.mk (Kd.R_elder' (tR HO243) (Kd.R_base ho0) hb); have n1_ := Aside0.mk (Kd.R_lower (Kd.R_new' ho0 (Kd.R_lt (tR HO243))) (below_size tB)); have n2_ := Aside0.mk (below_step tB hb); clear HO243; clear HB; have HO243 := n0_; have HO247 := n1_; have HB := n2_; clear n0_ n1_ n2_; (try clear hb); (try clear hb2); (try clear hk); (try clear hi); (try clear ho0); obtain ⟨Ao20, co20, eo20⟩ := Kd.R_slice HO247.out; subst eo20) | ((with_reducible refine gate_callee (f := 36) rfl ?_); refine goesL_ (some 34) rfl rfl Try.func36 (by kernel_rfl) rfl #[.slice Ao20 t245.length co20, .int .i64 a1, .int .i64 a2, .int .i64 a3, .int .i64 a4] rfl tL ?_; (with_reducible refine (impl_CanAct.calls k _ _ t245 a1 a2 a3 a4 t248 _ ?side1 ?side2 A11.out).mono ?_); (case side1 => repeat (first | exact (Kd.R_reads' HO247.out).2.2 | (with_reducible refine Kd.C_alloc ?_ _) | (with_reducible refine Kd.C_drewN ?_ _) | (with_reducible refine Kd.C_drew ?_))); (case side2 => exact (Kd.R_reads' HO247.out).2.1); rintro e w21 ⟨rfl, hb⟩; refine ⟨_, rfl, ?_⟩; have n0_ := Aside0.mk (Kd.R_below (tR HO243) hb); have n1_ := Aside0.mk (Kd.R_below (tR HO247) hb); have n2_ := Aside0.mk (below_step tB hb); clear HO243; clear HO247; clear HB; have HO243 := n0_; have HO247 := n1_; have HB := n2_; clear n0_ n1_ n2_; (try clear hb); (try clear hb2); (try clear hk); (try clear hi)) | ((with_reducible refine gate_callee (f := 17) rfl ?_); refine goesL_ (some 40) rfl rfl Try.func17 (by kernel_rfl) rfl #[.slice A0 l0.length c0] rfl tL ?_; (with_reducible refine (laws_toGrantS.calls k _ _ l0 t249 _ ?side1 ?side2 A13.out).mono ?_); (case side1 => repeat (first | exact (Kd.C_below HR0.out HB.out) | (with_reducible refine Kd.C_alloc ?_ _) | (with_reducible refine Kd.C_drewN ?_ _) | (with_reducible refine Kd.C_drew ?_))); (case side2 => exact HC0.out); rintro e w22 ⟨v250, rfl, ho0, hb⟩; refine ⟨_, rfl, ?_⟩; have n0_ := Aside0.mk (Kd.R_elder' (tR HO243) (Kd.R_base ho0) hb); have n1_ := Aside0.mk (Kd.R_elder' (tR HO247) (Kd.R_base ho0) hb); have n2_ := Aside0.mk (Kd.R_lower (Kd.R_new' (Kd.R_new' ho0 (Kd.R_lt (tR HO243))) (Kd.R_lt (tR HO247))) (below_size tB)); have n3_ := Aside0.mk (below_step tB hb); clear HO243; clear HO247; clear HB; have HO243 := n0_; have HO247 := n1_; have HO251 := n2_; have HB := n3_; clear n0_ n1_ n2_ n3_; (try clear hb); (try clear hb2); (try clear hk); (try clear hi); (try clear ho0); obtain ⟨Ao23, co23, eo23⟩ := Kd.R_slice HO251.out; subst eo23) | ((with_reducible refine gate_callee (f := 19) rfl ?_); refine goesL_ (some 41) rfl rfl Try.func19 (by kernel_rfl) rfl #[.slice Ao20 t245.length co20, .slice Ao23 t249.length co23] rfl tL ?_; (with_reducible refine (laws_eqGrantS.calls k _ _ t245 _ _ t249 true _ ?side1 ?side2 ?side3 ?side4 A14.out).mono ?_); (case side1 => repeat (first | exact (Kd.R_reads' HO247.out).2.2 | (with_reducible refine Kd.C_alloc ?_ _) | (with_reducible refine Kd.C_drewN ?_ _) | (with_reducible refine Kd.C_drew ?_))); (case side2 => exact (Kd.R_reads' HO247.out).2.1); (case side3 => repeat (first | exact (Kd.R_reads' HO251.out).2.2 | (with_reducible refine Kd.C_alloc ?_ _) | (with_reducible refine Kd.C_drewN ?_ _) | (with_reducible refine Kd.C_drew ?_))); (case side4 => exact (Kd.R_reads' HO251.out).2.1); rintro e w24 ⟨rfl, hb⟩; refine ⟨_, rfl, ?_⟩; have n0_ := Aside0.mk (Kd.R_below (tR HO243) hb); have n1_ := Aside0.mk (Kd.R_below (tR HO247) hb); have n2_ := Aside0.mk (Kd.R_below (tR HO251) hb); have n3_ := Aside0.mk (below_step tB hb); clear HO243; clear HO247; clear HO251; clear HB; have HO243 := n0_; have HO247 := n1_; have HO251 := n2_; have HB := n3_; clear n0_ n1_ n2_ n3_; (try clear hb); (try clear hb2); (try clear hk); (try clear hi)))
    go_ret
    exact ⟨tE, tB⟩
   ·replace c15 := Bool.eq_false_iff.mpr c15
    subst c15
    have H1 : (some false) = some r := by rw [if_neg (show ¬ (false = true) by decide)] at H; exact H
    clear H
    have H := H1
    clear H1
    exact absurd ((Option.some.inj H).trans hT_) (by decide)

end Go.Proofs.Ytjggdakbphjomaa.ZFnExactCanAct
