/- The machine side: for each Go function a Lean function and the contract that the Go code answers as it does; printed by program (wip/tmpl/pprint.sh). -/
import Derived.Test.YtjggdakbphjomaaZFnGrantsx0
import Derived.Test.YtjggdakbphjomaaZFnGrantsx1
import Derived.Test.YtjggdakbphjomaaZFnGrantsx3
import Derived.Test.YtjggdakbphjomaaZFnGrantsx5
import Derived.Test.YtjggdakbphjomaaZFnGrantsx6
import Derived.Test.YtjggdakbphjomaaZFnGrantsx7
import Derived.Test.YtjggdakbphjomaaZFnGrantsx8
namespace Go.Proofs.Ytjggdakbphjomaa.ZFnGrants
open Go.RowKit Go.Proofs.YtjggdakbphjomaaW.PrintWords Go.Proofs.YtjggdakbphjomaaW.PrintLast Go.Proofs.YtjggdakbphjomaaW.PrintMore
attribute [local go_sem] max2_int min2_int max_two min_two max_three min_three max_four min_four   -- for this text's walks alone
set_option linter.unusedVariables false
set_option linter.unusedSimpArgs false

/-! ### impl_ChainEnd: function 40 -/
def impl_ChainEnd.l0 : Nat → Int → List (S64) → Int → Int → Option (Int)
 | 0, _, _, _, _ => none
 | k + 1, x3, x13, x14, x15 => if x15 < x14 then (if 0 ≤ x15 then (if x15 < (x13.length : Int) then (impl_ChainEnd.l0 k (mn x3 ((rd_T64 x13 x15).f3)) x13 x14 (wrap64 (x15 + 1))) else (none)) else (none)) else (some x3)
def impl_ChainEnd.f (k : Nat) (l0 : List (S64)) : Option (Int) := if (l0.length : Int) = 0 then (some (-1)) else (if 0 < (l0.length : Int) then (impl_ChainEnd.l0 k ((rd_T64 l0 0).f3) l0 (l0.length : Int) 0) else (none))
theorem impl_ChainEnd.mono_l : ∀ k, (∀ y0 y1 y2 y3, LeO (impl_ChainEnd.l0 k y0 y1 y2 y3) (impl_ChainEnd.l0 (k + 1) y0 y1 y2 y3))
 | 0 => fun _ _ _ _ r h => by simp [impl_ChainEnd.l0] at h
 | k + 1 => by
  have ih0 := impl_ChainEnd.mono_l k
  ·intro y0 y1 y2 y3
   unfold impl_ChainEnd.l0
   repeat' first
   | (with_reducible exact ih0 _ _ _ _)
   | (with_reducible exact LeO.refl _)
   | (with_reducible exact LeO.none _)
   | (with_reducible refine LeO.ite ?_ ?_)
   | (with_reducible refine LeO.bind ?_ (fun _ => ?_))
   | exact ih0 _ _ _ _
   | exact LeO.none _
   | refine LeO.ite ?_ ?_
   | refine LeO.bind ?_ (fun _ => ?_)
theorem impl_ChainEnd.mono : ∀ a0 k, LeO (impl_ChainEnd.f k a0) (impl_ChainEnd.f (k + 1) a0) := by
 intro a0 k
 have ih0 := impl_ChainEnd.mono_l k
 unfold impl_ChainEnd.f
 repeat' first
   | (with_reducible exact ih0 _ _ _ _)
   | (with_reducible exact LeO.refl _)
   | (with_reducible exact LeO.none _)
   | (with_reducible refine LeO.ite ?_ ?_)
   | (with_reducible refine LeO.bind ?_ (fun _ => ?_))
   | exact ih0 _ _ _ _
   | exact LeO.none _
   | refine LeO.ite ?_ ?_
   | refine LeO.bind ?_ (fun _ => ?_)
set_option maxHeartbeats 8000000 in
set_option maxRecDepth 100000 in
theorem impl_ChainEnd.calls (k : Nat) (A0 : Option Addr) (c0 : Nat) (l0 : List (S64)) (r : Int) (w : World) (hr0 : Kd.C k64 w A0 l0.length l0) (hc0 : l0.length ≤ c0) (h : impl_ChainEnd.f k l0 = some r) :
  Calls Try.prog 40 #[.slice A0 l0.length c0] w fun e w' => e = .returned (.int .i64 r) ∧ Below w.heap.size w w' := by
 have hu64 := Try.underlying64
 have HR0 := Aside0.mk hr0
 have HC0 := Aside0.mk hc0
 clear hr0 hc0
 have HB := Aside0.mk (Below.refl w.heap.size w)
 have H : (if (l0.length : Int) = 0 then (some (-1)) else (if 0 < (l0.length : Int) then (impl_ChainEnd.l0 k ((rd_T64 l0 0).f3) l0 (l0.length : Int) 0) else (none))) = some r := h
 clear h
 by_cases c2 : (l0.length : Int) = 0
 ·rw [if_pos c2] at H
  have c2b0 : ((l0.length : Int) == 0) = true := beq_iff_eq.mpr c2
  have c2b1 : ((l0.length : Int) != 0) = false := bne_eq_false_iff_eq.mpr c2
  clear c2
  obtain rfl := Option.some.inj H
  go_enter Try.func40, Try.ntmps40
  go_wp2
  go_ret
  exact ⟨tE, tB⟩
 rw [if_neg c2] at H
 have c2b0 : ((l0.length : Int) == 0) = false := beq_eq_false_iff_ne.mpr c2
 have c2b1 : ((l0.length : Int) != 0) = true := bne_iff_ne.mpr c2
 have c2b2 : ¬ (l0 = []) := fun h_ => c2 (by rw [h_]; rfl)
 by_cases c3 : 0 < (l0.length : Int)
 ·rw [if_pos c3] at H
  have c3b0 : decide (0 < (l0.length : Int)) = true := decide_eq_true c3
  have c3b1 : decide (0 < l0.length) = true := decide_eq_true (by omega)
  clear c3
  have H' := Aside0.mk H
  clear H
  have p333 : 0 ≤ (0 : Int) := (by omega)
  have q333 : 0 < (l0.length : Int) := of_decide_eq_true tA
  obtain ⟨ad333, e333, hx333_0, hx333_1, hx333_2, hx333_3, hx333_4, hx333_5⟩ := at_T64 HR0.out 0 p333 q333
  cases e333
  have qi333 : (0 < l0.length) = True := eq_true (by omega)
  (try rw [show ((0 : Int)).toNat = 0 from rfl] at hx333_0)
  (try rw [show 0 * 6 = 0 from rfl] at hx333_0)
  (try rw [Addr.add_zero'] at hx333_0)
  (try rw [show ((0 : Int)).toNat = 0 from rfl] at hx333_1)
  (try rw [show 0 * 6 = 0 from rfl] at hx333_1)
  (try rw [Addr.add_zero'] at hx333_1)
  (try rw [show ((0 : Int)).toNat = 0 from rfl] at hx333_2)
  (try rw [show 0 * 6 = 0 from rfl] at hx333_2)
  (try rw [Addr.add_zero'] at hx333_2)
  (try rw [show ((0 : Int)).toNat = 0 from rfl] at hx333_3)
  (try rw [show 0 * 6 = 0 from rfl] at hx333_3)
  (try rw [Addr.add_zero'] at hx333_3)
  (try rw [show ((0 : Int)).toNat = 0 from rfl] at hx333_4)
  (try rw [show 0 * 6 = 0 from rfl] at hx333_4)
  (try rw [Addr.add_zero'] at hx333_4)
  (try rw [show ((0 : Int)).toNat = 0 from rfl] at hx333_5)
  (try rw [show 0 * 6 = 0 from rfl] at hx333_5)
  (try rw [Addr.add_zero'] at hx333_5)
  replace p333 := eq_true p333
  replace q333 := eq_true q333
  go_enter Try.func40, Try.ntmps40
  go_wp2
  go_loopg [3, 15] k (fun kq v3 v15 w' => ∃ (x3_1 : Int) (x15_1 : Int), v3 = .int .i64 x3_1 ∧ v15 = .int .i64 x15_1 ∧ Aside0 (impl_ChainEnd.l0 kq x3_1 l0 (l0.length : Int) x15_1 = some r) ∧ Aside0 (kq ≤ k) ∧ Aside0 (Below w.heap.size w w'))
  case atStart => exact ⟨((rd_T64 l0 0).f3), (0), tS, tS, H', ⟨Nat.le_refl _⟩, ⟨tB⟩⟩
  case round =>
   clear H'
   try clear c2
   try clear c2b0
   try clear c2b1
   try clear c2b2
   try clear p2
   try clear c3
   try clear c3b0
   try clear c3b1
   try clear p3
   try clear q3
   try clear hx3
   try clear qi3
   try clear hx333_0
   try clear hx333_1
   try clear hx333_2
   try clear hx333_3
   try clear hx333_4
   try clear hx333_5
   try clear p333
   try clear q333
   obtain ⟨x3_1, x15_1, rfl, rfl, HA, HK1, HB⟩ := hrel
   cases gk with
   | zero => exact absurd HA.out (by simp [impl_ChainEnd.l0])
   | succ k1 =>
    have H := HA.out
    clear HA
    simp only [impl_ChainEnd.l0] at H
    by_cases c4 : x15_1 < (l0.length : Int)
    ·rw [if_pos c4] at H
     have c4b0 : decide (x15_1 < (l0.length : Int)) = true := decide_eq_true c4
     clear c4
     by_cases c5 : 0 ≤ x15_1
     ·rw [if_pos c5] at H
      have c5b0 : decide (0 ≤ x15_1) = true := decide_eq_true c5
      clear c5
      by_cases c6 : x15_1 < (l0.length : Int)
      ·rw [if_pos c6] at H
       have c6b0 : decide (x15_1 < (l0.length : Int)) = true := decide_eq_true c6
       clear c6
       obtain ⟨ji7, hji7⟩ : ∃ j_ : Int, (mn x3_1 ((rd_T64 l0 x15_1).f3)) = j_ := ⟨_, rfl⟩
       replace H : (impl_ChainEnd.l0 k1 ji7 l0 (l0.length : Int) (wrap64 (x15_1 + 1))) = some r := by first | (rw [hji7] at H; exact H) | (simp only [hji7] at H ⊢; exact H)
       have hji7_ : (if ((rd_T64 l0 x15_1).f3) < x3_1 then ((rd_T64 l0 x15_1).f3) else x3_1) = ji7 := hji7
       have H' := Aside0.mk H
       clear H
       have p334 : 0 ≤ (x15_1 : Int) := of_decide_eq_true tA
       have q334 : x15_1 < (l0.length : Int) := of_decide_eq_true tA
       obtain ⟨ad334, e334, hx334_0, hx334_1, hx334_2, hx334_3, hx334_4, hx334_5⟩ := at_T64 HR0.out x15_1 p334 q334
       obtain rfl : ad333 = ad334 := (by injection e334)
       replace hx334_0 := hbc HB hx334_0
       replace hx334_1 := hbc HB hx334_1
       replace hx334_2 := hbc HB hx334_2
       replace hx334_3 := hbc HB hx334_3
       replace hx334_4 := hbc HB hx334_4
       replace hx334_5 := hbc HB hx334_5
       replace p334 := eq_true p334
       replace q334 := eq_true q334
       go_wp2_with (first | ((with_reducible refine gate_dst (N := 5) rfl ?_); refine box_event ?hg (N := 5) ?hd (cs := #[.int .i64 0, .int .i64 0, .int .i64 0, .int .i64 0, .int .i64 0, .int .i64 0]) (t := 64) ?hr ?_; (case hd => rfl); (case hg => rfl); (case hr => exact tG); intro gb335 hg w8 hbox hb; have BK335 := Aside0.mk (hbox); have GW335 := gW HB hg; have GE335 := gW HB hg; replace HB := bH HB hb; clear hb hbox hg; obtain ⟨hcz9_0, hcz9_1, hcz9_2, hcz9_3, hcz9_4, hcz9_5, hfz9_0, hfz9_1, hfz9_2, hfz9_3, hfz9_4, hfz9_5⟩ := bc6 BK335.out))
       go_roundg k1
       case measure => have := HK1.out; omega
       case rel => exact ⟨(ji7), (wrap64 (x15_1 + 1)), (by first | rfl | (simp; done) | (simp only [← hji7] <;> (first | rfl | simp)) | (simp [*]; done)), tS, H', ⟨tI⟩, ⟨tB⟩⟩
      rw [if_neg c6] at H
      exact absurd H (by simp)
     rw [if_neg c5] at H
     exact absurd H (by simp)
    rw [if_neg c4] at H
    have c4b0 : decide (x15_1 < (l0.length : Int)) = false := decide_eq_false c4
    clear c4
    obtain rfl := Option.some.inj H
    go_wp2
    go_ret
    exact ⟨tE, tB⟩
 rw [if_neg c3] at H
 exact absurd H (by simp)

/-! ### laws_FnGrants: function 8 -/
def laws_FnGrants.l0 : Nat → List (S64) → Int → Int → Int → Int → Int → Option (Bool)
 | 0, _, _, _, _, _, _ => none
 | k + 1, x3, x4, x5, x6, x7, x8 => if x8 < (x3.length : Int) then (if 0 ≤ x8 then (if (Go.bits .andNot .i64 x7 ((rd_T64 x3 x8).f2)) = 0 then (if x7 = 0 then (laws_FnGrants.l0 k x3 x4 x5 x6 x7 (wrap64 (x8 + 1))) else ((impl_IsGrant.f k ((rd_T64 x3 x8).f0) ((rd_T64 x3 x8).f1) ((rd_T64 x3 x8).f2) ((rd_T64 x3 x8).f3) ((rd_T64 x3 x8).f4) ((rd_T64 x3 x8).f5)).bind fun t347 => (if t347 = true then (if ((rd_T64 x3 x8).f3) < x6 then (some false) else (laws_FnGrants.l0 k x3 x4 x5 x6 x7 (wrap64 (x8 + 1)))) else (some false)))) else (some false)) else (none)) else ((impl_ChainEnd.f k x3).bind fun t349 => (if x7 = 0 then ((impl_CanAct.f k x3 x4 x4 4 x6).bind fun t350 => ((spec_PrivateKey.f k x4).bind fun t351 => (if (t350 == (t351 != 0)) = true then ((impl_CanAct.f k x3 x4 x5 3 x6).bind fun t352 => (if t352 = true then (some false) else (if x5 = x4 then (some true) else ((impl_CanAct.f k x3 x4 x5 2 x6).bind fun t353 => (some (t353 == ((Go.bits .and .i64 x7 2) != 0))))))) else (some false)))) else (if t349 < x6 then (some false) else ((impl_ChainScopes.f k x3 x4 x5 t349).bind fun t354 => (if t354 = x7 then ((impl_ChainScopes.f k x3 x4 x5 (wrap64 (t349 + 1))).bind fun t355 => (if t355 = 0 then ((impl_CanAct.f k x3 x4 x4 4 x6).bind fun t356 => ((spec_PrivateKey.f k x4).bind fun t357 => (if (t356 == (t357 != 0)) = true then ((impl_CanAct.f k x3 x4 x5 3 x6).bind fun t358 => (if t358 = true then (some false) else (if x5 = x4 then (some true) else ((impl_CanAct.f k x3 x4 x5 2 x6).bind fun t359 => (some (t359 == ((Go.bits .and .i64 x7 2) != 0))))))) else (some false)))) else (some false))) else (some false))))))
def laws_FnGrants.f (k : Nat) (l0 : List Int) : Option (Bool) := (laws_big.f l0).bind fun t336 => (if t336 = true then (some true) else ((spec_DrawChainScopes.f k l0).bind fun bt337 => ((impl_ChainScopes.f k bt337.1 bt337.2.1 bt337.2.2.1 bt337.2.2.2).bind fun t343 => ((spec_ChainScopes.f k bt337.1 bt337.2.1 bt337.2.2.1 bt337.2.2.2).bind fun t344 => (if t343 = t344 then (if t343 < 0 then (some false) else (if t343 > 7 then (some false) else (laws_FnGrants.l0 k bt337.1 bt337.2.1 bt337.2.2.1 bt337.2.2.2 t343 0))) else (some false))))))
theorem laws_FnGrants.mono_l : ∀ k, (∀ y0 y1 y2 y3 y4 y5, LeO (laws_FnGrants.l0 k y0 y1 y2 y3 y4 y5) (laws_FnGrants.l0 (k + 1) y0 y1 y2 y3 y4 y5))
 | 0 => fun _ _ _ _ _ _ r h => by simp [laws_FnGrants.l0] at h
 | k + 1 => by
  have ih0 := laws_FnGrants.mono_l k
  ·intro y0 y1 y2 y3 y4 y5
   unfold laws_FnGrants.l0
   repeat' first
   | (with_reducible exact ih0 _ _ _ _ _ _)
   | (with_reducible exact impl_CanAct.mono _ _ _ _ _ _)
   | (with_reducible exact impl_ChainEnd.mono _ _)
   | (with_reducible exact impl_ChainScopes.mono _ _ _ _ _)
   | (with_reducible exact impl_IsGrant.mono _ _ _ _ _ _ _)
   | (with_reducible exact spec_ChainScopes.mono _ _ _ _ _)
   | (with_reducible exact spec_DrawChainScopes.mono _ _)
   | (with_reducible exact spec_PrivateKey.mono _ _)
   | (with_reducible exact LeO.refl _)
   | (with_reducible exact LeO.none _)
   | (with_reducible refine LeO.ite ?_ ?_)
   | (with_reducible refine LeO.bind ?_ (fun _ => ?_))
   | exact ih0 _ _ _ _ _ _
   | exact impl_CanAct.mono _ _ _ _ _ _
   | exact impl_ChainEnd.mono _ _
   | exact impl_ChainScopes.mono _ _ _ _ _
   | exact impl_IsGrant.mono _ _ _ _ _ _ _
   | exact spec_ChainScopes.mono _ _ _ _ _
   | exact spec_DrawChainScopes.mono _ _
   | exact spec_PrivateKey.mono _ _
   | exact LeO.none _
   | refine LeO.ite ?_ ?_
   | refine LeO.bind ?_ (fun _ => ?_)
theorem laws_FnGrants.mono : ∀ a0 k, LeO (laws_FnGrants.f k a0) (laws_FnGrants.f (k + 1) a0) := by
 intro a0 k
 have ih0 := laws_FnGrants.mono_l k
 unfold laws_FnGrants.f
 repeat' first
   | (with_reducible exact ih0 _ _ _ _ _ _)
   | (with_reducible exact impl_CanAct.mono _ _ _ _ _ _)
   | (with_reducible exact impl_ChainEnd.mono _ _)
   | (with_reducible exact impl_ChainScopes.mono _ _ _ _ _)
   | (with_reducible exact impl_IsGrant.mono _ _ _ _ _ _ _)
   | (with_reducible exact spec_ChainScopes.mono _ _ _ _ _)
   | (with_reducible exact spec_DrawChainScopes.mono _ _)
   | (with_reducible exact spec_PrivateKey.mono _ _)
   | (with_reducible exact LeO.refl _)
   | (with_reducible exact LeO.none _)
   | (with_reducible refine LeO.ite ?_ ?_)
   | (with_reducible refine LeO.bind ?_ (fun _ => ?_))
   | exact ih0 _ _ _ _ _ _
   | exact impl_CanAct.mono _ _ _ _ _ _
   | exact impl_ChainEnd.mono _ _
   | exact impl_ChainScopes.mono _ _ _ _ _
   | exact impl_IsGrant.mono _ _ _ _ _ _ _
   | exact spec_ChainScopes.mono _ _ _ _ _
   | exact spec_DrawChainScopes.mono _ _
   | exact spec_PrivateKey.mono _ _
   | exact LeO.none _
   | refine LeO.ite ?_ ?_
   | refine LeO.bind ?_ (fun _ => ?_)
set_option maxHeartbeats 8000000 in
set_option maxRecDepth 100000 in
theorem laws_FnGrants.calls (k : Nat) (A0 : Option Addr) (c0 : Nat) (l0 : List Int) (r : Bool) (w : World) (hr0 : Kd.C (Kd.int .u8) w A0 l0.length l0) (hc0 : l0.length ≤ c0) (hT_ : r = true) (h : laws_FnGrants.f k l0 = some r) :
  Calls Try.prog 8 #[.slice A0 l0.length c0] w fun e w' => e = .returned (.bool r) ∧ Below w.heap.size w w' := by
 have hu64 := Try.underlying64
 have HR0 := Aside0.mk hr0
 have HC0 := Aside0.mk hc0
 clear hr0 hc0
 have HB := Aside0.mk (Below.refl w.heap.size w)
 have H : ((laws_big.f l0).bind fun t336 => (if t336 = true then (some true) else ((spec_DrawChainScopes.f k l0).bind fun bt337 => ((impl_ChainScopes.f k bt337.1 bt337.2.1 bt337.2.2.1 bt337.2.2.2).bind fun t343 => ((spec_ChainScopes.f k bt337.1 bt337.2.1 bt337.2.2.1 bt337.2.2.2).bind fun t344 => (if t343 = t344 then (if t343 < 0 then (some false) else (if t343 > 7 then (some false) else (laws_FnGrants.l0 k bt337.1 bt337.2.1 bt337.2.2.1 bt337.2.2.2 t343 0))) else (some false))))))) = some r := h
 clear h
 replace H := Option.bind_eq_some_iff.mp H
 obtain ⟨t336, A20, H⟩ := H
 try dsimp only at H
 have A2 := Aside0.mk A20
 clear A20
 by_cases c3 : t336 = true
 ·subst c3
  have H1 : (some true) = some r := by rw [if_pos rfl] at H; exact H
  clear H
  have H := H1
  clear H1
  obtain rfl := Option.some.inj H
  go_enter Try.func8, Try.ntmps8
  go_wp2_with (first | ((with_reducible refine gate_callee (f := 37) rfl ?_); refine goesL_ (some 11) rfl rfl Try.func37 (by kernel_rfl) rfl #[.slice A0 l0.length c0] rfl tL ?_; (with_reducible refine (laws_big.calls _ _ l0 true _ ?side1 ?side2 A2.out).mono ?_); (case side1 => repeat (first | exact HR0.out | (with_reducible refine Kd.C_alloc ?_ _) | (with_reducible refine Kd.C_drewN ?_ _) | (with_reducible refine Kd.C_drew ?_))); (case side2 => exact HC0.out); rintro e w' ⟨rfl, ⟨nd, rfl⟩⟩; refine ⟨_, rfl, ?_⟩))
  go_ret
  exact ⟨tE, tB⟩
 replace c3 := Bool.eq_false_iff.mpr c3
 subst c3
 have H1 : ((spec_DrawChainScopes.f k l0).bind fun bt337 => ((impl_ChainScopes.f k bt337.1 bt337.2.1 bt337.2.2.1 bt337.2.2.2).bind fun t343 => ((spec_ChainScopes.f k bt337.1 bt337.2.1 bt337.2.2.1 bt337.2.2.2).bind fun t344 => (if t343 = t344 then (if t343 < 0 then (some false) else (if t343 > 7 then (some false) else (laws_FnGrants.l0 k bt337.1 bt337.2.1 bt337.2.2.1 bt337.2.2.2 t343 0))) else (some false))))) = some r := by rw [if_neg (show ¬ (false = true) by decide)] at H; exact H
 clear H
 have H := H1
 clear H1
 replace H := Option.bind_eq_some_iff.mp H
 obtain ⟨⟨t337, t338, t339, t340⟩, A40, H⟩ := H
 try dsimp only at H
 have A4 := Aside0.mk A40
 clear A40
 replace H := Option.bind_eq_some_iff.mp H
 obtain ⟨t343, A50, H⟩ := H
 try dsimp only at H
 have A5 := Aside0.mk A50
 clear A50
 replace H := Option.bind_eq_some_iff.mp H
 obtain ⟨t344, A60, H⟩ := H
 try dsimp only at H
 have A6 := Aside0.mk A60
 clear A60
 by_cases c7 : t343 = t344
 ·rw [if_pos c7] at H
  have c7b0 : (t343 == t344) = true := beq_iff_eq.mpr c7
  have c7b1 : (t343 != t344) = false := bne_eq_false_iff_eq.mpr c7
  clear c7
  by_cases c8 : t343 < 0
  ·rw [if_pos c8] at H
   have c8b0 : decide (t343 < 0) = true := decide_eq_true c8
   clear c8
   exact absurd ((Option.some.inj H).trans hT_) (by decide)
  rw [if_neg c8] at H
  have c8b0 : decide (t343 < 0) = false := decide_eq_false c8
  clear c8
  by_cases c9 : t343 > 7
  ·rw [if_pos c9] at H
   have c9b0 : decide (7 < t343) = true := decide_eq_true c9
   clear c9
   exact absurd ((Option.some.inj H).trans hT_) (by decide)
  rw [if_neg c9] at H
  have c9b0 : decide (7 < t343) = false := decide_eq_false c9
  clear c9
  have H' := Aside0.mk H
  clear H
  go_enter Try.func8, Try.ntmps8
  go_wp2_with (first | ((with_reducible refine gate_callee (f := 37) rfl ?_); refine goesL_ (some 11) rfl rfl Try.func37 (by kernel_rfl) rfl #[.slice A0 l0.length c0] rfl tL ?_; (with_reducible refine (laws_big.calls _ _ l0 false _ ?side1 ?side2 A2.out).mono ?_); (case side1 => repeat (first | exact HR0.out | (with_reducible refine Kd.C_alloc ?_ _) | (with_reducible refine Kd.C_drewN ?_ _) | (with_reducible refine Kd.C_drew ?_))); (case side2 => exact HC0.out); rintro e w' ⟨rfl, ⟨nd, rfl⟩⟩; refine ⟨_, rfl, ?_⟩) | ((with_reducible refine gate_callee (f := 38) rfl ?_); refine goesL_ (some 14) rfl rfl Try.func38 (by kernel_rfl) rfl #[.slice A0 l0.length c0] rfl tL ?_; (with_reducible refine (spec_DrawChainScopes.calls k _ _ l0 t337 t338 t339 t340 _ ?side1 ?side2 A4.out).mono ?_); (case side1 => repeat (first | exact HR0.out | (with_reducible refine Kd.C_alloc ?_ _) | (with_reducible refine Kd.C_drewN ?_ _) | (with_reducible refine Kd.C_drew ?_))); (case side2 => exact HC0.out); rintro e w10 ⟨v341, rfl, ho0, hb⟩; refine ⟨_, rfl, ?_⟩; have HO342 := Aside0.mk (Kd.R_lower ho0 (below_size tB)); replace HB := bH HB hb; (try clear hb); (try clear hb2); (try clear hk); (try clear hi); (try clear ho0); obtain ⟨Ao11, co11, eo11⟩ := Kd.R_slice HO342.out; subst eo11) | ((with_reducible refine gate_callee (f := 18) rfl ?_); refine goesL_ (some 23) rfl rfl Try.func18 (by kernel_rfl) rfl #[.slice Ao11 t337.length co11, .int .i64 t338, .int .i64 t339, .int .i64 t340] rfl tL ?_; (with_reducible refine (impl_ChainScopes.calls k _ _ t337 t338 t339 t340 t343 _ ?side1 ?side2 A5.out).mono ?_); (case side1 => repeat (first | exact (Kd.R_reads' HO342.out).2.2 | (with_reducible refine Kd.C_alloc ?_ _) | (with_reducible refine Kd.C_drewN ?_ _) | (with_reducible refine Kd.C_drew ?_))); (case side2 => exact (Kd.R_reads' HO342.out).2.1); rintro e w12 ⟨rfl, hb⟩; refine ⟨_, rfl, ?_⟩; replace HO342 := Aside0.mk (Kd.R_below (tR HO342) hb); replace HB := bH HB hb; (try clear hb); (try clear hb2); (try clear hk); (try clear hi)) | ((with_reducible refine gate_callee (f := 16) rfl ?_); refine goesL_ (some 29) rfl rfl Try.func16 (by kernel_rfl) rfl #[.slice Ao11 t337.length co11, .int .i64 t338, .int .i64 t339, .int .i64 t340] rfl tL ?_; (with_reducible refine (spec_ChainScopes.calls k _ _ t337 t338 t339 t340 t344 _ ?side1 ?side2 A6.out).mono ?_); (case side1 => repeat (first | exact (Kd.R_reads' HO342.out).2.2 | (with_reducible refine Kd.C_alloc ?_ _) | (with_reducible refine Kd.C_drewN ?_ _) | (with_reducible refine Kd.C_drew ?_))); (case side2 => exact (Kd.R_reads' HO342.out).2.1); rintro e w13 ⟨rfl, hb⟩; refine ⟨_, rfl, ?_⟩; replace HO342 := Aside0.mk (Kd.R_below (tR HO342) hb); replace HB := bH HB hb; (try clear hb); (try clear hb2); (try clear hk); (try clear hi)))
  go_loopg [8] k (fun kq v8 w' => ∃ (x8_1 : Int), v8 = .int .i64 x8_1 ∧ Aside0 (laws_FnGrants.l0 kq t337 t338 t339 t340 t343 x8_1 = some r) ∧ Aside0 (kq ≤ k) ∧ Aside0 (Kd.R k64 64 w' w.heap.size (fun _ => True) (.slice Ao11 t337.length co11) t337) ∧ Aside0 (Below w.heap.size w w'))
  case atStart => exact ⟨(0), tS, H', ⟨Nat.le_refl _⟩, ⟨tR HO342⟩, ⟨tB⟩⟩
  case round =>
   clear H'
   try clear c1
   try clear p2
   try clear c3
   try clear c7
   try clear c7b0
   try clear c7b1
   try clear c8
   try clear c8b0
   try clear c9
   try clear c9b0
   obtain ⟨x8_1, rfl, HA, HK1, HO_3, HB⟩ := hrel
   cases gk with
   | zero => exact absurd HA.out (by simp [laws_FnGrants.l0])
   | succ k1 =>
    have H := HA.out
    clear HA
    simp only [laws_FnGrants.l0] at H
    by_cases c14 : x8_1 < (t337.length : Int)
    ·rw [if_pos c14] at H
     have c14b0 : decide (x8_1 < (t337.length : Int)) = true := decide_eq_true c14
     clear c14
     by_cases c15 : 0 ≤ x8_1
     ·rw [if_pos c15] at H
      have c15b0 : decide (0 ≤ x8_1) = true := decide_eq_true c15
      clear c15
      by_cases c16 : (Go.bits .andNot .i64 t343 ((rd_T64 t337 x8_1).f2)) = 0
      ·rw [if_pos c16] at H
       have c16b0 : ((Go.bits .andNot .i64 t343 ((rd_T64 t337 x8_1).f2)) == 0) = true := beq_iff_eq.mpr c16
       have c16b1 : ((Go.bits .andNot .i64 t343 ((rd_T64 t337 x8_1).f2)) != 0) = false := bne_eq_false_iff_eq.mpr c16
       clear c16
       by_cases c17 : t343 = 0
       ·rw [if_pos c17] at H
        have c17b0 : (t343 == 0) = true := beq_iff_eq.mpr c17
        have c17b1 : (t343 != 0) = false := bne_eq_false_iff_eq.mpr c17
        clear c17
        have H' := Aside0.mk H
        clear H
        have p345 : 0 ≤ (x8_1 : Int) := of_decide_eq_true tA
        have q345 : x8_1 < (t337.length : Int) := of_decide_eq_true tA
        obtain ⟨ad345, e345, hx345_0, hx345_1, hx345_2, hx345_3, hx345_4, hx345_5⟩ := at_T64 (Kd.R_reads' HO_3.out).2.2 x8_1 p345 q345
        cases e345
        replace p345 := eq_true p345
        replace q345 := eq_true q345
        go_wp2
        go_roundg k1
        case measure => have := HK1.out; omega
        case rel => exact ⟨(wrap64 (x8_1 + 1)), tS, H', ⟨tI⟩, ⟨tR HO_3⟩, ⟨tB⟩⟩
       rw [if_neg c17] at H
       have c17b0 : (t343 == 0) = false := beq_eq_false_iff_ne.mpr c17
       have c17b1 : (t343 != 0) = true := bne_iff_ne.mpr c17
       replace H := Option.bind_eq_some_iff.mp H
       obtain ⟨t347, A180, H⟩ := H
       try dsimp only at H
       have A18 := Aside0.mk A180
       clear A180
       by_cases c19 : t347 = true
       ·subst c19
        have H1 : (if ((rd_T64 t337 x8_1).f3) < t340 then (some false) else (laws_FnGrants.l0 k1 t337 t338 t339 t340 t343 (wrap64 (x8_1 + 1)))) = some r := by rw [if_pos rfl] at H; exact H
        clear H
        have H := H1
        clear H1
        by_cases c20 : ((rd_T64 t337 x8_1).f3) < t340
        ·rw [if_pos c20] at H
         have c20b0 : decide (((rd_T64 t337 x8_1).f3) < t340) = true := decide_eq_true c20
         clear c20
         exact absurd ((Option.some.inj H).trans hT_) (by decide)
        rw [if_neg c20] at H
        have c20b0 : decide (((rd_T64 t337 x8_1).f3) < t340) = false := decide_eq_false c20
        clear c20
        have H' := Aside0.mk H
        clear H
        have p345 : 0 ≤ (x8_1 : Int) := of_decide_eq_true tA
        have q345 : x8_1 < (t337.length : Int) := of_decide_eq_true tA
        obtain ⟨ad345, e345, hx345_0, hx345_1, hx345_2, hx345_3, hx345_4, hx345_5⟩ := at_T64 (Kd.R_reads' HO_3.out).2.2 x8_1 p345 q345
        cases e345
        replace p345 := eq_true p345
        replace q345 := eq_true q345
        have p346 : 0 ≤ (x8_1 : Int) := of_decide_eq_true tA
        have q346 : x8_1 < (t337.length : Int) := of_decide_eq_true tA
        obtain ⟨ad346, e346, hx346_0, hx346_1, hx346_2, hx346_3, hx346_4, hx346_5⟩ := at_T64 (Kd.R_reads' HO_3.out).2.2 x8_1 p346 q346
        obtain rfl : ad345 = ad346 := (by injection e346)
        replace p346 := eq_true p346
        replace q346 := eq_true q346
        go_wp2_with (first | (go_at_call 39; (with_reducible refine (impl_IsGrant.calls k1 ((rd_T64 t337 x8_1).f0) ((rd_T64 t337 x8_1).f1) ((rd_T64 t337 x8_1).f2) ((rd_T64 t337 x8_1).f3) ((rd_T64 t337 x8_1).f4) ((rd_T64 t337 x8_1).f5) true _ A18.out).mono ?_); rintro e w21 ⟨rfl, hb⟩; replace HO_3 := Aside0.mk (Kd.R_below (tR HO_3) hb); replace HB := bH HB hb; (try clear hb); (try clear hb2); (try clear hk); (try clear hi); have p348 : 0 ≤ (x8_1 : Int) := of_decide_eq_true tA; have q348 : x8_1 < (t337.length : Int) := of_decide_eq_true tA; obtain ⟨ad348, e348, hx348_0, hx348_1, hx348_2, hx348_3, hx348_4, hx348_5⟩ := at_T64 (Kd.R_reads' HO_3.out).2.2 x8_1 p348 q348; obtain rfl : ad345 = ad348 := (by injection e348); replace p348 := eq_true p348; replace q348 := eq_true q348))
        go_roundg k1
        case measure => have := HK1.out; omega
        case rel => exact ⟨(wrap64 (x8_1 + 1)), tS, H', ⟨tI⟩, ⟨tR HO_3⟩, ⟨tB⟩⟩
       replace c19 := Bool.eq_false_iff.mpr c19
       subst c19
       have H1 : (some false) = some r := by rw [if_neg (show ¬ (false = true) by decide)] at H; exact H
       clear H
       have H := H1
       clear H1
       exact absurd ((Option.some.inj H).trans hT_) (by decide)
      rw [if_neg c16] at H
      have c16b0 : ((Go.bits .andNot .i64 t343 ((rd_T64 t337 x8_1).f2)) == 0) = false := beq_eq_false_iff_ne.mpr c16
      have c16b1 : ((Go.bits .andNot .i64 t343 ((rd_T64 t337 x8_1).f2)) != 0) = true := bne_iff_ne.mpr c16
      exact absurd ((Option.some.inj H).trans hT_) (by decide)
     rw [if_neg c15] at H
     exact absurd H (by simp)
    rw [if_neg c14] at H
    have c14b0 : decide (x8_1 < (t337.length : Int)) = false := decide_eq_false c14
    clear c14
    replace H := Option.bind_eq_some_iff.mp H
    obtain ⟨t349, A220, H⟩ := H
    try dsimp only at H
    have A22 := Aside0.mk A220
    clear A220
    by_cases c23 : t343 = 0
    ·rw [if_pos c23] at H
     have c23b0 : (t343 == 0) = true := beq_iff_eq.mpr c23
     have c23b1 : (t343 != 0) = false := bne_eq_false_iff_eq.mpr c23
     clear c23
     replace H := Option.bind_eq_some_iff.mp H
     obtain ⟨t350, A240, H⟩ := H
     try dsimp only at H
     have A24 := Aside0.mk A240
     clear A240
     replace H := Option.bind_eq_some_iff.mp H
     obtain ⟨t351, A250, H⟩ := H
     try dsimp only at H
     have A25 := Aside0.mk A250
     clear A250
     by_cases c26 : (t350 == (t351 != 0)) = true
     ·rw [if_pos c26] at H
      have c26b0 : (t350 == (t351 != 0)) = true := c26
      (try (have c26b1 : decide (t350 = (t351 != 0)) = true := by simpa using c26))
      (try (have c26b2 : (t350 == (t351 != 0)) = true := by simpa using c26))
      clear c26
      replace H := Option.bind_eq_some_iff.mp H
      obtain ⟨t352, A270, H⟩ := H
      try dsimp only at H
      have A27 := Aside0.mk A270
      clear A270
      by_cases c28 : t352 = true
      ·subst c28
       have H1 : (some false) = some r := by rw [if_pos rfl] at H; exact H
       clear H
       have H := H1
       clear H1
       exact absurd ((Option.some.inj H).trans hT_) (by decide)
      replace c28 := Bool.eq_false_iff.mpr c28
      subst c28
      have H1 : (if t339 = t338 then (some true) else ((impl_CanAct.f k1 t337 t338 t339 2 t340).bind fun t353 => (some (t353 == ((Go.bits .and .i64 t343 2) != 0))))) = some r := by rw [if_neg (show ¬ (false = true) by decide)] at H; exact H
      clear H
      have H := H1
      clear H1
      by_cases c29 : t339 = t338
      ·rw [if_pos c29] at H
       have c29b0 : (t339 == t338) = true := beq_iff_eq.mpr c29
       have c29b1 : (t339 != t338) = false := bne_eq_false_iff_eq.mpr c29
       clear c29
       obtain rfl := Option.some.inj H
       go_wp2_with (first | ((with_reducible refine gate_callee (f := 40) rfl ?_); refine goesL_ (some 75) rfl rfl Try.func40 (by kernel_rfl) rfl #[.slice Ao11 t337.length co11] rfl tL ?_; (with_reducible refine (impl_ChainEnd.calls k1 _ _ t337 t349 _ ?side1 ?side2 A22.out).mono ?_); (case side1 => repeat (first | exact (Kd.R_reads' HO_3.out).2.2 | (with_reducible refine Kd.C_alloc ?_ _) | (with_reducible refine Kd.C_drewN ?_ _) | (with_reducible refine Kd.C_drew ?_))); (case side2 => exact (Kd.R_reads' HO_3.out).2.1); rintro e w30 ⟨rfl, hb⟩; refine ⟨_, rfl, ?_⟩; replace HO_3 := Aside0.mk (Kd.R_below (tR HO_3) hb); replace HB := bH HB hb; (try clear hb); (try clear hb2); (try clear hk); (try clear hi)) | ((with_reducible refine gate_callee (f := 36) rfl ?_); refine goesL_ (some 105) rfl rfl Try.func36 (by kernel_rfl) rfl #[.slice Ao11 t337.length co11, .int .i64 t338, .int .i64 t338, .int .i64 4, .int .i64 t340] rfl tL ?_; (with_reducible refine (impl_CanAct.calls k1 _ _ t337 t338 t338 4 t340 t350 _ ?side1 ?side2 A24.out).mono ?_); (case side1 => repeat (first | exact (Kd.R_reads' HO_3.out).2.2 | (with_reducible refine Kd.C_alloc ?_ _) | (with_reducible refine Kd.C_drewN ?_ _) | (with_reducible refine Kd.C_drew ?_))); (case side2 => exact (Kd.R_reads' HO_3.out).2.1); rintro e w31 ⟨rfl, hb⟩; refine ⟨_, rfl, ?_⟩; replace HO_3 := Aside0.mk (Kd.R_below (tR HO_3) hb); replace HB := bH HB hb; (try clear hb); (try clear hb2); (try clear hk); (try clear hi)) | ((with_reducible refine gate_callee (f := 41) rfl ?_); refine goesL_ (some 107) rfl rfl Try.func41 (by kernel_rfl) rfl #[.int .i64 t338] rfl tL ?_; (with_reducible refine (spec_PrivateKey.calls k1 t338 t351 _ A25.out).mono ?_); rintro e w' ⟨rfl, ⟨nd, rfl⟩⟩; refine ⟨_, rfl, ?_⟩) | (go_at_call 36; (with_reducible refine (impl_CanAct.calls k1 _ _ t337 t338 t339 3 t340 false _ ?side1 ?side2 A27.out).mono ?_); (case side1 => repeat (first | exact (Kd.R_reads' HO_3.out).2.2 | (with_reducible refine Kd.C_alloc ?_ _) | (with_reducible refine Kd.C_drewN ?_ _) | (with_reducible refine Kd.C_drew ?_))); (case side2 => exact (Kd.R_reads' HO_3.out).2.1); rintro e w32 ⟨rfl, hb⟩; replace HO_3 := Aside0.mk (Kd.R_below (tR HO_3) hb); replace HB := bH HB hb; (try clear hb); (try clear hb2); (try clear hk); (try clear hi)))
       go_ret
       exact ⟨tE, tB⟩
      rw [if_neg c29] at H
      have c29b0 : (t339 == t338) = false := beq_eq_false_iff_ne.mpr c29
      have c29b1 : (t339 != t338) = true := bne_iff_ne.mpr c29
      replace H := Option.bind_eq_some_iff.mp H
      obtain ⟨t353, A330, H⟩ := H
      try dsimp only at H
      have A33 := Aside0.mk A330
      clear A330
      obtain rfl := Option.some.inj H
      go_wp2_with (first | ((with_reducible refine gate_callee (f := 40) rfl ?_); refine goesL_ (some 75) rfl rfl Try.func40 (by kernel_rfl) rfl #[.slice Ao11 t337.length co11] rfl tL ?_; (with_reducible refine (impl_ChainEnd.calls k1 _ _ t337 t349 _ ?side1 ?side2 A22.out).mono ?_); (case side1 => repeat (first | exact (Kd.R_reads' HO_3.out).2.2 | (with_reducible refine Kd.C_alloc ?_ _) | (with_reducible refine Kd.C_drewN ?_ _) | (with_reducible refine Kd.C_drew ?_))); (case side2 => exact (Kd.R_reads' HO_3.out).2.1); rintro e w34 ⟨rfl, hb⟩; refine ⟨_, rfl, ?_⟩; replace HO_3 := Aside0.mk (Kd.R_below (tR HO_3) hb); replace HB := bH HB hb; (try clear hb); (try clear hb2); (try clear hk); (try clear hi)) | ((with_reducible refine gate_callee (f := 36) rfl ?_); refine goesL_ (some 105) rfl rfl Try.func36 (by kernel_rfl) rfl #[.slice Ao11 t337.length co11, .int .i64 t338, .int .i64 t338, .int .i64 4, .int .i64 t340] rfl tL ?_; (with_reducible refine (impl_CanAct.calls k1 _ _ t337 t338 t338 4 t340 t350 _ ?side1 ?side2 A24.out).mono ?_); (case side1 => repeat (first | exact (Kd.R_reads' HO_3.out).2.2 | (with_reducible refine Kd.C_alloc ?_ _) | (with_reducible refine Kd.C_drewN ?_ _) | (with_reducible refine Kd.C_drew ?_))); (case side2 => exact (Kd.R_reads' HO_3.out).2.1); rintro e w35 ⟨rfl, hb⟩; refine ⟨_, rfl, ?_⟩; replace HO_3 := Aside0.mk (Kd.R_below (tR HO_3) hb); replace HB := bH HB hb; (try clear hb); (try clear hb2); (try clear hk); (try clear hi)) | ((with_reducible refine gate_callee (f := 41) rfl ?_); refine goesL_ (some 107) rfl rfl Try.func41 (by kernel_rfl) rfl #[.int .i64 t338] rfl tL ?_; (with_reducible refine (spec_PrivateKey.calls k1 t338 t351 _ A25.out).mono ?_); rintro e w' ⟨rfl, ⟨nd, rfl⟩⟩; refine ⟨_, rfl, ?_⟩) | (go_at_call 36; (with_reducible refine (impl_CanAct.calls k1 _ _ t337 t338 t339 3 t340 false _ ?side1 ?side2 A27.out).mono ?_); (case side1 => repeat (first | exact (Kd.R_reads' HO_3.out).2.2 | (with_reducible refine Kd.C_alloc ?_ _) | (with_reducible refine Kd.C_drewN ?_ _) | (with_reducible refine Kd.C_drew ?_))); (case side2 => exact (Kd.R_reads' HO_3.out).2.1); rintro e w36 ⟨rfl, hb⟩; replace HO_3 := Aside0.mk (Kd.R_below (tR HO_3) hb); replace HB := bH HB hb; (try clear hb); (try clear hb2); (try clear hk); (try clear hi)) | (go_at_call 36; (with_reducible refine (impl_CanAct.calls k1 _ _ t337 t338 t339 2 t340 t353 _ ?side1 ?side2 A33.out).mono ?_); (case side1 => repeat (first | exact (Kd.R_reads' HO_3.out).2.2 | (with_reducible refine Kd.C_alloc ?_ _) | (with_reducible refine Kd.C_drewN ?_ _) | (with_reducible refine Kd.C_drew ?_))); (case side2 => exact (Kd.R_reads' HO_3.out).2.1); rintro e w37 ⟨rfl, hb⟩; replace HO_3 := Aside0.mk (Kd.R_below (tR HO_3) hb); replace HB := bH HB hb; (try clear hb); (try clear hb2); (try clear hk); (try clear hi)))
      go_ret
      exact ⟨tE, tB⟩
     rw [if_neg c26] at H
     have c26b0 : (t350 == (t351 != 0)) = false := by simpa using c26
     (try (have c26b1 : decide (t350 = (t351 != 0)) = false := by simpa using c26))
     (try (have c26b2 : (t350 == (t351 != 0)) = false := by simpa using c26))
     (try (have c26b3 : ¬ (t350 = (t351 != 0)) := by simpa using c26))
     clear c26
     exact absurd ((Option.some.inj H).trans hT_) (by decide)
    rw [if_neg c23] at H
    have c23b0 : (t343 == 0) = false := beq_eq_false_iff_ne.mpr c23
    have c23b1 : (t343 != 0) = true := bne_iff_ne.mpr c23
    by_cases c38 : t349 < t340
    ·rw [if_pos c38] at H
     have c38b0 : decide (t349 < t340) = true := decide_eq_true c38
     clear c38
     exact absurd ((Option.some.inj H).trans hT_) (by decide)
    rw [if_neg c38] at H
    have c38b0 : decide (t349 < t340) = false := decide_eq_false c38
    clear c38
    replace H := Option.bind_eq_some_iff.mp H
    obtain ⟨t354, A390, H⟩ := H
    try dsimp only at H
    have A39 := Aside0.mk A390
    clear A390
    by_cases c40 : t354 = t343
    ·rw [if_pos c40] at H
     have c40b0 : (t354 == t343) = true := beq_iff_eq.mpr c40
     have c40b1 : (t354 != t343) = false := bne_eq_false_iff_eq.mpr c40
     clear c40
     replace H := Option.bind_eq_some_iff.mp H
     obtain ⟨t355, A410, H⟩ := H
     try dsimp only at H
     have A41 := Aside0.mk A410
     clear A410
     by_cases c42 : t355 = 0
     ·rw [if_pos c42] at H
      have c42b0 : (t355 == 0) = true := beq_iff_eq.mpr c42
      have c42b1 : (t355 != 0) = false := bne_eq_false_iff_eq.mpr c42
      clear c42
      replace H := Option.bind_eq_some_iff.mp H
      obtain ⟨t356, A430, H⟩ := H
      try dsimp only at H
      have A43 := Aside0.mk A430
      clear A430
      replace H := Option.bind_eq_some_iff.mp H
      obtain ⟨t357, A440, H⟩ := H
      try dsimp only at H
      have A44 := Aside0.mk A440
      clear A440
      by_cases c45 : (t356 == (t357 != 0)) = true
      ·rw [if_pos c45] at H
       have c45b0 : (t356 == (t357 != 0)) = true := c45
       (try (have c45b1 : decide (t356 = (t357 != 0)) = true := by simpa using c45))
       (try (have c45b2 : (t356 == (t357 != 0)) = true := by simpa using c45))
       clear c45
       replace H := Option.bind_eq_some_iff.mp H
       obtain ⟨t358, A460, H⟩ := H
       try dsimp only at H
       have A46 := Aside0.mk A460
       clear A460
       by_cases c47 : t358 = true
       ·subst c47
        have H1 : (some false) = some r := by rw [if_pos rfl] at H; exact H
        clear H
        have H := H1
        clear H1
        exact absurd ((Option.some.inj H).trans hT_) (by decide)
       replace c47 := Bool.eq_false_iff.mpr c47
       subst c47
       have H1 : (if t339 = t338 then (some true) else ((impl_CanAct.f k1 t337 t338 t339 2 t340).bind fun t359 => (some (t359 == ((Go.bits .and .i64 t343 2) != 0))))) = some r := by rw [if_neg (show ¬ (false = true) by decide)] at H; exact H
       clear H
       have H := H1
       clear H1
       by_cases c48 : t339 = t338
       ·rw [if_pos c48] at H
        have c48b0 : (t339 == t338) = true := beq_iff_eq.mpr c48
        have c48b1 : (t339 != t338) = false := bne_eq_false_iff_eq.mpr c48
        clear c48
        obtain rfl := Option.some.inj H
        go_wp2_with (first | ((with_reducible refine gate_callee (f := 40) rfl ?_); refine goesL_ (some 75) rfl rfl Try.func40 (by kernel_rfl) rfl #[.slice Ao11 t337.length co11] rfl tL ?_; (with_reducible refine (impl_ChainEnd.calls k1 _ _ t337 t349 _ ?side1 ?side2 A22.out).mono ?_); (case side1 => repeat (first | exact (Kd.R_reads' HO_3.out).2.2 | (with_reducible refine Kd.C_alloc ?_ _) | (with_reducible refine Kd.C_drewN ?_ _) | (with_reducible refine Kd.C_drew ?_))); (case side2 => exact (Kd.R_reads' HO_3.out).2.1); rintro e w49 ⟨rfl, hb⟩; refine ⟨_, rfl, ?_⟩; replace HO_3 := Aside0.mk (Kd.R_below (tR HO_3) hb); replace HB := bH HB hb; (try clear hb); (try clear hb2); (try clear hk); (try clear hi)) | (go_at_call 18; (with_reducible refine (impl_ChainScopes.calls k1 _ _ t337 t338 t339 t349 t354 _ ?side1 ?side2 A39.out).mono ?_); (case side1 => repeat (first | exact (Kd.R_reads' HO_3.out).2.2 | (with_reducible refine Kd.C_alloc ?_ _) | (with_reducible refine Kd.C_drewN ?_ _) | (with_reducible refine Kd.C_drew ?_))); (case side2 => exact (Kd.R_reads' HO_3.out).2.1); rintro e w50 ⟨rfl, hb⟩; replace HO_3 := Aside0.mk (Kd.R_below (tR HO_3) hb); replace HB := bH HB hb; (try clear hb); (try clear hb2); (try clear hk); (try clear hi)) | (go_at_call 18; (with_reducible refine (impl_ChainScopes.calls k1 _ _ t337 t338 t339 (wrap64 (t349 + 1)) t355 _ ?side1 ?side2 A41.out).mono ?_); (case side1 => repeat (first | exact (Kd.R_reads' HO_3.out).2.2 | (with_reducible refine Kd.C_alloc ?_ _) | (with_reducible refine Kd.C_drewN ?_ _) | (with_reducible refine Kd.C_drew ?_))); (case side2 => exact (Kd.R_reads' HO_3.out).2.1); rintro e w51 ⟨rfl, hb⟩; replace HO_3 := Aside0.mk (Kd.R_below (tR HO_3) hb); replace HB := bH HB hb; (try clear hb); (try clear hb2); (try clear hk); (try clear hi)) | ((with_reducible refine gate_callee (f := 36) rfl ?_); refine goesL_ (some 105) rfl rfl Try.func36 (by kernel_rfl) rfl #[.slice Ao11 t337.length co11, .int .i64 t338, .int .i64 t338, .int .i64 4, .int .i64 t340] rfl tL ?_; (with_reducible refine (impl_CanAct.calls k1 _ _ t337 t338 t338 4 t340 t356 _ ?side1 ?side2 A43.out).mono ?_); (case side1 => repeat (first | exact (Kd.R_reads' HO_3.out).2.2 | (with_reducible refine Kd.C_alloc ?_ _) | (with_reducible refine Kd.C_drewN ?_ _) | (with_reducible refine Kd.C_drew ?_))); (case side2 => exact (Kd.R_reads' HO_3.out).2.1); rintro e w52 ⟨rfl, hb⟩; refine ⟨_, rfl, ?_⟩; replace HO_3 := Aside0.mk (Kd.R_below (tR HO_3) hb); replace HB := bH HB hb; (try clear hb); (try clear hb2); (try clear hk); (try clear hi)) | ((with_reducible refine gate_callee (f := 41) rfl ?_); refine goesL_ (some 107) rfl rfl Try.func41 (by kernel_rfl) rfl #[.int .i64 t338] rfl tL ?_; (with_reducible refine (spec_PrivateKey.calls k1 t338 t357 _ A44.out).mono ?_); rintro e w' ⟨rfl, ⟨nd, rfl⟩⟩; refine ⟨_, rfl, ?_⟩) | (go_at_call 36; (with_reducible refine (impl_CanAct.calls k1 _ _ t337 t338 t339 3 t340 false _ ?side1 ?side2 A46.out).mono ?_); (case side1 => repeat (first | exact (Kd.R_reads' HO_3.out).2.2 | (with_reducible refine Kd.C_alloc ?_ _) | (with_reducible refine Kd.C_drewN ?_ _) | (with_reducible refine Kd.C_drew ?_))); (case side2 => exact (Kd.R_reads' HO_3.out).2.1); rintro e w53 ⟨rfl, hb⟩; replace HO_3 := Aside0.mk (Kd.R_below (tR HO_3) hb); replace HB := bH HB hb; (try clear hb); (try clear hb2); (try clear hk); (try clear hi)))
        go_ret
        exact ⟨tE, tB⟩
       rw [if_neg c48] at H
       have c48b0 : (t339 == t338) = false := beq_eq_false_iff_ne.mpr c48
       have c48b1 : (t339 != t338) = true := bne_iff_ne.mpr c48
       replace H := Option.bind_eq_some_iff.mp H
       obtain ⟨t359, A540, H⟩ := H
       try dsimp only at H
       have A54 := Aside0.mk A540
       clear A540
       obtain rfl := Option.some.inj H
       go_wp2_with (first | ((with_reducible refine gate_callee (f := 40) rfl ?_); refine goesL_ (some 75) rfl rfl Try.func40 (by kernel_rfl) rfl #[.slice Ao11 t337.length co11] rfl tL ?_; (with_reducible refine (impl_ChainEnd.calls k1 _ _ t337 t349 _ ?side1 ?side2 A22.out).mono ?_); (case side1 => repeat (first | exact (Kd.R_reads' HO_3.out).2.2 | (with_reducible refine Kd.C_alloc ?_ _) | (with_reducible refine Kd.C_drewN ?_ _) | (with_reducible refine Kd.C_drew ?_))); (case side2 => exact (Kd.R_reads' HO_3.out).2.1); rintro e w55 ⟨rfl, hb⟩; refine ⟨_, rfl, ?_⟩; replace HO_3 := Aside0.mk (Kd.R_below (tR HO_3) hb); replace HB := bH HB hb; (try clear hb); (try clear hb2); (try clear hk); (try clear hi)) | (go_at_call 18; (with_reducible refine (impl_ChainScopes.calls k1 _ _ t337 t338 t339 t349 t354 _ ?side1 ?side2 A39.out).mono ?_); (case side1 => repeat (first | exact (Kd.R_reads' HO_3.out).2.2 | (with_reducible refine Kd.C_alloc ?_ _) | (with_reducible refine Kd.C_drewN ?_ _) | (with_reducible refine Kd.C_drew ?_))); (case side2 => exact (Kd.R_reads' HO_3.out).2.1); rintro e w56 ⟨rfl, hb⟩; replace HO_3 := Aside0.mk (Kd.R_below (tR HO_3) hb); replace HB := bH HB hb; (try clear hb); (try clear hb2); (try clear hk); (try clear hi)) | (go_at_call 18; (with_reducible refine (impl_ChainScopes.calls k1 _ _ t337 t338 t339 (wrap64 (t349 + 1)) t355 _ ?side1 ?side2 A41.out).mono ?_); (case side1 => repeat (first | exact (Kd.R_reads' HO_3.out).2.2 | (with_reducible refine Kd.C_alloc ?_ _) | (with_reducible refine Kd.C_drewN ?_ _) | (with_reducible refine Kd.C_drew ?_))); (case side2 => exact (Kd.R_reads' HO_3.out).2.1); rintro e w57 ⟨rfl, hb⟩; replace HO_3 := Aside0.mk (Kd.R_below (tR HO_3) hb); replace HB := bH HB hb; (try clear hb); (try clear hb2); (try clear hk); (try clear hi)) | ((with_reducible refine gate_callee (f := 36) rfl ?_); refine goesL_ (some 105) rfl rfl Try.func36 (by kernel_rfl) rfl #[.slice Ao11 t337.length co11, .int .i64 t338, .int .i64 t338, .int .i64 4, .int .i64 t340] rfl tL ?_; (with_reducible refine (impl_CanAct.calls k1 _ _ t337 t338 t338 4 t340 t356 _ ?side1 ?side2 A43.out).mono ?_); (case side1 => repeat (first | exact (Kd.R_reads' HO_3.out).2.2 | (with_reducible refine Kd.C_alloc ?_ _) | (with_reducible refine Kd.C_drewN ?_ _) | (with_reducible refine Kd.C_drew ?_))); (case side2 => exact (Kd.R_reads' HO_3.out).2.1); rintro e w58 ⟨rfl, hb⟩; refine ⟨_, rfl, ?_⟩; replace HO_3 := Aside0.mk (Kd.R_below (tR HO_3) hb); replace HB := bH HB hb; (try clear hb); (try clear hb2); (try clear hk); (try clear hi)) | ((with_reducible refine gate_callee (f := 41) rfl ?_); refine goesL_ (some 107) rfl rfl Try.func41 (by kernel_rfl) rfl #[.int .i64 t338] rfl tL ?_; (with_reducible refine (spec_PrivateKey.calls k1 t338 t357 _ A44.out).mono ?_); rintro e w' ⟨rfl, ⟨nd, rfl⟩⟩; refine ⟨_, rfl, ?_⟩) | (go_at_call 36; (with_reducible refine (impl_CanAct.calls k1 _ _ t337 t338 t339 3 t340 false _ ?side1 ?side2 A46.out).mono ?_); (case side1 => repeat (first | exact (Kd.R_reads' HO_3.out).2.2 | (with_reducible refine Kd.C_alloc ?_ _) | (with_reducible refine Kd.C_drewN ?_ _) | (with_reducible refine Kd.C_drew ?_))); (case side2 => exact (Kd.R_reads' HO_3.out).2.1); rintro e w59 ⟨rfl, hb⟩; replace HO_3 := Aside0.mk (Kd.R_below (tR HO_3) hb); replace HB := bH HB hb; (try clear hb); (try clear hb2); (try clear hk); (try clear hi)) | (go_at_call 36; (with_reducible refine (impl_CanAct.calls k1 _ _ t337 t338 t339 2 t340 t359 _ ?side1 ?side2 A54.out).mono ?_); (case side1 => repeat (first | exact (Kd.R_reads' HO_3.out).2.2 | (with_reducible refine Kd.C_alloc ?_ _) | (with_reducible refine Kd.C_drewN ?_ _) | (with_reducible refine Kd.C_drew ?_))); (case side2 => exact (Kd.R_reads' HO_3.out).2.1); rintro e w60 ⟨rfl, hb⟩; replace HO_3 := Aside0.mk (Kd.R_below (tR HO_3) hb); replace HB := bH HB hb; (try clear hb); (try clear hb2); (try clear hk); (try clear hi)))
       go_ret
       exact ⟨tE, tB⟩
      rw [if_neg c45] at H
      have c45b0 : (t356 == (t357 != 0)) = false := by simpa using c45
      (try (have c45b1 : decide (t356 = (t357 != 0)) = false := by simpa using c45))
      (try (have c45b2 : (t356 == (t357 != 0)) = false := by simpa using c45))
      (try (have c45b3 : ¬ (t356 = (t357 != 0)) := by simpa using c45))
      clear c45
      exact absurd ((Option.some.inj H).trans hT_) (by decide)
     rw [if_neg c42] at H
     have c42b0 : (t355 == 0) = false := beq_eq_false_iff_ne.mpr c42
     have c42b1 : (t355 != 0) = true := bne_iff_ne.mpr c42
     exact absurd ((Option.some.inj H).trans hT_) (by decide)
    rw [if_neg c40] at H
    have c40b0 : (t354 == t343) = false := beq_eq_false_iff_ne.mpr c40
    have c40b1 : (t354 != t343) = true := bne_iff_ne.mpr c40
    exact absurd ((Option.some.inj H).trans hT_) (by decide)
 rw [if_neg c7] at H
 have c7b0 : (t343 == t344) = false := beq_eq_false_iff_ne.mpr c7
 have c7b1 : (t343 != t344) = true := bne_iff_ne.mpr c7
 exact absurd ((Option.some.inj H).trans hT_) (by decide)

end Go.Proofs.Ytjggdakbphjomaa.ZFnGrants
