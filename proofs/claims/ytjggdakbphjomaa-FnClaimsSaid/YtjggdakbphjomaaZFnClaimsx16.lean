/- The machine side: for each Go function a Lean function and the contract that the Go code answers as it does; printed by program (wip/tmpl/pprint.sh). -/
import Derived.Test.YtjggdakbphjomaaZFnClaimsx0
namespace Go.Proofs.Ytjggdakbphjomaa.ZFnClaims
open Go.RowKit Go.Proofs.YtjggdakbphjomaaW.PrintWords Go.Proofs.YtjggdakbphjomaaW.PrintLast Go.Proofs.YtjggdakbphjomaaW.PrintMore
attribute [local go_sem] max2_int min2_int max_two min_two max_three min_three max_four min_four   -- for this text's walks alone
set_option linter.unusedVariables false
set_option linter.unusedSimpArgs false

/-! ### laws_sameInts: function 54 -/
def laws_sameInts.l0 : Nat → List Int → List Int → Int → Option (Bool)
 | 0, _, _, _ => none
 | k + 1, x0, x1, x5 => if x5 < (x0.length : Int) then (if 0 ≤ x5 then (if x5 < (x1.length : Int) then (if (rd x0 x5) = (rd x1 x5) then (laws_sameInts.l0 k x0 x1 (wrap64 (x5 + 1))) else (some false)) else (none)) else (none)) else (some true)
def laws_sameInts.f (k : Nat) (l0 : List Int) (l1 : List Int) : Option (Bool) := if (l0.length : Int) = (l1.length : Int) then (laws_sameInts.l0 k l0 l1 0) else (some false)
theorem laws_sameInts.mono_l : ∀ k, (∀ y0 y1 y2, LeO (laws_sameInts.l0 k y0 y1 y2) (laws_sameInts.l0 (k + 1) y0 y1 y2))
 | 0 => fun _ _ _ r h => by simp [laws_sameInts.l0] at h
 | k + 1 => by
  have ih0 := laws_sameInts.mono_l k
  ·intro y0 y1 y2
   unfold laws_sameInts.l0
   repeat' first
   | (with_reducible exact ih0 _ _ _)
   | (with_reducible exact LeO.refl _)
   | (with_reducible exact LeO.none _)
   | (with_reducible refine LeO.ite ?_ ?_)
   | (with_reducible refine LeO.bind ?_ (fun _ => ?_))
   | exact ih0 _ _ _
   | exact LeO.none _
   | refine LeO.ite ?_ ?_
   | refine LeO.bind ?_ (fun _ => ?_)
theorem laws_sameInts.mono : ∀ a0 a1 k, LeO (laws_sameInts.f k a0 a1) (laws_sameInts.f (k + 1) a0 a1) := by
 intro a0 a1 k
 have ih0 := laws_sameInts.mono_l k
 unfold laws_sameInts.f
 repeat' first
   | (with_reducible exact ih0 _ _ _)
   | (with_reducible exact LeO.refl _)
   | (with_reducible exact LeO.none _)
   | (with_reducible refine LeO.ite ?_ ?_)
   | (with_reducible refine LeO.bind ?_ (fun _ => ?_))
   | exact ih0 _ _ _
   | exact LeO.none _
   | refine LeO.ite ?_ ?_
   | refine LeO.bind ?_ (fun _ => ?_)
set_option maxHeartbeats 8000000 in
set_option maxRecDepth 100000 in
theorem laws_sameInts.calls (k : Nat) (A0 : Option Addr) (c0 : Nat) (l0 : List Int) (A1 : Option Addr) (c1 : Nat) (l1 : List Int) (r : Bool) (w : World) (hr0 : Kd.C (Kd.int .i64) w A0 l0.length l0) (hc0 : l0.length ≤ c0) (hr1 : Kd.C (Kd.int .i64) w A1 l1.length l1) (hc1 : l1.length ≤ c1) (h : laws_sameInts.f k l0 l1 = some r) :
  Calls Try.prog 54 #[.slice A0 l0.length c0, .slice A1 l1.length c1] w fun e w' => e = .returned (.bool r) ∧ Drawn0 w w' := by
 have HR0 := Aside0.mk hr0
 have HC0 := Aside0.mk hc0
 clear hr0 hc0
 have HR1 := Aside0.mk hr1
 have HC1 := Aside0.mk hc1
 clear hr1 hc1
 have H : (if (l0.length : Int) = (l1.length : Int) then (laws_sameInts.l0 k l0 l1 0) else (some false)) = some r := h
 clear h
 by_cases c3 : (l0.length : Int) = (l1.length : Int)
 ·rw [if_pos c3] at H
  have c3b0 : ((l0.length : Int) == (l1.length : Int)) = true := beq_iff_eq.mpr c3
  have c3b1 : ((l0.length : Int) != (l1.length : Int)) = false := bne_eq_false_iff_eq.mpr c3
  have c3b2 : (l0.length == l1.length) = true := by first | simpa using c3 | (simp at c3 ⊢; omega)
  clear c3
  have H' := Aside0.mk H
  clear H
  go_enter Try.func54, Try.ntmps54
  go_wp2
  repeat (go_quiet (fail); try go_wp2)
  go_loopg [5] k (fun kq v5 w' => ∃ (x5_1 : Int), v5 = .int .i64 x5_1 ∧ Aside0 (laws_sameInts.l0 kq l0 l1 x5_1 = some r) ∧ Aside0 (kq ≤ k) ∧ Drawn0 w w')
  case atStart => exact ⟨(0), tS, H', ⟨Nat.le_refl _⟩, by repeat (first | exact Drawn0.refl _ | apply Drawn0.step)⟩
  case round =>
   clear H'
   try clear c1
   try clear p2
   try clear c3
   try clear c3b0
   try clear c3b1
   try clear c3b2
   obtain ⟨x5_1, rfl, HA, HK1, ⟨m1, rfl⟩⟩ := hrel
   cases gk with
   | zero => exact absurd HA.out (by simp [laws_sameInts.l0])
   | succ k1 =>
    have H := HA.out
    clear HA
    simp only [laws_sameInts.l0] at H
    by_cases c4 : x5_1 < (l0.length : Int)
    ·rw [if_pos c4] at H
     have c4b0 : decide (x5_1 < (l0.length : Int)) = true := decide_eq_true c4
     clear c4
     by_cases c5 : 0 ≤ x5_1
     ·rw [if_pos c5] at H
      have c5b0 : decide (0 ≤ x5_1) = true := decide_eq_true c5
      clear c5
      by_cases c6 : x5_1 < (l1.length : Int)
      ·rw [if_pos c6] at H
       have c6b0 : decide (x5_1 < (l1.length : Int)) = true := decide_eq_true c6
       clear c6
       by_cases c7 : (rd l0 x5_1) = (rd l1 x5_1)
       ·rw [if_pos c7] at H
        have c7b0 : ((rd l0 x5_1) == (rd l1 x5_1)) = true := beq_iff_eq.mpr c7
        have c7b1 : ((rd l0 x5_1) != (rd l1 x5_1)) = false := bne_eq_false_iff_eq.mpr c7
        clear c7
        have H' := Aside0.mk H
        clear H
        have p454 : 0 ≤ (x5_1 : Int) := of_decide_eq_true tA
        have q454 : x5_1 < (l0.length : Int) := of_decide_eq_true tA
        obtain ⟨ad454, e454, hx454_0⟩ := Kd.at_int HR0.out x5_1 p454 q454
        cases e454
        replace p454 := eq_true p454
        replace q454 := eq_true q454
        have p455 : 0 ≤ (x5_1 : Int) := of_decide_eq_true tA
        have q455 : x5_1 < (l1.length : Int) := of_decide_eq_true tA
        obtain ⟨ad455, e455, hx455_0⟩ := Kd.at_int HR1.out x5_1 p455 q455
        cases e455
        replace p455 := eq_true p455
        replace q455 := eq_true q455
        go_wp2
        repeat (go_quiet (fail); try go_wp2)
        go_roundg k1
        case measure => have := HK1.out; omega
        case rel => exact ⟨(wrap64 (x5_1 + 1)), tS, H', ⟨tI⟩, by repeat (first | exact Drawn0.refl _ | apply Drawn0.step)⟩
       rw [if_neg c7] at H
       have c7b0 : ((rd l0 x5_1) == (rd l1 x5_1)) = false := beq_eq_false_iff_ne.mpr c7
       have c7b1 : ((rd l0 x5_1) != (rd l1 x5_1)) = true := bne_iff_ne.mpr c7
       obtain rfl := Option.some.inj H
       have p454 : 0 ≤ (x5_1 : Int) := of_decide_eq_true tA
       have q454 : x5_1 < (l0.length : Int) := of_decide_eq_true tA
       obtain ⟨ad454, e454, hx454_0⟩ := Kd.at_int HR0.out x5_1 p454 q454
       cases e454
       replace p454 := eq_true p454
       replace q454 := eq_true q454
       have p455 : 0 ≤ (x5_1 : Int) := of_decide_eq_true tA
       have q455 : x5_1 < (l1.length : Int) := of_decide_eq_true tA
       obtain ⟨ad455, e455, hx455_0⟩ := Kd.at_int HR1.out x5_1 p455 q455
       cases e455
       replace p455 := eq_true p455
       replace q455 := eq_true q455
       go_wp2
       repeat (go_quiet (fail); try go_wp2)
       go_ret
       exact ⟨tS, by repeat (first | exact Drawn0.refl _ | apply Drawn0.step)⟩
      rw [if_neg c6] at H
      exact absurd H (by simp)
     rw [if_neg c5] at H
     exact absurd H (by simp)
    rw [if_neg c4] at H
    have c4b0 : decide (x5_1 < (l0.length : Int)) = false := decide_eq_false c4
    clear c4
    obtain rfl := Option.some.inj H
    go_wp2
    repeat (go_quiet (fail); try go_wp2)
    go_ret
    exact ⟨tS, by repeat (first | exact Drawn0.refl _ | apply Drawn0.step)⟩
 rw [if_neg c3] at H
 have c3b0 : ((l0.length : Int) == (l1.length : Int)) = false := beq_eq_false_iff_ne.mpr c3
 have c3b1 : ((l0.length : Int) != (l1.length : Int)) = true := bne_iff_ne.mpr c3
 have c3b2 : (l0.length == l1.length) = false := by first | simpa using c3 | (simp at c3 ⊢; omega)
 obtain rfl := Option.some.inj H
 go_enter Try.func54, Try.ntmps54
 go_wp2
 repeat (go_quiet (fail); try go_wp2)
 go_ret
 exact ⟨tS, by repeat (first | exact Drawn0.refl _ | apply Drawn0.step)⟩

/-! ### impl_OpenClaims: function 55 -/
def impl_OpenClaims.l0 : Nat → Int → List Int → List (S104) → Int → Int → Option (List Int)
 | 0, _, _, _, _, _ => none
 | k + 1, x1, x5, x10, x11, x12 => if x12 < x11 then (if 0 ≤ x12 then (if x12 < (x10.length : Int) then (if ((rd_T104 x10 x12).f5) = 1 then (if ((rd_T104 x10 x12).f1) = x1 then (if x5.length < 17592186044416 then (impl_OpenClaims.l0 k x1 (x5 ++ [(rd_T104 x10 x12).f0]) x10 x11 (wrap64 (x12 + 1))) else (none)) else (impl_OpenClaims.l0 k x1 x5 x10 x11 (wrap64 (x12 + 1)))) else (impl_OpenClaims.l0 k x1 x5 x10 x11 (wrap64 (x12 + 1)))) else (none)) else (none)) else (some x5)
def impl_OpenClaims.f (k : Nat) (a0_0 : Int) (l0_1 : List (S104)) (a1 : Int) : Option (List Int) := impl_OpenClaims.l0 k a1 (([] : List Int)) l0_1 (l0_1.length : Int) 0
theorem impl_OpenClaims.mono_l : ∀ k, (∀ y0 y1 y2 y3 y4, LeO (impl_OpenClaims.l0 k y0 y1 y2 y3 y4) (impl_OpenClaims.l0 (k + 1) y0 y1 y2 y3 y4))
 | 0 => fun _ _ _ _ _ r h => by simp [impl_OpenClaims.l0] at h
 | k + 1 => by
  have ih0 := impl_OpenClaims.mono_l k
  ·intro y0 y1 y2 y3 y4
   unfold impl_OpenClaims.l0
   repeat' first
   | (with_reducible exact ih0 _ _ _ _ _)
   | (with_reducible exact LeO.refl _)
   | (with_reducible exact LeO.none _)
   | (with_reducible refine LeO.ite ?_ ?_)
   | (with_reducible refine LeO.bind ?_ (fun _ => ?_))
   | exact ih0 _ _ _ _ _
   | exact LeO.none _
   | refine LeO.ite ?_ ?_
   | refine LeO.bind ?_ (fun _ => ?_)
theorem impl_OpenClaims.mono : ∀ a0 a1 a2 k, LeO (impl_OpenClaims.f k a0 a1 a2) (impl_OpenClaims.f (k + 1) a0 a1 a2) := by
 intro a0 a1 a2 k
 have ih0 := impl_OpenClaims.mono_l k
 unfold impl_OpenClaims.f
 repeat' first
   | (with_reducible exact ih0 _ _ _ _ _)
   | (with_reducible exact LeO.refl _)
   | (with_reducible exact LeO.none _)
   | (with_reducible refine LeO.ite ?_ ?_)
   | (with_reducible refine LeO.bind ?_ (fun _ => ?_))
   | exact ih0 _ _ _ _ _
   | exact LeO.none _
   | refine LeO.ite ?_ ?_
   | refine LeO.bind ?_ (fun _ => ?_)
set_option maxHeartbeats 8000000 in
set_option maxRecDepth 100000 in
theorem impl_OpenClaims.calls (k : Nat) (a0_0 : Int) (A0_1 : Option Addr) (c0_1 : Nat) (l0_1 : List (S104)) (a1 : Int) (r : List Int) (w : World) (hr0_1 : Kd.C k104 w A0_1 l0_1.length l0_1) (hc0_1 : l0_1.length ≤ c0_1) (h : impl_OpenClaims.f k a0_0 l0_1 a1 = some r) :
  Calls Try.prog 55 #[.agg #[.int .i64 a0_0, .slice A0_1 l0_1.length c0_1], .int .i64 a1] w fun e w' => ∃ v0_ : Value, e = .returned (v0_) ∧ Kd.R (Kd.int .i64) 3 w' w.heap.size (fun _ => True) v0_ r ∧ Below w.heap.size w w' := by
 have hu35 := Try.underlying35
 have hu104 := Try.underlying104
 have HR0_1 := Aside0.mk hr0_1
 have HC0_1 := Aside0.mk hc0_1
 clear hr0_1 hc0_1
 have HB := Aside0.mk (Below.refl w.heap.size w)
 have H : (impl_OpenClaims.l0 k a1 (([] : List Int)) l0_1 (l0_1.length : Int) 0) = some r := h
 clear h
 obtain ⟨y457, hy457⟩ : ∃ y_ : List Int, y_ = (([] : List Int)) := ⟨_, rfl⟩
 replace H : (impl_OpenClaims.l0 k a1 y457 l0_1 (l0_1.length : Int) 0) = some r := by first | (rw [hy457]; with_reducible exact H) | (have H2_ := (Option.bind_some _ _).symm.trans H; rw [hy457]; with_reducible exact H2_) | (have H2_ := (Option.bind_some _ _).symm.trans H; with_reducible exact H2_) | with_reducible exact H | (rw [hy457]; exact H) | exact H
 have Ny457 := Aside0.mk hy457
 clear hy457
 have H' := Aside0.mk H
 clear H
 go_enter Try.func55, Try.ntmps55
 go_wp2_with (first | ((with_reducible refine gate_dst (N := 2) rfl ?_); refine box_event ?hg (N := 2) ?hd (cs := #[.int .i64 a0_0, .slice A0_1 l0_1.length c0_1]) (t := 35) ?hr ?_; (case hd => rfl); (case hg => rfl); (case hr => exact tG); intro gb456 hg w3 hbox hb; have BK456 := Aside0.mk (hbox); have GW456 := gW HB hg; have GE456 := gW HB hg; replace HB := bH HB hb; clear hb hbox hg) | ((with_reducible refine gate_dst (N := 8) rfl ?_); refine Kd.R_lit (Kd.int .i64) _ 3 ?hg (N := 8) ?hd (xs := ([] : List Int)) (inner := []) (ok := fun _ => True) (okp := fun _ => True) ?hr ?hp (fun _ hk => hk) trivial (Below.refl _ _) (Nat.le_refl _) (by simp) ?_; (case hd => rfl); (case hg => rfl); (case hr => exact tG); (case hp => exact (Reps.none _ _)); intro v458 w4 ho5 hb hg_ hnew_; clear hg_ hnew_; (first | rw [← Ny457.out] at ho5 | (simp only [Int.reduceToNat] at ho5; rw [← Ny457.out] at ho5)); have HO459 := Aside0.mk (Kd.R_lower ho5 (below_size tB)); replace BK456 := bB BK456 hb; replace HB := bH HB hb; clear hb ho5; obtain ⟨hcz6_0, hcz6_1, hfz6_0, hfz6_1⟩ := bc2 BK456.out))
 go_loopg [5, 12] k (fun kq v5 v12 w' => ∃ (x5_1 : List Int) (x12_1 : Int), v12 = .int .i64 x12_1 ∧ Aside0 (impl_OpenClaims.l0 kq a1 x5_1 l0_1 (l0_1.length : Int) x12_1 = some r) ∧ Aside0 (kq ≤ k) ∧ Aside0 (Kd.R (Kd.int .i64) 3 w' w.heap.size (fun _ => True) v5 x5_1) ∧ Aside0 (w'.heap[gb456]? = some (.cells #[.int .i64 a0_0, (.slice A0_1 l0_1.length c0_1)] 35 (0, 0))) ∧ Aside0 (Below w.heap.size w w'))
 case atStart => exact ⟨(y457), (0), tS, H', ⟨Nat.le_refl _⟩, ⟨tR HO459⟩, ⟨tK BK456⟩, ⟨tB⟩⟩
 case round =>
  clear H'
  try clear p2
  try clear c5
  obtain ⟨x5_1, x12_1, rfl, HA, HK1, HO_5, BK456, HB⟩ := hrel
  cases gk with
  | zero => exact absurd HA.out (by simp [impl_OpenClaims.l0])
  | succ k1 =>
   have H := HA.out
   clear HA
   simp only [impl_OpenClaims.l0] at H
   by_cases c7 : x12_1 < (l0_1.length : Int)
   ·rw [if_pos c7] at H
    have c7b0 : decide (x12_1 < (l0_1.length : Int)) = true := decide_eq_true c7
    clear c7
    by_cases c8 : 0 ≤ x12_1
    ·rw [if_pos c8] at H
     have c8b0 : decide (0 ≤ x12_1) = true := decide_eq_true c8
     clear c8
     by_cases c9 : x12_1 < (l0_1.length : Int)
     ·rw [if_pos c9] at H
      have c9b0 : decide (x12_1 < (l0_1.length : Int)) = true := decide_eq_true c9
      clear c9
      by_cases c10 : ((rd_T104 l0_1 x12_1).f5) = 1
      ·rw [if_pos c10] at H
       have c10b0 : (((rd_T104 l0_1 x12_1).f5) == 1) = true := beq_iff_eq.mpr c10
       have c10b1 : (((rd_T104 l0_1 x12_1).f5) != 1) = false := bne_eq_false_iff_eq.mpr c10
       clear c10
       by_cases c11 : ((rd_T104 l0_1 x12_1).f1) = a1
       ·rw [if_pos c11] at H
        have c11b0 : (((rd_T104 l0_1 x12_1).f1) == a1) = true := beq_iff_eq.mpr c11
        have c11b1 : (((rd_T104 l0_1 x12_1).f1) != a1) = false := bne_eq_false_iff_eq.mpr c11
        clear c11
        by_cases c12 : x5_1.length < 17592186044416
        ·rw [if_pos c12] at H
         have LMc12 := Aside0.mk c12
         clear c12
         obtain ⟨y462, hy462⟩ : ∃ y_ : List Int, y_ = (x5_1 ++ [(rd_T104 l0_1 x12_1).f0]) := ⟨_, rfl⟩
         replace H : (impl_OpenClaims.l0 k1 a1 y462 l0_1 (l0_1.length : Int) (wrap64 (x12_1 + 1))) = some r := by first | (rw [hy462]; with_reducible exact H) | (have H2_ := (Option.bind_some _ _).symm.trans H; rw [hy462]; with_reducible exact H2_) | (have H2_ := (Option.bind_some _ _).symm.trans H; with_reducible exact H2_) | with_reducible exact H | (rw [hy462]; exact H) | exact H
         have Ny462 := Aside0.mk hy462
         clear hy462
         have H' := Aside0.mk H
         clear H
         have p460 : 0 ≤ (x12_1 : Int) := of_decide_eq_true tA
         have q460 : x12_1 < (l0_1.length : Int) := of_decide_eq_true tA
         obtain ⟨ad460, e460, hx460_0, hx460_1, hx460_2, hx460_3, hx460_4, hx460_5⟩ := at_T104 HR0_1.out x12_1 p460 q460
         cases e460
         replace hx460_0 := hbc HB hx460_0
         replace hx460_1 := hbc HB hx460_1
         replace hx460_2 := hbc HB hx460_2
         replace hx460_3 := hbc HB hx460_3
         replace hx460_4 := hbc HB hx460_4
         replace hx460_5 := hbc HB hx460_5
         replace p460 := eq_true p460
         replace q460 := eq_true q460
         go_wp2_with (first | ((with_reducible refine gate_dst (N := 7) rfl ?_); refine box_event ?hg (N := 7) ?hd (cs := #[.int .i64 0, .int .i64 0, .int .i64 0, .int .i64 0, .int .i64 0, .int .i64 0]) (t := 104) ?hr ?_; (case hd => rfl); (case hg => rfl); (case hr => exact tG); intro gb461 hg w13 hbox hb; replace HO_5 := Aside0.mk (Kd.R_below (tR HO_5) hb); have BK461 := Aside0.mk (hbox); have GW461 := gW HB hg; have GE461 := gW HB hg; replace HB := bH HB hb; have NB456_461 := nL BK456 hg; have NB461_456 := nR BK456 hg; replace BK456 := bB BK456 hb; clear hb hbox hg; have hnb14 := NB461_456.out; have hnc14 := NB456_461.out; obtain ⟨hcz15_0, hcz15_1, hcz15_2, hcz15_3, hcz15_4, hcz15_5, hfz15_0, hfz15_1, hfz15_2, hfz15_3, hfz15_4, hfz15_5⟩ := bc6 BK461.out) | ((with_reducible refine gate_builtin (b := .append) (xs := #[.tmp 25, .tmp 28]) rfl ?_); at_builtin; refine Kd.R_append (Kd.int .i64) (w0 := w) w.heap.size rfl (.tmp 25) (.tmp 28) 46 3 (.int .i64 0) 8 rfl Try.underlying46 info3 rfl (by decide) (by omega) u5 x5_1 ((rd_T104 l0_1 x12_1).f0) [.int .i64 ((rd_T104 l0_1 x12_1).f0)] (fun _ => True) (fun _ => False) rfl (by first | (go_simp; done) | (go_simp; rfl)) ?aP (fun _ hk => hk.elim) ?aF ?aO ?aB ?aS ?aL ?_; (case aP => exact rfl); (case aB => exact tB); (case aF => exact (fun _ _ => trivial)); (case aO => exact (by (with_reducible repeat (first | apply Kd.R_alloc | apply Kd.R_drewN | apply Kd.R_drew)); exact Kd.R_mono (Kd.R_far (p := ⟨gb461, 5, none⟩) (Kd.R_far (p := ⟨gb461, 4, none⟩) (Kd.R_far (p := ⟨gb461, 3, none⟩) (Kd.R_far (p := ⟨gb461, 2, none⟩) (Kd.R_far (p := ⟨gb461, 1, none⟩) (Kd.R_far (p := ⟨gb461, 0, none⟩) (Kd.R_types HO_5.out BK461.out (by decide)) (fun _ hk => hk.2) (.int .i64 ((rd_T104 l0_1 x12_1).f0))) (fun _ hk => hk.2) (.int .i64 ((rd_T104 l0_1 x12_1).f1))) (fun _ hk => hk.2) (.int .i64 ((rd_T104 l0_1 x12_1).f2))) (fun _ hk => hk.2) (.int .i64 ((rd_T104 l0_1 x12_1).f3))) (fun _ hk => hk.2) (.int .i64 ((rd_T104 l0_1 x12_1).f4))) (fun _ hk => hk.2) (.int .i64 ((rd_T104 l0_1 x12_1).f5))) (fun _ hk => trivial))); (case aS => exact (below_size tB)); (case aL => have := LMc12.out; omega); intro v463 w16 ho hb hg hat; rw [← Ny462.out] at ho; replace BK456 := Aside0.mk (blk_grown (g := gb456) (o := .cells #[.int .i64 a0_0, .slice (some ad460) l0_1.length c0_1] 35 (0, 0)) (kF NB456_461 BK456) hg (Kd.R_ne HO_5.out BK456.out (by decide))); replace BK461 := Aside0.mk (blk_grown (g := gb461) (o := .cells #[.int .i64 ((rd_T104 l0_1 x12_1).f0), .int .i64 ((rd_T104 l0_1 x12_1).f1), .int .i64 ((rd_T104 l0_1 x12_1).f2), .int .i64 ((rd_T104 l0_1 x12_1).f3), .int .i64 ((rd_T104 l0_1 x12_1).f4), .int .i64 ((rd_T104 l0_1 x12_1).f5)] 104 (0, 0)) (by (with_reducible repeat (first | refine blk_drewN ?_ _ | refine blk_drew ?_ | refine blk_alloc ?_ _)); refine blk_put (cs := #[.int .i64 ((rd_T104 l0_1 x12_1).f0), .int .i64 ((rd_T104 l0_1 x12_1).f1), .int .i64 ((rd_T104 l0_1 x12_1).f2), .int .i64 ((rd_T104 l0_1 x12_1).f3), .int .i64 ((rd_T104 l0_1 x12_1).f4), .int .i64 0]) ?_ 5 _ rfl; (with_reducible repeat (first | refine blk_drewN ?_ _ | refine blk_drew ?_ | refine blk_alloc ?_ _)); refine blk_put (cs := #[.int .i64 ((rd_T104 l0_1 x12_1).f0), .int .i64 ((rd_T104 l0_1 x12_1).f1), .int .i64 ((rd_T104 l0_1 x12_1).f2), .int .i64 ((rd_T104 l0_1 x12_1).f3), .int .i64 0, .int .i64 0]) ?_ 4 _ rfl; (with_reducible repeat (first | refine blk_drewN ?_ _ | refine blk_drew ?_ | refine blk_alloc ?_ _)); refine blk_put (cs := #[.int .i64 ((rd_T104 l0_1 x12_1).f0), .int .i64 ((rd_T104 l0_1 x12_1).f1), .int .i64 ((rd_T104 l0_1 x12_1).f2), .int .i64 0, .int .i64 0, .int .i64 0]) ?_ 3 _ rfl; (with_reducible repeat (first | refine blk_drewN ?_ _ | refine blk_drew ?_ | refine blk_alloc ?_ _)); refine blk_put (cs := #[.int .i64 ((rd_T104 l0_1 x12_1).f0), .int .i64 ((rd_T104 l0_1 x12_1).f1), .int .i64 0, .int .i64 0, .int .i64 0, .int .i64 0]) ?_ 2 _ rfl; (with_reducible repeat (first | refine blk_drewN ?_ _ | refine blk_drew ?_ | refine blk_alloc ?_ _)); refine blk_put (cs := #[.int .i64 ((rd_T104 l0_1 x12_1).f0), .int .i64 0, .int .i64 0, .int .i64 0, .int .i64 0, .int .i64 0]) ?_ 1 _ rfl; (with_reducible repeat (first | refine blk_drewN ?_ _ | refine blk_drew ?_ | refine blk_alloc ?_ _)); refine blk_put (cs := #[.int .i64 0, .int .i64 0, .int .i64 0, .int .i64 0, .int .i64 0, .int .i64 0]) ?_ 0 _ rfl; (with_reducible repeat (first | refine blk_drewN ?_ _ | refine blk_drew ?_ | refine blk_alloc ?_ _)); exact BK461.out) hg (Kd.R_ne HO_5.out BK461.out (by decide))); replace HB := Aside0.mk (hb); have HO464 := Aside0.mk (ho); clear HO_5; clear ho hb hg hat))
         go_roundg k1
         case measure => have := HK1.out; omega
         case rel => exact ⟨(y462), (wrap64 (x12_1 + 1)), tS, H', ⟨tI⟩, ⟨tR HO464⟩, ⟨tK BK456⟩, ⟨tB⟩⟩
        rw [if_neg c12] at H
        exact absurd H (by simp)
       rw [if_neg c11] at H
       have c11b0 : (((rd_T104 l0_1 x12_1).f1) == a1) = false := beq_eq_false_iff_ne.mpr c11
       have c11b1 : (((rd_T104 l0_1 x12_1).f1) != a1) = true := bne_iff_ne.mpr c11
       have H' := Aside0.mk H
       clear H
       have p460 : 0 ≤ (x12_1 : Int) := of_decide_eq_true tA
       have q460 : x12_1 < (l0_1.length : Int) := of_decide_eq_true tA
       obtain ⟨ad460, e460, hx460_0, hx460_1, hx460_2, hx460_3, hx460_4, hx460_5⟩ := at_T104 HR0_1.out x12_1 p460 q460
       cases e460
       replace hx460_0 := hbc HB hx460_0
       replace hx460_1 := hbc HB hx460_1
       replace hx460_2 := hbc HB hx460_2
       replace hx460_3 := hbc HB hx460_3
       replace hx460_4 := hbc HB hx460_4
       replace hx460_5 := hbc HB hx460_5
       replace p460 := eq_true p460
       replace q460 := eq_true q460
       go_wp2_with (first | ((with_reducible refine gate_dst (N := 7) rfl ?_); refine box_event ?hg (N := 7) ?hd (cs := #[.int .i64 0, .int .i64 0, .int .i64 0, .int .i64 0, .int .i64 0, .int .i64 0]) (t := 104) ?hr ?_; (case hd => rfl); (case hg => rfl); (case hr => exact tG); intro gb461 hg w17 hbox hb; replace HO_5 := Aside0.mk (Kd.R_below (tR HO_5) hb); have BK461 := Aside0.mk (hbox); have GW461 := gW HB hg; have GE461 := gW HB hg; replace HB := bH HB hb; have NB456_461 := nL BK456 hg; have NB461_456 := nR BK456 hg; replace BK456 := bB BK456 hb; clear hb hbox hg; have hnb18 := NB461_456.out; have hnc18 := NB456_461.out; obtain ⟨hcz19_0, hcz19_1, hcz19_2, hcz19_3, hcz19_4, hcz19_5, hfz19_0, hfz19_1, hfz19_2, hfz19_3, hfz19_4, hfz19_5⟩ := bc6 BK461.out))
       go_roundg k1
       case measure => have := HK1.out; omega
       case rel => exact ⟨(x5_1), (wrap64 (x12_1 + 1)), tS, H', ⟨tI⟩, ⟨by (with_reducible repeat (first | apply Kd.R_alloc | apply Kd.R_drewN | apply Kd.R_drew)); exact Kd.R_mono (Kd.R_far (p := ⟨gb461, 5, none⟩) (Kd.R_far (p := ⟨gb461, 4, none⟩) (Kd.R_far (p := ⟨gb461, 3, none⟩) (Kd.R_far (p := ⟨gb461, 2, none⟩) (Kd.R_far (p := ⟨gb461, 1, none⟩) (Kd.R_far (p := ⟨gb461, 0, none⟩) (Kd.R_types HO_5.out BK461.out (by decide)) (fun _ hk => hk.2) (.int .i64 ((rd_T104 l0_1 x12_1).f0))) (fun _ hk => hk.2) (.int .i64 ((rd_T104 l0_1 x12_1).f1))) (fun _ hk => hk.2) (.int .i64 ((rd_T104 l0_1 x12_1).f2))) (fun _ hk => hk.2) (.int .i64 ((rd_T104 l0_1 x12_1).f3))) (fun _ hk => hk.2) (.int .i64 ((rd_T104 l0_1 x12_1).f4))) (fun _ hk => hk.2) (.int .i64 ((rd_T104 l0_1 x12_1).f5))) (fun _ hk => trivial)⟩, ⟨kF NB456_461 BK456⟩, ⟨tB⟩⟩
      rw [if_neg c10] at H
      have c10b0 : (((rd_T104 l0_1 x12_1).f5) == 1) = false := beq_eq_false_iff_ne.mpr c10
      have c10b1 : (((rd_T104 l0_1 x12_1).f5) != 1) = true := bne_iff_ne.mpr c10
      have H' := Aside0.mk H
      clear H
      have p460 : 0 ≤ (x12_1 : Int) := of_decide_eq_true tA
      have q460 : x12_1 < (l0_1.length : Int) := of_decide_eq_true tA
      obtain ⟨ad460, e460, hx460_0, hx460_1, hx460_2, hx460_3, hx460_4, hx460_5⟩ := at_T104 HR0_1.out x12_1 p460 q460
      cases e460
      replace hx460_0 := hbc HB hx460_0
      replace hx460_1 := hbc HB hx460_1
      replace hx460_2 := hbc HB hx460_2
      replace hx460_3 := hbc HB hx460_3
      replace hx460_4 := hbc HB hx460_4
      replace hx460_5 := hbc HB hx460_5
      replace p460 := eq_true p460
      replace q460 := eq_true q460
      go_wp2_with (first | ((with_reducible refine gate_dst (N := 7) rfl ?_); refine box_event ?hg (N := 7) ?hd (cs := #[.int .i64 0, .int .i64 0, .int .i64 0, .int .i64 0, .int .i64 0, .int .i64 0]) (t := 104) ?hr ?_; (case hd => rfl); (case hg => rfl); (case hr => exact tG); intro gb461 hg w20 hbox hb; replace HO_5 := Aside0.mk (Kd.R_below (tR HO_5) hb); have BK461 := Aside0.mk (hbox); have GW461 := gW HB hg; have GE461 := gW HB hg; replace HB := bH HB hb; have NB456_461 := nL BK456 hg; have NB461_456 := nR BK456 hg; replace BK456 := bB BK456 hb; clear hb hbox hg; have hnb21 := NB461_456.out; have hnc21 := NB456_461.out; obtain ⟨hcz22_0, hcz22_1, hcz22_2, hcz22_3, hcz22_4, hcz22_5, hfz22_0, hfz22_1, hfz22_2, hfz22_3, hfz22_4, hfz22_5⟩ := bc6 BK461.out))
      go_roundg k1
      case measure => have := HK1.out; omega
      case rel => exact ⟨(x5_1), (wrap64 (x12_1 + 1)), tS, H', ⟨tI⟩, ⟨by (with_reducible repeat (first | apply Kd.R_alloc | apply Kd.R_drewN | apply Kd.R_drew)); exact Kd.R_mono (Kd.R_far (p := ⟨gb461, 5, none⟩) (Kd.R_far (p := ⟨gb461, 4, none⟩) (Kd.R_far (p := ⟨gb461, 3, none⟩) (Kd.R_far (p := ⟨gb461, 2, none⟩) (Kd.R_far (p := ⟨gb461, 1, none⟩) (Kd.R_far (p := ⟨gb461, 0, none⟩) (Kd.R_types HO_5.out BK461.out (by decide)) (fun _ hk => hk.2) (.int .i64 ((rd_T104 l0_1 x12_1).f0))) (fun _ hk => hk.2) (.int .i64 ((rd_T104 l0_1 x12_1).f1))) (fun _ hk => hk.2) (.int .i64 ((rd_T104 l0_1 x12_1).f2))) (fun _ hk => hk.2) (.int .i64 ((rd_T104 l0_1 x12_1).f3))) (fun _ hk => hk.2) (.int .i64 ((rd_T104 l0_1 x12_1).f4))) (fun _ hk => hk.2) (.int .i64 ((rd_T104 l0_1 x12_1).f5))) (fun _ hk => trivial)⟩, ⟨kF NB456_461 BK456⟩, ⟨tB⟩⟩
     rw [if_neg c9] at H
     exact absurd H (by simp)
    rw [if_neg c8] at H
    exact absurd H (by simp)
   rw [if_neg c7] at H
   have c7b0 : decide (x12_1 < (l0_1.length : Int)) = false := decide_eq_false c7
   clear c7
   obtain rfl := Option.some.inj H
   go_wp2
   go_ret
   exact ⟨_, tE, tR HO_5, tB⟩

end Go.Proofs.Ytjggdakbphjomaa.ZFnClaims
