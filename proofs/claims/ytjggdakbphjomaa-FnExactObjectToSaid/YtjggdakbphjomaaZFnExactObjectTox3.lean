/- The machine side: for each Go function a Lean function and the contract that the Go code answers as it does; printed by program (wip/tmpl/pprint.sh). -/
import Derived.Test.YtjggdakbphjomaaZFnExactObjectTox0
namespace Go.Proofs.Ytjggdakbphjomaa.ZFnExactObjectTo
open Go.RowKit Go.Proofs.YtjggdakbphjomaaW.PrintWords Go.Proofs.YtjggdakbphjomaaW.PrintLast Go.Proofs.YtjggdakbphjomaaW.PrintMore
attribute [local go_sem] max2_int min2_int max_two min_two max_three min_three max_four min_four   -- for this text's walks alone
set_option linter.unusedVariables false
set_option linter.unusedSimpArgs false

/-! ### spec_OpenClaims: function 121 -/
def spec_OpenClaims.l0 : Nat → Int → List Int → Int → Int → List (S104) → Option (List Int)
 | 0, _, _, _, _, _ => none
 | k + 1, x1, x5, x6, x159000, x159001 => if x6 < (x159001.length : Int) then (if 0 ≤ x6 then (if ((rd_T104 x159001 x6).f1) = x1 then (if ((rd_T104 x159001 x6).f5) = 1 then (if x5.length < 17592186044416 then (spec_OpenClaims.l0 k x1 (x5 ++ [(rd_T104 x159001 x6).f0]) (wrap64 (x6 + 1)) x159000 x159001) else (none)) else (spec_OpenClaims.l0 k x1 x5 (wrap64 (x6 + 1)) x159000 x159001)) else (spec_OpenClaims.l0 k x1 x5 (wrap64 (x6 + 1)) x159000 x159001)) else (none)) else (some x5)
def spec_OpenClaims.f (k : Nat) (a0_0 : Int) (l0_1 : List (S104)) (a1 : Int) : Option (List Int) := spec_OpenClaims.l0 k a1 (([] : List Int)) 0 a0_0 l0_1
theorem spec_OpenClaims.mono_l : ∀ k, (∀ y0 y1 y2 y3 y4, LeO (spec_OpenClaims.l0 k y0 y1 y2 y3 y4) (spec_OpenClaims.l0 (k + 1) y0 y1 y2 y3 y4))
 | 0 => fun _ _ _ _ _ r h => by simp [spec_OpenClaims.l0] at h
 | k + 1 => by
  have ih0 := spec_OpenClaims.mono_l k
  ·intro y0 y1 y2 y3 y4
   unfold spec_OpenClaims.l0
   repeat' first
   | (with_reducible exact ih0 _ _ _ _ _)
   | (with_reducible exact LeO.refl _)
   | (with_reducible exact LeO.none _)
   | (with_reducible refine LeO.ite ?_ ?_)
   | (with_reducible refine LeO.bind ?_ (fun _ => ?_))
   | exact ih0 _ _ _ _ _
   | exact LeO.none _
   | refine LeO.ite ?_ ?_
   | refine LeO.bind ?_ (fun _ => ?_)
theorem spec_OpenClaims.mono : ∀ a0 a1 a2 k, LeO (spec_OpenClaims.f k a0 a1 a2) (spec_OpenClaims.f (k + 1) a0 a1 a2) := by
 intro a0 a1 a2 k
 have ih0 := spec_OpenClaims.mono_l k
 unfold spec_OpenClaims.f
 repeat' first
   | (with_reducible exact ih0 _ _ _ _ _)
   | (with_reducible exact LeO.refl _)
   | (with_reducible exact LeO.none _)
   | (with_reducible refine LeO.ite ?_ ?_)
   | (with_reducible refine LeO.bind ?_ (fun _ => ?_))
   | exact ih0 _ _ _ _ _
   | exact LeO.none _
   | refine LeO.ite ?_ ?_
   | refine LeO.bind ?_ (fun _ => ?_)
set_option maxHeartbeats 8000000 in
set_option maxRecDepth 100000 in
theorem spec_OpenClaims.calls (k : Nat) (a0_0 : Int) (A0_1 : Option Addr) (c0_1 : Nat) (l0_1 : List (S104)) (a1 : Int) (r : List Int) (w : World) (hr0_1 : Kd.C k104 w A0_1 l0_1.length l0_1) (hc0_1 : l0_1.length ≤ c0_1) (h : spec_OpenClaims.f k a0_0 l0_1 a1 = some r) :
  Calls Try.prog 121 #[.agg #[.int .i64 a0_0, .slice A0_1 l0_1.length c0_1], .int .i64 a1] w fun e w' => ∃ v0_ : Value, e = .returned (v0_) ∧ Kd.R (Kd.int .i64) 3 w' w.heap.size (fun _ => True) v0_ r ∧ Below w.heap.size w w' := by
 have hu35 := Try.underlying35
 have HR0_1 := Aside0.mk hr0_1
 have HC0_1 := Aside0.mk hc0_1
 clear hr0_1 hc0_1
 have HB := Aside0.mk (Below.refl w.heap.size w)
 have H : (spec_OpenClaims.l0 k a1 (([] : List Int)) 0 a0_0 l0_1) = some r := h
 clear h
 obtain ⟨y159, hy159⟩ : ∃ y_ : List Int, y_ = (([] : List Int)) := ⟨_, rfl⟩
 replace H : (spec_OpenClaims.l0 k a1 y159 0 a0_0 l0_1) = some r := by first | (rw [hy159]; with_reducible exact H) | (have H2_ := (Option.bind_some _ _).symm.trans H; rw [hy159]; with_reducible exact H2_) | (have H2_ := (Option.bind_some _ _).symm.trans H; with_reducible exact H2_) | with_reducible exact H | (rw [hy159]; exact H) | exact H
 have Ny159 := Aside0.mk hy159
 clear hy159
 have H' := Aside0.mk H
 clear H
 go_enter Try.func121, Try.ntmps121
 go_wp2_with (first | ((with_reducible refine gate_dst (N := 2) rfl ?_); refine box_event ?hg (N := 2) ?hd (cs := #[.int .i64 a0_0, .slice A0_1 l0_1.length c0_1]) (t := 35) ?hr ?_; (case hd => rfl); (case hg => rfl); (case hr => exact tG); intro gb158 hg w3 hbox hb; have n0_ := Aside0.mk (below_step tB hb); have n1_ := Aside0.mk (hbox); have n2_ := Aside0.mk ((by rw [hg]; exact (below_size tB) : w.heap.size ≤ gb158)); have n3_ := Aside0.mk ((by rw [hg]; exact (below_size tB) : w.heap.size ≤ gb158)); clear HB; have HB := n0_; have BK158 := n1_; have GW158 := n2_; have GE158 := n3_; clear n0_ n1_ n2_ n3_; clear hb hbox hg) | ((with_reducible refine gate_dst (N := 7) rfl ?_); refine Kd.R_lit (Kd.int .i64) _ 3 ?hg (N := 7) ?hd (xs := ([] : List Int)) (inner := []) (ok := fun _ => True) (okp := fun _ => True) ?hr ?hp (fun _ hk => hk) trivial (Below.refl _ _) (Nat.le_refl _) (by simp) ?_; (case hd => rfl); (case hg => rfl); (case hr => exact tG); (case hp => exact (Reps.none _ _)); intro v160 w4 ho5 hb hg_ hnew_; clear hg_ hnew_; (first | rw [← Ny159.out] at ho5 | (simp only [Int.reduceToNat] at ho5; rw [← Ny159.out] at ho5)); have n0_ := Aside0.mk (Kd.R_lower ho5 (below_size tB)); have n1_ := Aside0.mk (blk_below (g := gb158) (o := .cells #[.int .i64 a0_0, .slice A0_1 l0_1.length c0_1] 35 (0, 0)) (tK BK158) hb); have n2_ := Aside0.mk (below_step tB hb); clear BK158; clear HB; have HO161 := n0_; have BK158 := n1_; have HB := n2_; clear n0_ n1_ n2_; clear hb ho5))
 go_loopg [5, 6] k (fun kq v5 v6 w' => ∃ (x5_1 : List Int) (x6_1 : Int), v6 = .int .i64 x6_1 ∧ Aside0 (spec_OpenClaims.l0 kq a1 x5_1 x6_1 a0_0 l0_1 = some r) ∧ Aside0 (kq ≤ k) ∧ Aside0 (Kd.R (Kd.int .i64) 3 w' w.heap.size (fun _ => True) v5 x5_1) ∧ Aside0 (w'.heap[gb158]? = some (.cells #[.int .i64 a0_0, (.slice A0_1 l0_1.length c0_1)] 35 (0, 0))) ∧ Aside0 (Below w.heap.size w w'))
 case atStart => exact ⟨(y159), (0), tS, H', ⟨Nat.le_refl _⟩, ⟨tR HO161⟩, ⟨tK BK158⟩, ⟨tB⟩⟩
 case round =>
  clear H'
  try clear c1
  try clear p2
  obtain ⟨x5_1, x6_1, rfl, HA, HK1, HO_5, BK158, HB⟩ := hrel
  cases gk with
  | zero => exact absurd HA.out (by simp [spec_OpenClaims.l0])
  | succ k1 =>
   have H := HA.out
   clear HA
   simp only [spec_OpenClaims.l0] at H
   by_cases c6 : x6_1 < (l0_1.length : Int)
   ·rw [if_pos c6] at H
    have c6b0 : decide (x6_1 < (l0_1.length : Int)) = true := decide_eq_true c6
    clear c6
    by_cases c7 : 0 ≤ x6_1
    ·rw [if_pos c7] at H
     have c7b0 : decide (0 ≤ x6_1) = true := decide_eq_true c7
     clear c7
     by_cases c8 : ((rd_T104 l0_1 x6_1).f1) = a1
     ·rw [if_pos c8] at H
      have c8b0 : (((rd_T104 l0_1 x6_1).f1) == a1) = true := beq_iff_eq.mpr c8
      have c8b1 : (((rd_T104 l0_1 x6_1).f1) != a1) = false := bne_eq_false_iff_eq.mpr c8
      clear c8
      by_cases c9 : ((rd_T104 l0_1 x6_1).f5) = 1
      ·rw [if_pos c9] at H
       have c9b0 : (((rd_T104 l0_1 x6_1).f5) == 1) = true := beq_iff_eq.mpr c9
       have c9b1 : (((rd_T104 l0_1 x6_1).f5) != 1) = false := bne_eq_false_iff_eq.mpr c9
       clear c9
       by_cases c10 : x5_1.length < 17592186044416
       ·rw [if_pos c10] at H
        have LMc10 := Aside0.mk c10
        clear c10
        obtain ⟨y165, hy165⟩ : ∃ y_ : List Int, y_ = (x5_1 ++ [(rd_T104 l0_1 x6_1).f0]) := ⟨_, rfl⟩
        replace H : (spec_OpenClaims.l0 k1 a1 y165 (wrap64 (x6_1 + 1)) a0_0 l0_1) = some r := by first | (rw [hy165]; with_reducible exact H) | (have H2_ := (Option.bind_some _ _).symm.trans H; rw [hy165]; with_reducible exact H2_) | (have H2_ := (Option.bind_some _ _).symm.trans H; with_reducible exact H2_) | with_reducible exact H | (rw [hy165]; exact H) | exact H
        have Ny165 := Aside0.mk hy165
        clear hy165
        have H' := Aside0.mk H
        clear H
        obtain ⟨hcz11_0, hcz11_1, hfz11_0, hfz11_1⟩ := bc2 BK158.out
        have p162 : 0 ≤ (x6_1 : Int) := of_decide_eq_true tA
        have q162 : x6_1 < (l0_1.length : Int) := of_decide_eq_true tA
        obtain ⟨ad162, e162, hx162_0, hx162_1, hx162_2, hx162_3, hx162_4, hx162_5⟩ := at_T104 HR0_1.out x6_1 p162 q162
        cases e162
        replace hx162_0 := hbc HB hx162_0
        replace hx162_1 := hbc HB hx162_1
        replace hx162_2 := hbc HB hx162_2
        replace hx162_3 := hbc HB hx162_3
        replace hx162_4 := hbc HB hx162_4
        replace hx162_5 := hbc HB hx162_5
        replace p162 := eq_true p162
        replace q162 := eq_true q162
        have p163 : 0 ≤ (x6_1 : Int) := of_decide_eq_true tA
        have q163 : x6_1 < (l0_1.length : Int) := of_decide_eq_true tA
        obtain ⟨ad163, e163, hx163_0, hx163_1, hx163_2, hx163_3, hx163_4, hx163_5⟩ := at_T104 HR0_1.out x6_1 p163 q163
        obtain rfl : ad162 = ad163 := (by injection e163)
        replace hx163_0 := hbc HB hx163_0
        replace hx163_1 := hbc HB hx163_1
        replace hx163_2 := hbc HB hx163_2
        replace hx163_3 := hbc HB hx163_3
        replace hx163_4 := hbc HB hx163_4
        replace hx163_5 := hbc HB hx163_5
        replace p163 := eq_true p163
        replace q163 := eq_true q163
        have p164 : 0 ≤ (x6_1 : Int) := of_decide_eq_true tA
        have q164 : x6_1 < (l0_1.length : Int) := of_decide_eq_true tA
        obtain ⟨ad164, e164, hx164_0, hx164_1, hx164_2, hx164_3, hx164_4, hx164_5⟩ := at_T104 HR0_1.out x6_1 p164 q164
        obtain rfl : ad162 = ad164 := (by injection e164)
        replace hx164_0 := hbc HB hx164_0
        replace hx164_1 := hbc HB hx164_1
        replace hx164_2 := hbc HB hx164_2
        replace hx164_3 := hbc HB hx164_3
        replace hx164_4 := hbc HB hx164_4
        replace hx164_5 := hbc HB hx164_5
        replace p164 := eq_true p164
        replace q164 := eq_true q164
        go_wp2_with (first | ((with_reducible refine gate_builtin (b := .append) (xs := #[.tmp 32, .tmp 39]) rfl ?_); at_builtin; refine Kd.R_append (Kd.int .i64) (w0 := w) w.heap.size rfl (.tmp 32) (.tmp 39) 46 3 (.int .i64 0) 8 rfl Try.underlying46 info3 rfl (by decide) (by omega) u5 x5_1 ((rd_T104 l0_1 x6_1).f0) [.int .i64 ((rd_T104 l0_1 x6_1).f0)] (fun _ => True) (fun _ => False) rfl rfl ?aP (fun _ hk => hk.elim) ?aF ?aO ?aB ?aS ?aL ?_; (case aP => exact rfl); (case aB => exact tB); (case aF => exact (fun _ _ => trivial)); (case aO => exact (tR HO_5)); (case aS => exact (below_size tB)); (case aL => have := LMc10.out; omega); intro v166 w12 ho hb hg hat; rw [← Ny165.out] at ho; have n0_ := Aside0.mk (blk_grown (g := gb158) (o := .cells #[.int .i64 a0_0, .slice (some ad162) l0_1.length c0_1] 35 (0, 0)) (tK BK158) hg (Kd.R_ne HO_5.out BK158.out (by decide))); have n1_ := Aside0.mk (hb); have n2_ := Aside0.mk (ho); clear BK158; clear HB; clear HO_5; have BK158 := n0_; have HB := n1_; have HO167 := n2_; clear n0_ n1_ n2_; clear ho hb hg hat))
        go_roundg k1
        case measure => have := HK1.out; omega
        case rel => exact ⟨(y165), (wrap64 (x6_1 + 1)), tS, H', ⟨tI⟩, ⟨tR HO167⟩, ⟨tK BK158⟩, ⟨tB⟩⟩
       ·rw [if_neg c10] at H
        exact absurd H (by simp)
      ·rw [if_neg c9] at H
       have c9b0 : (((rd_T104 l0_1 x6_1).f5) == 1) = false := beq_eq_false_iff_ne.mpr c9
       have c9b1 : (((rd_T104 l0_1 x6_1).f5) != 1) = true := bne_iff_ne.mpr c9
       have H' := Aside0.mk H
       clear H
       obtain ⟨hcz13_0, hcz13_1, hfz13_0, hfz13_1⟩ := bc2 BK158.out
       have p162 : 0 ≤ (x6_1 : Int) := of_decide_eq_true tA
       have q162 : x6_1 < (l0_1.length : Int) := of_decide_eq_true tA
       obtain ⟨ad162, e162, hx162_0, hx162_1, hx162_2, hx162_3, hx162_4, hx162_5⟩ := at_T104 HR0_1.out x6_1 p162 q162
       cases e162
       replace hx162_0 := hbc HB hx162_0
       replace hx162_1 := hbc HB hx162_1
       replace hx162_2 := hbc HB hx162_2
       replace hx162_3 := hbc HB hx162_3
       replace hx162_4 := hbc HB hx162_4
       replace hx162_5 := hbc HB hx162_5
       replace p162 := eq_true p162
       replace q162 := eq_true q162
       have p163 : 0 ≤ (x6_1 : Int) := of_decide_eq_true tA
       have q163 : x6_1 < (l0_1.length : Int) := of_decide_eq_true tA
       obtain ⟨ad163, e163, hx163_0, hx163_1, hx163_2, hx163_3, hx163_4, hx163_5⟩ := at_T104 HR0_1.out x6_1 p163 q163
       obtain rfl : ad162 = ad163 := (by injection e163)
       replace hx163_0 := hbc HB hx163_0
       replace hx163_1 := hbc HB hx163_1
       replace hx163_2 := hbc HB hx163_2
       replace hx163_3 := hbc HB hx163_3
       replace hx163_4 := hbc HB hx163_4
       replace hx163_5 := hbc HB hx163_5
       replace p163 := eq_true p163
       replace q163 := eq_true q163
       go_wp2
       go_roundg k1
       case measure => have := HK1.out; omega
       case rel => exact ⟨(x5_1), (wrap64 (x6_1 + 1)), tS, H', ⟨tI⟩, ⟨tR HO_5⟩, ⟨tK BK158⟩, ⟨tB⟩⟩
     ·rw [if_neg c8] at H
      have c8b0 : (((rd_T104 l0_1 x6_1).f1) == a1) = false := beq_eq_false_iff_ne.mpr c8
      have c8b1 : (((rd_T104 l0_1 x6_1).f1) != a1) = true := bne_iff_ne.mpr c8
      have H' := Aside0.mk H
      clear H
      obtain ⟨hcz14_0, hcz14_1, hfz14_0, hfz14_1⟩ := bc2 BK158.out
      have p162 : 0 ≤ (x6_1 : Int) := of_decide_eq_true tA
      have q162 : x6_1 < (l0_1.length : Int) := of_decide_eq_true tA
      obtain ⟨ad162, e162, hx162_0, hx162_1, hx162_2, hx162_3, hx162_4, hx162_5⟩ := at_T104 HR0_1.out x6_1 p162 q162
      cases e162
      replace hx162_0 := hbc HB hx162_0
      replace hx162_1 := hbc HB hx162_1
      replace hx162_2 := hbc HB hx162_2
      replace hx162_3 := hbc HB hx162_3
      replace hx162_4 := hbc HB hx162_4
      replace hx162_5 := hbc HB hx162_5
      replace p162 := eq_true p162
      replace q162 := eq_true q162
      go_wp2
      go_roundg k1
      case measure => have := HK1.out; omega
      case rel => exact ⟨(x5_1), (wrap64 (x6_1 + 1)), tS, H', ⟨tI⟩, ⟨tR HO_5⟩, ⟨tK BK158⟩, ⟨tB⟩⟩
    ·rw [if_neg c7] at H
     exact absurd H (by simp)
   ·rw [if_neg c6] at H
    have c6b0 : decide (x6_1 < (l0_1.length : Int)) = false := decide_eq_false c6
    clear c6
    obtain rfl := Option.some.inj H
    obtain ⟨hcz15_0, hcz15_1, hfz15_0, hfz15_1⟩ := bc2 BK158.out
    go_wp2
    go_ret
    exact ⟨_, tE, tR HO_5, tB⟩

end Go.Proofs.Ytjggdakbphjomaa.ZFnExactObjectTo
