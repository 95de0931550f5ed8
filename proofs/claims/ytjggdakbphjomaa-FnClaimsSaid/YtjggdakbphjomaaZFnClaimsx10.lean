/- The machine side: for each Go function a Lean function and the contract that the Go code answers as it does; printed by program (wip/tmpl/pprint.sh). -/
import Derived.Test.YtjggdakbphjomaaZFnClaimsx0
namespace Go.Proofs.Ytjggdakbphjomaa.ZFnClaims
open Go.RowKit Go.Proofs.YtjggdakbphjomaaW.PrintWords Go.Proofs.YtjggdakbphjomaaW.PrintLast Go.Proofs.YtjggdakbphjomaaW.PrintMore
attribute [local go_sem] max2_int min2_int max_two min_two max_three min_three max_four min_four   -- for this text's walks alone
set_option linter.unusedVariables false
set_option linter.unusedSimpArgs false

/-! ### spec_l28Find: function 73 -/
def spec_l28Find.l0 : Nat → Int → Int → Int → List (S104) → Option (Int)
 | 0, _, _, _, _ => none
 | k + 1, x1, x5, x271000, x271001 => if x5 < (x271001.length : Int) then (if 0 ≤ x5 then (if ((rd_T104 x271001 x5).f0) = x1 then (some x5) else (spec_l28Find.l0 k x1 (wrap64 (x5 + 1)) x271000 x271001)) else (none)) else (some (-1))
def spec_l28Find.f (k : Nat) (a0_0 : Int) (l0_1 : List (S104)) (a1 : Int) : Option (Int) := spec_l28Find.l0 k a1 0 a0_0 l0_1
theorem spec_l28Find.mono_l : ∀ k, (∀ y0 y1 y2 y3, LeO (spec_l28Find.l0 k y0 y1 y2 y3) (spec_l28Find.l0 (k + 1) y0 y1 y2 y3))
 | 0 => fun _ _ _ _ r h => by simp [spec_l28Find.l0] at h
 | k + 1 => by
  have ih0 := spec_l28Find.mono_l k
  ·intro y0 y1 y2 y3
   unfold spec_l28Find.l0
   repeat' first
   | (with_reducible exact ih0 _ _ _ _)
   | (with_reducible exact LeO.refl _)
   | (with_reducible exact LeO.none _)
   | (with_reducible refine LeO.ite ?_ ?_)
   | (with_reducible refine LeO.bind ?_ (fun _ => ?_))
   | exact ih0 _ _ _ _
   | exact LeO.none _
   | refine LeO.ite ?_ ?_
   | refine LeO.bind ?_ (fun _ => ?_)
theorem spec_l28Find.mono : ∀ a0 a1 a2 k, LeO (spec_l28Find.f k a0 a1 a2) (spec_l28Find.f (k + 1) a0 a1 a2) := by
 intro a0 a1 a2 k
 have ih0 := spec_l28Find.mono_l k
 unfold spec_l28Find.f
 repeat' first
   | (with_reducible exact ih0 _ _ _ _)
   | (with_reducible exact LeO.refl _)
   | (with_reducible exact LeO.none _)
   | (with_reducible refine LeO.ite ?_ ?_)
   | (with_reducible refine LeO.bind ?_ (fun _ => ?_))
   | exact ih0 _ _ _ _
   | exact LeO.none _
   | refine LeO.ite ?_ ?_
   | refine LeO.bind ?_ (fun _ => ?_)
set_option maxHeartbeats 8000000 in
set_option maxRecDepth 100000 in
theorem spec_l28Find.calls (k : Nat) (a0_0 : Int) (A0_1 : Option Addr) (c0_1 : Nat) (l0_1 : List (S104)) (a1 : Int) (r : Int) (w : World) (hr0_1 : Kd.C k104 w A0_1 l0_1.length l0_1) (hc0_1 : l0_1.length ≤ c0_1) (h : spec_l28Find.f k a0_0 l0_1 a1 = some r) :
  Calls Try.prog 73 #[.agg #[.int .i64 a0_0, .slice A0_1 l0_1.length c0_1], .int .i64 a1] w fun e w' => e = .returned (.int .i64 r) ∧ Below w.heap.size w w' := by
 have hu35 := Try.underlying35
 have HR0_1 := Aside0.mk hr0_1
 have HC0_1 := Aside0.mk hc0_1
 clear hr0_1 hc0_1
 have HB := Aside0.mk (Below.refl w.heap.size w)
 have H : (spec_l28Find.l0 k a1 0 a0_0 l0_1) = some r := h
 clear h
 have H' := Aside0.mk H
 clear H
 go_enter Try.func73, Try.ntmps73
 go_wp2_with (first | ((with_reducible refine gate_dst (N := 2) rfl ?_); refine box_event ?hg (N := 2) ?hd (cs := #[.int .i64 a0_0, .slice A0_1 l0_1.length c0_1]) (t := 35) ?hr ?_; (case hd => rfl); (case hg => rfl); (case hr => exact tG); intro gb270 hg w3 hbox hb; have BK270 := Aside0.mk (hbox); have GW270 := gW HB hg; have GE270 := gW HB hg; replace HB := bH HB hb; clear hb hbox hg))
 go_loopg [5] k (fun kq v5 w' => ∃ (x5_1 : Int), v5 = .int .i64 x5_1 ∧ Aside0 (spec_l28Find.l0 kq a1 x5_1 a0_0 l0_1 = some r) ∧ Aside0 (kq ≤ k) ∧ Aside0 (w'.heap[gb270]? = some (.cells #[.int .i64 a0_0, (.slice A0_1 l0_1.length c0_1)] 35 (0, 0))) ∧ Aside0 (Below w.heap.size w w'))
 case atStart => exact ⟨(0), tS, H', ⟨Nat.le_refl _⟩, ⟨tK BK270⟩, ⟨tB⟩⟩
 case round =>
  clear H'
  try clear p2
  obtain ⟨x5_1, rfl, HA, HK1, BK270, HB⟩ := hrel
  cases gk with
  | zero => exact absurd HA.out (by simp [spec_l28Find.l0])
  | succ k1 =>
   have H := HA.out
   clear HA
   simp only [spec_l28Find.l0] at H
   by_cases c4 : x5_1 < (l0_1.length : Int)
   ·rw [if_pos c4] at H
    have c4b0 : decide (x5_1 < (l0_1.length : Int)) = true := decide_eq_true c4
    clear c4
    by_cases c5 : 0 ≤ x5_1
    ·rw [if_pos c5] at H
     have c5b0 : decide (0 ≤ x5_1) = true := decide_eq_true c5
     clear c5
     by_cases c6 : ((rd_T104 l0_1 x5_1).f0) = a1
     ·rw [if_pos c6] at H
      have c6b0 : (((rd_T104 l0_1 x5_1).f0) == a1) = true := beq_iff_eq.mpr c6
      have c6b1 : (((rd_T104 l0_1 x5_1).f0) != a1) = false := bne_eq_false_iff_eq.mpr c6
      clear c6
      obtain rfl := Option.some.inj H
      obtain ⟨hcz7_0, hcz7_1, hfz7_0, hfz7_1⟩ := bc2 BK270.out
      have p271 : 0 ≤ (x5_1 : Int) := of_decide_eq_true tA
      have q271 : x5_1 < (l0_1.length : Int) := of_decide_eq_true tA
      obtain ⟨ad271, e271, hx271_0, hx271_1, hx271_2, hx271_3, hx271_4, hx271_5⟩ := at_T104 HR0_1.out x5_1 p271 q271
      cases e271
      replace hx271_0 := hbc HB hx271_0
      replace hx271_1 := hbc HB hx271_1
      replace hx271_2 := hbc HB hx271_2
      replace hx271_3 := hbc HB hx271_3
      replace hx271_4 := hbc HB hx271_4
      replace hx271_5 := hbc HB hx271_5
      replace p271 := eq_true p271
      replace q271 := eq_true q271
      go_wp2
      go_ret
      exact ⟨tE, tB⟩
     rw [if_neg c6] at H
     have c6b0 : (((rd_T104 l0_1 x5_1).f0) == a1) = false := beq_eq_false_iff_ne.mpr c6
     have c6b1 : (((rd_T104 l0_1 x5_1).f0) != a1) = true := bne_iff_ne.mpr c6
     have H' := Aside0.mk H
     clear H
     obtain ⟨hcz8_0, hcz8_1, hfz8_0, hfz8_1⟩ := bc2 BK270.out
     have p271 : 0 ≤ (x5_1 : Int) := of_decide_eq_true tA
     have q271 : x5_1 < (l0_1.length : Int) := of_decide_eq_true tA
     obtain ⟨ad271, e271, hx271_0, hx271_1, hx271_2, hx271_3, hx271_4, hx271_5⟩ := at_T104 HR0_1.out x5_1 p271 q271
     cases e271
     replace hx271_0 := hbc HB hx271_0
     replace hx271_1 := hbc HB hx271_1
     replace hx271_2 := hbc HB hx271_2
     replace hx271_3 := hbc HB hx271_3
     replace hx271_4 := hbc HB hx271_4
     replace hx271_5 := hbc HB hx271_5
     replace p271 := eq_true p271
     replace q271 := eq_true q271
     go_wp2
     go_roundg k1
     case measure => have := HK1.out; omega
     case rel => exact ⟨(wrap64 (x5_1 + 1)), tS, H', ⟨tI⟩, ⟨tK BK270⟩, ⟨tB⟩⟩
    rw [if_neg c5] at H
    exact absurd H (by simp)
   rw [if_neg c4] at H
   have c4b0 : decide (x5_1 < (l0_1.length : Int)) = false := decide_eq_false c4
   clear c4
   obtain rfl := Option.some.inj H
   obtain ⟨hcz9_0, hcz9_1, hfz9_0, hfz9_1⟩ := bc2 BK270.out
   go_wp2
   go_ret
   exact ⟨tE, tB⟩

end Go.Proofs.Ytjggdakbphjomaa.ZFnClaims
