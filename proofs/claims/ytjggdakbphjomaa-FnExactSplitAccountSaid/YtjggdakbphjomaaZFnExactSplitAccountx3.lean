/- The machine side: for each Go function a Lean function and the contract that the Go code answers as it does; printed by program (wip/tmpl/pprint.sh). -/
import Derived.Test.YtjggdakbphjomaaZFnExactSplitAccountx0
import Derived.Test.YtjggdakbphjomaaZFnExactSplitAccountx2
namespace Go.Proofs.Ytjggdakbphjomaa.ZFnExactSplitAccount
open Go.RowKit Go.Proofs.YtjggdakbphjomaaW.PrintWords Go.Proofs.YtjggdakbphjomaaW.PrintLast Go.Proofs.YtjggdakbphjomaaW.PrintMore
attribute [local go_sem] max2_int min2_int max_two min_two max_three min_three max_four min_four   -- for this text's walks alone
set_option linter.unusedVariables false
set_option linter.unusedSimpArgs false

/-! ### spec_IsValidAccount: function 103 -/
mutual
def spec_IsValidAccount.l0 : Nat → Int → Int → Int → List (S123) → Option (Bool)
 | 0, _, _, _, _ => none
 | k + 1, x3, x158000, x158001, x158002 => if x3 < (x158002.length : Int) then (if 0 ≤ x3 then ((spec_l1In.f ((rd_T123 x158002 x3).f0) 0 1000000).bind fun t162 => (if t162 = true then (if x3 > 0 then (if 0 ≤ (wrap64 (x3 - 1)) then (if (wrap64 (x3 - 1)) < (x158002.length : Int) then (if ((rd_T123 x158002 (wrap64 (x3 - 1))).f0) ≥ ((rd_T123 x158002 x3).f0) then (spec_IsValidAccount.j1 k x3 true x158000 x158001 x158002 ((rd_T123 x158002 x3).f0) ((rd_T123 x158002 x3).f1) ((rd_T123 x158002 x3).f2) ((rd_T123 x158002 x3).f3)) else ((spec_PrivateKey.f k ((rd_T123 x158002 x3).f1)).bind fun t164 => (if t164 = 0 then (spec_IsValidAccount.j1 k x3 true x158000 x158001 x158002 ((rd_T123 x158002 x3).f0) ((rd_T123 x158002 x3).f1) ((rd_T123 x158002 x3).f2) ((rd_T123 x158002 x3).f3)) else ((spec_l1In.f ((rd_T123 x158002 x3).f2) 0 1000000).bind fun t165 => (spec_IsValidAccount.j1 k x3 (!t165) x158000 x158001 x158002 ((rd_T123 x158002 x3).f0) ((rd_T123 x158002 x3).f1) ((rd_T123 x158002 x3).f2) ((rd_T123 x158002 x3).f3)))))) else (none)) else (none)) else ((spec_PrivateKey.f k ((rd_T123 x158002 x3).f1)).bind fun t166 => (if t166 = 0 then (spec_IsValidAccount.j1 k x3 true x158000 x158001 x158002 ((rd_T123 x158002 x3).f0) ((rd_T123 x158002 x3).f1) ((rd_T123 x158002 x3).f2) ((rd_T123 x158002 x3).f3)) else ((spec_l1In.f ((rd_T123 x158002 x3).f2) 0 1000000).bind fun t167 => (spec_IsValidAccount.j1 k x3 (!t167) x158000 x158001 x158002 ((rd_T123 x158002 x3).f0) ((rd_T123 x158002 x3).f1) ((rd_T123 x158002 x3).f2) ((rd_T123 x158002 x3).f3)))))) else (spec_IsValidAccount.j1 k x3 true x158000 x158001 x158002 ((rd_T123 x158002 x3).f0) ((rd_T123 x158002 x3).f1) ((rd_T123 x158002 x3).f2) ((rd_T123 x158002 x3).f3)))) else (none)) else ((spec_l1In.f x158000 0 1000000).bind fun t158 => (if t158 = true then ((spec_l1In.f x158001 1 3).bind fun t159 => (if t159 = true then (some (decide ((x158002.length : Int) ≤ 8))) else (some false))) else (some false)))
def spec_IsValidAccount.j1 : Nat → Int → Bool → Int → Int → List (S123) → Int → Int → Int → Bool → Option (Bool)
 | 0, _, _, _, _, _, _, _, _, _ => none
 | k + 1, x3, x49, x158000, x158001, x158002, x162000, x162001, x162002, x162003 => if x49 = true then (some false) else (spec_IsValidAccount.l1 k x3 0 x158000 x158001 x158002 x162000 x162001 x162002 x162003)
def spec_IsValidAccount.l1 : Nat → Int → Int → Int → Int → List (S123) → Int → Int → Int → Bool → Option (Bool)
 | 0, _, _, _, _, _, _, _, _, _ => none
 | k + 1, x3, x5, x158000, x158001, x158002, x162000, x162001, x162002, x162003 => if x5 < x3 then (if 0 ≤ x5 then (if x5 < (x158002.length : Int) then (if ((rd_T123 x158002 x5).f1) = x162001 then (some false) else (spec_IsValidAccount.l1 k x3 (wrap64 (x5 + 1)) x158000 x158001 x158002 x162000 x162001 x162002 x162003)) else (none)) else (none)) else (spec_IsValidAccount.l0 k (wrap64 (x3 + 1)) x158000 x158001 x158002)
end
def spec_IsValidAccount.f (k : Nat) (a0_0 : Int) (a0_1 : Int) (l0_2 : List (S123)) : Option (Bool) := spec_IsValidAccount.l0 k 0 a0_0 a0_1 l0_2
theorem spec_IsValidAccount.mono_l : ∀ k, (∀ y0 y1 y2 y3, LeO (spec_IsValidAccount.l0 k y0 y1 y2 y3) (spec_IsValidAccount.l0 (k + 1) y0 y1 y2 y3)) ∧ (∀ y0 y1 y2 y3 y4 y5 y6 y7 y8, LeO (spec_IsValidAccount.j1 k y0 y1 y2 y3 y4 y5 y6 y7 y8) (spec_IsValidAccount.j1 (k + 1) y0 y1 y2 y3 y4 y5 y6 y7 y8)) ∧ (∀ y0 y1 y2 y3 y4 y5 y6 y7 y8, LeO (spec_IsValidAccount.l1 k y0 y1 y2 y3 y4 y5 y6 y7 y8) (spec_IsValidAccount.l1 (k + 1) y0 y1 y2 y3 y4 y5 y6 y7 y8))
 | 0 => ⟨fun _ _ _ _ r h => by simp [spec_IsValidAccount.l0] at h, fun _ _ _ _ _ _ _ _ _ r h => by simp [spec_IsValidAccount.j1] at h, fun _ _ _ _ _ _ _ _ _ r h => by simp [spec_IsValidAccount.l1] at h⟩
 | k + 1 => by
  obtain ⟨ih0, ih1, ih2⟩ := spec_IsValidAccount.mono_l k
  refine ⟨?_, ?_, ?_⟩
  ·intro y0 y1 y2 y3
   unfold spec_IsValidAccount.l0
   repeat' first
   | (with_reducible exact ih0 _ _ _ _)
   | (with_reducible exact ih1 _ _ _ _ _ _ _ _ _)
   | (with_reducible exact ih2 _ _ _ _ _ _ _ _ _)
   | (with_reducible exact spec_PrivateKey.mono _ _)
   | (with_reducible exact LeO.refl _)
   | (with_reducible exact LeO.none _)
   | (with_reducible refine LeO.ite ?_ ?_)
   | (with_reducible refine LeO.bind ?_ (fun _ => ?_))
   | exact ih0 _ _ _ _
   | exact ih1 _ _ _ _ _ _ _ _ _
   | exact ih2 _ _ _ _ _ _ _ _ _
   | exact spec_PrivateKey.mono _ _
   | exact LeO.none _
   | refine LeO.ite ?_ ?_
   | refine LeO.bind ?_ (fun _ => ?_)
  ·intro y0 y1 y2 y3 y4 y5 y6 y7 y8
   unfold spec_IsValidAccount.j1
   repeat' first
   | (with_reducible exact ih0 _ _ _ _)
   | (with_reducible exact ih1 _ _ _ _ _ _ _ _ _)
   | (with_reducible exact ih2 _ _ _ _ _ _ _ _ _)
   | (with_reducible exact spec_PrivateKey.mono _ _)
   | (with_reducible exact LeO.refl _)
   | (with_reducible exact LeO.none _)
   | (with_reducible refine LeO.ite ?_ ?_)
   | (with_reducible refine LeO.bind ?_ (fun _ => ?_))
   | exact ih0 _ _ _ _
   | exact ih1 _ _ _ _ _ _ _ _ _
   | exact ih2 _ _ _ _ _ _ _ _ _
   | exact spec_PrivateKey.mono _ _
   | exact LeO.none _
   | refine LeO.ite ?_ ?_
   | refine LeO.bind ?_ (fun _ => ?_)
  ·intro y0 y1 y2 y3 y4 y5 y6 y7 y8
   unfold spec_IsValidAccount.l1
   repeat' first
   | (with_reducible exact ih0 _ _ _ _)
   | (with_reducible exact ih1 _ _ _ _ _ _ _ _ _)
   | (with_reducible exact ih2 _ _ _ _ _ _ _ _ _)
   | (with_reducible exact spec_PrivateKey.mono _ _)
   | (with_reducible exact LeO.refl _)
   | (with_reducible exact LeO.none _)
   | (with_reducible refine LeO.ite ?_ ?_)
   | (with_reducible refine LeO.bind ?_ (fun _ => ?_))
   | exact ih0 _ _ _ _
   | exact ih1 _ _ _ _ _ _ _ _ _
   | exact ih2 _ _ _ _ _ _ _ _ _
   | exact spec_PrivateKey.mono _ _
   | exact LeO.none _
   | refine LeO.ite ?_ ?_
   | refine LeO.bind ?_ (fun _ => ?_)
theorem spec_IsValidAccount.mono : ∀ a0 a1 a2 k, LeO (spec_IsValidAccount.f k a0 a1 a2) (spec_IsValidAccount.f (k + 1) a0 a1 a2) := by
 intro a0 a1 a2 k
 obtain ⟨ih0, ih1, ih2⟩ := spec_IsValidAccount.mono_l k
 unfold spec_IsValidAccount.f
 repeat' first
   | (with_reducible exact ih0 _ _ _ _)
   | (with_reducible exact ih1 _ _ _ _ _ _ _ _ _)
   | (with_reducible exact ih2 _ _ _ _ _ _ _ _ _)
   | (with_reducible exact spec_PrivateKey.mono _ _)
   | (with_reducible exact LeO.refl _)
   | (with_reducible exact LeO.none _)
   | (with_reducible refine LeO.ite ?_ ?_)
   | (with_reducible refine LeO.bind ?_ (fun _ => ?_))
   | exact ih0 _ _ _ _
   | exact ih1 _ _ _ _ _ _ _ _ _
   | exact ih2 _ _ _ _ _ _ _ _ _
   | exact spec_PrivateKey.mono _ _
   | exact LeO.none _
   | refine LeO.ite ?_ ?_
   | refine LeO.bind ?_ (fun _ => ?_)
set_option maxHeartbeats 8000000 in
set_option maxRecDepth 100000 in
theorem spec_IsValidAccount.calls (k : Nat) (a0_0 : Int) (a0_1 : Int) (A0_2 : Option Addr) (c0_2 : Nat) (l0_2 : List (S123)) (r : Bool) (w : World) (hr0_2 : Kd.C k123 w A0_2 l0_2.length l0_2) (hc0_2 : l0_2.length ≤ c0_2) (h : spec_IsValidAccount.f k a0_0 a0_1 l0_2 = some r) :
  Calls Try.prog 103 #[.agg #[.int .i64 a0_0, .int .i64 a0_1, .slice A0_2 l0_2.length c0_2]] w fun e w' => e = .returned (.bool r) ∧ Below w.heap.size w w' := by
 have hu76 := Try.underlying76
 have hu123 := Try.underlying123
 have HR0_2 := Aside0.mk hr0_2
 have HC0_2 := Aside0.mk hc0_2
 clear hr0_2 hc0_2
 have HB := Aside0.mk (Below.refl w.heap.size w)
 have H : (spec_IsValidAccount.l0 k 0 a0_0 a0_1 l0_2) = some r := h
 clear h
 have H' := Aside0.mk H
 clear H
 go_enter Try.func103, Try.ntmps103
 go_wp2_with (first | ((with_reducible refine gate_dst (N := 1) rfl ?_); (try (refine gate_guard (by rfl) ?_; dsimp only)); refine box_event ?hg (N := 1) ?hd (cs := #[.int .i64 a0_0, .int .i64 a0_1, .slice A0_2 l0_2.length c0_2]) (t := 76) ?hr ?_; (case hd => rfl); (case hg => rfl); (case hr => exact tG); intro gb157 hg w2 hbox hb; have n0_ := Aside0.mk (below_step tB hb); have n1_ := Aside0.mk (hbox); have n2_ := Aside0.mk ((by rw [hg]; exact (below_size tB) : w.heap.size ≤ gb157)); have n3_ := Aside0.mk ((by rw [hg]; exact (below_size tB) : w.heap.size ≤ gb157)); clear HB; have HB := n0_; have BK157 := n1_; have GW157 := n2_; have GE157 := n3_; clear n0_ n1_ n2_ n3_; clear hb hbox hg))
 repeat (go_quiet (first | ((with_reducible refine gate_dst (N := 1) rfl ?_); (try (refine gate_guard (by rfl) ?_; dsimp only)); refine box_event ?hg (N := 1) ?hd (cs := #[.int .i64 a0_0, .int .i64 a0_1, .slice A0_2 l0_2.length c0_2]) (t := 76) ?hr ?_; (case hd => rfl); (case hg => rfl); (case hr => exact tG); intro gb157 hg w2 hbox hb; have n0_ := Aside0.mk (below_step tB hb); have n1_ := Aside0.mk (hbox); have n2_ := Aside0.mk ((by rw [hg]; exact (below_size tB) : w.heap.size ≤ gb157)); have n3_ := Aside0.mk ((by rw [hg]; exact (below_size tB) : w.heap.size ≤ gb157)); clear HB; have HB := n0_; have BK157 := n1_; have GW157 := n2_; have GE157 := n3_; clear n0_ n1_ n2_ n3_; clear hb hbox hg)); try go_wp2_with (first | ((with_reducible refine gate_dst (N := 1) rfl ?_); (try (refine gate_guard (by rfl) ?_; dsimp only)); refine box_event ?hg (N := 1) ?hd (cs := #[.int .i64 a0_0, .int .i64 a0_1, .slice A0_2 l0_2.length c0_2]) (t := 76) ?hr ?_; (case hd => rfl); (case hg => rfl); (case hr => exact tG); intro gb157 hg w2 hbox hb; have n0_ := Aside0.mk (below_step tB hb); have n1_ := Aside0.mk (hbox); have n2_ := Aside0.mk ((by rw [hg]; exact (below_size tB) : w.heap.size ≤ gb157)); have n3_ := Aside0.mk ((by rw [hg]; exact (below_size tB) : w.heap.size ≤ gb157)); clear HB; have HB := n0_; have BK157 := n1_; have GW157 := n2_; have GE157 := n3_; clear n0_ n1_ n2_ n3_; clear hb hbox hg)))
 go_loopg [3] k (fun kq v3 w' => ∃ (x3_1 : Int), v3 = .int .i64 x3_1 ∧ Aside0 (spec_IsValidAccount.l0 kq x3_1 a0_0 a0_1 l0_2 = some r) ∧ Aside0 (kq ≤ k) ∧ Aside0 (w'.heap[gb157]? = some (.cells #[.int .i64 a0_0, .int .i64 a0_1, (.slice A0_2 l0_2.length c0_2)] 76 (0, 0))) ∧ Aside0 (Below w.heap.size w w'))
 case atStart => exact ⟨(0), tS, H', ⟨Nat.le_refl _⟩, ⟨tK BK157⟩, ⟨tB⟩⟩
 case round =>
  clear H'
  try clear c1
  try clear p2
  obtain ⟨x3_1, rfl, HA, HK1, BK157, HB⟩ := hrel
  cases gk with
  | zero => exact absurd HA.out (by simp [spec_IsValidAccount.l0])
  | succ k1 =>
   have H := HA.out
   clear HA
   simp only [spec_IsValidAccount.l0] at H
   by_cases c3 : x3_1 < (l0_2.length : Int)
   ·rw [if_pos c3] at H
    have c3b0 : decide (x3_1 < (l0_2.length : Int)) = true := decide_eq_true c3
    clear c3
    by_cases c4 : 0 ≤ x3_1
    ·rw [if_pos c4] at H
     have c4b0 : decide (0 ≤ x3_1) = true := decide_eq_true c4
     clear c4
     have HC5 := Aside0.mk H
     clear H
     obtain ⟨hcz6_0, hcz6_1, hcz6_2, hfz6_0, hfz6_1, hfz6_2⟩ := bc3 BK157.out
     have p160 : 0 ≤ (x3_1 : Int) := of_decide_eq_true tA
     have q160 : x3_1 < (l0_2.length : Int) := of_decide_eq_true tA
     obtain ⟨ad160, e160, hx160_0, hx160_1, hx160_2, hx160_3⟩ := at_T123 HR0_2.out x3_1 p160 q160
     cases e160
     replace hx160_0 := hbc HB hx160_0
     replace hx160_1 := hbc HB hx160_1
     replace hx160_2 := hbc HB hx160_2
     replace hx160_3 := hbc HB hx160_3
     replace p160 := eq_true p160
     replace q160 := eq_true q160
     go_upto_region 5 with (first | ((with_reducible refine gate_dst (N := 4) rfl ?_); (try (refine gate_guard (by rfl) ?_; dsimp only)); refine box_event ?hg (N := 4) ?hd (cs := #[.int .i64 0, .int .i64 0, .int .i64 0, .bool false]) (t := 123) ?hr ?_; (case hd => rfl); (case hg => rfl); (case hr => exact tG); intro gb161 hg w7 hbox hb; have n0_ := Aside0.mk (blk_below (g := gb157) (o := .cells #[.int .i64 a0_0, .int .i64 a0_1, .slice (some ad160) l0_2.length c0_2] 76 (0, 0)) (tK BK157) hb); have n1_ := Aside0.mk (below_step tB hb); have n2_ := Aside0.mk (hbox); have n3_ := Aside0.mk ((by rw [hg]; exact (below_size tB) : w.heap.size ≤ gb161)); have n4_ := Aside0.mk ((by rw [hg]; exact (below_size tB) : w.heap.size ≤ gb161)); have n5_ := Aside0.mk ((by rw [hg]; exact Nat.ne_of_lt (blk_lt (g := gb157) (o := .cells #[.int .i64 a0_0, .int .i64 a0_1, .slice (some ad160) l0_2.length c0_2] 76 (0, 0)) (tK BK157)) : gb157 ≠ gb161)); have n6_ := Aside0.mk ((by rw [hg]; exact Nat.ne_of_gt (blk_lt (g := gb157) (o := .cells #[.int .i64 a0_0, .int .i64 a0_1, .slice (some ad160) l0_2.length c0_2] 76 (0, 0)) (tK BK157)) : gb161 ≠ gb157)); clear BK157; clear HB; have BK157 := n0_; have HB := n1_; have BK161 := n2_; have GW161 := n3_; have GE161 := n4_; have NB157_161 := n5_; have NB161_157 := n6_; clear n0_ n1_ n2_ n3_ n4_ n5_ n6_; clear hb hbox hg; have hnb8 := NB161_157.out; have hnc8 := NB157_161.out; obtain ⟨hcz9_0, hcz9_1, hcz9_2, hcz9_3, hfz9_0, hfz9_1, hfz9_2, hfz9_3⟩ := bc4 BK161.out))
     repeat (go_quiet (first | ((with_reducible refine gate_dst (N := 4) rfl ?_); (try (refine gate_guard (by rfl) ?_; dsimp only)); refine box_event ?hg (N := 4) ?hd (cs := #[.int .i64 0, .int .i64 0, .int .i64 0, .bool false]) (t := 123) ?hr ?_; (case hd => rfl); (case hg => rfl); (case hr => exact tG); intro gb161 hg w7 hbox hb; have n0_ := Aside0.mk (blk_below (g := gb157) (o := .cells #[.int .i64 a0_0, .int .i64 a0_1, .slice (some ad160) l0_2.length c0_2] 76 (0, 0)) (tK BK157) hb); have n1_ := Aside0.mk (below_step tB hb); have n2_ := Aside0.mk (hbox); have n3_ := Aside0.mk ((by rw [hg]; exact (below_size tB) : w.heap.size ≤ gb161)); have n4_ := Aside0.mk ((by rw [hg]; exact (below_size tB) : w.heap.size ≤ gb161)); have n5_ := Aside0.mk ((by rw [hg]; exact Nat.ne_of_lt (blk_lt (g := gb157) (o := .cells #[.int .i64 a0_0, .int .i64 a0_1, .slice (some ad160) l0_2.length c0_2] 76 (0, 0)) (tK BK157)) : gb157 ≠ gb161)); have n6_ := Aside0.mk ((by rw [hg]; exact Nat.ne_of_gt (blk_lt (g := gb157) (o := .cells #[.int .i64 a0_0, .int .i64 a0_1, .slice (some ad160) l0_2.length c0_2] 76 (0, 0)) (tK BK157)) : gb161 ≠ gb157)); clear BK157; clear HB; have BK157 := n0_; have HB := n1_; have BK161 := n2_; have GW161 := n3_; have GE161 := n4_; have NB157_161 := n5_; have NB161_157 := n6_; clear n0_ n1_ n2_ n3_ n4_ n5_ n6_; clear hb hbox hg; have hnb8 := NB161_157.out; have hnc8 := NB157_161.out; obtain ⟨hcz9_0, hcz9_1, hcz9_2, hcz9_3, hfz9_0, hfz9_1, hfz9_2, hfz9_3⟩ := bc4 BK161.out)); go_upto_region 5 with (first | ((with_reducible refine gate_dst (N := 4) rfl ?_); (try (refine gate_guard (by rfl) ?_; dsimp only)); refine box_event ?hg (N := 4) ?hd (cs := #[.int .i64 0, .int .i64 0, .int .i64 0, .bool false]) (t := 123) ?hr ?_; (case hd => rfl); (case hg => rfl); (case hr => exact tG); intro gb161 hg w7 hbox hb; have n0_ := Aside0.mk (blk_below (g := gb157) (o := .cells #[.int .i64 a0_0, .int .i64 a0_1, .slice (some ad160) l0_2.length c0_2] 76 (0, 0)) (tK BK157) hb); have n1_ := Aside0.mk (below_step tB hb); have n2_ := Aside0.mk (hbox); have n3_ := Aside0.mk ((by rw [hg]; exact (below_size tB) : w.heap.size ≤ gb161)); have n4_ := Aside0.mk ((by rw [hg]; exact (below_size tB) : w.heap.size ≤ gb161)); have n5_ := Aside0.mk ((by rw [hg]; exact Nat.ne_of_lt (blk_lt (g := gb157) (o := .cells #[.int .i64 a0_0, .int .i64 a0_1, .slice (some ad160) l0_2.length c0_2] 76 (0, 0)) (tK BK157)) : gb157 ≠ gb161)); have n6_ := Aside0.mk ((by rw [hg]; exact Nat.ne_of_gt (blk_lt (g := gb157) (o := .cells #[.int .i64 a0_0, .int .i64 a0_1, .slice (some ad160) l0_2.length c0_2] 76 (0, 0)) (tK BK157)) : gb161 ≠ gb157)); clear BK157; clear HB; have BK157 := n0_; have HB := n1_; have BK161 := n2_; have GW161 := n3_; have GE161 := n4_; have NB157_161 := n5_; have NB161_157 := n6_; clear n0_ n1_ n2_ n3_ n4_ n5_ n6_; clear hb hbox hg; have hnb8 := NB161_157.out; have hnc8 := NB157_161.out; obtain ⟨hcz9_0, hcz9_1, hcz9_2, hcz9_3, hfz9_0, hfz9_1, hfz9_2, hfz9_3⟩ := bc4 BK161.out)))
     (try simp only [Act.put, List.setIfInBounds_toArray, List.set_cons_zero, List.set_cons_succ])
     go_cut [49] (fun v49 wc => ∃ (kq : Nat) (x49_4 : Bool), v49 = .bool x49_4 ∧ Aside0 (spec_IsValidAccount.j1 kq x3_1 x49_4 a0_0 a0_1 l0_2 ((rd_T123 l0_2 x3_1).f0) ((rd_T123 l0_2 x3_1).f1) ((rd_T123 l0_2 x3_1).f2) ((rd_T123 l0_2 x3_1).f3) = some r) ∧ Aside0 (kq ≤ k1) ∧ Aside0 (wc.heap[gb157]? = some (.cells #[.int .i64 a0_0, .int .i64 a0_1, (.slice (some ad160) l0_2.length c0_2)] 76 (0, 0))) ∧ Aside0 (wc.heap[gb161]? = some (.cells #[.int .i64 ((rd_T123 l0_2 x3_1).f0), .int .i64 ((rd_T123 l0_2 x3_1).f1), .int .i64 ((rd_T123 l0_2 x3_1).f2), .bool ((rd_T123 l0_2 x3_1).f3)] 123 (0, 0))) ∧ Aside0 (Below w.heap.size w wc))
     case first =>
      have H := HC5.out
      clear HC5
      replace H := Option.bind_eq_some_iff.mp H
      obtain ⟨t162, A100, H⟩ := H
      replace H : (if t162 = true then (if x3_1 > 0 then (if 0 ≤ (wrap64 (x3_1 - 1)) then (if (wrap64 (x3_1 - 1)) < (l0_2.length : Int) then (if ((rd_T123 l0_2 (wrap64 (x3_1 - 1))).f0) ≥ ((rd_T123 l0_2 x3_1).f0) then (spec_IsValidAccount.j1 k1 x3_1 true a0_0 a0_1 l0_2 ((rd_T123 l0_2 x3_1).f0) ((rd_T123 l0_2 x3_1).f1) ((rd_T123 l0_2 x3_1).f2) ((rd_T123 l0_2 x3_1).f3)) else ((spec_PrivateKey.f k1 ((rd_T123 l0_2 x3_1).f1)).bind fun t164 => (if t164 = 0 then (spec_IsValidAccount.j1 k1 x3_1 true a0_0 a0_1 l0_2 ((rd_T123 l0_2 x3_1).f0) ((rd_T123 l0_2 x3_1).f1) ((rd_T123 l0_2 x3_1).f2) ((rd_T123 l0_2 x3_1).f3)) else ((spec_l1In.f ((rd_T123 l0_2 x3_1).f2) 0 1000000).bind fun t165 => (spec_IsValidAccount.j1 k1 x3_1 (!t165) a0_0 a0_1 l0_2 ((rd_T123 l0_2 x3_1).f0) ((rd_T123 l0_2 x3_1).f1) ((rd_T123 l0_2 x3_1).f2) ((rd_T123 l0_2 x3_1).f3)))))) else (none)) else (none)) else ((spec_PrivateKey.f k1 ((rd_T123 l0_2 x3_1).f1)).bind fun t166 => (if t166 = 0 then (spec_IsValidAccount.j1 k1 x3_1 true a0_0 a0_1 l0_2 ((rd_T123 l0_2 x3_1).f0) ((rd_T123 l0_2 x3_1).f1) ((rd_T123 l0_2 x3_1).f2) ((rd_T123 l0_2 x3_1).f3)) else ((spec_l1In.f ((rd_T123 l0_2 x3_1).f2) 0 1000000).bind fun t167 => (spec_IsValidAccount.j1 k1 x3_1 (!t167) a0_0 a0_1 l0_2 ((rd_T123 l0_2 x3_1).f0) ((rd_T123 l0_2 x3_1).f1) ((rd_T123 l0_2 x3_1).f2) ((rd_T123 l0_2 x3_1).f3)))))) else (spec_IsValidAccount.j1 k1 x3_1 true a0_0 a0_1 l0_2 ((rd_T123 l0_2 x3_1).f0) ((rd_T123 l0_2 x3_1).f1) ((rd_T123 l0_2 x3_1).f2) ((rd_T123 l0_2 x3_1).f3))) = some r := H
      have A10 := Aside0.mk A100
      clear A100
      by_cases c11 : t162 = true
      ·subst c11
       have H1 : (if x3_1 > 0 then (if 0 ≤ (wrap64 (x3_1 - 1)) then (if (wrap64 (x3_1 - 1)) < (l0_2.length : Int) then (if ((rd_T123 l0_2 (wrap64 (x3_1 - 1))).f0) ≥ ((rd_T123 l0_2 x3_1).f0) then (spec_IsValidAccount.j1 k1 x3_1 true a0_0 a0_1 l0_2 ((rd_T123 l0_2 x3_1).f0) ((rd_T123 l0_2 x3_1).f1) ((rd_T123 l0_2 x3_1).f2) ((rd_T123 l0_2 x3_1).f3)) else ((spec_PrivateKey.f k1 ((rd_T123 l0_2 x3_1).f1)).bind fun t164 => (if t164 = 0 then (spec_IsValidAccount.j1 k1 x3_1 true a0_0 a0_1 l0_2 ((rd_T123 l0_2 x3_1).f0) ((rd_T123 l0_2 x3_1).f1) ((rd_T123 l0_2 x3_1).f2) ((rd_T123 l0_2 x3_1).f3)) else ((spec_l1In.f ((rd_T123 l0_2 x3_1).f2) 0 1000000).bind fun t165 => (spec_IsValidAccount.j1 k1 x3_1 (!t165) a0_0 a0_1 l0_2 ((rd_T123 l0_2 x3_1).f0) ((rd_T123 l0_2 x3_1).f1) ((rd_T123 l0_2 x3_1).f2) ((rd_T123 l0_2 x3_1).f3)))))) else (none)) else (none)) else ((spec_PrivateKey.f k1 ((rd_T123 l0_2 x3_1).f1)).bind fun t166 => (if t166 = 0 then (spec_IsValidAccount.j1 k1 x3_1 true a0_0 a0_1 l0_2 ((rd_T123 l0_2 x3_1).f0) ((rd_T123 l0_2 x3_1).f1) ((rd_T123 l0_2 x3_1).f2) ((rd_T123 l0_2 x3_1).f3)) else ((spec_l1In.f ((rd_T123 l0_2 x3_1).f2) 0 1000000).bind fun t167 => (spec_IsValidAccount.j1 k1 x3_1 (!t167) a0_0 a0_1 l0_2 ((rd_T123 l0_2 x3_1).f0) ((rd_T123 l0_2 x3_1).f1) ((rd_T123 l0_2 x3_1).f2) ((rd_T123 l0_2 x3_1).f3)))))) = some r := by rw [if_pos rfl] at H; exact H
       clear H
       have H := H1
       clear H1
       by_cases c12 : x3_1 > 0
       ·rw [if_pos c12] at H
        have c12b0 : decide (0 < x3_1) = true := decide_eq_true c12
        clear c12
        (first | rw [c12b0] | (simp only [i64_w, i32_w]; rw [c12b0]) | skip)
        obtain ⟨ji13, hji13⟩ : ∃ j_ : Int, (wrap64 (x3_1 - 1)) = j_ := ⟨_, rfl⟩
        replace H : (if 0 ≤ (ji13) then (if (ji13) < (l0_2.length : Int) then (if ((rd_T123 l0_2 (ji13)).f0) ≥ ((rd_T123 l0_2 x3_1).f0) then (spec_IsValidAccount.j1 k1 x3_1 true a0_0 a0_1 l0_2 ((rd_T123 l0_2 x3_1).f0) ((rd_T123 l0_2 x3_1).f1) ((rd_T123 l0_2 x3_1).f2) ((rd_T123 l0_2 x3_1).f3)) else ((spec_PrivateKey.f k1 ((rd_T123 l0_2 x3_1).f1)).bind fun t164 => (if t164 = 0 then (spec_IsValidAccount.j1 k1 x3_1 true a0_0 a0_1 l0_2 ((rd_T123 l0_2 x3_1).f0) ((rd_T123 l0_2 x3_1).f1) ((rd_T123 l0_2 x3_1).f2) ((rd_T123 l0_2 x3_1).f3)) else ((spec_l1In.f ((rd_T123 l0_2 x3_1).f2) 0 1000000).bind fun t165 => (spec_IsValidAccount.j1 k1 x3_1 (!t165) a0_0 a0_1 l0_2 ((rd_T123 l0_2 x3_1).f0) ((rd_T123 l0_2 x3_1).f1) ((rd_T123 l0_2 x3_1).f2) ((rd_T123 l0_2 x3_1).f3)))))) else (none)) else (none)) = some r := by first | (rw [hji13] at H; exact H) | (simp only [hji13] at H ⊢; exact H)
        (try rw [hji13] at A10)
        have hji13w : (IntKind.i64.wrap (x3_1 - 1)) = ji13 := (i64_w _).trans hji13
        by_cases c14 : 0 ≤ (ji13)
        ·rw [if_pos c14] at H
         have c14b0 : decide (0 ≤ (ji13)) = true := decide_eq_true c14
         clear c14
         by_cases c15 : (ji13) < (l0_2.length : Int)
         ·rw [if_pos c15] at H
          have c15b0 : decide ((ji13) < (l0_2.length : Int)) = true := decide_eq_true c15
          clear c15
          by_cases c16 : ((rd_T123 l0_2 (ji13)).f0) ≥ ((rd_T123 l0_2 x3_1).f0)
          ·rw [if_pos c16] at H
           have c16b0 : decide (((rd_T123 l0_2 x3_1).f0) ≤ ((rd_T123 l0_2 (ji13)).f0)) = true := decide_eq_true c16
           clear c16
           have H' := Aside0.mk H
           clear H
           have hnb17 := NB161_157.out
           have hnc17 := NB157_161.out
           obtain ⟨hcz18_0, hcz18_1, hcz18_2, hcz18_3, hfz18_0, hfz18_1, hfz18_2, hfz18_3⟩ := bc4 BK161.out
           go_wp2_with (first | (go_at_call 81; (with_reducible refine (spec_l1In.calls ((rd_T123 l0_2 x3_1).f0) 0 1000000 true _ A10.out).mono ?_); rintro e w' ⟨rfl, ⟨nd, rfl⟩⟩; (try exact tQ)))
           obtain ⟨hcz19_0, hcz19_1, hcz19_2, hfz19_0, hfz19_1, hfz19_2⟩ := bc3 BK157.out
           have p163 : 0 ≤ ((ji13) : Int) := of_decide_eq_true tA
           have q163 : (ji13) < (l0_2.length : Int) := of_decide_eq_true tA
           obtain ⟨ad163, e163, hx163_0, hx163_1, hx163_2, hx163_3⟩ := at_T123 HR0_2.out (ji13) p163 q163
           obtain rfl : ad160 = ad163 := (by injection e163)
           have hn163_0 : ad160.block ≠ gb161 := Nat.ne_of_lt (Nat.lt_of_lt_of_le (by have := World.block_lt_of_cell? _ _ hx163_0; first | rwa [add_block] at this | exact this) GW161.out)
           have hn163_1 : ad160.block ≠ gb161 := Nat.ne_of_lt (Nat.lt_of_lt_of_le (by have := World.block_lt_of_cell? _ _ hx163_0; first | rwa [add_block] at this | exact this) GW161.out)
           have hn163_2 : ad160.block ≠ gb161 := Nat.ne_of_lt (Nat.lt_of_lt_of_le (by have := World.block_lt_of_cell? _ _ hx163_0; first | rwa [add_block] at this | exact this) GW161.out)
           have hn163_3 : ad160.block ≠ gb161 := Nat.ne_of_lt (Nat.lt_of_lt_of_le (by have := World.block_lt_of_cell? _ _ hx163_0; first | rwa [add_block] at this | exact this) GW161.out)
           replace hx163_0 := hbc HB hx163_0
           replace hx163_1 := hbc HB hx163_1
           replace hx163_2 := hbc HB hx163_2
           replace hx163_3 := hbc HB hx163_3
           have F_ := @far4 gb161 (.int .i64 ((rd_T123 l0_2 x3_1).f0)) (.int .i64 ((rd_T123 l0_2 x3_1).f1)) (.int .i64 ((rd_T123 l0_2 x3_1).f2)) (.bool ((rd_T123 l0_2 x3_1).f3))
           replace hx163_0 := (F_ tF).trans hx163_0
           replace hx163_1 := (F_ tF).trans hx163_1
           replace hx163_2 := (F_ tF).trans hx163_2
           replace hx163_3 := (F_ tF).trans hx163_3
           clear F_
           clear hn163_0
           clear hn163_1
           clear hn163_2
           clear hn163_3
           replace p163 := eq_true p163
           replace q163 := eq_true q163
           repeat (go_quiet (first | (go_at_call 81; (with_reducible refine (spec_l1In.calls ((rd_T123 l0_2 x3_1).f0) 0 1000000 true _ A10.out).mono ?_); rintro e w' ⟨rfl, ⟨nd, rfl⟩⟩; (try exact tQ))); try go_wp2_with (first | (go_at_call 81; (with_reducible refine (spec_l1In.calls ((rd_T123 l0_2 x3_1).f0) 0 1000000 true _ A10.out).mono ?_); rintro e w' ⟨rfl, ⟨nd, rfl⟩⟩; (try exact tQ))))
           go_meet
           case rel => exact ⟨_, (true), tS, H', ⟨by have := HK1.out; first | omega | exact Nat.le_refl _⟩, ⟨by (with_reducible repeat (first | refine blk_drewN ?_ _ | refine blk_drew ?_ | refine blk_alloc ?_ _)); refine blk_far ?_ NB157_161.out _; (with_reducible repeat (first | refine blk_drewN ?_ _ | refine blk_drew ?_ | refine blk_alloc ?_ _)); refine blk_far ?_ NB157_161.out _; (with_reducible repeat (first | refine blk_drewN ?_ _ | refine blk_drew ?_ | refine blk_alloc ?_ _)); refine blk_far ?_ NB157_161.out _; (with_reducible repeat (first | refine blk_drewN ?_ _ | refine blk_drew ?_ | refine blk_alloc ?_ _)); refine blk_far ?_ NB157_161.out _; (with_reducible repeat (first | refine blk_drewN ?_ _ | refine blk_drew ?_ | refine blk_alloc ?_ _)); exact BK157.out⟩, ⟨by (with_reducible repeat (first | refine blk_drewN ?_ _ | refine blk_drew ?_ | refine blk_alloc ?_ _)); refine blk_put (cs := #[.int .i64 ((rd_T123 l0_2 x3_1).f0), .int .i64 ((rd_T123 l0_2 x3_1).f1), .int .i64 ((rd_T123 l0_2 x3_1).f2), .bool false]) ?_ 3 _ rfl; (with_reducible repeat (first | refine blk_drewN ?_ _ | refine blk_drew ?_ | refine blk_alloc ?_ _)); refine blk_put (cs := #[.int .i64 ((rd_T123 l0_2 x3_1).f0), .int .i64 ((rd_T123 l0_2 x3_1).f1), .int .i64 0, .bool false]) ?_ 2 _ rfl; (with_reducible repeat (first | refine blk_drewN ?_ _ | refine blk_drew ?_ | refine blk_alloc ?_ _)); refine blk_put (cs := #[.int .i64 ((rd_T123 l0_2 x3_1).f0), .int .i64 0, .int .i64 0, .bool false]) ?_ 1 _ rfl; (with_reducible repeat (first | refine blk_drewN ?_ _ | refine blk_drew ?_ | refine blk_alloc ?_ _)); refine blk_put (cs := #[.int .i64 0, .int .i64 0, .int .i64 0, .bool false]) ?_ 0 _ rfl; (with_reducible repeat (first | refine blk_drewN ?_ _ | refine blk_drew ?_ | refine blk_alloc ?_ _)); exact BK161.out⟩, ⟨tB⟩⟩
          ·rw [if_neg c16] at H
           have c16b0 : decide (((rd_T123 l0_2 x3_1).f0) ≤ ((rd_T123 l0_2 (ji13)).f0)) = false := decide_eq_false c16
           clear c16
           replace H := Option.bind_eq_some_iff.mp H
           obtain ⟨t164, A200, H⟩ := H
           replace H : (if t164 = 0 then (spec_IsValidAccount.j1 k1 x3_1 true a0_0 a0_1 l0_2 ((rd_T123 l0_2 x3_1).f0) ((rd_T123 l0_2 x3_1).f1) ((rd_T123 l0_2 x3_1).f2) ((rd_T123 l0_2 x3_1).f3)) else ((spec_l1In.f ((rd_T123 l0_2 x3_1).f2) 0 1000000).bind fun t165 => (spec_IsValidAccount.j1 k1 x3_1 (!t165) a0_0 a0_1 l0_2 ((rd_T123 l0_2 x3_1).f0) ((rd_T123 l0_2 x3_1).f1) ((rd_T123 l0_2 x3_1).f2) ((rd_T123 l0_2 x3_1).f3)))) = some r := H
           have A20 := Aside0.mk A200
           clear A200
           by_cases c21 : t164 = 0
           ·rw [if_pos c21] at H
            have c21b0 : (t164 == 0) = true := beq_iff_eq.mpr c21
            have c21b1 : (t164 != 0) = false := bne_eq_false_iff_eq.mpr c21
            clear c21
            have H' := Aside0.mk H
            clear H
            have hnb22 := NB161_157.out
            have hnc22 := NB157_161.out
            obtain ⟨hcz23_0, hcz23_1, hcz23_2, hcz23_3, hfz23_0, hfz23_1, hfz23_2, hfz23_3⟩ := bc4 BK161.out
            go_wp2_with (first | (go_at_call 81; (with_reducible refine (spec_l1In.calls ((rd_T123 l0_2 x3_1).f0) 0 1000000 true _ A10.out).mono ?_); rintro e w' ⟨rfl, ⟨nd, rfl⟩⟩; (try exact tQ)) | (go_at_call 41; (with_reducible refine (spec_PrivateKey.calls k1 ((rd_T123 l0_2 x3_1).f1) t164 _ A20.out).mono ?_); rintro e w' ⟨rfl, ⟨nd, rfl⟩⟩; (try exact tQ)))
            obtain ⟨hcz24_0, hcz24_1, hcz24_2, hfz24_0, hfz24_1, hfz24_2⟩ := bc3 BK157.out
            have p163 : 0 ≤ ((ji13) : Int) := of_decide_eq_true tA
            have q163 : (ji13) < (l0_2.length : Int) := of_decide_eq_true tA
            obtain ⟨ad163, e163, hx163_0, hx163_1, hx163_2, hx163_3⟩ := at_T123 HR0_2.out (ji13) p163 q163
            obtain rfl : ad160 = ad163 := (by injection e163)
            have hn163_0 : ad160.block ≠ gb161 := Nat.ne_of_lt (Nat.lt_of_lt_of_le (by have := World.block_lt_of_cell? _ _ hx163_0; first | rwa [add_block] at this | exact this) GW161.out)
            have hn163_1 : ad160.block ≠ gb161 := Nat.ne_of_lt (Nat.lt_of_lt_of_le (by have := World.block_lt_of_cell? _ _ hx163_0; first | rwa [add_block] at this | exact this) GW161.out)
            have hn163_2 : ad160.block ≠ gb161 := Nat.ne_of_lt (Nat.lt_of_lt_of_le (by have := World.block_lt_of_cell? _ _ hx163_0; first | rwa [add_block] at this | exact this) GW161.out)
            have hn163_3 : ad160.block ≠ gb161 := Nat.ne_of_lt (Nat.lt_of_lt_of_le (by have := World.block_lt_of_cell? _ _ hx163_0; first | rwa [add_block] at this | exact this) GW161.out)
            replace hx163_0 := hbc HB hx163_0
            replace hx163_1 := hbc HB hx163_1
            replace hx163_2 := hbc HB hx163_2
            replace hx163_3 := hbc HB hx163_3
            have F_ := @far4 gb161 (.int .i64 ((rd_T123 l0_2 x3_1).f0)) (.int .i64 ((rd_T123 l0_2 x3_1).f1)) (.int .i64 ((rd_T123 l0_2 x3_1).f2)) (.bool ((rd_T123 l0_2 x3_1).f3))
            replace hx163_0 := (F_ tF).trans hx163_0
            replace hx163_1 := (F_ tF).trans hx163_1
            replace hx163_2 := (F_ tF).trans hx163_2
            replace hx163_3 := (F_ tF).trans hx163_3
            clear F_
            clear hn163_0
            clear hn163_1
            clear hn163_2
            clear hn163_3
            replace p163 := eq_true p163
            replace q163 := eq_true q163
            repeat (go_quiet (first | (go_at_call 81; (with_reducible refine (spec_l1In.calls ((rd_T123 l0_2 x3_1).f0) 0 1000000 true _ A10.out).mono ?_); rintro e w' ⟨rfl, ⟨nd, rfl⟩⟩; (try exact tQ)) | (go_at_call 41; (with_reducible refine (spec_PrivateKey.calls k1 ((rd_T123 l0_2 x3_1).f1) t164 _ A20.out).mono ?_); rintro e w' ⟨rfl, ⟨nd, rfl⟩⟩; (try exact tQ))); try go_wp2_with (first | (go_at_call 81; (with_reducible refine (spec_l1In.calls ((rd_T123 l0_2 x3_1).f0) 0 1000000 true _ A10.out).mono ?_); rintro e w' ⟨rfl, ⟨nd, rfl⟩⟩; (try exact tQ)) | (go_at_call 41; (with_reducible refine (spec_PrivateKey.calls k1 ((rd_T123 l0_2 x3_1).f1) t164 _ A20.out).mono ?_); rintro e w' ⟨rfl, ⟨nd, rfl⟩⟩; (try exact tQ))))
            go_meet
            case rel => exact ⟨_, (true), tS, H', ⟨by have := HK1.out; first | omega | exact Nat.le_refl _⟩, ⟨by (with_reducible repeat (first | refine blk_drewN ?_ _ | refine blk_drew ?_ | refine blk_alloc ?_ _)); refine blk_far ?_ NB157_161.out _; (with_reducible repeat (first | refine blk_drewN ?_ _ | refine blk_drew ?_ | refine blk_alloc ?_ _)); refine blk_far ?_ NB157_161.out _; (with_reducible repeat (first | refine blk_drewN ?_ _ | refine blk_drew ?_ | refine blk_alloc ?_ _)); refine blk_far ?_ NB157_161.out _; (with_reducible repeat (first | refine blk_drewN ?_ _ | refine blk_drew ?_ | refine blk_alloc ?_ _)); refine blk_far ?_ NB157_161.out _; (with_reducible repeat (first | refine blk_drewN ?_ _ | refine blk_drew ?_ | refine blk_alloc ?_ _)); exact BK157.out⟩, ⟨by (with_reducible repeat (first | refine blk_drewN ?_ _ | refine blk_drew ?_ | refine blk_alloc ?_ _)); refine blk_put (cs := #[.int .i64 ((rd_T123 l0_2 x3_1).f0), .int .i64 ((rd_T123 l0_2 x3_1).f1), .int .i64 ((rd_T123 l0_2 x3_1).f2), .bool false]) ?_ 3 _ rfl; (with_reducible repeat (first | refine blk_drewN ?_ _ | refine blk_drew ?_ | refine blk_alloc ?_ _)); refine blk_put (cs := #[.int .i64 ((rd_T123 l0_2 x3_1).f0), .int .i64 ((rd_T123 l0_2 x3_1).f1), .int .i64 0, .bool false]) ?_ 2 _ rfl; (with_reducible repeat (first | refine blk_drewN ?_ _ | refine blk_drew ?_ | refine blk_alloc ?_ _)); refine blk_put (cs := #[.int .i64 ((rd_T123 l0_2 x3_1).f0), .int .i64 0, .int .i64 0, .bool false]) ?_ 1 _ rfl; (with_reducible repeat (first | refine blk_drewN ?_ _ | refine blk_drew ?_ | refine blk_alloc ?_ _)); refine blk_put (cs := #[.int .i64 0, .int .i64 0, .int .i64 0, .bool false]) ?_ 0 _ rfl; (with_reducible repeat (first | refine blk_drewN ?_ _ | refine blk_drew ?_ | refine blk_alloc ?_ _)); exact BK161.out⟩, ⟨tB⟩⟩
           ·rw [if_neg c21] at H
            have c21b0 : (t164 == 0) = false := beq_eq_false_iff_ne.mpr c21
            have c21b1 : (t164 != 0) = true := bne_iff_ne.mpr c21
            replace H := Option.bind_eq_some_iff.mp H
            obtain ⟨t165, A250, H⟩ := H
            replace H : (spec_IsValidAccount.j1 k1 x3_1 (!t165) a0_0 a0_1 l0_2 ((rd_T123 l0_2 x3_1).f0) ((rd_T123 l0_2 x3_1).f1) ((rd_T123 l0_2 x3_1).f2) ((rd_T123 l0_2 x3_1).f3)) = some r := H
            have A25 := Aside0.mk A250
            clear A250
            have H' := Aside0.mk H
            clear H
            have hnb26 := NB161_157.out
            have hnc26 := NB157_161.out
            obtain ⟨hcz27_0, hcz27_1, hcz27_2, hcz27_3, hfz27_0, hfz27_1, hfz27_2, hfz27_3⟩ := bc4 BK161.out
            go_wp2_with (first | (go_at_call 81; (with_reducible refine (spec_l1In.calls ((rd_T123 l0_2 x3_1).f0) 0 1000000 true _ A10.out).mono ?_); rintro e w' ⟨rfl, ⟨nd, rfl⟩⟩; (try exact tQ)) | (go_at_call 41; (with_reducible refine (spec_PrivateKey.calls k1 ((rd_T123 l0_2 x3_1).f1) t164 _ A20.out).mono ?_); rintro e w' ⟨rfl, ⟨nd, rfl⟩⟩; (try exact tQ)) | (go_at_call 81; (with_reducible refine (spec_l1In.calls ((rd_T123 l0_2 x3_1).f2) 0 1000000 t165 _ A25.out).mono ?_); rintro e w' ⟨rfl, ⟨nd, rfl⟩⟩; (try exact tQ)))
            obtain ⟨hcz28_0, hcz28_1, hcz28_2, hfz28_0, hfz28_1, hfz28_2⟩ := bc3 BK157.out
            have p163 : 0 ≤ ((ji13) : Int) := of_decide_eq_true tA
            have q163 : (ji13) < (l0_2.length : Int) := of_decide_eq_true tA
            obtain ⟨ad163, e163, hx163_0, hx163_1, hx163_2, hx163_3⟩ := at_T123 HR0_2.out (ji13) p163 q163
            obtain rfl : ad160 = ad163 := (by injection e163)
            have hn163_0 : ad160.block ≠ gb161 := Nat.ne_of_lt (Nat.lt_of_lt_of_le (by have := World.block_lt_of_cell? _ _ hx163_0; first | rwa [add_block] at this | exact this) GW161.out)
            have hn163_1 : ad160.block ≠ gb161 := Nat.ne_of_lt (Nat.lt_of_lt_of_le (by have := World.block_lt_of_cell? _ _ hx163_0; first | rwa [add_block] at this | exact this) GW161.out)
            have hn163_2 : ad160.block ≠ gb161 := Nat.ne_of_lt (Nat.lt_of_lt_of_le (by have := World.block_lt_of_cell? _ _ hx163_0; first | rwa [add_block] at this | exact this) GW161.out)
            have hn163_3 : ad160.block ≠ gb161 := Nat.ne_of_lt (Nat.lt_of_lt_of_le (by have := World.block_lt_of_cell? _ _ hx163_0; first | rwa [add_block] at this | exact this) GW161.out)
            replace hx163_0 := hbc HB hx163_0
            replace hx163_1 := hbc HB hx163_1
            replace hx163_2 := hbc HB hx163_2
            replace hx163_3 := hbc HB hx163_3
            have F_ := @far4 gb161 (.int .i64 ((rd_T123 l0_2 x3_1).f0)) (.int .i64 ((rd_T123 l0_2 x3_1).f1)) (.int .i64 ((rd_T123 l0_2 x3_1).f2)) (.bool ((rd_T123 l0_2 x3_1).f3))
            replace hx163_0 := (F_ tF).trans hx163_0
            replace hx163_1 := (F_ tF).trans hx163_1
            replace hx163_2 := (F_ tF).trans hx163_2
            replace hx163_3 := (F_ tF).trans hx163_3
            clear F_
            clear hn163_0
            clear hn163_1
            clear hn163_2
            clear hn163_3
            replace p163 := eq_true p163
            replace q163 := eq_true q163
            repeat (go_quiet (first | (go_at_call 81; (with_reducible refine (spec_l1In.calls ((rd_T123 l0_2 x3_1).f0) 0 1000000 true _ A10.out).mono ?_); rintro e w' ⟨rfl, ⟨nd, rfl⟩⟩; (try exact tQ)) | (go_at_call 41; (with_reducible refine (spec_PrivateKey.calls k1 ((rd_T123 l0_2 x3_1).f1) t164 _ A20.out).mono ?_); rintro e w' ⟨rfl, ⟨nd, rfl⟩⟩; (try exact tQ)) | (go_at_call 81; (with_reducible refine (spec_l1In.calls ((rd_T123 l0_2 x3_1).f2) 0 1000000 t165 _ A25.out).mono ?_); rintro e w' ⟨rfl, ⟨nd, rfl⟩⟩; (try exact tQ))); try go_wp2_with (first | (go_at_call 81; (with_reducible refine (spec_l1In.calls ((rd_T123 l0_2 x3_1).f0) 0 1000000 true _ A10.out).mono ?_); rintro e w' ⟨rfl, ⟨nd, rfl⟩⟩; (try exact tQ)) | (go_at_call 41; (with_reducible refine (spec_PrivateKey.calls k1 ((rd_T123 l0_2 x3_1).f1) t164 _ A20.out).mono ?_); rintro e w' ⟨rfl, ⟨nd, rfl⟩⟩; (try exact tQ)) | (go_at_call 81; (with_reducible refine (spec_l1In.calls ((rd_T123 l0_2 x3_1).f2) 0 1000000 t165 _ A25.out).mono ?_); rintro e w' ⟨rfl, ⟨nd, rfl⟩⟩; (try exact tQ))))
            go_meet
            case rel => exact ⟨_, (!t165), tS, H', ⟨by have := HK1.out; first | omega | exact Nat.le_refl _⟩, ⟨by (with_reducible repeat (first | refine blk_drewN ?_ _ | refine blk_drew ?_ | refine blk_alloc ?_ _)); refine blk_far ?_ NB157_161.out _; (with_reducible repeat (first | refine blk_drewN ?_ _ | refine blk_drew ?_ | refine blk_alloc ?_ _)); refine blk_far ?_ NB157_161.out _; (with_reducible repeat (first | refine blk_drewN ?_ _ | refine blk_drew ?_ | refine blk_alloc ?_ _)); refine blk_far ?_ NB157_161.out _; (with_reducible repeat (first | refine blk_drewN ?_ _ | refine blk_drew ?_ | refine blk_alloc ?_ _)); refine blk_far ?_ NB157_161.out _; (with_reducible repeat (first | refine blk_drewN ?_ _ | refine blk_drew ?_ | refine blk_alloc ?_ _)); exact BK157.out⟩, ⟨by (with_reducible repeat (first | refine blk_drewN ?_ _ | refine blk_drew ?_ | refine blk_alloc ?_ _)); refine blk_put (cs := #[.int .i64 ((rd_T123 l0_2 x3_1).f0), .int .i64 ((rd_T123 l0_2 x3_1).f1), .int .i64 ((rd_T123 l0_2 x3_1).f2), .bool false]) ?_ 3 _ rfl; (with_reducible repeat (first | refine blk_drewN ?_ _ | refine blk_drew ?_ | refine blk_alloc ?_ _)); refine blk_put (cs := #[.int .i64 ((rd_T123 l0_2 x3_1).f0), .int .i64 ((rd_T123 l0_2 x3_1).f1), .int .i64 0, .bool false]) ?_ 2 _ rfl; (with_reducible repeat (first | refine blk_drewN ?_ _ | refine blk_drew ?_ | refine blk_alloc ?_ _)); refine blk_put (cs := #[.int .i64 ((rd_T123 l0_2 x3_1).f0), .int .i64 0, .int .i64 0, .bool false]) ?_ 1 _ rfl; (with_reducible repeat (first | refine blk_drewN ?_ _ | refine blk_drew ?_ | refine blk_alloc ?_ _)); refine blk_put (cs := #[.int .i64 0, .int .i64 0, .int .i64 0, .bool false]) ?_ 0 _ rfl; (with_reducible repeat (first | refine blk_drewN ?_ _ | refine blk_drew ?_ | refine blk_alloc ?_ _)); exact BK161.out⟩, ⟨tB⟩⟩
         ·rw [if_neg c15] at H
          exact absurd H (by simp)
        ·rw [if_neg c14] at H
         exact absurd H (by simp)
       ·rw [if_neg c12] at H
        have c12b0 : decide (0 < x3_1) = false := decide_eq_false c12
        clear c12
        (first | rw [c12b0] | (simp only [i64_w, i32_w]; rw [c12b0]) | skip)
        replace H := Option.bind_eq_some_iff.mp H
        obtain ⟨t166, A290, H⟩ := H
        replace H : (if t166 = 0 then (spec_IsValidAccount.j1 k1 x3_1 true a0_0 a0_1 l0_2 ((rd_T123 l0_2 x3_1).f0) ((rd_T123 l0_2 x3_1).f1) ((rd_T123 l0_2 x3_1).f2) ((rd_T123 l0_2 x3_1).f3)) else ((spec_l1In.f ((rd_T123 l0_2 x3_1).f2) 0 1000000).bind fun t167 => (spec_IsValidAccount.j1 k1 x3_1 (!t167) a0_0 a0_1 l0_2 ((rd_T123 l0_2 x3_1).f0) ((rd_T123 l0_2 x3_1).f1) ((rd_T123 l0_2 x3_1).f2) ((rd_T123 l0_2 x3_1).f3)))) = some r := H
        have A29 := Aside0.mk A290
        clear A290
        by_cases c30 : t166 = 0
        ·rw [if_pos c30] at H
         have c30b0 : (t166 == 0) = true := beq_iff_eq.mpr c30
         have c30b1 : (t166 != 0) = false := bne_eq_false_iff_eq.mpr c30
         clear c30
         have H' := Aside0.mk H
         clear H
         have hnb31 := NB161_157.out
         have hnc31 := NB157_161.out
         obtain ⟨hcz32_0, hcz32_1, hcz32_2, hcz32_3, hfz32_0, hfz32_1, hfz32_2, hfz32_3⟩ := bc4 BK161.out
         go_wp2_with (first | (go_at_call 81; (with_reducible refine (spec_l1In.calls ((rd_T123 l0_2 x3_1).f0) 0 1000000 true _ A10.out).mono ?_); rintro e w' ⟨rfl, ⟨nd, rfl⟩⟩; (try exact tQ)) | (go_at_call 41; (with_reducible refine (spec_PrivateKey.calls k1 ((rd_T123 l0_2 x3_1).f1) t166 _ A29.out).mono ?_); rintro e w' ⟨rfl, ⟨nd, rfl⟩⟩; (try exact tQ)))
         repeat (go_quiet (first | (go_at_call 81; (with_reducible refine (spec_l1In.calls ((rd_T123 l0_2 x3_1).f0) 0 1000000 true _ A10.out).mono ?_); rintro e w' ⟨rfl, ⟨nd, rfl⟩⟩; (try exact tQ)) | (go_at_call 41; (with_reducible refine (spec_PrivateKey.calls k1 ((rd_T123 l0_2 x3_1).f1) t166 _ A29.out).mono ?_); rintro e w' ⟨rfl, ⟨nd, rfl⟩⟩; (try exact tQ))); try go_wp2_with (first | (go_at_call 81; (with_reducible refine (spec_l1In.calls ((rd_T123 l0_2 x3_1).f0) 0 1000000 true _ A10.out).mono ?_); rintro e w' ⟨rfl, ⟨nd, rfl⟩⟩; (try exact tQ)) | (go_at_call 41; (with_reducible refine (spec_PrivateKey.calls k1 ((rd_T123 l0_2 x3_1).f1) t166 _ A29.out).mono ?_); rintro e w' ⟨rfl, ⟨nd, rfl⟩⟩; (try exact tQ))))
         go_meet
         case rel => exact ⟨_, (true), tS, H', ⟨by have := HK1.out; first | omega | exact Nat.le_refl _⟩, ⟨by (with_reducible repeat (first | refine blk_drewN ?_ _ | refine blk_drew ?_ | refine blk_alloc ?_ _)); refine blk_far ?_ NB157_161.out _; (with_reducible repeat (first | refine blk_drewN ?_ _ | refine blk_drew ?_ | refine blk_alloc ?_ _)); refine blk_far ?_ NB157_161.out _; (with_reducible repeat (first | refine blk_drewN ?_ _ | refine blk_drew ?_ | refine blk_alloc ?_ _)); refine blk_far ?_ NB157_161.out _; (with_reducible repeat (first | refine blk_drewN ?_ _ | refine blk_drew ?_ | refine blk_alloc ?_ _)); refine blk_far ?_ NB157_161.out _; (with_reducible repeat (first | refine blk_drewN ?_ _ | refine blk_drew ?_ | refine blk_alloc ?_ _)); exact BK157.out⟩, ⟨by (with_reducible repeat (first | refine blk_drewN ?_ _ | refine blk_drew ?_ | refine blk_alloc ?_ _)); refine blk_put (cs := #[.int .i64 ((rd_T123 l0_2 x3_1).f0), .int .i64 ((rd_T123 l0_2 x3_1).f1), .int .i64 ((rd_T123 l0_2 x3_1).f2), .bool false]) ?_ 3 _ rfl; (with_reducible repeat (first | refine blk_drewN ?_ _ | refine blk_drew ?_ | refine blk_alloc ?_ _)); refine blk_put (cs := #[.int .i64 ((rd_T123 l0_2 x3_1).f0), .int .i64 ((rd_T123 l0_2 x3_1).f1), .int .i64 0, .bool false]) ?_ 2 _ rfl; (with_reducible repeat (first | refine blk_drewN ?_ _ | refine blk_drew ?_ | refine blk_alloc ?_ _)); refine blk_put (cs := #[.int .i64 ((rd_T123 l0_2 x3_1).f0), .int .i64 0, .int .i64 0, .bool false]) ?_ 1 _ rfl; (with_reducible repeat (first | refine blk_drewN ?_ _ | refine blk_drew ?_ | refine blk_alloc ?_ _)); refine blk_put (cs := #[.int .i64 0, .int .i64 0, .int .i64 0, .bool false]) ?_ 0 _ rfl; (with_reducible repeat (first | refine blk_drewN ?_ _ | refine blk_drew ?_ | refine blk_alloc ?_ _)); exact BK161.out⟩, ⟨tB⟩⟩
        ·rw [if_neg c30] at H
         have c30b0 : (t166 == 0) = false := beq_eq_false_iff_ne.mpr c30
         have c30b1 : (t166 != 0) = true := bne_iff_ne.mpr c30
         replace H := Option.bind_eq_some_iff.mp H
         obtain ⟨t167, A330, H⟩ := H
         replace H : (spec_IsValidAccount.j1 k1 x3_1 (!t167) a0_0 a0_1 l0_2 ((rd_T123 l0_2 x3_1).f0) ((rd_T123 l0_2 x3_1).f1) ((rd_T123 l0_2 x3_1).f2) ((rd_T123 l0_2 x3_1).f3)) = some r := H
         have A33 := Aside0.mk A330
         clear A330
         have H' := Aside0.mk H
         clear H
         have hnb34 := NB161_157.out
         have hnc34 := NB157_161.out
         obtain ⟨hcz35_0, hcz35_1, hcz35_2, hcz35_3, hfz35_0, hfz35_1, hfz35_2, hfz35_3⟩ := bc4 BK161.out
         go_wp2_with (first | (go_at_call 81; (with_reducible refine (spec_l1In.calls ((rd_T123 l0_2 x3_1).f0) 0 1000000 true _ A10.out).mono ?_); rintro e w' ⟨rfl, ⟨nd, rfl⟩⟩; (try exact tQ)) | (go_at_call 41; (with_reducible refine (spec_PrivateKey.calls k1 ((rd_T123 l0_2 x3_1).f1) t166 _ A29.out).mono ?_); rintro e w' ⟨rfl, ⟨nd, rfl⟩⟩; (try exact tQ)) | (go_at_call 81; (with_reducible refine (spec_l1In.calls ((rd_T123 l0_2 x3_1).f2) 0 1000000 t167 _ A33.out).mono ?_); rintro e w' ⟨rfl, ⟨nd, rfl⟩⟩; (try exact tQ)))
         repeat (go_quiet (first | (go_at_call 81; (with_reducible refine (spec_l1In.calls ((rd_T123 l0_2 x3_1).f0) 0 1000000 true _ A10.out).mono ?_); rintro e w' ⟨rfl, ⟨nd, rfl⟩⟩; (try exact tQ)) | (go_at_call 41; (with_reducible refine (spec_PrivateKey.calls k1 ((rd_T123 l0_2 x3_1).f1) t166 _ A29.out).mono ?_); rintro e w' ⟨rfl, ⟨nd, rfl⟩⟩; (try exact tQ)) | (go_at_call 81; (with_reducible refine (spec_l1In.calls ((rd_T123 l0_2 x3_1).f2) 0 1000000 t167 _ A33.out).mono ?_); rintro e w' ⟨rfl, ⟨nd, rfl⟩⟩; (try exact tQ))); try go_wp2_with (first | (go_at_call 81; (with_reducible refine (spec_l1In.calls ((rd_T123 l0_2 x3_1).f0) 0 1000000 true _ A10.out).mono ?_); rintro e w' ⟨rfl, ⟨nd, rfl⟩⟩; (try exact tQ)) | (go_at_call 41; (with_reducible refine (spec_PrivateKey.calls k1 ((rd_T123 l0_2 x3_1).f1) t166 _ A29.out).mono ?_); rintro e w' ⟨rfl, ⟨nd, rfl⟩⟩; (try exact tQ)) | (go_at_call 81; (with_reducible refine (spec_l1In.calls ((rd_T123 l0_2 x3_1).f2) 0 1000000 t167 _ A33.out).mono ?_); rintro e w' ⟨rfl, ⟨nd, rfl⟩⟩; (try exact tQ))))
         go_meet
         case rel => exact ⟨_, (!t167), tS, H', ⟨by have := HK1.out; first | omega | exact Nat.le_refl _⟩, ⟨by (with_reducible repeat (first | refine blk_drewN ?_ _ | refine blk_drew ?_ | refine blk_alloc ?_ _)); refine blk_far ?_ NB157_161.out _; (with_reducible repeat (first | refine blk_drewN ?_ _ | refine blk_drew ?_ | refine blk_alloc ?_ _)); refine blk_far ?_ NB157_161.out _; (with_reducible repeat (first | refine blk_drewN ?_ _ | refine blk_drew ?_ | refine blk_alloc ?_ _)); refine blk_far ?_ NB157_161.out _; (with_reducible repeat (first | refine blk_drewN ?_ _ | refine blk_drew ?_ | refine blk_alloc ?_ _)); refine blk_far ?_ NB157_161.out _; (with_reducible repeat (first | refine blk_drewN ?_ _ | refine blk_drew ?_ | refine blk_alloc ?_ _)); exact BK157.out⟩, ⟨by (with_reducible repeat (first | refine blk_drewN ?_ _ | refine blk_drew ?_ | refine blk_alloc ?_ _)); refine blk_put (cs := #[.int .i64 ((rd_T123 l0_2 x3_1).f0), .int .i64 ((rd_T123 l0_2 x3_1).f1), .int .i64 ((rd_T123 l0_2 x3_1).f2), .bool false]) ?_ 3 _ rfl; (with_reducible repeat (first | refine blk_drewN ?_ _ | refine blk_drew ?_ | refine blk_alloc ?_ _)); refine blk_put (cs := #[.int .i64 ((rd_T123 l0_2 x3_1).f0), .int .i64 ((rd_T123 l0_2 x3_1).f1), .int .i64 0, .bool false]) ?_ 2 _ rfl; (with_reducible repeat (first | refine blk_drewN ?_ _ | refine blk_drew ?_ | refine blk_alloc ?_ _)); refine blk_put (cs := #[.int .i64 ((rd_T123 l0_2 x3_1).f0), .int .i64 0, .int .i64 0, .bool false]) ?_ 1 _ rfl; (with_reducible repeat (first | refine blk_drewN ?_ _ | refine blk_drew ?_ | refine blk_alloc ?_ _)); refine blk_put (cs := #[.int .i64 0, .int .i64 0, .int .i64 0, .bool false]) ?_ 0 _ rfl; (with_reducible repeat (first | refine blk_drewN ?_ _ | refine blk_drew ?_ | refine blk_alloc ?_ _)); exact BK161.out⟩, ⟨tB⟩⟩
      ·replace c11 := Bool.eq_false_iff.mpr c11
       subst c11
       have H1 : (spec_IsValidAccount.j1 k1 x3_1 true a0_0 a0_1 l0_2 ((rd_T123 l0_2 x3_1).f0) ((rd_T123 l0_2 x3_1).f1) ((rd_T123 l0_2 x3_1).f2) ((rd_T123 l0_2 x3_1).f3)) = some r := by rw [if_neg (show ¬ (false = true) by decide)] at H; exact H
       clear H
       have H := H1
       clear H1
       have H' := Aside0.mk H
       clear H
       have hnb36 := NB161_157.out
       have hnc36 := NB157_161.out
       obtain ⟨hcz37_0, hcz37_1, hcz37_2, hcz37_3, hfz37_0, hfz37_1, hfz37_2, hfz37_3⟩ := bc4 BK161.out
       go_wp2_with (first | (go_at_call 81; (with_reducible refine (spec_l1In.calls ((rd_T123 l0_2 x3_1).f0) 0 1000000 false _ A10.out).mono ?_); rintro e w' ⟨rfl, ⟨nd, rfl⟩⟩; (try exact tQ)))
       repeat (go_quiet (first | (go_at_call 81; (with_reducible refine (spec_l1In.calls ((rd_T123 l0_2 x3_1).f0) 0 1000000 false _ A10.out).mono ?_); rintro e w' ⟨rfl, ⟨nd, rfl⟩⟩; (try exact tQ))); try go_wp2_with (first | (go_at_call 81; (with_reducible refine (spec_l1In.calls ((rd_T123 l0_2 x3_1).f0) 0 1000000 false _ A10.out).mono ?_); rintro e w' ⟨rfl, ⟨nd, rfl⟩⟩; (try exact tQ))))
       go_meet
       case rel => exact ⟨_, (true), tS, H', ⟨by have := HK1.out; first | omega | exact Nat.le_refl _⟩, ⟨by (with_reducible repeat (first | refine blk_drewN ?_ _ | refine blk_drew ?_ | refine blk_alloc ?_ _)); refine blk_far ?_ NB157_161.out _; (with_reducible repeat (first | refine blk_drewN ?_ _ | refine blk_drew ?_ | refine blk_alloc ?_ _)); refine blk_far ?_ NB157_161.out _; (with_reducible repeat (first | refine blk_drewN ?_ _ | refine blk_drew ?_ | refine blk_alloc ?_ _)); refine blk_far ?_ NB157_161.out _; (with_reducible repeat (first | refine blk_drewN ?_ _ | refine blk_drew ?_ | refine blk_alloc ?_ _)); refine blk_far ?_ NB157_161.out _; (with_reducible repeat (first | refine blk_drewN ?_ _ | refine blk_drew ?_ | refine blk_alloc ?_ _)); exact BK157.out⟩, ⟨by (with_reducible repeat (first | refine blk_drewN ?_ _ | refine blk_drew ?_ | refine blk_alloc ?_ _)); refine blk_put (cs := #[.int .i64 ((rd_T123 l0_2 x3_1).f0), .int .i64 ((rd_T123 l0_2 x3_1).f1), .int .i64 ((rd_T123 l0_2 x3_1).f2), .bool false]) ?_ 3 _ rfl; (with_reducible repeat (first | refine blk_drewN ?_ _ | refine blk_drew ?_ | refine blk_alloc ?_ _)); refine blk_put (cs := #[.int .i64 ((rd_T123 l0_2 x3_1).f0), .int .i64 ((rd_T123 l0_2 x3_1).f1), .int .i64 0, .bool false]) ?_ 2 _ rfl; (with_reducible repeat (first | refine blk_drewN ?_ _ | refine blk_drew ?_ | refine blk_alloc ?_ _)); refine blk_put (cs := #[.int .i64 ((rd_T123 l0_2 x3_1).f0), .int .i64 0, .int .i64 0, .bool false]) ?_ 1 _ rfl; (with_reducible repeat (first | refine blk_drewN ?_ _ | refine blk_drew ?_ | refine blk_alloc ?_ _)); refine blk_put (cs := #[.int .i64 0, .int .i64 0, .int .i64 0, .bool false]) ?_ 0 _ rfl; (with_reducible repeat (first | refine blk_drewN ?_ _ | refine blk_drew ?_ | refine blk_alloc ?_ _)); exact BK161.out⟩, ⟨tB⟩⟩
     case rest =>
      clear HC5
      try clear c1
      try clear p1
      try clear q1
      try clear hx1
      try clear c2
      try clear p2
      try clear c3
      try clear c3b0
      try clear c4
      try clear c4b0
      try clear p6
      try clear c8
      try clear c10
      try clear c11
      try clear c12
      try clear c12b0
      try clear c14
      try clear c14b0
      try clear c15
      try clear c15b0
      try clear c16
      try clear c16b0
      try clear p16
      try clear q16
      try clear hx16
      try clear c17
      try clear c21
      try clear c21b0
      try clear c21b1
      try clear c22
      try clear c26
      try clear c30
      try clear c30b0
      try clear c30b1
      try clear c31
      try clear c34
      try clear c36
      try clear hcz18_0
      try clear hcz18_1
      try clear hcz18_2
      try clear hcz18_3
      try clear hcz19_0
      try clear hcz19_1
      try clear hcz19_2
      try clear hcz23_0
      try clear hcz23_1
      try clear hcz23_2
      try clear hcz23_3
      try clear hcz24_0
      try clear hcz24_1
      try clear hcz24_2
      try clear hcz27_0
      try clear hcz27_1
      try clear hcz27_2
      try clear hcz27_3
      try clear hcz28_0
      try clear hcz28_1
      try clear hcz28_2
      try clear hcz32_0
      try clear hcz32_1
      try clear hcz32_2
      try clear hcz32_3
      try clear hcz35_0
      try clear hcz35_1
      try clear hcz35_2
      try clear hcz35_3
      try clear hcz37_0
      try clear hcz37_1
      try clear hcz37_2
      try clear hcz37_3
      try clear hcz6_0
      try clear hcz6_1
      try clear hcz6_2
      try clear hcz9_0
      try clear hcz9_1
      try clear hcz9_2
      try clear hcz9_3
      try clear hfz18_0
      try clear hfz18_1
      try clear hfz18_2
      try clear hfz18_3
      try clear hfz19_0
      try clear hfz19_1
      try clear hfz19_2
      try clear hfz23_0
      try clear hfz23_1
      try clear hfz23_2
      try clear hfz23_3
      try clear hfz24_0
      try clear hfz24_1
      try clear hfz24_2
      try clear hfz27_0
      try clear hfz27_1
      try clear hfz27_2
      try clear hfz27_3
      try clear hfz28_0
      try clear hfz28_1
      try clear hfz28_2
      try clear hfz32_0
      try clear hfz32_1
      try clear hfz32_2
      try clear hfz32_3
      try clear hfz35_0
      try clear hfz35_1
      try clear hfz35_2
      try clear hfz35_3
      try clear hfz37_0
      try clear hfz37_1
      try clear hfz37_2
      try clear hfz37_3
      try clear hfz6_0
      try clear hfz6_1
      try clear hfz6_2
      try clear hfz9_0
      try clear hfz9_1
      try clear hfz9_2
      try clear hfz9_3
      try clear hx160_0
      try clear hx160_1
      try clear hx160_2
      try clear hx160_3
      try clear hx163_0
      try clear hx163_1
      try clear hx163_2
      try clear hx163_3
      try clear p160
      try clear p163
      try clear p2
      try clear q160
      try clear q163
      obtain ⟨kq, x49_4, rfl, HA, HJ4, BK157, BK161, HB⟩ := hcut
      cases kq with
      | zero => exact absurd HA.out (by simp [spec_IsValidAccount.j1])
      | succ kj4 =>
       have H := HA.out
       clear HA
       simp only [spec_IsValidAccount.j1] at H
       by_cases c38 : x49_4 = true
       ·subst c38
        have H1 : (some false) = some r := by rw [if_pos rfl] at H; exact H
        clear H
        have H := H1
        clear H1
        obtain rfl := Option.some.inj H
        go_wp2
        repeat (go_quiet (fail); try go_wp2)
        go_ret
        exact ⟨tE, tB⟩
       ·replace c38 := Bool.eq_false_iff.mpr c38
        subst c38
        have H1 : (spec_IsValidAccount.l1 kj4 x3_1 0 a0_0 a0_1 l0_2 ((rd_T123 l0_2 x3_1).f0) ((rd_T123 l0_2 x3_1).f1) ((rd_T123 l0_2 x3_1).f2) ((rd_T123 l0_2 x3_1).f3)) = some r := by rw [if_neg (show ¬ (false = true) by decide)] at H; exact H
        clear H
        have H := H1
        clear H1
        have H' := Aside0.mk H
        clear H
        go_wp2
        repeat (go_quiet (fail); try go_wp2)
        go_loopg [5] kj4 (fun kq v5 w' => ∃ (x5_3 : Int), v5 = .int .i64 x5_3 ∧ Aside0 (spec_IsValidAccount.l1 kq x3_1 x5_3 a0_0 a0_1 l0_2 ((rd_T123 l0_2 x3_1).f0) ((rd_T123 l0_2 x3_1).f1) ((rd_T123 l0_2 x3_1).f2) ((rd_T123 l0_2 x3_1).f3) = some r) ∧ Aside0 (kq ≤ kj4) ∧ Aside0 (w'.heap[gb157]? = some (.cells #[.int .i64 a0_0, .int .i64 a0_1, (.slice (some ad160) l0_2.length c0_2)] 76 (0, 0))) ∧ Aside0 (w'.heap[gb161]? = some (.cells #[.int .i64 ((rd_T123 l0_2 x3_1).f0), .int .i64 ((rd_T123 l0_2 x3_1).f1), .int .i64 ((rd_T123 l0_2 x3_1).f2), .bool ((rd_T123 l0_2 x3_1).f3)] 123 (0, 0))) ∧ Aside0 (Below w.heap.size w w'))
        case atStart => exact ⟨(0), tS, H', ⟨Nat.le_refl _⟩, ⟨tK BK157⟩, ⟨tK BK161⟩, ⟨tB⟩⟩
        case round =>
         clear H'
         try clear c1
         try clear p1
         try clear q1
         try clear hx1
         try clear c2
         try clear p2
         try clear c3
         try clear c3b0
         try clear c4
         try clear c4b0
         try clear p6
         try clear c8
         try clear c10
         try clear c11
         try clear c12
         try clear c12b0
         try clear c14
         try clear c14b0
         try clear c15
         try clear c15b0
         try clear c16
         try clear c16b0
         try clear p16
         try clear q16
         try clear hx16
         try clear c17
         try clear c21
         try clear c21b0
         try clear c21b1
         try clear c22
         try clear c26
         try clear c30
         try clear c30b0
         try clear c30b1
         try clear c31
         try clear c34
         try clear c36
         try clear c38
         try clear hcz18_0
         try clear hcz18_1
         try clear hcz18_2
         try clear hcz18_3
         try clear hcz19_0
         try clear hcz19_1
         try clear hcz19_2
         try clear hcz23_0
         try clear hcz23_1
         try clear hcz23_2
         try clear hcz23_3
         try clear hcz24_0
         try clear hcz24_1
         try clear hcz24_2
         try clear hcz27_0
         try clear hcz27_1
         try clear hcz27_2
         try clear hcz27_3
         try clear hcz28_0
         try clear hcz28_1
         try clear hcz28_2
         try clear hcz32_0
         try clear hcz32_1
         try clear hcz32_2
         try clear hcz32_3
         try clear hcz35_0
         try clear hcz35_1
         try clear hcz35_2
         try clear hcz35_3
         try clear hcz37_0
         try clear hcz37_1
         try clear hcz37_2
         try clear hcz37_3
         try clear hcz6_0
         try clear hcz6_1
         try clear hcz6_2
         try clear hcz9_0
         try clear hcz9_1
         try clear hcz9_2
         try clear hcz9_3
         try clear hfz18_0
         try clear hfz18_1
         try clear hfz18_2
         try clear hfz18_3
         try clear hfz19_0
         try clear hfz19_1
         try clear hfz19_2
         try clear hfz23_0
         try clear hfz23_1
         try clear hfz23_2
         try clear hfz23_3
         try clear hfz24_0
         try clear hfz24_1
         try clear hfz24_2
         try clear hfz27_0
         try clear hfz27_1
         try clear hfz27_2
         try clear hfz27_3
         try clear hfz28_0
         try clear hfz28_1
         try clear hfz28_2
         try clear hfz32_0
         try clear hfz32_1
         try clear hfz32_2
         try clear hfz32_3
         try clear hfz35_0
         try clear hfz35_1
         try clear hfz35_2
         try clear hfz35_3
         try clear hfz37_0
         try clear hfz37_1
         try clear hfz37_2
         try clear hfz37_3
         try clear hfz6_0
         try clear hfz6_1
         try clear hfz6_2
         try clear hfz9_0
         try clear hfz9_1
         try clear hfz9_2
         try clear hfz9_3
         try clear hx160_0
         try clear hx160_1
         try clear hx160_2
         try clear hx160_3
         try clear hx163_0
         try clear hx163_1
         try clear hx163_2
         try clear hx163_3
         try clear p1
         try clear p16
         try clear p160
         try clear p163
         try clear p2
         try clear p6
         try clear q1
         try clear q16
         try clear q160
         try clear q163
         obtain ⟨x5_3, rfl, HA, HK3, BK157, BK161, HB⟩ := hrel
         cases gk with
         | zero => exact absurd HA.out (by simp [spec_IsValidAccount.l1])
         | succ k3 =>
          have H := HA.out
          clear HA
          simp only [spec_IsValidAccount.l1] at H
          by_cases c39 : x5_3 < x3_1
          ·rw [if_pos c39] at H
           have c39b0 : decide (x5_3 < x3_1) = true := decide_eq_true c39
           clear c39
           by_cases c40 : 0 ≤ x5_3
           ·rw [if_pos c40] at H
            have c40b0 : decide (0 ≤ x5_3) = true := decide_eq_true c40
            clear c40
            by_cases c41 : x5_3 < (l0_2.length : Int)
            ·rw [if_pos c41] at H
             have c41b0 : decide (x5_3 < (l0_2.length : Int)) = true := decide_eq_true c41
             clear c41
             by_cases c42 : ((rd_T123 l0_2 x5_3).f1) = ((rd_T123 l0_2 x3_1).f1)
             ·rw [if_pos c42] at H
              have c42b0 : (((rd_T123 l0_2 x5_3).f1) == ((rd_T123 l0_2 x3_1).f1)) = true := beq_iff_eq.mpr c42
              have c42b1 : (((rd_T123 l0_2 x5_3).f1) != ((rd_T123 l0_2 x3_1).f1)) = false := bne_eq_false_iff_eq.mpr c42
              clear c42
              obtain rfl := Option.some.inj H
              have hnb43 := NB157_161.out
              have hnc43 := NB161_157.out
              obtain ⟨hcz44_0, hcz44_1, hcz44_2, hfz44_0, hfz44_1, hfz44_2⟩ := bc3 BK157.out
              have p168 : 0 ≤ (x5_3 : Int) := of_decide_eq_true tA
              have q168 : x5_3 < (l0_2.length : Int) := of_decide_eq_true tA
              obtain ⟨ad168, e168, hx168_0, hx168_1, hx168_2, hx168_3⟩ := at_T123 HR0_2.out x5_3 p168 q168
              obtain rfl : ad160 = ad168 := (by injection e168)
              replace hx168_0 := hbc HB hx168_0
              replace hx168_1 := hbc HB hx168_1
              replace hx168_2 := hbc HB hx168_2
              replace hx168_3 := hbc HB hx168_3
              replace p168 := eq_true p168
              replace q168 := eq_true q168
              obtain ⟨hcz45_0, hcz45_1, hcz45_2, hcz45_3, hfz45_0, hfz45_1, hfz45_2, hfz45_3⟩ := bc4 BK161.out
              go_wp2
              repeat (go_quiet (fail); try go_wp2)
              go_ret
              exact ⟨tE, tB⟩
             ·rw [if_neg c42] at H
              have c42b0 : (((rd_T123 l0_2 x5_3).f1) == ((rd_T123 l0_2 x3_1).f1)) = false := beq_eq_false_iff_ne.mpr c42
              have c42b1 : (((rd_T123 l0_2 x5_3).f1) != ((rd_T123 l0_2 x3_1).f1)) = true := bne_iff_ne.mpr c42
              have H' := Aside0.mk H
              clear H
              have hnb46 := NB157_161.out
              have hnc46 := NB161_157.out
              obtain ⟨hcz47_0, hcz47_1, hcz47_2, hfz47_0, hfz47_1, hfz47_2⟩ := bc3 BK157.out
              have p168 : 0 ≤ (x5_3 : Int) := of_decide_eq_true tA
              have q168 : x5_3 < (l0_2.length : Int) := of_decide_eq_true tA
              obtain ⟨ad168, e168, hx168_0, hx168_1, hx168_2, hx168_3⟩ := at_T123 HR0_2.out x5_3 p168 q168
              obtain rfl : ad160 = ad168 := (by injection e168)
              replace hx168_0 := hbc HB hx168_0
              replace hx168_1 := hbc HB hx168_1
              replace hx168_2 := hbc HB hx168_2
              replace hx168_3 := hbc HB hx168_3
              replace p168 := eq_true p168
              replace q168 := eq_true q168
              obtain ⟨hcz48_0, hcz48_1, hcz48_2, hcz48_3, hfz48_0, hfz48_1, hfz48_2, hfz48_3⟩ := bc4 BK161.out
              go_wp2
              repeat (go_quiet (fail); try go_wp2)
              go_roundg k3
              case measure => have := HK1.out; have := HJ4.out; have := HK3.out; omega
              case rel => exact ⟨(wrap64 (x5_3 + 1)), tS, H', ⟨by have := HK1.out; have := HJ4.out; have := HK3.out; omega⟩, ⟨tK BK157⟩, ⟨tK BK161⟩, ⟨tB⟩⟩
            ·rw [if_neg c41] at H
             exact absurd H (by simp)
           ·rw [if_neg c40] at H
            exact absurd H (by simp)
          ·rw [if_neg c39] at H
           have c39b0 : decide (x5_3 < x3_1) = false := decide_eq_false c39
           clear c39
           have H' := Aside0.mk H
           clear H
           go_wp2
           repeat (go_quiet (fail); try go_wp2)
           go_roundg k3
           case measure => have := HK1.out; have := HJ4.out; have := HK3.out; omega
           case rel => exact ⟨(wrap64 (x3_1 + 1)), tS, H', ⟨by have := HK1.out; have := HJ4.out; have := HK3.out; omega⟩, ⟨tK BK157⟩, ⟨tB⟩⟩
    ·rw [if_neg c4] at H
     exact absurd H (by simp)
   ·rw [if_neg c3] at H
    have c3b0 : decide (x3_1 < (l0_2.length : Int)) = false := decide_eq_false c3
    clear c3
    replace H := Option.bind_eq_some_iff.mp H
    obtain ⟨t158, A490, H⟩ := H
    replace H : (if t158 = true then ((spec_l1In.f a0_1 1 3).bind fun t159 => (if t159 = true then (some (decide ((l0_2.length : Int) ≤ 8))) else (some false))) else (some false)) = some r := H
    have A49 := Aside0.mk A490
    clear A490
    by_cases c50 : t158 = true
    ·subst c50
     have H1 : ((spec_l1In.f a0_1 1 3).bind fun t159 => (if t159 = true then (some (decide ((l0_2.length : Int) ≤ 8))) else (some false))) = some r := by rw [if_pos rfl] at H; exact H
     clear H
     have H := H1
     clear H1
     replace H := Option.bind_eq_some_iff.mp H
     obtain ⟨t159, A510, H⟩ := H
     replace H : (if t159 = true then (some (decide ((l0_2.length : Int) ≤ 8))) else (some false)) = some r := H
     have A51 := Aside0.mk A510
     clear A510
     by_cases c52 : t159 = true
     ·subst c52
      have H1 : (some (decide ((l0_2.length : Int) ≤ 8))) = some r := by rw [if_pos rfl] at H; exact H
      clear H
      have H := H1
      clear H1
      obtain rfl := Option.some.inj H
      obtain ⟨hcz53_0, hcz53_1, hcz53_2, hfz53_0, hfz53_1, hfz53_2⟩ := bc3 BK157.out
      go_wp2_with (first | (go_at_call 81; (with_reducible refine (spec_l1In.calls a0_0 0 1000000 true _ A49.out).mono ?_); rintro e w' ⟨rfl, ⟨nd, rfl⟩⟩; (try exact tQ)) | (go_at_call 81; (with_reducible refine (spec_l1In.calls a0_1 1 3 true _ A51.out).mono ?_); rintro e w' ⟨rfl, ⟨nd, rfl⟩⟩; (try exact tQ)))
      repeat (go_quiet (first | (go_at_call 81; (with_reducible refine (spec_l1In.calls a0_0 0 1000000 true _ A49.out).mono ?_); rintro e w' ⟨rfl, ⟨nd, rfl⟩⟩; (try exact tQ)) | (go_at_call 81; (with_reducible refine (spec_l1In.calls a0_1 1 3 true _ A51.out).mono ?_); rintro e w' ⟨rfl, ⟨nd, rfl⟩⟩; (try exact tQ))); try go_wp2_with (first | (go_at_call 81; (with_reducible refine (spec_l1In.calls a0_0 0 1000000 true _ A49.out).mono ?_); rintro e w' ⟨rfl, ⟨nd, rfl⟩⟩; (try exact tQ)) | (go_at_call 81; (with_reducible refine (spec_l1In.calls a0_1 1 3 true _ A51.out).mono ?_); rintro e w' ⟨rfl, ⟨nd, rfl⟩⟩; (try exact tQ))))
      go_ret
      exact ⟨tE, tB⟩
     ·replace c52 := Bool.eq_false_iff.mpr c52
      subst c52
      have H1 : (some false) = some r := by rw [if_neg (show ¬ (false = true) by decide)] at H; exact H
      clear H
      have H := H1
      clear H1
      obtain rfl := Option.some.inj H
      obtain ⟨hcz54_0, hcz54_1, hcz54_2, hfz54_0, hfz54_1, hfz54_2⟩ := bc3 BK157.out
      go_wp2_with (first | (go_at_call 81; (with_reducible refine (spec_l1In.calls a0_0 0 1000000 true _ A49.out).mono ?_); rintro e w' ⟨rfl, ⟨nd, rfl⟩⟩; (try exact tQ)) | (go_at_call 81; (with_reducible refine (spec_l1In.calls a0_1 1 3 false _ A51.out).mono ?_); rintro e w' ⟨rfl, ⟨nd, rfl⟩⟩; (try exact tQ)))
      repeat (go_quiet (first | (go_at_call 81; (with_reducible refine (spec_l1In.calls a0_0 0 1000000 true _ A49.out).mono ?_); rintro e w' ⟨rfl, ⟨nd, rfl⟩⟩; (try exact tQ)) | (go_at_call 81; (with_reducible refine (spec_l1In.calls a0_1 1 3 false _ A51.out).mono ?_); rintro e w' ⟨rfl, ⟨nd, rfl⟩⟩; (try exact tQ))); try go_wp2_with (first | (go_at_call 81; (with_reducible refine (spec_l1In.calls a0_0 0 1000000 true _ A49.out).mono ?_); rintro e w' ⟨rfl, ⟨nd, rfl⟩⟩; (try exact tQ)) | (go_at_call 81; (with_reducible refine (spec_l1In.calls a0_1 1 3 false _ A51.out).mono ?_); rintro e w' ⟨rfl, ⟨nd, rfl⟩⟩; (try exact tQ))))
      go_ret
      exact ⟨tE, tB⟩
    ·replace c50 := Bool.eq_false_iff.mpr c50
     subst c50
     have H1 : (some false) = some r := by rw [if_neg (show ¬ (false = true) by decide)] at H; exact H
     clear H
     have H := H1
     clear H1
     obtain rfl := Option.some.inj H
     obtain ⟨hcz55_0, hcz55_1, hcz55_2, hfz55_0, hfz55_1, hfz55_2⟩ := bc3 BK157.out
     go_wp2_with (first | (go_at_call 81; (with_reducible refine (spec_l1In.calls a0_0 0 1000000 false _ A49.out).mono ?_); rintro e w' ⟨rfl, ⟨nd, rfl⟩⟩; (try exact tQ)))
     repeat (go_quiet (first | (go_at_call 81; (with_reducible refine (spec_l1In.calls a0_0 0 1000000 false _ A49.out).mono ?_); rintro e w' ⟨rfl, ⟨nd, rfl⟩⟩; (try exact tQ))); try go_wp2_with (first | (go_at_call 81; (with_reducible refine (spec_l1In.calls a0_0 0 1000000 false _ A49.out).mono ?_); rintro e w' ⟨rfl, ⟨nd, rfl⟩⟩; (try exact tQ))))
     go_ret
     exact ⟨tE, tB⟩

end Go.Proofs.Ytjggdakbphjomaa.ZFnExactSplitAccount
