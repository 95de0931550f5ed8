/- The machine side: for each Go function a Lean function and the contract that the Go code answers as it does; printed by program (wip/tmpl/pprint.sh). -/
import Derived.Test.YtjggdakbphjomaaZFnExactTransferAccountx0
import Derived.Test.YtjggdakbphjomaaZFnExactTransferAccountx1
namespace Go.Proofs.Ytjggdakbphjomaa.ZFnExactTransferAccount
open Go.RowKit Go.Proofs.YtjggdakbphjomaaW.PrintWords Go.Proofs.YtjggdakbphjomaaW.PrintLast Go.Proofs.YtjggdakbphjomaaW.PrintMore
attribute [local go_sem] max2_int min2_int max_two min_two max_three min_three max_four min_four   -- for this text's walks alone
set_option linter.unusedVariables false
set_option linter.unusedSimpArgs false

/-! ### spec_IsValidAccount: function 103 -/
mutual
def spec_IsValidAccount.l0 : Nat → Int → Int → Int → List (S123) → Option (Bool)
 | 0, _, _, _, _ => none
 | k + 1, x3, x118000, x118001, x118002 => if x3 < (x118002.length : Int) then (if 0 ≤ x3 then ((spec_l1In.f ((rd_T123 x118002 x3).f0) 0 1000000).bind fun t122 => (if t122 = true then (if x3 > 0 then (if 0 ≤ (wrap64 (x3 - 1)) then (if (wrap64 (x3 - 1)) < (x118002.length : Int) then (if ((rd_T123 x118002 (wrap64 (x3 - 1))).f0) ≥ ((rd_T123 x118002 x3).f0) then (spec_IsValidAccount.j1 k x3 true x118000 x118001 x118002 ((rd_T123 x118002 x3).f0) ((rd_T123 x118002 x3).f1) ((rd_T123 x118002 x3).f2) ((rd_T123 x118002 x3).f3)) else ((spec_PrivateKey.f k ((rd_T123 x118002 x3).f1)).bind fun t124 => (if t124 = 0 then (spec_IsValidAccount.j1 k x3 true x118000 x118001 x118002 ((rd_T123 x118002 x3).f0) ((rd_T123 x118002 x3).f1) ((rd_T123 x118002 x3).f2) ((rd_T123 x118002 x3).f3)) else ((spec_l1In.f ((rd_T123 x118002 x3).f2) 0 1000000).bind fun t125 => (spec_IsValidAccount.j1 k x3 (!t125) x118000 x118001 x118002 ((rd_T123 x118002 x3).f0) ((rd_T123 x118002 x3).f1) ((rd_T123 x118002 x3).f2) ((rd_T123 x118002 x3).f3)))))) else (none)) else (none)) else ((spec_PrivateKey.f k ((rd_T123 x118002 x3).f1)).bind fun t126 => (if t126 = 0 then (spec_IsValidAccount.j1 k x3 true x118000 x118001 x118002 ((rd_T123 x118002 x3).f0) ((rd_T123 x118002 x3).f1) ((rd_T123 x118002 x3).f2) ((rd_T123 x118002 x3).f3)) else ((spec_l1In.f ((rd_T123 x118002 x3).f2) 0 1000000).bind fun t127 => (spec_IsValidAccount.j1 k x3 (!t127) x118000 x118001 x118002 ((rd_T123 x118002 x3).f0) ((rd_T123 x118002 x3).f1) ((rd_T123 x118002 x3).f2) ((rd_T123 x118002 x3).f3)))))) else (spec_IsValidAccount.j1 k x3 true x118000 x118001 x118002 ((rd_T123 x118002 x3).f0) ((rd_T123 x118002 x3).f1) ((rd_T123 x118002 x3).f2) ((rd_T123 x118002 x3).f3)))) else (none)) else ((spec_l1In.f x118000 0 1000000).bind fun t118 => (if t118 = true then ((spec_l1In.f x118001 1 3).bind fun t119 => (if t119 = true then (some (decide ((x118002.length : Int) ≤ 8))) else (some false))) else (some false)))
def spec_IsValidAccount.j1 : Nat → Int → Bool → Int → Int → List (S123) → Int → Int → Int → Bool → Option (Bool)
 | 0, _, _, _, _, _, _, _, _, _ => none
 | k + 1, x3, x49, x118000, x118001, x118002, x122000, x122001, x122002, x122003 => if x49 = true then (some false) else (spec_IsValidAccount.l1 k x3 0 x118000 x118001 x118002 x122000 x122001 x122002 x122003)
def spec_IsValidAccount.l1 : Nat → Int → Int → Int → Int → List (S123) → Int → Int → Int → Bool → Option (Bool)
 | 0, _, _, _, _, _, _, _, _, _ => none
 | k + 1, x3, x5, x118000, x118001, x118002, x122000, x122001, x122002, x122003 => if x5 < x3 then (if 0 ≤ x5 then (if x5 < (x118002.length : Int) then (if ((rd_T123 x118002 x5).f1) = x122001 then (some false) else (spec_IsValidAccount.l1 k x3 (wrap64 (x5 + 1)) x118000 x118001 x118002 x122000 x122001 x122002 x122003)) else (none)) else (none)) else (spec_IsValidAccount.l0 k (wrap64 (x3 + 1)) x118000 x118001 x118002)
end
def spec_IsValidAccount.f (k : Nat) (a0_0 : Int) (a0_1 : Int) (l0_2 : List (S123)) : Option (Bool) := spec_IsValidAccount.l0 k 0 a0_0 a0_1 l0_2
theorem spec_IsValidAccount.mono_l : ∀ k, (∀ y0 y1 y2 y3, LeO (spec_IsValidAccount.l0 k y0 y1 y2 y3) (spec_IsValidAccount.l0 (k + 1) y0 y1 y2 y3)) ∧ (∀ y0 y1 y2 y3 y4 y5 y6 y7 y8, LeO (spec_IsValidAccount.j1 k y0 y1 y2 y3 y4 y5 y6 y7 y8) (spec_IsValidAccount.j1 (k + 1) y0 y1 y2 y3 y4 y5 y6 y7 y8)) ∧ (∀ y0 y1 y2 y3 y4 y5 y6 y7 y8, LeO (spec_IsValidAccount.l1 k y0 y1 y2 y3 y4 y5 y6 y7 y8) (spec_IsValidAccount.l1 (k + 1) y0 y1 y2 y3 y4 y5 y6 y7 y8))
 | 0 => ⟨fun _ _ _ _ r h => by simp [spec_IsValidAccount.l0] at h, fun _ _ _ _ _ _ _ _ _ r h => by simp [spec_IsValidAccount.j1] at h, fun _ _ _ _ _ _ _ _ _ r h => by simp [spec_IsValidAccount.l1] at h⟩
 | k + 1 => by
  obtain ⟨ih0, ih1, ih2⟩ := spec_IsValidAccount.mono_l k
  refine ⟨?_, ?_, ?_⟩
  ·intro y0 y1 y2 y3
   unfold spec_IsValidAccount.l0
   repeat' first
   | (with_reducible exact ih0 _ _ _ _)
   | (with_reducible exact ih1 _ _ _ _ _ _ _ _ _)
   | (with_reducible exact ih2 _ _ _ _ _ _ _ _ _)
   | (with_reducible exact spec_PrivateKey.mono _ _)
   | (with_reducible exact LeO.refl _)
   | (with_reducible exact LeO.none _)
   | (with_reducible refine LeO.ite ?_ ?_)
   | (with_reducible refine LeO.bind ?_ (fun _ => ?_))
   | exact ih0 _ _ _ _
   | exact ih1 _ _ _ _ _ _ _ _ _
   | exact ih2 _ _ _ _ _ _ _ _ _
   | exact spec_PrivateKey.mono _ _
   | exact LeO.none _
   | refine LeO.ite ?_ ?_
   | refine LeO.bind ?_ (fun _ => ?_)
  ·intro y0 y1 y2 y3 y4 y5 y6 y7 y8
   unfold spec_IsValidAccount.j1
   repeat' first
   | (with_reducible exact ih0 _ _ _ _)
   | (with_reducible exact ih1 _ _ _ _ _ _ _ _ _)
   | (with_reducible exact ih2 _ _ _ _ _ _ _ _ _)
   | (with_reducible exact spec_PrivateKey.mono _ _)
   | (with_reducible exact LeO.refl _)
   | (with_reducible exact LeO.none _)
   | (with_reducible refine LeO.ite ?_ ?_)
   | (with_reducible refine LeO.bind ?_ (fun _ => ?_))
   | exact ih0 _ _ _ _
   | exact ih1 _ _ _ _ _ _ _ _ _
   | exact ih2 _ _ _ _ _ _ _ _ _
   | exact spec_PrivateKey.mono _ _
   | exact LeO.none _
   | refine LeO.ite ?_ ?_
   | refine LeO.bind ?_ (fun _ => ?_)
  ·intro y0 y1 y2 y3 y4 y5 y6 y7 y8
   unfold spec_IsValidAccount.l1
   repeat' first
   | (with_reducible exact ih0 _ _ _ _)
   | (with_reducible exact ih1 _ _ _ _ _ _ _ _ _)
   | (with_reducible exact ih2 _ _ _ _ _ _ _ _ _)
   | (with_reducible exact spec_PrivateKey.mono _ _)
   | (with_reducible exact LeO.refl _)
   | (with_reducible exact LeO.none _)
   | (with_reducible refine LeO.ite ?_ ?_)
   | (with_reducible refine LeO.bind ?_ (fun _ => ?_))
   | exact ih0 _ _ _ _
   | exact ih1 _ _ _ _ _ _ _ _ _
   | exact ih2 _ _ _ _ _ _ _ _ _
   | exact spec_PrivateKey.mono _ _
   | exact LeO.none _
   | refine LeO.ite ?_ ?_
   | refine LeO.bind ?_ (fun _ => ?_)
theorem spec_IsValidAccount.mono : ∀ a0 a1 a2 k, LeO (spec_IsValidAccount.f k a0 a1 a2) (spec_IsValidAccount.f (k + 1) a0 a1 a2) := by
 intro a0 a1 a2 k
 obtain ⟨ih0, ih1, ih2⟩ := spec_IsValidAccount.mono_l k
 unfold spec_IsValidAccount.f
 repeat' first
   | (with_reducible exact ih0 _ _ _ _)
   | (with_reducible exact ih1 _ _ _ _ _ _ _ _ _)
   | (with_reducible exact ih2 _ _ _ _ _ _ _ _ _)
   | (with_reducible exact spec_PrivateKey.mono _ _)
   | (with_reducible exact LeO.refl _)
   | (with_reducible exact LeO.none _)
   | (with_reducible refine LeO.ite ?_ ?_)
   | (with_reducible refine LeO.bind ?_ (fun _ => ?_))
   | exact ih0 _ _ _ _
   | exact ih1 _ _ _ _ _ _ _ _ _
   | exact ih2 _ _ _ _ _ _ _ _ _
   | exact spec_PrivateKey.mono _ _
   | exact LeO.none _
   | refine LeO.ite ?_ ?_
   | refine LeO.bind ?_ (fun _ => ?_)
set_option maxHeartbeats 8000000 in
set_option maxRecDepth 100000 in
theorem spec_IsValidAccount.calls (k : Nat) (a0_0 : Int) (a0_1 : Int) (A0_2 : Option Addr) (c0_2 : Nat) (l0_2 : List (S123)) (r : Bool) (w : World) (hr0_2 : Kd.C k123 w A0_2 l0_2.length l0_2) (hc0_2 : l0_2.length ≤ c0_2) (h : spec_IsValidAccount.f k a0_0 a0_1 l0_2 = some r) :
  Calls Try.prog 103 #[.agg #[.int .i64 a0_0, .int .i64 a0_1, .slice A0_2 l0_2.length c0_2]] w fun e w' => e = .returned (.bool r) ∧ Below w.heap.size w w' := by
 have hu76 := Try.underlying76
 have hu123 := Try.underlying123
 have HR0_2 := Aside0.mk hr0_2
 have HC0_2 := Aside0.mk hc0_2
 clear hr0_2 hc0_2
 have HB := Aside0.mk (Below.refl w.heap.size w)
 have H : (spec_IsValidAccount.l0 k 0 a0_0 a0_1 l0_2) = some r := h
 clear h
 have H' := Aside0.mk H
 clear H
 go_enter Try.func103, Try.ntmps103
 go_wp2_with (first | ((with_reducible refine gate_dst (N := 1) rfl ?_); (try (refine gate_guard (by rfl) ?_; dsimp only)); refine box_event ?hg (N := 1) ?hd (cs := #[.int .i64 a0_0, .int .i64 a0_1, .slice A0_2 l0_2.length c0_2]) (t := 76) ?hr ?_; (case hd => rfl); (case hg => rfl); (case hr => exact tG); intro gb117 hg w2 hbox hb; have n0_ := Aside0.mk (below_step tB hb); have n1_ := Aside0.mk (hbox); have n2_ := Aside0.mk ((by rw [hg]; exact (below_size tB) : w.heap.size ≤ gb117)); have n3_ := Aside0.mk ((by rw [hg]; exact (below_size tB) : w.heap.size ≤ gb117)); clear HB; have HB := n0_; have BK117 := n1_; have GW117 := n2_; have GE117 := n3_; clear n0_ n1_ n2_ n3_; clear hb hbox hg))
 repeat (go_quiet (first | ((with_reducible refine gate_dst (N := 1) rfl ?_); (try (refine gate_guard (by rfl) ?_; dsimp only)); refine box_event ?hg (N := 1) ?hd (cs := #[.int .i64 a0_0, .int .i64 a0_1, .slice A0_2 l0_2.length c0_2]) (t := 76) ?hr ?_; (case hd => rfl); (case hg => rfl); (case hr => exact tG); intro gb117 hg w2 hbox hb; have n0_ := Aside0.mk (below_step tB hb); have n1_ := Aside0.mk (hbox); have n2_ := Aside0.mk ((by rw [hg]; exact (below_size tB) : w.heap.size ≤ gb117)); have n3_ := Aside0.mk ((by rw [hg]; exact (below_size tB) : w.heap.size ≤ gb117)); clear HB; have HB := n0_; have BK117 := n1_; have GW117 := n2_; have GE117 := n3_; clear n0_ n1_ n2_ n3_; clear hb hbox hg)); try go_wp2_with (first | ((with_reducible refine gate_dst (N := 1) rfl ?_); (try (refine gate_guard (by rfl) ?_; dsimp only)); refine box_event ?hg (N := 1) ?hd (cs := #[.int .i64 a0_0, .int .i64 a0_1, .slice A0_2 l0_2.length c0_2]) (t := 76) ?hr ?_; (case hd => rfl); (case hg => rfl); (case hr => exact tG); intro gb117 hg w2 hbox hb; have n0_ := Aside0.mk (below_step tB hb); have n1_ := Aside0.mk (hbox); have n2_ := Aside0.mk ((by rw [hg]; exact (below_size tB) : w.heap.size ≤ gb117)); have n3_ := Aside0.mk ((by rw [hg]; exact (below_size tB) : w.heap.size ≤ gb117)); clear HB; have HB := n0_; have BK117 := n1_; have GW117 := n2_; have GE117 := n3_; clear n0_ n1_ n2_ n3_; clear hb hbox hg)))
 go_loopg [3] k (fun kq v3 w' => ∃ (x3_1 : Int), v3 = .int .i64 x3_1 ∧ Aside0 (spec_IsValidAccount.l0 kq x3_1 a0_0 a0_1 l0_2 = some r) ∧ Aside0 (kq ≤ k) ∧ Aside0 (w'.heap[gb117]? = some (.cells #[.int .i64 a0_0, .int .i64 a0_1, (.slice A0_2 l0_2.length c0_2)] 76 (0, 0))) ∧ Aside0 (Below w.heap.size w w'))
 case atStart => exact ⟨(0), tS, H', ⟨Nat.le_refl _⟩, ⟨tK BK117⟩, ⟨tB⟩⟩
 case round =>
  clear H'
  try clear c1
  try clear p2
  obtain ⟨x3_1, rfl, HA, HK1, BK117, HB⟩ := hrel
  cases gk with
  | zero => exact absurd HA.out (by simp [spec_IsValidAccount.l0])
  | succ k1 =>
   have H := HA.out
   clear HA
   simp only [spec_IsValidAccount.l0] at H
   by_cases c3 : x3_1 < (l0_2.length : Int)
   ·rw [if_pos c3] at H
    have c3b0 : decide (x3_1 < (l0_2.length : Int)) = true := decide_eq_true c3
    clear c3
    by_cases c4 : 0 ≤ x3_1
    ·rw [if_pos c4] at H
     have c4b0 : decide (0 ≤ x3_1) = true := decide_eq_true c4
     clear c4
     have HC5 := Aside0.mk H
     clear H
     obtain ⟨hcz6_0, hcz6_1, hcz6_2, hfz6_0, hfz6_1, hfz6_2⟩ := bc3 BK117.out
     have p120 : 0 ≤ (x3_1 : Int) := of_decide_eq_true tA
     have q120 : x3_1 < (l0_2.length : Int) := of_decide_eq_true tA
     obtain ⟨ad120, e120, hx120_0, hx120_1, hx120_2, hx120_3⟩ := at_T123 HR0_2.out x3_1 p120 q120
     cases e120
     replace hx120_0 := hbc HB hx120_0
     replace hx120_1 := hbc HB hx120_1
     replace hx120_2 := hbc HB hx120_2
     replace hx120_3 := hbc HB hx120_3
     replace p120 := eq_true p120
     replace q120 := eq_true q120
     go_upto_region 5 with (first | ((with_reducible refine gate_dst (N := 4) rfl ?_); (try (refine gate_guard (by rfl) ?_; dsimp only)); refine box_event ?hg (N := 4) ?hd (cs := #[.int .i64 0, .int .i64 0, .int .i64 0, .bool false]) (t := 123) ?hr ?_; (case hd => rfl); (case hg => rfl); (case hr => exact tG); intro gb121 hg w7 hbox hb; have n0_ := Aside0.mk (blk_below (g := gb117) (o := .cells #[.int .i64 a0_0, .int .i64 a0_1, .slice (some ad120) l0_2.length c0_2] 76 (0, 0)) (tK BK117) hb); have n1_ := Aside0.mk (below_step tB hb); have n2_ := Aside0.mk (hbox); have n3_ := Aside0.mk ((by rw [hg]; exact (below_size tB) : w.heap.size ≤ gb121)); have n4_ := Aside0.mk ((by rw [hg]; exact (below_size tB) : w.heap.size ≤ gb121)); have n5_ := Aside0.mk ((by rw [hg]; exact Nat.ne_of_lt (blk_lt (g := gb117) (o := .cells #[.int .i64 a0_0, .int .i64 a0_1, .slice (some ad120) l0_2.length c0_2] 76 (0, 0)) (tK BK117)) : gb117 ≠ gb121)); have n6_ := Aside0.mk ((by rw [hg]; exact Nat.ne_of_gt (blk_lt (g := gb117) (o := .cells #[.int .i64 a0_0, .int .i64 a0_1, .slice (some ad120) l0_2.length c0_2] 76 (0, 0)) (tK BK117)) : gb121 ≠ gb117)); clear BK117; clear HB; have BK117 := n0_; have HB := n1_; have BK121 := n2_; have GW121 := n3_; have GE121 := n4_; have NB117_121 := n5_; have NB121_117 := n6_; clear n0_ n1_ n2_ n3_ n4_ n5_ n6_; clear hb hbox hg; have hnb8 := NB121_117.out; have hnc8 := NB117_121.out; obtain ⟨hcz9_0, hcz9_1, hcz9_2, hcz9_3, hfz9_0, hfz9_1, hfz9_2, hfz9_3⟩ := bc4 BK121.out))
     repeat (go_quiet (first | ((with_reducible refine gate_dst (N := 4) rfl ?_); (try (refine gate_guard (by rfl) ?_; dsimp only)); refine box_event ?hg (N := 4) ?hd (cs := #[.int .i64 0, .int .i64 0, .int .i64 0, .bool false]) (t := 123) ?hr ?_; (case hd => rfl); (case hg => rfl); (case hr => exact tG); intro gb121 hg w7 hbox hb; have n0_ := Aside0.mk (blk_below (g := gb117) (o := .cells #[.int .i64 a0_0, .int .i64 a0_1, .slice (some ad120) l0_2.length c0_2] 76 (0, 0)) (tK BK117) hb); have n1_ := Aside0.mk (below_step tB hb); have n2_ := Aside0.mk (hbox); have n3_ := Aside0.mk ((by rw [hg]; exact (below_size tB) : w.heap.size ≤ gb121)); have n4_ := Aside0.mk ((by rw [hg]; exact (below_size tB) : w.heap.size ≤ gb121)); have n5_ := Aside0.mk ((by rw [hg]; exact Nat.ne_of_lt (blk_lt (g := gb117) (o := .cells #[.int .i64 a0_0, .int .i64 a0_1, .slice (some ad120) l0_2.length c0_2] 76 (0, 0)) (tK BK117)) : gb117 ≠ gb121)); have n6_ := Aside0.mk ((by rw [hg]; exact Nat.ne_of_gt (blk_lt (g := gb117) (o := .cells #[.int .i64 a0_0, .int .i64 a0_1, .slice (some ad120) l0_2.length c0_2] 76 (0, 0)) (tK BK117)) : gb121 ≠ gb117)); clear BK117; clear HB; have BK117 := n0_; have HB := n1_; have BK121 := n2_; have GW121 := n3_; have GE121 := n4_; have NB117_121 := n5_; have NB121_117 := n6_; clear n0_ n1_ n2_ n3_ n4_ n5_ n6_; clear hb hbox hg; have hnb8 := NB121_117.out; have hnc8 := NB117_121.out; obtain ⟨hcz9_0, hcz9_1, hcz9_2, hcz9_3, hfz9_0, hfz9_1, hfz9_2, hfz9_3⟩ := bc4 BK121.out)); go_upto_region 5 with (first | ((with_reducible refine gate_dst (N := 4) rfl ?_); (try (refine gate_guard (by rfl) ?_; dsimp only)); refine box_event ?hg (N := 4) ?hd (cs := #[.int .i64 0, .int .i64 0, .int .i64 0, .bool false]) (t := 123) ?hr ?_; (case hd => rfl); (case hg => rfl); (case hr => exact tG); intro gb121 hg w7 hbox hb; have n0_ := Aside0.mk (blk_below (g := gb117) (o := .cells #[.int .i64 a0_0, .int .i64 a0_1, .slice (some ad120) l0_2.length c0_2] 76 (0, 0)) (tK BK117) hb); have n1_ := Aside0.mk (below_step tB hb); have n2_ := Aside0.mk (hbox); have n3_ := Aside0.mk ((by rw [hg]; exact (below_size tB) : w.heap.size ≤ gb121)); have n4_ := Aside0.mk ((by rw [hg]; exact (below_size tB) : w.heap.size ≤ gb121)); have n5_ := Aside0.mk ((by rw [hg]; exact Nat.ne_of_lt (blk_lt (g := gb117) (o := .cells #[.int .i64 a0_0, .int .i64 a0_1, .slice (some ad120) l0_2.length c0_2] 76 (0, 0)) (tK BK117)) : gb117 ≠ gb121)); have n6_ := Aside0.mk ((by rw [hg]; exact Nat.ne_of_gt (blk_lt (g := gb117) (o := .cells #[.int .i64 a0_0, .int .i64 a0_1, .slice (some ad120) l0_2.length c0_2] 76 (0, 0)) (tK BK117)) : gb121 ≠ gb117)); clear BK117; clear HB; have BK117 := n0_; have HB := n1_; have BK121 := n2_; have GW121 := n3_; have GE121 := n4_; have NB117_121 := n5_; have NB121_117 := n6_; clear n0_ n1_ n2_ n3_ n4_ n5_ n6_; clear hb hbox hg; have hnb8 := NB121_117.out; have hnc8 := NB117_121.out; obtain ⟨hcz9_0, hcz9_1, hcz9_2, hcz9_3, hfz9_0, hfz9_1, hfz9_2, hfz9_3⟩ := bc4 BK121.out)))
     (try simp only [Act.put, List.setIfInBounds_toArray, List.set_cons_zero, List.set_cons_succ])
     go_cut [49] (fun v49 wc => ∃ (kq : Nat) (x49_4 : Bool), v49 = .bool x49_4 ∧ Aside0 (spec_IsValidAccount.j1 kq x3_1 x49_4 a0_0 a0_1 l0_2 ((rd_T123 l0_2 x3_1).f0) ((rd_T123 l0_2 x3_1).f1) ((rd_T123 l0_2 x3_1).f2) ((rd_T123 l0_2 x3_1).f3) = some r) ∧ Aside0 (kq ≤ k1) ∧ Aside0 (wc.heap[gb117]? = some (.cells #[.int .i64 a0_0, .int .i64 a0_1, (.slice (some ad120) l0_2.length c0_2)] 76 (0, 0))) ∧ Aside0 (wc.heap[gb121]? = some (.cells #[.int .i64 ((rd_T123 l0_2 x3_1).f0), .int .i64 ((rd_T123 l0_2 x3_1).f1), .int .i64 ((rd_T123 l0_2 x3_1).f2), .bool ((rd_T123 l0_2 x3_1).f3)] 123 (0, 0))) ∧ Aside0 (Below w.heap.size w wc))
     case first =>
      have H := HC5.out
      clear HC5
      replace H := Option.bind_eq_some_iff.mp H
      obtain ⟨t122, A100, H⟩ := H
      replace H : (if t122 = true then (if x3_1 > 0 then (if 0 ≤ (wrap64 (x3_1 - 1)) then (if (wrap64 (x3_1 - 1)) < (l0_2.length : Int) then (if ((rd_T123 l0_2 (wrap64 (x3_1 - 1))).f0) ≥ ((rd_T123 l0_2 x3_1).f0) then (spec_IsValidAccount.j1 k1 x3_1 true a0_0 a0_1 l0_2 ((rd_T123 l0_2 x3_1).f0) ((rd_T123 l0_2 x3_1).f1) ((rd_T123 l0_2 x3_1).f2) ((rd_T123 l0_2 x3_1).f3)) else ((spec_PrivateKey.f k1 ((rd_T123 l0_2 x3_1).f1)).bind fun t124 => (if t124 = 0 then (spec_IsValidAccount.j1 k1 x3_1 true a0_0 a0_1 l0_2 ((rd_T123 l0_2 x3_1).f0) ((rd_T123 l0_2 x3_1).f1) ((rd_T123 l0_2 x3_1).f2) ((rd_T123 l0_2 x3_1).f3)) else ((spec_l1In.f ((rd_T123 l0_2 x3_1).f2) 0 1000000).bind fun t125 => (spec_IsValidAccount.j1 k1 x3_1 (!t125) a0_0 a0_1 l0_2 ((rd_T123 l0_2 x3_1).f0) ((rd_T123 l0_2 x3_1).f1) ((rd_T123 l0_2 x3_1).f2) ((rd_T123 l0_2 x3_1).f3)))))) else (none)) else (none)) else ((spec_PrivateKey.f k1 ((rd_T123 l0_2 x3_1).f1)).bind fun t126 => (if t126 = 0 then (spec_IsValidAccount.j1 k1 x3_1 true a0_0 a0_1 l0_2 ((rd_T123 l0_2 x3_1).f0) ((rd_T123 l0_2 x3_1).f1) ((rd_T123 l0_2 x3_1).f2) ((rd_T123 l0_2 x3_1).f3)) else ((spec_l1In.f ((rd_T123 l0_2 x3_1).f2) 0 1000000).bind fun t127 => (spec_IsValidAccount.j1 k1 x3_1 (!t127) a0_0 a0_1 l0_2 ((rd_T123 l0_2 x3_1).f0) ((rd_T123 l0_2 x3_1).f1) ((rd_T123 l0_2 x3_1).f2) ((rd_T123 l0_2 x3_1).f3)))))) else (spec_IsValidAccount.j1 k1 x3_1 true a0_0 a0_1 l0_2 ((rd_T123 l0_2 x3_1).f0) ((rd_T123 l0_2 x3_1).f1) ((rd_T123 l0_2 x3_1).f2) ((rd_T123 l0_2 x3_1).f3))) = some r := H
      have A10 := Aside0.mk A100
      clear A100
      by_cases c11 : t122 = true
      ·subst c11
       have H1 : (if x3_1 > 0 then (if 0 ≤ (wrap64 (x3_1 - 1)) then (if (wrap64 (x3_1 - 1)) < (l0_2.length : Int) then (if ((rd_T123 l0_2 (wrap64 (x3_1 - 1))).f0) ≥ ((rd_T123 l0_2 x3_1).f0) then (spec_IsValidAccount.j1 k1 x3_1 true a0_0 a0_1 l0_2 ((rd_T123 l0_2 x3_1).f0) ((rd_T123 l0_2 x3_1).f1) ((rd_T123 l0_2 x3_1).f2) ((rd_T123 l0_2 x3_1).f3)) else ((spec_PrivateKey.f k1 ((rd_T123 l0_2 x3_1).f1)).bind fun t124 => (if t124 = 0 then (spec_IsValidAccount.j1 k1 x3_1 true a0_0 a0_1 l0_2 ((rd_T123 l0_2 x3_1).f0) ((rd_T123 l0_2 x3_1).f1) ((rd_T123 l0_2 x3_1).f2) ((rd_T123 l0_2 x3_1).f3)) else ((spec_l1In.f ((rd_T123 l0_2 x3_1).f2) 0 1000000).bind fun t125 => (spec_IsValidAccount.j1 k1 x3_1 (!t125) a0_0 a0_1 l0_2 ((rd_T123 l0_2 x3_1).f0) ((rd_T123 l0_2 x3_1).f1) ((rd_T123 l0_2 x3_1).f2) ((rd_T123 l0_2 x3_1).f3)))))) else (none)) else (none)) else ((spec_PrivateKey.f k1 ((rd_T123 l0_2 x3_1).f1)).bind fun t126 => (if t126 = 0 then (spec_IsValidAccount.j1 k1 x3_1 true a0_0 a0_1 l0_2 ((rd_T123 l0_2 x3_1).f0) ((rd_T123 l0_2 x3_1).f1) ((rd_T123 l0_2 x3_1).f2) ((rd_T123 l0_2 x3_1).f3)) else ((spec_l1In.f ((rd_T123 l0_2 x3_1).f2) 0 1000000).bind fun t127 => (spec_IsValidAccount.j1 k1 x3_1 (!t127) a0_0 a0_1 l0_2 ((rd_T123 l0_2 x3_1).f0) ((rd_T123 l0_2 x3_1).f1) ((rd_T123 l0_2 x3_1).f2) ((rd_T123 l0_2 x3_1).f3)))))) = some r := by rw [if_pos rfl] at H; exact H
       clear H
       have H := H1
       clear H1
       by_cases c12 : x3_1 > 0
       ·rw [if_pos c12] at H
        have c12b0 : decide (0 < x3_1) = true := decide_eq_true c12
        clear c12
        (first | rw [c12b0] | (simp only [i64_w, i32_w]; rw [c12b0]) | skip)
        obtain ⟨ji13, hji13⟩ : ∃ j_ : Int, (wrap64 (x3_1 - 1)) = j_ := ⟨_, rfl⟩
        replace H : (if 0 ≤ (ji13) then (if (ji13) < (l0_2.length : Int) then (if ((rd_T123 l0_2 (ji13)).f0) ≥ ((rd_T123 l0_2 x3_1).f0) then (spec_IsValidAccount.j1 k1 x3_1 true a0_0 a0_1 l0_2 ((rd_T123 l0_2 x3_1).f0) ((rd_T123 l0_2 x3_1).f1) ((rd_T123 l0_2 x3_1).f2) ((rd_T123 l0_2 x3_1).f3)) else ((spec_PrivateKey.f k1 ((rd_T123 l0_2 x3_1).f1)).bind fun t124 => (if t124 = 0 then (spec_IsValidAccount.j1 k1 x3_1 true a0_0 a0_1 l0_2 ((rd_T123 l0_2 x3_1).f0) ((rd_T123 l0_2 x3_1).f1) ((rd_T123 l0_2 x3_1).f2) ((rd_T123 l0_2 x3_1).f3)) else ((spec_l1In.f ((rd_T123 l0_2 x3_1).f2) 0 1000000).bind fun t125 => (spec_IsValidAccount.j1 k1 x3_1 (!t125) a0_0 a0_1 l0_2 ((rd_T123 l0_2 x3_1).f0) ((rd_T123 l0_2 x3_1).f1) ((rd_T123 l0_2 x3_1).f2) ((rd_T123 l0_2 x3_1).f3)))))) else (none)) else (none)) = some r := by first | (rw [hji13] at H; exact H) | (simp only [hji13] at H ⊢; exact H)
        (try rw [hji13] at A10)
        have hji13w : (IntKind.i64.wrap (x3_1 - 1)) = ji13 := (i64_w _).trans hji13
        by_cases c14 : 0 ≤ (ji13)
        ·rw [if_pos c14] at H
         have c14b0 : decide (0 ≤ (ji13)) = true := decide_eq_true c14
         clear c14
         by_cases c15 : (ji13) < (l0_2.length : Int)
         ·rw [if_pos c15] at H
          have c15b0 : decide ((ji13) < (l0_2.length : Int)) = true := decide_eq_true c15
          clear c15
          by_cases c16 : ((rd_T123 l0_2 (ji13)).f0) ≥ ((rd_T123 l0_2 x3_1).f0)
          ·rw [if_pos c16] at H
           have c16b0 : decide (((rd_T123 l0_2 x3_1).f0) ≤ ((rd_T123 l0_2 (ji13)).f0)) = true := decide_eq_true c16
           clear c16
           have H' := Aside0.mk H
           clear H
           have hnb17 := NB121_117.out
           have hnc17 := NB117_121.out
           obtain ⟨hcz18_0, hcz18_1, hcz18_2, hcz18_3, hfz18_0, hfz18_1, hfz18_2, hfz18_3⟩ := bc4 BK121.out
           go_wp2_with (first | (go_at_call 81; (with_reducible refine (spec_l1In.calls ((rd_T123 l0_2 x3_1).f0) 0 1000000 true _ A10.out).mono ?_); rintro e w' ⟨rfl, ⟨nd, rfl⟩⟩; (try exact tQ)))
           obtain ⟨hcz19_0, hcz19_1, hcz19_2, hfz19_0, hfz19_1, hfz19_2⟩ := bc3 BK117.out
           have p123 : 0 ≤ ((ji13) : Int) := of_decide_eq_true tA
           have q123 : (ji13) < (l0_2.length : Int) := of_decide_eq_true tA
           obtain ⟨ad123, e123, hx123_0, hx123_1, hx123_2, hx123_3⟩ := at_T123 HR0_2.out (ji13) p123 q123
           obtain rfl : ad120 = ad123 := (by injection e123)
           have hn123_0 : ad120.block ≠ gb121 := Nat.ne_of_lt (Nat.lt_of_lt_of_le (by have := World.block_lt_of_cell? _ _ hx123_0; first | rwa [add_block] at this | exact this) GW121.out)
           have hn123_1 : ad120.block ≠ gb121 := Nat.ne_of_lt (Nat.lt_of_lt_of_le (by have := World.block_lt_of_cell? _ _ hx123_0; first | rwa [add_block] at this | exact this) GW121.out)
           have hn123_2 : ad120.block ≠ gb121 := Nat.ne_of_lt (Nat.lt_of_lt_of_le (by have := World.block_lt_of_cell? _ _ hx123_0; first | rwa [add_block] at this | exact this) GW121.out)
           have hn123_3 : ad120.block ≠ gb121 := Nat.ne_of_lt (Nat.lt_of_lt_of_le (by have := World.block_lt_of_cell? _ _ hx123_0; first | rwa [add_block] at this | exact this) GW121.out)
           replace hx123_0 := hbc HB hx123_0
           replace hx123_1 := hbc HB hx123_1
           replace hx123_2 := hbc HB hx123_2
           replace hx123_3 := hbc HB hx123_3
           have F_ := @far4 gb121 (.int .i64 ((rd_T123 l0_2 x3_1).f0)) (.int .i64 ((rd_T123 l0_2 x3_1).f1)) (.int .i64 ((rd_T123 l0_2 x3_1).f2)) (.bool ((rd_T123 l0_2 x3_1).f3))
           replace hx123_0 := (F_ tF).trans hx123_0
           replace hx123_1 := (F_ tF).trans hx123_1
           replace hx123_2 := (F_ tF).trans hx123_2
           replace hx123_3 := (F_ tF).trans hx123_3
           clear F_
           clear hn123_0
           clear hn123_1
           clear hn123_2
           clear hn123_3
           replace p123 := eq_true p123
           replace q123 := eq_true q123
           repeat (go_quiet (first | (go_at_call 81; (with_reducible refine (spec_l1In.calls ((rd_T123 l0_2 x3_1).f0) 0 1000000 true _ A10.out).mono ?_); rintro e w' ⟨rfl, ⟨nd, rfl⟩⟩; (try exact tQ))); try go_wp2_with (first | (go_at_call 81; (with_reducible refine (spec_l1In.calls ((rd_T123 l0_2 x3_1).f0) 0 1000000 true _ A10.out).mono ?_); rintro e w' ⟨rfl, ⟨nd, rfl⟩⟩; (try exact tQ))))
           go_meet
           case rel => exact ⟨_, (true), tS, H', ⟨by have := HK1.out; first | omega | exact Nat.le_refl _⟩, ⟨by (with_reducible repeat (first | refine blk_drewN ?_ _ | refine blk_drew ?_ | refine blk_alloc ?_ _)); refine blk_far ?_ NB117_121.out _; (with_reducible repeat (first | refine blk_drewN ?_ _ | refine blk_drew ?_ | refine blk_alloc ?_ _)); refine blk_far ?_ NB117_121.out _; (with_reducible repeat (first | refine blk_drewN ?_ _ | refine blk_drew ?_ | refine blk_alloc ?_ _)); refine blk_far ?_ NB117_121.out _; (with_reducible repeat (first | refine blk_drewN ?_ _ | refine blk_drew ?_ | refine blk_alloc ?_ _)); refine blk_far ?_ NB117_121.out _; (with_reducible repeat (first | refine blk_drewN ?_ _ | refine blk_drew ?_ | refine blk_alloc ?_ _)); exact BK117.out⟩, ⟨by (with_reducible repeat (first | refine blk_drewN ?_ _ | refine blk_drew ?_ | refine blk_alloc ?_ _)); refine blk_put (cs := #[.int .i64 ((rd_T123 l0_2 x3_1).f0), .int .i64 ((rd_T123 l0_2 x3_1).f1), .int .i64 ((rd_T123 l0_2 x3_1).f2), .bool false]) ?_ 3 _ rfl; (with_reducible repeat (first | refine blk_drewN ?_ _ | refine blk_drew ?_ | refine blk_alloc ?_ _)); refine blk_put (cs := #[.int .i64 ((rd_T123 l0_2 x3_1).f0), .int .i64 ((rd_T123 l0_2 x3_1).f1), .int .i64 0, .bool false]) ?_ 2 _ rfl; (with_reducible repeat (first | refine blk_drewN ?_ _ | refine blk_drew ?_ | refine blk_alloc ?_ _)); refine blk_put (cs := #[.int .i64 ((rd_T123 l0_2 x3_1).f0), .int .i64 0, .int .i64 0, .bool false]) ?_ 1 _ rfl; (with_reducible repeat (first | refine blk_drewN ?_ _ | refine blk_drew ?_ | refine blk_alloc ?_ _)); refine blk_put (cs := #[.int .i64 0, .int .i64 0, .int .i64 0, .bool false]) ?_ 0 _ rfl; (with_reducible repeat (first | refine blk_drewN ?_ _ | refine blk_drew ?_ | refine blk_alloc ?_ _)); exact BK121.out⟩, ⟨tB⟩⟩
          ·rw [if_neg c16] at H
           have c16b0 : decide (((rd_T123 l0_2 x3_1).f0) ≤ ((rd_T123 l0_2 (ji13)).f0)) = false := decide_eq_false c16
           clear c16
           replace H := Option.bind_eq_some_iff.mp H
           obtain ⟨t124, A200, H⟩ := H
           replace H : (if t124 = 0 then (spec_IsValidAccount.j1 k1 x3_1 true a0_0 a0_1 l0_2 ((rd_T123 l0_2 x3_1).f0) ((rd_T123 l0_2 x3_1).f1) ((rd_T123 l0_2 x3_1).f2) ((rd_T123 l0_2 x3_1).f3)) else ((spec_l1In.f ((rd_T123 l0_2 x3_1).f2) 0 1000000).bind fun t125 => (spec_IsValidAccount.j1 k1 x3_1 (!t125) a0_0 a0_1 l0_2 ((rd_T123 l0_2 x3_1).f0) ((rd_T123 l0_2 x3_1).f1) ((rd_T123 l0_2 x3_1).f2) ((rd_T123 l0_2 x3_1).f3)))) = some r := H
           have A20 := Aside0.mk A200
           clear A200
           by_cases c21 : t124 = 0
           ·rw [if_pos c21] at H
            have c21b0 : (t124 == 0) = true := beq_iff_eq.mpr c21
            have c21b1 : (t124 != 0) = false := bne_eq_false_iff_eq.mpr c21
            clear c21
            have H' := Aside0.mk H
            clear H
            have hnb22 := NB121_117.out
            have hnc22 := NB117_121.out
            obtain ⟨hcz23_0, hcz23_1, hcz23_2, hcz23_3, hfz23_0, hfz23_1, hfz23_2, hfz23_3⟩ := bc4 BK121.out
            go_wp2_with (first | (go_at_call 81; (with_reducible refine (spec_l1In.calls ((rd_T123 l0_2 x3_1).f0) 0 1000000 true _ A10.out).mono ?_); rintro e w' ⟨rfl, ⟨nd, rfl⟩⟩; (try exact tQ)) | (go_at_call 41; (with_reducible refine (spec_PrivateKey.calls k1 ((rd_T123 l0_2 x3_1).f1) t124 _ A20.out).mono ?_); rintro e w' ⟨rfl, ⟨nd, rfl⟩⟩; (try exact tQ)))
            obtain ⟨hcz24_0, hcz24_1, hcz24_2, hfz24_0, hfz24_1, hfz24_2⟩ := bc3 BK117.out
            have p123 : 0 ≤ ((ji13) : Int) := of_decide_eq_true tA
            have q123 : (ji13) < (l0_2.length : Int) := of_decide_eq_true tA
            obtain ⟨ad123, e123, hx123_0, hx123_1, hx123_2, hx123_3⟩ := at_T123 HR0_2.out (ji13) p123 q123
            obtain rfl : ad120 = ad123 := (by injection e123)
            have hn123_0 : ad120.block ≠ gb121 := Nat.ne_of_lt (Nat.lt_of_lt_of_le (by have := World.block_lt_of_cell? _ _ hx123_0; first | rwa [add_block] at this | exact this) GW121.out)
            have hn123_1 : ad120.block ≠ gb121 := Nat.ne_of_lt (Nat.lt_of_lt_of_le (by have := World.block_lt_of_cell? _ _ hx123_0; first | rwa [add_block] at this | exact this) GW121.out)
            have hn123_2 : ad120.block ≠ gb121 := Nat.ne_of_lt (Nat.lt_of_lt_of_le (by have := World.block_lt_of_cell? _ _ hx123_0; first | rwa [add_block] at this | exact this) GW121.out)
            have hn123_3 : ad120.block ≠ gb121 := Nat.ne_of_lt (Nat.lt_of_lt_of_le (by have := World.block_lt_of_cell? _ _ hx123_0; first | rwa [add_block] at this | exact this) GW121.out)
            replace hx123_0 := hbc HB hx123_0
            replace hx123_1 := hbc HB hx123_1
            replace hx123_2 := hbc HB hx123_2
            replace hx123_3 := hbc HB hx123_3
            have F_ := @far4 gb121 (.int .i64 ((rd_T123 l0_2 x3_1).f0)) (.int .i64 ((rd_T123 l0_2 x3_1).f1)) (.int .i64 ((rd_T123 l0_2 x3_1).f2)) (.bool ((rd_T123 l0_2 x3_1).f3))
            replace hx123_0 := (F_ tF).trans hx123_0
            replace hx123_1 := (F_ tF).trans hx123_1
            replace hx123_2 := (F_ tF).trans hx123_2
            replace hx123_3 := (F_ tF).trans hx123_3
            clear F_
            clear hn123_0
            clear hn123_1
            clear hn123_2
            clear hn123_3
            replace p123 := eq_true p123
            replace q123 := eq_true q123
            repeat (go_quiet (first | (go_at_call 81; (with_reducible refine (spec_l1In.calls ((rd_T123 l0_2 x3_1).f0) 0 1000000 true _ A10.out).mono ?_); rintro e w' ⟨rfl, ⟨nd, rfl⟩⟩; (try exact tQ)) | (go_at_call 41; (with_reducible refine (spec_PrivateKey.calls k1 ((rd_T123 l0_2 x3_1).f1) t124 _ A20.out).mono ?_); rintro e w' ⟨rfl, ⟨nd, rfl⟩⟩; (try exact tQ))); try go_wp2_with (first | (go_at_call 81; (with_reducible refine (spec_l1In.calls ((rd_T123 l0_2 x3_1).f0) 0 1000000 true _ A10.out).mono ?_); rintro e w' ⟨rfl, ⟨nd, rfl⟩⟩; (try exact tQ)) | (go_at_call 41; (with_reducible refine (spec_PrivateKey.calls k1 ((rd_T123 l0_2 x3_1).f1) t124 _ A20.out).mono ?_); rintro e w' ⟨rfl, ⟨nd, rfl⟩⟩; (try exact tQ))))
            go_meet
            case rel => exact ⟨_, (true), tS, H', ⟨by have := HK1.out; first | omega | exact Nat.le_refl _⟩, ⟨by (with_reducible repeat (first | refine blk_drewN ?_ _ | refine blk_drew ?_ | refine blk_alloc ?_ _)); refine blk_far ?_ NB117_121.out _; (with_reducible repeat (first | refine blk_drewN ?_ _ | refine blk_drew ?_ | refine blk_alloc ?_ _)); refine blk_far ?_ NB117_121.out _; (with_reducible repeat (first | refine blk_drewN ?_ _ | refine blk_drew ?_ | refine blk_alloc ?_ _)); refine blk_far ?_ NB117_121.out _; (with_reducible repeat (first | refine blk_drewN ?_ _ | refine blk_drew ?_ | refine blk_alloc ?_ _)); refine blk_far ?_ NB117_121.out _; (with_reducible repeat (first | refine blk_drewN ?_ _ | refine blk_drew ?_ | refine blk_alloc ?_ _)); exact BK117.out⟩, ⟨by (with_reducible repeat (first | refine blk_drewN ?_ _ | refine blk_drew ?_ | refine blk_alloc ?_ _)); refine blk_put (cs := #[.int .i64 ((rd_T123 l0_2 x3_1).f0), .int .i64 ((rd_T123 l0_2 x3_1).f1), .int .i64 ((rd_T123 l0_2 x3_1).f2), .bool false]) ?_ 3 _ rfl; (with_reducible repeat (first | refine blk_drewN ?_ _ | refine blk_drew ?_ | refine blk_alloc ?_ _)); refine blk_put (cs := #[.int .i64 ((rd_T123 l0_2 x3_1).f0), .int .i64 ((rd_T123 l0_2 x3_1).f1), .int .i64 0, .bool false]) ?_ 2 _ rfl; (with_reducible repeat (first | refine blk_drewN ?_ _ | refine blk_drew ?_ | refine blk_alloc ?_ _)); refine blk_put (cs := #[.int .i64 ((rd_T123 l0_2 x3_1).f0), .int .i64 0, .int .i64 0, .bool false]) ?_ 1 _ rfl; (with_reducible repeat (first | refine blk_drewN ?_ _ | refine blk_drew ?_ | refine blk_alloc ?_ _)); refine blk_put (cs := #[.int .i64 0, .int .i64 0, .int .i64 0, .bool false]) ?_ 0 _ rfl; (with_reducible repeat (first | refine blk_drewN ?_ _ | refine blk_drew ?_ | refine blk_alloc ?_ _)); exact BK121.out⟩, ⟨tB⟩⟩
           ·rw [if_neg c21] at H
            have c21b0 : (t124 == 0) = false := beq_eq_false_iff_ne.mpr c21
            have c21b1 : (t124 != 0) = true := bne_iff_ne.mpr c21
            replace H := Option.bind_eq_some_iff.mp H
            obtain ⟨t125, A250, H⟩ := H
            replace H : (spec_IsValidAccount.j1 k1 x3_1 (!t125) a0_0 a0_1 l0_2 ((rd_T123 l0_2 x3_1).f0) ((rd_T123 l0_2 x3_1).f1) ((rd_T123 l0_2 x3_1).f2) ((rd_T123 l0_2 x3_1).f3)) = some r := H
            have A25 := Aside0.mk A250
            clear A250
            have H' := Aside0.mk H
            clear H
            have hnb26 := NB121_117.out
            have hnc26 := NB117_121.out
            obtain ⟨hcz27_0, hcz27_1, hcz27_2, hcz27_3, hfz27_0, hfz27_1, hfz27_2, hfz27_3⟩ := bc4 BK121.out
            go_wp2_with (first | (go_at_call 81; (with_reducible refine (spec_l1In.calls ((rd_T123 l0_2 x3_1).f0) 0 1000000 true _ A10.out).mono ?_); rintro e w' ⟨rfl, ⟨nd, rfl⟩⟩; (try exact tQ)) | (go_at_call 41; (with_reducible refine (spec_PrivateKey.calls k1 ((rd_T123 l0_2 x3_1).f1) t124 _ A20.out).mono ?_); rintro e w' ⟨rfl, ⟨nd, rfl⟩⟩; (try exact tQ)) | (go_at_call 81; (with_reducible refine (spec_l1In.calls ((rd_T123 l0_2 x3_1).f2) 0 1000000 t125 _ A25.out).mono ?_); rintro e w' ⟨rfl, ⟨nd, rfl⟩⟩; (try exact tQ)))
            obtain ⟨hcz28_0, hcz28_1, hcz28_2, hfz28_0, hfz28_1, hfz28_2⟩ := bc3 BK117.out
            have p123 : 0 ≤ ((ji13) : Int) := of_decide_eq_true tA
            have q123 : (ji13) < (l0_2.length : Int) := of_decide_eq_true tA
            obtain ⟨ad123, e123, hx123_0, hx123_1, hx123_2, hx123_3⟩ := at_T123 HR0_2.out (ji13) p123 q123
            obtain rfl : ad120 = ad123 := (by injection e123)
            have hn123_0 : ad120.block ≠ gb121 := Nat.ne_of_lt (Nat.lt_of_lt_of_le (by have := World.block_lt_of_cell? _ _ hx123_0; first | rwa [add_block] at this | exact this) GW121.out)
            have hn123_1 : ad120.block ≠ gb121 := Nat.ne_of_lt (Nat.lt_of_lt_of_le (by have := World.block_lt_of_cell? _ _ hx123_0; first | rwa [add_block] at this | exact this) GW121.out)
            have hn123_2 : ad120.block ≠ gb121 := Nat.ne_of_lt (Nat.lt_of_lt_of_le (by have := World.block_lt_of_cell? _ _ hx123_0; first | rwa [add_block] at this | exact this) GW121.out)
            have hn123_3 : ad120.block ≠ gb121 := Nat.ne_of_lt (Nat.lt_of_lt_of_le (by have := World.block_lt_of_cell? _ _ hx123_0; first | rwa [add_block] at this | exact this) GW121.out)
            replace hx123_0 := hbc HB hx123_0
            replace hx123_1 := hbc HB hx123_1
            replace hx123_2 := hbc HB hx123_2
            replace hx123_3 := hbc HB hx123_3
            have F_ := @far4 gb121 (.int .i64 ((rd_T123 l0_2 x3_1).f0)) (.int .i64 ((rd_T123 l0_2 x3_1).f1)) (.int .i64 ((rd_T123 l0_2 x3_1).f2)) (.bool ((rd_T123 l0_2 x3_1).f3))
            replace hx123_0 := (F_ tF).trans hx123_0
            replace hx123_1 := (F_ tF).trans hx123_1
            replace hx123_2 := (F_ tF).trans hx123_2
            replace hx123_3 := (F_ tF).trans hx123_3
            clear F_
            clear hn123_0
            clear hn123_1
            clear hn123_2
            clear hn123_3
            replace p123 := eq_true p123
            replace q123 := eq_true q123
            repeat (go_quiet (first | (go_at_call 81; (with_reducible refine (spec_l1In.calls ((rd_T123 l0_2 x3_1).f0) 0 1000000 true _ A10.out).mono ?_); rintro e w' ⟨rfl, ⟨nd, rfl⟩⟩; (try exact tQ)) | (go_at_call 41; (with_reducible refine (spec_PrivateKey.calls k1 ((rd_T123 l0_2 x3_1).f1) t124 _ A20.out).mono ?_); rintro e w' ⟨rfl, ⟨nd, rfl⟩⟩; (try exact tQ)) | (go_at_call 81; (with_reducible refine (spec_l1In.calls ((rd_T123 l0_2 x3_1).f2) 0 1000000 t125 _ A25.out).mono ?_); rintro e w' ⟨rfl, ⟨nd, rfl⟩⟩; (try exact tQ))); try go_wp2_with (first | (go_at_call 81; (with_reducible refine (spec_l1In.calls ((rd_T123 l0_2 x3_1).f0) 0 1000000 true _ A10.out).mono ?_); rintro e w' ⟨rfl, ⟨nd, rfl⟩⟩; (try exact tQ)) | (go_at_call 41; (with_reducible refine (spec_PrivateKey.calls k1 ((rd_T123 l0_2 x3_1).f1) t124 _ A20.out).mono ?_); rintro e w' ⟨rfl, ⟨nd, rfl⟩⟩; (try exact tQ)) | (go_at_call 81; (with_reducible refine (spec_l1In.calls ((rd_T123 l0_2 x3_1).f2) 0 1000000 t125 _ A25.out).mono ?_); rintro e w' ⟨rfl, ⟨nd, rfl⟩⟩; (try exact tQ))))
            go_meet
            case rel => exact ⟨_, (!t125), tS, H', ⟨by have := HK1.out; first | omega | exact Nat.le_refl _⟩, ⟨by (with_reducible repeat (first | refine blk_drewN ?_ _ | refine blk_drew ?_ | refine blk_alloc ?_ _)); refine blk_far ?_ NB117_121.out _; (with_reducible repeat (first | refine blk_drewN ?_ _ | refine blk_drew ?_ | refine blk_alloc ?_ _)); refine blk_far ?_ NB117_121.out _; (with_reducible repeat (first | refine blk_drewN ?_ _ | refine blk_drew ?_ | refine blk_alloc ?_ _)); refine blk_far ?_ NB117_121.out _; (with_reducible repeat (first | refine blk_drewN ?_ _ | refine blk_drew ?_ | refine blk_alloc ?_ _)); refine blk_far ?_ NB117_121.out _; (with_reducible repeat (first | refine blk_drewN ?_ _ | refine blk_drew ?_ | refine blk_alloc ?_ _)); exact BK117.out⟩, ⟨by (with_reducible repeat (first | refine blk_drewN ?_ _ | refine blk_drew ?_ | refine blk_alloc ?_ _)); refine blk_put (cs := #[.int .i64 ((rd_T123 l0_2 x3_1).f0), .int .i64 ((rd_T123 l0_2 x3_1).f1), .int .i64 ((rd_T123 l0_2 x3_1).f2), .bool false]) ?_ 3 _ rfl; (with_reducible repeat (first | refine blk_drewN ?_ _ | refine blk_drew ?_ | refine blk_alloc ?_ _)); refine blk_put (cs := #[.int .i64 ((rd_T123 l0_2 x3_1).f0), .int .i64 ((rd_T123 l0_2 x3_1).f1), .int .i64 0, .bool false]) ?_ 2 _ rfl; (with_reducible repeat (first | refine blk_drewN ?_ _ | refine blk_drew ?_ | refine blk_alloc ?_ _)); refine blk_put (cs := #[.int .i64 ((rd_T123 l0_2 x3_1).f0), .int .i64 0, .int .i64 0, .bool false]) ?_ 1 _ rfl; (with_reducible repeat (first | refine blk_drewN ?_ _ | refine blk_drew ?_ | refine blk_alloc ?_ _)); refine blk_put (cs := #[.int .i64 0, .int .i64 0, .int .i64 0, .bool false]) ?_ 0 _ rfl; (with_reducible repeat (first | refine blk_drewN ?_ _ | refine blk_drew ?_ | refine blk_alloc ?_ _)); exact BK121.out⟩, ⟨tB⟩⟩
         ·rw [if_neg c15] at H
          exact absurd H (by simp)
        ·rw [if_neg c14] at H
         exact absurd H (by simp)
       ·rw [if_neg c12] at H
        have c12b0 : decide (0 < x3_1) = false := decide_eq_false c12
        clear c12
        (first | rw [c12b0] | (simp only [i64_w, i32_w]; rw [c12b0]) | skip)
        replace H := Option.bind_eq_some_iff.mp H
        obtain ⟨t126, A290, H⟩ := H
        replace H : (if t126 = 0 then (spec_IsValidAccount.j1 k1 x3_1 true a0_0 a0_1 l0_2 ((rd_T123 l0_2 x3_1).f0) ((rd_T123 l0_2 x3_1).f1) ((rd_T123 l0_2 x3_1).f2) ((rd_T123 l0_2 x3_1).f3)) else ((spec_l1In.f ((rd_T123 l0_2 x3_1).f2) 0 1000000).bind fun t127 => (spec_IsValidAccount.j1 k1 x3_1 (!t127) a0_0 a0_1 l0_2 ((rd_T123 l0_2 x3_1).f0) ((rd_T123 l0_2 x3_1).f1) ((rd_T123 l0_2 x3_1).f2) ((rd_T123 l0_2 x3_1).f3)))) = some r := H
        have A29 := Aside0.mk A290
        clear A290
        by_cases c30 : t126 = 0
        ·rw [if_pos c30] at H
         have c30b0 : (t126 == 0) = true := beq_iff_eq.mpr c30
         have c30b1 : (t126 != 0) = false := bne_eq_false_iff_eq.mpr c30
         clear c30
         have H' := Aside0.mk H
         clear H
         have hnb31 := NB121_117.out
         have hnc31 := NB117_121.out
         obtain ⟨hcz32_0, hcz32_1, hcz32_2, hcz32_3, hfz32_0, hfz32_1, hfz32_2, hfz32_3⟩ := bc4 BK121.out
         go_wp2_with (first | (go_at_call 81; (with_reducible refine (spec_l1In.calls ((rd_T123 l0_2 x3_1).f0) 0 1000000 true _ A10.out).mono ?_); rintro e w' ⟨rfl, ⟨nd, rfl⟩⟩; (try exact tQ)) | (go_at_call 41; (with_reducible refine (spec_PrivateKey.calls k1 ((rd_T123 l0_2 x3_1).f1) t126 _ A29.out).mono ?_); rintro e w' ⟨rfl, ⟨nd, rfl⟩⟩; (try exact tQ)))
         repeat (go_quiet (first | (go_at_call 81; (with_reducible refine (spec_l1In.calls ((rd_T123 l0_2 x3_1).f0) 0 1000000 true _ A10.out).mono ?_); rintro e w' ⟨rfl, ⟨nd, rfl⟩⟩; (try exact tQ)) | (go_at_call 41; (with_reducible refine (spec_PrivateKey.calls k1 ((rd_T123 l0_2 x3_1).f1) t126 _ A29.out).mono ?_); rintro e w' ⟨rfl, ⟨nd, rfl⟩⟩; (try exact tQ))); try go_wp2_with (first | (go_at_call 81; (with_reducible refine (spec_l1In.calls ((rd_T123 l0_2 x3_1).f0) 0 1000000 true _ A10.out).mono ?_); rintro e w' ⟨rfl, ⟨nd, rfl⟩⟩; (try exact tQ)) | (go_at_call 41; (with_reducible refine (spec_PrivateKey.calls k1 ((rd_T123 l0_2 x3_1).f1) t126 _ A29.out).mono ?_); rintro e w' ⟨rfl, ⟨nd, rfl⟩⟩; (try exact tQ))))
         go_meet
         case rel => exact ⟨_, (true), tS, H', ⟨by have := HK1.out; first | omega | exact Nat.le_refl _⟩, ⟨by (with_reducible repeat (first | refine blk_drewN ?_ _ | refine blk_drew ?_ | refine blk_alloc ?_ _)); refine blk_far ?_ NB117_121.out _; (with_reducible repeat (first | refine blk_drewN ?_ _ | refine blk_drew ?_ | refine blk_alloc ?_ _)); refine blk_far ?_ NB117_121.out _; (with_reducible repeat (first | refine blk_drewN ?_ _ | refine blk_drew ?_ | refine blk_alloc ?_ _)); refine blk_far ?_ NB117_121.out _; (with_reducible repeat (first | refine blk_drewN ?_ _ | refine blk_drew ?_ | refine blk_alloc ?_ _)); refine blk_far ?_ NB117_121.out _; (with_reducible repeat (first | refine blk_drewN ?_ _ | refine blk_drew ?_ | refine blk_alloc ?_ _)); exact BK117.out⟩, ⟨by (with_reducible repeat (first | refine blk_drewN ?_ _ | refine blk_drew ?_ | refine blk_alloc ?_ _)); refine blk_put (cs := #[.int .i64 ((rd_T123 l0_2 x3_1).f0), .int .i64 ((rd_T123 l0_2 x3_1).f1), .int .i64 ((rd_T123 l0_2 x3_1).f2), .bool false]) ?_ 3 _ rfl; (with_reducible repeat (first | refine blk_drewN ?_ _ | refine blk_drew ?_ | refine blk_alloc ?_ _)); refine blk_put (cs := #[.int .i64 ((rd_T123 l0_2 x3_1).f0), .int .i64 ((rd_T123 l0_2 x3_1).f1), .int .i64 0, .bool false]) ?_ 2 _ rfl; (with_reducible repeat (first | refine blk_drewN ?_ _ | refine blk_drew ?_ | refine blk_alloc ?_ _)); refine blk_put (cs := #[.int .i64 ((rd_T123 l0_2 x3_1).f0), .int .i64 0, .int .i64 0, .bool false]) ?_ 1 _ rfl; (with_reducible repeat (first | refine blk_drewN ?_ _ | refine blk_drew ?_ | refine blk_alloc ?_ _)); refine blk_put (cs := #[.int .i64 0, .int .i64 0, .int .i64 0, .bool false]) ?_ 0 _ rfl; (with_reducible repeat (first | refine blk_drewN ?_ _ | refine blk_drew ?_ | refine blk_alloc ?_ _)); exact BK121.out⟩, ⟨tB⟩⟩
        ·rw [if_neg c30] at H
         have c30b0 : (t126 == 0) = false := beq_eq_false_iff_ne.mpr c30
         have c30b1 : (t126 != 0) = true := bne_iff_ne.mpr c30
         replace H := Option.bind_eq_some_iff.mp H
         obtain ⟨t127, A330, H⟩ := H
         replace H : (spec_IsValidAccount.j1 k1 x3_1 (!t127) a0_0 a0_1 l0_2 ((rd_T123 l0_2 x3_1).f0) ((rd_T123 l0_2 x3_1).f1) ((rd_T123 l0_2 x3_1).f2) ((rd_T123 l0_2 x3_1).f3)) = some r := H
         have A33 := Aside0.mk A330
         clear A330
         have H' := Aside0.mk H
         clear H
         have hnb34 := NB121_117.out
         have hnc34 := NB117_121.out
         obtain ⟨hcz35_0, hcz35_1, hcz35_2, hcz35_3, hfz35_0, hfz35_1, hfz35_2, hfz35_3⟩ := bc4 BK121.out
         go_wp2_with (first | (go_at_call 81; (with_reducible refine (spec_l1In.calls ((rd_T123 l0_2 x3_1).f0) 0 1000000 true _ A10.out).mono ?_); rintro e w' ⟨rfl, ⟨nd, rfl⟩⟩; (try exact tQ)) | (go_at_call 41; (with_reducible refine (spec_PrivateKey.calls k1 ((rd_T123 l0_2 x3_1).f1) t126 _ A29.out).mono ?_); rintro e w' ⟨rfl, ⟨nd, rfl⟩⟩; (try exact tQ)) | (go_at_call 81; (with_reducible refine (spec_l1In.calls ((rd_T123 l0_2 x3_1).f2) 0 1000000 t127 _ A33.out).mono ?_); rintro e w' ⟨rfl, ⟨nd, rfl⟩⟩; (try exact tQ)))
         repeat (go_quiet (first | (go_at_call 81; (with_reducible refine (spec_l1In.calls ((rd_T123 l0_2 x3_1).f0) 0 1000000 true _ A10.out).mono ?_); rintro e w' ⟨rfl, ⟨nd, rfl⟩⟩; (try exact tQ)) | (go_at_call 41; (with_reducible refine (spec_PrivateKey.calls k1 ((rd_T123 l0_2 x3_1).f1) t126 _ A29.out).mono ?_); rintro e w' ⟨rfl, ⟨nd, rfl⟩⟩; (try exact tQ)) | (go_at_call 81; (with_reducible refine (spec_l1In.calls ((rd_T123 l0_2 x3_1).f2) 0 1000000 t127 _ A33.out).mono ?_); rintro e w' ⟨rfl, ⟨nd, rfl⟩⟩; (try exact tQ))); try go_wp2_with (first | (go_at_call 81; (with_reducible refine (spec_l1In.calls ((rd_T123 l0_2 x3_1).f0) 0 1000000 true _ A10.out).mono ?_); rintro e w' ⟨rfl, ⟨nd, rfl⟩⟩; (try exact tQ)) | (go_at_call 41; (with_reducible refine (spec_PrivateKey.calls k1 ((rd_T123 l0_2 x3_1).f1) t126 _ A29.out).mono ?_); rintro e w' ⟨rfl, ⟨nd, rfl⟩⟩; (try exact tQ)) | (go_at_call 81; (with_reducible refine (spec_l1In.calls ((rd_T123 l0_2 x3_1).f2) 0 1000000 t127 _ A33.out).mono ?_); rintro e w' ⟨rfl, ⟨nd, rfl⟩⟩; (try exact tQ))))
         go_meet
         case rel => exact ⟨_, (!t127), tS, H', ⟨by have := HK1.out; first | omega | exact Nat.le_refl _⟩, ⟨by (with_reducible repeat (first | refine blk_drewN ?_ _ | refine blk_drew ?_ | refine blk_alloc ?_ _)); refine blk_far ?_ NB117_121.out _; (with_reducible repeat (first | refine blk_drewN ?_ _ | refine blk_drew ?_ | refine blk_alloc ?_ _)); refine blk_far ?_ NB117_121.out _; (with_reducible repeat (first | refine blk_drewN ?_ _ | refine blk_drew ?_ | refine blk_alloc ?_ _)); refine blk_far ?_ NB117_121.out _; (with_reducible repeat (first | refine blk_drewN ?_ _ | refine blk_drew ?_ | refine blk_alloc ?_ _)); refine blk_far ?_ NB117_121.out _; (with_reducible repeat (first | refine blk_drewN ?_ _ | refine blk_drew ?_ | refine blk_alloc ?_ _)); exact BK117.out⟩, ⟨by (with_reducible repeat (first | refine blk_drewN ?_ _ | refine blk_drew ?_ | refine blk_alloc ?_ _)); refine blk_put (cs := #[.int .i64 ((rd_T123 l0_2 x3_1).f0), .int .i64 ((rd_T123 l0_2 x3_1).f1), .int .i64 ((rd_T123 l0_2 x3_1).f2), .bool false]) ?_ 3 _ rfl; (with_reducible repeat (first | refine blk_drewN ?_ _ | refine blk_drew ?_ | refine blk_alloc ?_ _)); refine blk_put (cs := #[.int .i64 ((rd_T123 l0_2 x3_1).f0), .int .i64 ((rd_T123 l0_2 x3_1).f1), .int .i64 0, .bool false]) ?_ 2 _ rfl; (with_reducible repeat (first | refine blk_drewN ?_ _ | refine blk_drew ?_ | refine blk_alloc ?_ _)); refine blk_put (cs := #[.int .i64 ((rd_T123 l0_2 x3_1).f0), .int .i64 0, .int .i64 0, .bool false]) ?_ 1 _ rfl; (with_reducible repeat (first | refine blk_drewN ?_ _ | refine blk_drew ?_ | refine blk_alloc ?_ _)); refine blk_put (cs := #[.int .i64 0, .int .i64 0, .int .i64 0, .bool false]) ?_ 0 _ rfl; (with_reducible repeat (first | refine blk_drewN ?_ _ | refine blk_drew ?_ | refine blk_alloc ?_ _)); exact BK121.out⟩, ⟨tB⟩⟩
      ·replace c11 := Bool.eq_false_iff.mpr c11
       subst c11
       have H1 : (spec_IsValidAccount.j1 k1 x3_1 true a0_0 a0_1 l0_2 ((rd_T123 l0_2 x3_1).f0) ((rd_T123 l0_2 x3_1).f1) ((rd_T123 l0_2 x3_1).f2) ((rd_T123 l0_2 x3_1).f3)) = some r := by rw [if_neg (show ¬ (false = true) by decide)] at H; exact H
       clear H
       have H := H1
       clear H1
       have H' := Aside0.mk H
       clear H
       have hnb36 := NB121_117.out
       have hnc36 := NB117_121.out
       obtain ⟨hcz37_0, hcz37_1, hcz37_2, hcz37_3, hfz37_0, hfz37_1, hfz37_2, hfz37_3⟩ := bc4 BK121.out
       go_wp2_with (first | (go_at_call 81; (with_reducible refine (spec_l1In.calls ((rd_T123 l0_2 x3_1).f0) 0 1000000 false _ A10.out).mono ?_); rintro e w' ⟨rfl, ⟨nd, rfl⟩⟩; (try exact tQ)))
       repeat (go_quiet (first | (go_at_call 81; (with_reducible refine (spec_l1In.calls ((rd_T123 l0_2 x3_1).f0) 0 1000000 false _ A10.out).mono ?_); rintro e w' ⟨rfl, ⟨nd, rfl⟩⟩; (try exact tQ))); try go_wp2_with (first | (go_at_call 81; (with_reducible refine (spec_l1In.calls ((rd_T123 l0_2 x3_1).f0) 0 1000000 false _ A10.out).mono ?_); rintro e w' ⟨rfl, ⟨nd, rfl⟩⟩; (try exact tQ))))
       go_meet
       case rel => exact ⟨_, (true), tS, H', ⟨by have := HK1.out; first | omega | exact Nat.le_refl _⟩, ⟨by (with_reducible repeat (first | refine blk_drewN ?_ _ | refine blk_drew ?_ | refine blk_alloc ?_ _)); refine blk_far ?_ NB117_121.out _; (with_reducible repeat (first | refine blk_drewN ?_ _ | refine blk_drew ?_ | refine blk_alloc ?_ _)); refine blk_far ?_ NB117_121.out _; (with_reducible repeat (first | refine blk_drewN ?_ _ | refine blk_drew ?_ | refine blk_alloc ?_ _)); refine blk_far ?_ NB117_121.out _; (with_reducible repeat (first | refine blk_drewN ?_ _ | refine blk_drew ?_ | refine blk_alloc ?_ _)); refine blk_far ?_ NB117_121.out _; (with_reducible repeat (first | refine blk_drewN ?_ _ | refine blk_drew ?_ | refine blk_alloc ?_ _)); exact BK117.out⟩, ⟨by (with_reducible repeat (first | refine blk_drewN ?_ _ | refine blk_drew ?_ | refine blk_alloc ?_ _)); refine blk_put (cs := #[.int .i64 ((rd_T123 l0_2 x3_1).f0), .int .i64 ((rd_T123 l0_2 x3_1).f1), .int .i64 ((rd_T123 l0_2 x3_1).f2), .bool false]) ?_ 3 _ rfl; (with_reducible repeat (first | refine blk_drewN ?_ _ | refine blk_drew ?_ | refine blk_alloc ?_ _)); refine blk_put (cs := #[.int .i64 ((rd_T123 l0_2 x3_1).f0), .int .i64 ((rd_T123 l0_2 x3_1).f1), .int .i64 0, .bool false]) ?_ 2 _ rfl; (with_reducible repeat (first | refine blk_drewN ?_ _ | refine blk_drew ?_ | refine blk_alloc ?_ _)); refine blk_put (cs := #[.int .i64 ((rd_T123 l0_2 x3_1).f0), .int .i64 0, .int .i64 0, .bool false]) ?_ 1 _ rfl; (with_reducible repeat (first | refine blk_drewN ?_ _ | refine blk_drew ?_ | refine blk_alloc ?_ _)); refine blk_put (cs := #[.int .i64 0, .int .i64 0, .int .i64 0, .bool false]) ?_ 0 _ rfl; (with_reducible repeat (first | refine blk_drewN ?_ _ | refine blk_drew ?_ | refine blk_alloc ?_ _)); exact BK121.out⟩, ⟨tB⟩⟩
     case rest =>
      clear HC5
      try clear c1
      try clear p1
      try clear q1
      try clear hx1
      try clear c2
      try clear p2
      try clear c3
      try clear c3b0
      try clear c4
      try clear c4b0
      try clear p6
      try clear c8
      try clear c10
      try clear c11
      try clear c12
      try clear c12b0
      try clear p12
      try clear q12
      try clear hx12
      try clear c14
      try clear c14b0
      try clear c15
      try clear c15b0
      try clear c16
      try clear c16b0
      try clear c17
      try clear c21
      try clear c21b0
      try clear c21b1
      try clear c22
      try clear c26
      try clear c30
      try clear c30b0
      try clear c30b1
      try clear c31
      try clear c34
      try clear c36
      try clear hcz18_0
      try clear hcz18_1
      try clear hcz18_2
      try clear hcz18_3
      try clear hcz19_0
      try clear hcz19_1
      try clear hcz19_2
      try clear hcz23_0
      try clear hcz23_1
      try clear hcz23_2
      try clear hcz23_3
      try clear hcz24_0
      try clear hcz24_1
      try clear hcz24_2
      try clear hcz27_0
      try clear hcz27_1
      try clear hcz27_2
      try clear hcz27_3
      try clear hcz28_0
      try clear hcz28_1
      try clear hcz28_2
      try clear hcz32_0
      try clear hcz32_1
      try clear hcz32_2
      try clear hcz32_3
      try clear hcz35_0
      try clear hcz35_1
      try clear hcz35_2
      try clear hcz35_3
      try clear hcz37_0
      try clear hcz37_1
      try clear hcz37_2
      try clear hcz37_3
      try clear hcz6_0
      try clear hcz6_1
      try clear hcz6_2
      try clear hcz9_0
      try clear hcz9_1
      try clear hcz9_2
      try clear hcz9_3
      try clear hfz18_0
      try clear hfz18_1
      try clear hfz18_2
      try clear hfz18_3
      try clear hfz19_0
      try clear hfz19_1
      try clear hfz19_2
      try clear hfz23_0
      try clear hfz23_1
      try clear hfz23_2
      try clear hfz23_3
      try clear hfz24_0
      try clear hfz24_1
      try clear hfz24_2
      try clear hfz27_0
      try clear hfz27_1
      try clear hfz27_2
      try clear hfz27_3
      try clear hfz28_0
      try clear hfz28_1
      try clear hfz28_2
      try clear hfz32_0
      try clear hfz32_1
      try clear hfz32_2
      try clear hfz32_3
      try clear hfz35_0
      try clear hfz35_1
      try clear hfz35_2
      try clear hfz35_3
      try clear hfz37_0
      try clear hfz37_1
      try clear hfz37_2
      try clear hfz37_3
      try clear hfz6_0
      try clear hfz6_1
      try clear hfz6_2
      try clear hfz9_0
      try clear hfz9_1
      try clear hfz9_2
      try clear hfz9_3
      try clear hx120_0
      try clear hx120_1
      try clear hx120_2
      try clear hx120_3
      try clear hx123_0
      try clear hx123_1
      try clear hx123_2
      try clear hx123_3
      try clear p120
      try clear p123
      try clear p2
      try clear q120
      try clear q123
      obtain ⟨kq, x49_4, rfl, HA, HJ4, BK117, BK121, HB⟩ := hcut
      cases kq with
      | zero => exact absurd HA.out (by simp [spec_IsValidAccount.j1])
      | succ kj4 =>
       have H := HA.out
       clear HA
       simp only [spec_IsValidAccount.j1] at H
       by_cases c38 : x49_4 = true
       ·subst c38
        have H1 : (some false) = some r := by rw [if_pos rfl] at H; exact H
        clear H
        have H := H1
        clear H1
        obtain rfl := Option.some.inj H
        go_wp2
        repeat (go_quiet (fail); try go_wp2)
        go_ret
        exact ⟨tE, tB⟩
       ·replace c38 := Bool.eq_false_iff.mpr c38
        subst c38
        have H1 : (spec_IsValidAccount.l1 kj4 x3_1 0 a0_0 a0_1 l0_2 ((rd_T123 l0_2 x3_1).f0) ((rd_T123 l0_2 x3_1).f1) ((rd_T123 l0_2 x3_1).f2) ((rd_T123 l0_2 x3_1).f3)) = some r := by rw [if_neg (show ¬ (false = true) by decide)] at H; exact H
        clear H
        have H := H1
        clear H1
        have H' := Aside0.mk H
        clear H
        go_wp2
        repeat (go_quiet (fail); try go_wp2)
        go_loopg [5] kj4 (fun kq v5 w' => ∃ (x5_3 : Int), v5 = .int .i64 x5_3 ∧ Aside0 (spec_IsValidAccount.l1 kq x3_1 x5_3 a0_0 a0_1 l0_2 ((rd_T123 l0_2 x3_1).f0) ((rd_T123 l0_2 x3_1).f1) ((rd_T123 l0_2 x3_1).f2) ((rd_T123 l0_2 x3_1).f3) = some r) ∧ Aside0 (kq ≤ kj4) ∧ Aside0 (w'.heap[gb117]? = some (.cells #[.int .i64 a0_0, .int .i64 a0_1, (.slice (some ad120) l0_2.length c0_2)] 76 (0, 0))) ∧ Aside0 (w'.heap[gb121]? = some (.cells #[.int .i64 ((rd_T123 l0_2 x3_1).f0), .int .i64 ((rd_T123 l0_2 x3_1).f1), .int .i64 ((rd_T123 l0_2 x3_1).f2), .bool ((rd_T123 l0_2 x3_1).f3)] 123 (0, 0))) ∧ Aside0 (Below w.heap.size w w'))
        case atStart => exact ⟨(0), tS, H', ⟨Nat.le_refl _⟩, ⟨tK BK117⟩, ⟨tK BK121⟩, ⟨tB⟩⟩
        case round =>
         clear H'
         try clear c1
         try clear p1
         try clear q1
         try clear hx1
         try clear c2
         try clear p2
         try clear c3
         try clear c3b0
         try clear c4
         try clear c4b0
         try clear p6
         try clear c8
         try clear c10
         try clear c11
         try clear c12
         try clear c12b0
         try clear p12
         try clear q12
         try clear hx12
         try clear c14
         try clear c14b0
         try clear c15
         try clear c15b0
         try clear c16
         try clear c16b0
         try clear c17
         try clear c21
         try clear c21b0
         try clear c21b1
         try clear c22
         try clear c26
         try clear c30
         try clear c30b0
         try clear c30b1
         try clear c31
         try clear c34
         try clear c36
         try clear c38
         try clear hcz18_0
         try clear hcz18_1
         try clear hcz18_2
         try clear hcz18_3
         try clear hcz19_0
         try clear hcz19_1
         try clear hcz19_2
         try clear hcz23_0
         try clear hcz23_1
         try clear hcz23_2
         try clear hcz23_3
         try clear hcz24_0
         try clear hcz24_1
         try clear hcz24_2
         try clear hcz27_0
         try clear hcz27_1
         try clear hcz27_2
         try clear hcz27_3
         try clear hcz28_0
         try clear hcz28_1
         try clear hcz28_2
         try clear hcz32_0
         try clear hcz32_1
         try clear hcz32_2
         try clear hcz32_3
         try clear hcz35_0
         try clear hcz35_1
         try clear hcz35_2
         try clear hcz35_3
         try clear hcz37_0
         try clear hcz37_1
         try clear hcz37_2
         try clear hcz37_3
         try clear hcz6_0
         try clear hcz6_1
         try clear hcz6_2
         try clear hcz9_0
         try clear hcz9_1
         try clear hcz9_2
         try clear hcz9_3
         try clear hfz18_0
         try clear hfz18_1
         try clear hfz18_2
         try clear hfz18_3
         try clear hfz19_0
         try clear hfz19_1
         try clear hfz19_2
         try clear hfz23_0
         try clear hfz23_1
         try clear hfz23_2
         try clear hfz23_3
         try clear hfz24_0
         try clear hfz24_1
         try clear hfz24_2
         try clear hfz27_0
         try clear hfz27_1
         try clear hfz27_2
         try clear hfz27_3
         try clear hfz28_0
         try clear hfz28_1
         try clear hfz28_2
         try clear hfz32_0
         try clear hfz32_1
         try clear hfz32_2
         try clear hfz32_3
         try clear hfz35_0
         try clear hfz35_1
         try clear hfz35_2
         try clear hfz35_3
         try clear hfz37_0
         try clear hfz37_1
         try clear hfz37_2
         try clear hfz37_3
         try clear hfz6_0
         try clear hfz6_1
         try clear hfz6_2
         try clear hfz9_0
         try clear hfz9_1
         try clear hfz9_2
         try clear hfz9_3
         try clear hx120_0
         try clear hx120_1
         try clear hx120_2
         try clear hx120_3
         try clear hx123_0
         try clear hx123_1
         try clear hx123_2
         try clear hx123_3
         try clear p1
         try clear p12
         try clear p120
         try clear p123
         try clear p2
         try clear p6
         try clear q1
         try clear q12
         try clear q120
         try clear q123
         obtain ⟨x5_3, rfl, HA, HK3, BK117, BK121, HB⟩ := hrel
         cases gk with
         | zero => exact absurd HA.out (by simp [spec_IsValidAccount.l1])
         | succ k3 =>
          have H := HA.out
          clear HA
          simp only [spec_IsValidAccount.l1] at H
          by_cases c39 : x5_3 < x3_1
          ·rw [if_pos c39] at H
           have c39b0 : decide (x5_3 < x3_1) = true := decide_eq_true c39
           clear c39
           by_cases c40 : 0 ≤ x5_3
           ·rw [if_pos c40] at H
            have c40b0 : decide (0 ≤ x5_3) = true := decide_eq_true c40
            clear c40
            by_cases c41 : x5_3 < (l0_2.length : Int)
            ·rw [if_pos c41] at H
             have c41b0 : decide (x5_3 < (l0_2.length : Int)) = true := decide_eq_true c41
             clear c41
             by_cases c42 : ((rd_T123 l0_2 x5_3).f1) = ((rd_T123 l0_2 x3_1).f1)
             ·rw [if_pos c42] at H
              have c42b0 : (((rd_T123 l0_2 x5_3).f1) == ((rd_T123 l0_2 x3_1).f1)) = true := beq_iff_eq.mpr c42
              have c42b1 : (((rd_T123 l0_2 x5_3).f1) != ((rd_T123 l0_2 x3_1).f1)) = false := bne_eq_false_iff_eq.mpr c42
              clear c42
              obtain rfl := Option.some.inj H
              have hnb43 := NB117_121.out
              have hnc43 := NB121_117.out
              obtain ⟨hcz44_0, hcz44_1, hcz44_2, hfz44_0, hfz44_1, hfz44_2⟩ := bc3 BK117.out
              have p128 : 0 ≤ (x5_3 : Int) := of_decide_eq_true tA
              have q128 : x5_3 < (l0_2.length : Int) := of_decide_eq_true tA
              obtain ⟨ad128, e128, hx128_0, hx128_1, hx128_2, hx128_3⟩ := at_T123 HR0_2.out x5_3 p128 q128
              obtain rfl : ad120 = ad128 := (by injection e128)
              replace hx128_0 := hbc HB hx128_0
              replace hx128_1 := hbc HB hx128_1
              replace hx128_2 := hbc HB hx128_2
              replace hx128_3 := hbc HB hx128_3
              replace p128 := eq_true p128
              replace q128 := eq_true q128
              obtain ⟨hcz45_0, hcz45_1, hcz45_2, hcz45_3, hfz45_0, hfz45_1, hfz45_2, hfz45_3⟩ := bc4 BK121.out
              go_wp2
              repeat (go_quiet (fail); try go_wp2)
              go_ret
              exact ⟨tE, tB⟩
             ·rw [if_neg c42] at H
              have c42b0 : (((rd_T123 l0_2 x5_3).f1) == ((rd_T123 l0_2 x3_1).f1)) = false := beq_eq_false_iff_ne.mpr c42
              have c42b1 : (((rd_T123 l0_2 x5_3).f1) != ((rd_T123 l0_2 x3_1).f1)) = true := bne_iff_ne.mpr c42
              have H' := Aside0.mk H
              clear H
              have hnb46 := NB117_121.out
              have hnc46 := NB121_117.out
              obtain ⟨hcz47_0, hcz47_1, hcz47_2, hfz47_0, hfz47_1, hfz47_2⟩ := bc3 BK117.out
              have p128 : 0 ≤ (x5_3 : Int) := of_decide_eq_true tA
              have q128 : x5_3 < (l0_2.length : Int) := of_decide_eq_true tA
              obtain ⟨ad128, e128, hx128_0, hx128_1, hx128_2, hx128_3⟩ := at_T123 HR0_2.out x5_3 p128 q128
              obtain rfl : ad120 = ad128 := (by injection e128)
              replace hx128_0 := hbc HB hx128_0
              replace hx128_1 := hbc HB hx128_1
              replace hx128_2 := hbc HB hx128_2
              replace hx128_3 := hbc HB hx128_3
              replace p128 := eq_true p128
              replace q128 := eq_true q128
              obtain ⟨hcz48_0, hcz48_1, hcz48_2, hcz48_3, hfz48_0, hfz48_1, hfz48_2, hfz48_3⟩ := bc4 BK121.out
              go_wp2
              repeat (go_quiet (fail); try go_wp2)
              go_roundg k3
              case measure => have := HK1.out; have := HJ4.out; have := HK3.out; omega
              case rel => exact ⟨(wrap64 (x5_3 + 1)), tS, H', ⟨by have := HK1.out; have := HJ4.out; have := HK3.out; omega⟩, ⟨tK BK117⟩, ⟨tK BK121⟩, ⟨tB⟩⟩
            ·rw [if_neg c41] at H
             exact absurd H (by simp)
           ·rw [if_neg c40] at H
            exact absurd H (by simp)
          ·rw [if_neg c39] at H
           have c39b0 : decide (x5_3 < x3_1) = false := decide_eq_false c39
           clear c39
           have H' := Aside0.mk H
           clear H
           go_wp2
           repeat (go_quiet (fail); try go_wp2)
           go_roundg k3
           case measure => have := HK1.out; have := HJ4.out; have := HK3.out; omega
           case rel => exact ⟨(wrap64 (x3_1 + 1)), tS, H', ⟨by have := HK1.out; have := HJ4.out; have := HK3.out; omega⟩, ⟨tK BK117⟩, ⟨tB⟩⟩
    ·rw [if_neg c4] at H
     exact absurd H (by simp)
   ·rw [if_neg c3] at H
    have c3b0 : decide (x3_1 < (l0_2.length : Int)) = false := decide_eq_false c3
    clear c3
    replace H := Option.bind_eq_some_iff.mp H
    obtain ⟨t118, A490, H⟩ := H
    replace H : (if t118 = true then ((spec_l1In.f a0_1 1 3).bind fun t119 => (if t119 = true then (some (decide ((l0_2.length : Int) ≤ 8))) else (some false))) else (some false)) = some r := H
    have A49 := Aside0.mk A490
    clear A490
    by_cases c50 : t118 = true
    ·subst c50
     have H1 : ((spec_l1In.f a0_1 1 3).bind fun t119 => (if t119 = true then (some (decide ((l0_2.length : Int) ≤ 8))) else (some false))) = some r := by rw [if_pos rfl] at H; exact H
     clear H
     have H := H1
     clear H1
     replace H := Option.bind_eq_some_iff.mp H
     obtain ⟨t119, A510, H⟩ := H
     replace H : (if t119 = true then (some (decide ((l0_2.length : Int) ≤ 8))) else (some false)) = some r := H
     have A51 := Aside0.mk A510
     clear A510
     by_cases c52 : t119 = true
     ·subst c52
      have H1 : (some (decide ((l0_2.length : Int) ≤ 8))) = some r := by rw [if_pos rfl] at H; exact H
      clear H
      have H := H1
      clear H1
      obtain rfl := Option.some.inj H
      obtain ⟨hcz53_0, hcz53_1, hcz53_2, hfz53_0, hfz53_1, hfz53_2⟩ := bc3 BK117.out
      go_wp2_with (first | (go_at_call 81; (with_reducible refine (spec_l1In.calls a0_0 0 1000000 true _ A49.out).mono ?_); rintro e w' ⟨rfl, ⟨nd, rfl⟩⟩; (try exact tQ)) | (go_at_call 81; (with_reducible refine (spec_l1In.calls a0_1 1 3 true _ A51.out).mono ?_); rintro e w' ⟨rfl, ⟨nd, rfl⟩⟩; (try exact tQ)))
      repeat (go_quiet (first | (go_at_call 81; (with_reducible refine (spec_l1In.calls a0_0 0 1000000 true _ A49.out).mono ?_); rintro e w' ⟨rfl, ⟨nd, rfl⟩⟩; (try exact tQ)) | (go_at_call 81; (with_reducible refine (spec_l1In.calls a0_1 1 3 true _ A51.out).mono ?_); rintro e w' ⟨rfl, ⟨nd, rfl⟩⟩; (try exact tQ))); try go_wp2_with (first | (go_at_call 81; (with_reducible refine (spec_l1In.calls a0_0 0 1000000 true _ A49.out).mono ?_); rintro e w' ⟨rfl, ⟨nd, rfl⟩⟩; (try exact tQ)) | (go_at_call 81; (with_reducible refine (spec_l1In.calls a0_1 1 3 true _ A51.out).mono ?_); rintro e w' ⟨rfl, ⟨nd, rfl⟩⟩; (try exact tQ))))
      go_ret
      exact ⟨tE, tB⟩
     ·replace c52 := Bool.eq_false_iff.mpr c52
      subst c52
      have H1 : (some false) = some r := by rw [if_neg (show ¬ (false = true) by decide)] at H; exact H
      clear H
      have H := H1
      clear H1
      obtain rfl := Option.some.inj H
      obtain ⟨hcz54_0, hcz54_1, hcz54_2, hfz54_0, hfz54_1, hfz54_2⟩ := bc3 BK117.out
      go_wp2_with (first | (go_at_call 81; (with_reducible refine (spec_l1In.calls a0_0 0 1000000 true _ A49.out).mono ?_); rintro e w' ⟨rfl, ⟨nd, rfl⟩⟩; (try exact tQ)) | (go_at_call 81; (with_reducible refine (spec_l1In.calls a0_1 1 3 false _ A51.out).mono ?_); rintro e w' ⟨rfl, ⟨nd, rfl⟩⟩; (try exact tQ)))
      repeat (go_quiet (first | (go_at_call 81; (with_reducible refine (spec_l1In.calls a0_0 0 1000000 true _ A49.out).mono ?_); rintro e w' ⟨rfl, ⟨nd, rfl⟩⟩; (try exact tQ)) | (go_at_call 81; (with_reducible refine (spec_l1In.calls a0_1 1 3 false _ A51.out).mono ?_); rintro e w' ⟨rfl, ⟨nd, rfl⟩⟩; (try exact tQ))); try go_wp2_with (first | (go_at_call 81; (with_reducible refine (spec_l1In.calls a0_0 0 1000000 true _ A49.out).mono ?_); rintro e w' ⟨rfl, ⟨nd, rfl⟩⟩; (try exact tQ)) | (go_at_call 81; (with_reducible refine (spec_l1In.calls a0_1 1 3 false _ A51.out).mono ?_); rintro e w' ⟨rfl, ⟨nd, rfl⟩⟩; (try exact tQ))))
      go_ret
      exact ⟨tE, tB⟩
    ·replace c50 := Bool.eq_false_iff.mpr c50
     subst c50
     have H1 : (some false) = some r := by rw [if_neg (show ¬ (false = true) by decide)] at H; exact H
     clear H
     have H := H1
     clear H1
     obtain rfl := Option.some.inj H
     obtain ⟨hcz55_0, hcz55_1, hcz55_2, hfz55_0, hfz55_1, hfz55_2⟩ := bc3 BK117.out
     go_wp2_with (first | (go_at_call 81; (with_reducible refine (spec_l1In.calls a0_0 0 1000000 false _ A49.out).mono ?_); rintro e w' ⟨rfl, ⟨nd, rfl⟩⟩; (try exact tQ)))
     repeat (go_quiet (first | (go_at_call 81; (with_reducible refine (spec_l1In.calls a0_0 0 1000000 false _ A49.out).mono ?_); rintro e w' ⟨rfl, ⟨nd, rfl⟩⟩; (try exact tQ))); try go_wp2_with (first | (go_at_call 81; (with_reducible refine (spec_l1In.calls a0_0 0 1000000 false _ A49.out).mono ?_); rintro e w' ⟨rfl, ⟨nd, rfl⟩⟩; (try exact tQ))))
     go_ret
     exact ⟨tE, tB⟩

end Go.Proofs.Ytjggdakbphjomaa.ZFnExactTransferAccount
