/- The machine side: for each Go function a Lean function and the contract that the Go code answers as it does; printed by program (wip/tmpl/pprint.sh). -/
import Derived.Test.YtjggdakbphjomaaZFnExactSplitAccountx0
import Derived.Test.YtjggdakbphjomaaZFnExactSplitAccountx2
import Derived.Test.YtjggdakbphjomaaZFnExactSplitAccountx3
import Derived.Test.YtjggdakbphjomaaZFnExactSplitAccountx4
namespace Go.Proofs.Ytjggdakbphjomaa.ZFnExactSplitAccount
open Go.RowKit Go.Proofs.YtjggdakbphjomaaW.PrintWords Go.Proofs.YtjggdakbphjomaaW.PrintLast Go.Proofs.YtjggdakbphjomaaW.PrintMore
attribute [local go_sem] max2_int min2_int max_two min_two max_three min_three max_four min_four   -- for this text's walks alone
set_option linter.unusedVariables false
set_option linter.unusedSimpArgs false

/-! ### spec_SplitAccount: function 59 -/
def spec_SplitAccount.l0 : Nat → List Int → Int → Int → Int → Int → List (S123) → Int → Int → List (S123) → Int → Int → List (S123) → Option (Int × Int × (List (S123)) × Int × Int × (List (S123)) × Bool)
 | 0, _, _, _, _, _, _, _, _, _, _, _, _ => none
 | k + 1, x1, x2, x11, x179000, x179001, x179002, x182000, x182001, x182002, x183000, x183001, x183002 => if x11 < (x179002.length : Int) then (if 0 ≤ x11 then ((spec_l19Has.f k x1 ((rd_T123 x179002 x11).f0)).bind fun t184 => (if t184 = true then (if x183002.length < 4398046511104 then (spec_SplitAccount.l0 k x1 x2 (wrap64 (x11 + 1)) x179000 x179001 x179002 x182000 x182001 x182002 x183000 x183001 (x183002 ++ [(⟨(rd_T123 x179002 x11).f0, (rd_T123 x179002 x11).f1, (rd_T123 x179002 x11).f2, (rd_T123 x179002 x11).f3⟩ : S123)])) else (none)) else (if x182002.length < 4398046511104 then (spec_SplitAccount.l0 k x1 x2 (wrap64 (x11 + 1)) x179000 x179001 x179002 x182000 x182001 (x182002 ++ [(⟨(rd_T123 x179002 x11).f0, (rd_T123 x179002 x11).f1, (rd_T123 x179002 x11).f2, (rd_T123 x179002 x11).f3⟩ : S123)]) x183000 x183001 x183002) else (none)))) else (none)) else ((spec_IsValidAccount.f k x179000 x179001 x179002).bind fun t193 => (if t193 = true then ((spec_l1In.f x2 0 1000000).bind fun t194 => (if t194 = true then (if x2 = x179000 then ((spec_l14Copy.f x179000 x179001 x179002).bind fun bt195 => (some (bt195.1, bt195.2.1, bt195.2.2, 0, 0, ([] : List (S123)), false))) else (if (x183002.length : Int) = (x1.length : Int) then ((spec_KeysOf.f k x182000 x182001 x182002).bind fun t200 => (if (t200.length : Int) = 0 then ((spec_l14Copy.f x179000 x179001 x179002).bind fun bt203 => (some (bt203.1, bt203.2.1, bt203.2.2, 0, 0, ([] : List (S123)), false))) else ((spec_KeysOf.f k x183000 x183001 x183002).bind fun t208 => (if (t208.length : Int) = 0 then ((spec_l14Copy.f x179000 x179001 x179002).bind fun bt211 => (some (bt211.1, bt211.2.1, bt211.2.2, 0, 0, ([] : List (S123)), false))) else (some (x182000, x182001, x182002, x183000, x183001, x183002, true)))))) else ((spec_l14Copy.f x179000 x179001 x179002).bind fun bt216 => (some (bt216.1, bt216.2.1, bt216.2.2, 0, 0, ([] : List (S123)), false))))) else ((spec_l14Copy.f x179000 x179001 x179002).bind fun bt221 => (some (bt221.1, bt221.2.1, bt221.2.2, 0, 0, ([] : List (S123)), false))))) else ((spec_l14Copy.f x179000 x179001 x179002).bind fun bt226 => (some (bt226.1, bt226.2.1, bt226.2.2, 0, 0, ([] : List (S123)), false)))))
def spec_SplitAccount.f (k : Nat) (a0_0 : Int) (a0_1 : Int) (l0_2 : List (S123)) (l1 : List Int) (a2 : Int) : Option (Int × Int × (List (S123)) × Int × Int × (List (S123)) × Bool) := spec_SplitAccount.l0 k l1 a2 0 a0_0 a0_1 l0_2 a0_0 a0_1 ([] : List (S123)) a2 a0_1 ([] : List (S123))
theorem spec_SplitAccount.mono_l : ∀ k, (∀ y0 y1 y2 y3 y4 y5 y6 y7 y8 y9 y10 y11, LeO (spec_SplitAccount.l0 k y0 y1 y2 y3 y4 y5 y6 y7 y8 y9 y10 y11) (spec_SplitAccount.l0 (k + 1) y0 y1 y2 y3 y4 y5 y6 y7 y8 y9 y10 y11))
 | 0 => fun _ _ _ _ _ _ _ _ _ _ _ _ r h => by simp [spec_SplitAccount.l0] at h
 | k + 1 => by
  have ih0 := spec_SplitAccount.mono_l k
  ·intro y0 y1 y2 y3 y4 y5 y6 y7 y8 y9 y10 y11
   unfold spec_SplitAccount.l0
   repeat' first
   | (with_reducible exact ih0 _ _ _ _ _ _ _ _ _ _ _ _)
   | (with_reducible exact spec_IsValidAccount.mono _ _ _ _)
   | (with_reducible exact spec_KeysOf.mono _ _ _ _)
   | (with_reducible exact spec_l19Has.mono _ _ _)
   | (with_reducible exact LeO.refl _)
   | (with_reducible exact LeO.none _)
   | (with_reducible refine LeO.ite ?_ ?_)
   | (with_reducible refine LeO.bind ?_ (fun _ => ?_))
   | exact ih0 _ _ _ _ _ _ _ _ _ _ _ _
   | exact spec_IsValidAccount.mono _ _ _ _
   | exact spec_KeysOf.mono _ _ _ _
   | exact spec_l19Has.mono _ _ _
   | exact LeO.none _
   | refine LeO.ite ?_ ?_
   | refine LeO.bind ?_ (fun _ => ?_)
theorem spec_SplitAccount.mono : ∀ a0 a1 a2 a3 a4 k, LeO (spec_SplitAccount.f k a0 a1 a2 a3 a4) (spec_SplitAccount.f (k + 1) a0 a1 a2 a3 a4) := by
 intro a0 a1 a2 a3 a4 k
 have ih0 := spec_SplitAccount.mono_l k
 unfold spec_SplitAccount.f
 repeat' first
   | (with_reducible exact ih0 _ _ _ _ _ _ _ _ _ _ _ _)
   | (with_reducible exact spec_IsValidAccount.mono _ _ _ _)
   | (with_reducible exact spec_KeysOf.mono _ _ _ _)
   | (with_reducible exact spec_l19Has.mono _ _ _)
   | (with_reducible exact LeO.refl _)
   | (with_reducible exact LeO.none _)
   | (with_reducible refine LeO.ite ?_ ?_)
   | (with_reducible refine LeO.bind ?_ (fun _ => ?_))
   | exact ih0 _ _ _ _ _ _ _ _ _ _ _ _
   | exact spec_IsValidAccount.mono _ _ _ _
   | exact spec_KeysOf.mono _ _ _ _
   | exact spec_l19Has.mono _ _ _
   | exact LeO.none _
   | refine LeO.ite ?_ ?_
   | refine LeO.bind ?_ (fun _ => ?_)
def spec_SplitAccount.T7 : Bool × List (List Nat × List Nat) := (true, [([], []), ([0], [0]), ([], []), ([2], [2]), ([], []), ([3, 4], [3, 4]), ([5], [5]), ([6], [6]), ([1, 7], [1, 7]), ([0, 1, 2, 3, 4, 5, 6, 7, 8], []), ([9, 8, 8, 0, 1, 2, 3, 4, 5, 6, 7, 8], [8, 9])])
def spec_SplitAccount.B7 : List Nat := [0, 1, 0, 4, 0, 28, 60, 124, 255, 511, 1023]
theorem spec_SplitAccount.tab7 : rtab .any (opsOf Try.f59 7) = spec_SplitAccount.T7 := by kernel_rfl
theorem spec_SplitAccount.bits7 : waitsOk spec_SplitAccount.T7.2 spec_SplitAccount.B7 = true := by kernel_rfl
def spec_SplitAccount.T8 : Bool × List (List Nat × List Nat) := (true, [([], []), ([0], [0]), ([], []), ([2], [2]), ([], []), ([3, 4], [3, 4]), ([5], [5]), ([6], [6]), ([1, 7], [1, 7]), ([0, 1, 2, 3, 4, 5, 6, 7, 8], []), ([9, 8, 8, 0, 1, 2, 3, 4, 5, 6, 7, 8], [8, 9])])
def spec_SplitAccount.B8 : List Nat := [0, 1, 0, 4, 0, 28, 60, 124, 255, 511, 1023]
theorem spec_SplitAccount.tab8 : rtab .any (opsOf Try.f59 8) = spec_SplitAccount.T8 := by kernel_rfl
theorem spec_SplitAccount.bits8 : waitsOk spec_SplitAccount.T8.2 spec_SplitAccount.B8 = true := by kernel_rfl
set_option maxHeartbeats 8000000 in
set_option maxRecDepth 100000 in
theorem spec_SplitAccount.calls (k : Nat) (a0_0 : Int) (a0_1 : Int) (A0_2 : Option Addr) (c0_2 : Nat) (l0_2 : List (S123)) (A1 : Option Addr) (c1 : Nat) (l1 : List Int) (a2 : Int) (r1 : Int) (r2 : Int) (r3 : List (S123)) (r4 : Int) (r5 : Int) (r6 : List (S123)) (r7 : Bool) (w : World) (hr0_2 : Kd.C k123 w A0_2 l0_2.length l0_2) (hc0_2 : l0_2.length ≤ c0_2) (hr1 : Kd.C (Kd.int .i64) w A1 l1.length l1) (hc1 : l1.length ≤ c1) (h : spec_SplitAccount.f k a0_0 a0_1 l0_2 l1 a2 = some (r1, r2, r3, r4, r5, r6, r7)) :
  Calls Try.prog 59 #[.agg #[.int .i64 a0_0, .int .i64 a0_1, .slice A0_2 l0_2.length c0_2], .slice A1 l1.length c1, .int .i64 a2] w fun e w' => ∃ v2_ v5_ : Value, e = .returned (.tuple #[.agg #[.int .i64 r1, .int .i64 r2, v2_], .agg #[.int .i64 r4, .int .i64 r5, v5_], .bool r7]) ∧ Kd.R k123 123 w' w.heap.size (fun k_ => some k_ ≠ (v5_ : Value).ownBlock) v2_ r3 ∧ Kd.R k123 123 w' w.heap.size (fun k_ => some k_ ≠ (v2_ : Value).ownBlock) v5_ r6 ∧ Below w.heap.size w w' := by
 have hu76 := Try.underlying76
 have hu123 := Try.underlying123
 have HR0_2 := Aside0.mk hr0_2
 have HC0_2 := Aside0.mk hc0_2
 clear hr0_2 hc0_2
 have HR1 := Aside0.mk hr1
 have HC1 := Aside0.mk hc1
 clear hr1 hc1
 have HB := Aside0.mk (Below.refl w.heap.size w)
 have H : (spec_SplitAccount.l0 k l1 a2 0 a0_0 a0_1 l0_2 a0_0 a0_1 ([] : List (S123)) a2 a0_1 ([] : List (S123))) = some (r1, r2, r3, r4, r5, r6, r7) := h
 clear h
 have H' := Aside0.mk H
 clear H
 go_enter Try.func59, Try.ntmps59
 go_wp2_with (first | ((with_reducible refine gate_dst (N := 3) rfl ?_); (try (refine gate_guard (by rfl) ?_; dsimp only)); refine box_event ?hg (N := 3) ?hd (cs := #[.int .i64 a0_0, .int .i64 a0_1, .slice A0_2 l0_2.length c0_2]) (t := 76) ?hr ?_; (case hd => rfl); (case hg => rfl); (case hr => exact tG); intro gb178 hg w4 hbox hb; have n0_ := Aside0.mk (below_step tB hb); have n1_ := Aside0.mk (hbox); have n2_ := Aside0.mk ((by rw [hg]; exact (below_size tB) : w.heap.size ≤ gb178)); have n3_ := Aside0.mk ((by rw [hg]; exact (below_size tB) : w.heap.size ≤ gb178)); clear HB; have HB := n0_; have BK178 := n1_; have GW178 := n2_; have GE178 := n3_; clear n0_ n1_ n2_ n3_; clear hb hbox hg) | ((with_reducible refine gate_dst (N := 6) rfl ?_); (try (refine gate_guard (by rfl) ?_; dsimp only)); refine box_event ?hg (N := 6) ?hd (cs := #[.int .i64 0, .int .i64 0, .slice none 0 0]) (t := 76) ?hr ?_; (case hd => rfl); (case hg => rfl); (case hr => exact tG); intro gb179 hg w5 hbox hb; have n0_ := Aside0.mk (blk_below (g := gb178) (o := .cells #[.int .i64 a0_0, .int .i64 a0_1, .slice A0_2 l0_2.length c0_2] 76 (0, 0)) (tK BK178) hb); have n1_ := Aside0.mk (below_step tB hb); have n2_ := Aside0.mk (hbox); have n3_ := Aside0.mk ((by rw [hg]; exact (below_size tB) : w.heap.size ≤ gb179)); have n4_ := Aside0.mk ((by rw [hg]; exact (below_size tB) : w.heap.size ≤ gb179)); have n5_ := Aside0.mk ((by rw [hg]; exact Nat.ne_of_lt (blk_lt (g := gb178) (o := .cells #[.int .i64 a0_0, .int .i64 a0_1, .slice A0_2 l0_2.length c0_2] 76 (0, 0)) (tK BK178)) : gb178 ≠ gb179)); have n6_ := Aside0.mk ((by rw [hg]; exact Nat.ne_of_gt (blk_lt (g := gb178) (o := .cells #[.int .i64 a0_0, .int .i64 a0_1, .slice A0_2 l0_2.length c0_2] 76 (0, 0)) (tK BK178)) : gb179 ≠ gb178)); clear BK178; clear HB; have BK178 := n0_; have HB := n1_; have BK179 := n2_; have GW179 := n3_; have GE179 := n4_; have NB178_179 := n5_; have NB179_178 := n6_; clear n0_ n1_ n2_ n3_ n4_ n5_ n6_; clear hb hbox hg) | ((with_reducible refine gate_dst (N := 7) rfl ?_); (try (refine gate_guard (by rfl) ?_; dsimp only)); refine box_event ?hg (N := 7) ?hd (cs := #[.int .i64 0, .int .i64 0, .slice none 0 0]) (t := 76) ?hr ?_; (case hd => rfl); (case hg => rfl); (case hr => exact tG); intro gb180 hg w6 hbox hb; have n0_ := Aside0.mk (blk_below (g := gb178) (o := .cells #[.int .i64 a0_0, .int .i64 a0_1, .slice A0_2 l0_2.length c0_2] 76 (0, 0)) (tK BK178) hb); have n1_ := Aside0.mk (blk_below (g := gb179) (o := .cells #[.int .i64 0, .int .i64 0, .slice none 0 0] 76 (0, 0)) (tK BK179) hb); have n2_ := Aside0.mk (below_step tB hb); have n3_ := Aside0.mk (hbox); have n4_ := Aside0.mk ((by rw [hg]; exact (below_size tB) : w.heap.size ≤ gb180)); have n5_ := Aside0.mk ((by rw [hg]; exact (below_size tB) : w.heap.size ≤ gb180)); have n6_ := Aside0.mk ((by rw [hg]; exact Nat.ne_of_lt (blk_lt (g := gb178) (o := .cells #[.int .i64 a0_0, .int .i64 a0_1, .slice A0_2 l0_2.length c0_2] 76 (0, 0)) (tK BK178)) : gb178 ≠ gb180)); have n7_ := Aside0.mk ((by rw [hg]; exact Nat.ne_of_gt (blk_lt (g := gb178) (o := .cells #[.int .i64 a0_0, .int .i64 a0_1, .slice A0_2 l0_2.length c0_2] 76 (0, 0)) (tK BK178)) : gb180 ≠ gb178)); have n8_ := Aside0.mk ((by rw [hg]; exact Nat.ne_of_lt (blk_lt (g := gb179) (o := .cells #[.int .i64 0, .int .i64 0, .slice none 0 0] 76 (0, 0)) (tK BK179)) : gb179 ≠ gb180)); have n9_ := Aside0.mk ((by rw [hg]; exact Nat.ne_of_gt (blk_lt (g := gb179) (o := .cells #[.int .i64 0, .int .i64 0, .slice none 0 0] 76 (0, 0)) (tK BK179)) : gb180 ≠ gb179)); clear BK178; clear BK179; clear HB; have BK178 := n0_; have BK179 := n1_; have HB := n2_; have BK180 := n3_; have GW180 := n4_; have GE180 := n5_; have NB178_180 := n6_; have NB180_178 := n7_; have NB179_180 := n8_; have NB180_179 := n9_; clear n0_ n1_ n2_ n3_ n4_ n5_ n6_ n7_ n8_ n9_; clear hb hbox hg; have hnb7 := NB178_179.out; have hnc7 := NB179_178.out; have hnb8 := NB178_180.out; have hnc8 := NB180_178.out; obtain ⟨hcz9_0, hcz9_1, hcz9_2, hfz9_0, hfz9_1, hfz9_2⟩ := bc3 BK178.out) | ((with_reducible refine gate_dst (N := 9) rfl ?_); (try (refine gate_guard (by rfl) ?_; dsimp only)); refine box_event ?hg (N := 9) ?hd (cs := #[.int .i64 0, .int .i64 0, .slice none 0 0]) (t := 76) ?hr ?_; (case hd => rfl); (case hg => rfl); (case hr => exact tG); intro gb181 hg w10 hbox hb; have n0_ := Aside0.mk (blk_below (g := gb178) (o := .cells #[.int .i64 a0_0, .int .i64 a0_1, .slice A0_2 l0_2.length c0_2] 76 (0, 0)) (tK BK178) hb); have n1_ := Aside0.mk (blk_below (g := gb179) (o := .cells #[.int .i64 0, .int .i64 0, .slice none 0 0] 76 (0, 0)) (tK BK179) hb); have n2_ := Aside0.mk (blk_below (g := gb180) (o := .cells #[.int .i64 0, .int .i64 0, .slice none 0 0] 76 (0, 0)) (tK BK180) hb); have n3_ := Aside0.mk (below_step tB hb); have n4_ := Aside0.mk (hbox); have n5_ := Aside0.mk ((by rw [hg]; exact (below_size tB) : w.heap.size ≤ gb181)); have n6_ := Aside0.mk ((by rw [hg]; exact (below_size tB) : w.heap.size ≤ gb181)); have n7_ := Aside0.mk ((by rw [hg]; exact Nat.ne_of_lt (blk_lt (g := gb178) (o := .cells #[.int .i64 a0_0, .int .i64 a0_1, .slice A0_2 l0_2.length c0_2] 76 (0, 0)) (tK BK178)) : gb178 ≠ gb181)); have n8_ := Aside0.mk ((by rw [hg]; exact Nat.ne_of_gt (blk_lt (g := gb178) (o := .cells #[.int .i64 a0_0, .int .i64 a0_1, .slice A0_2 l0_2.length c0_2] 76 (0, 0)) (tK BK178)) : gb181 ≠ gb178)); have n9_ := Aside0.mk ((by rw [hg]; exact Nat.ne_of_lt (blk_lt (g := gb179) (o := .cells #[.int .i64 0, .int .i64 0, .slice none 0 0] 76 (0, 0)) (tK BK179)) : gb179 ≠ gb181)); have n10_ := Aside0.mk ((by rw [hg]; exact Nat.ne_of_gt (blk_lt (g := gb179) (o := .cells #[.int .i64 0, .int .i64 0, .slice none 0 0] 76 (0, 0)) (tK BK179)) : gb181 ≠ gb179)); have n11_ := Aside0.mk ((by rw [hg]; exact Nat.ne_of_lt (blk_lt (g := gb180) (o := .cells #[.int .i64 0, .int .i64 0, .slice none 0 0] 76 (0, 0)) (tK BK180)) : gb180 ≠ gb181)); have n12_ := Aside0.mk ((by rw [hg]; exact Nat.ne_of_gt (blk_lt (g := gb180) (o := .cells #[.int .i64 0, .int .i64 0, .slice none 0 0] 76 (0, 0)) (tK BK180)) : gb181 ≠ gb180)); clear BK178; clear BK179; clear BK180; clear HB; have BK178 := n0_; have BK179 := n1_; have BK180 := n2_; have HB := n3_; have BK181 := n4_; have GW181 := n5_; have GE181 := n6_; have NB178_181 := n7_; have NB181_178 := n8_; have NB179_181 := n9_; have NB181_179 := n10_; have NB180_181 := n11_; have NB181_180 := n12_; clear n0_ n1_ n2_ n3_ n4_ n5_ n6_ n7_ n8_ n9_ n10_ n11_ n12_; clear hb hbox hg; have hnb11 := NB181_178.out; have hnc11 := NB178_181.out; have hnb12 := NB181_179.out; have hnc12 := NB179_181.out; have hnb13 := NB181_180.out; have hnc13 := NB180_181.out; obtain ⟨hcz14_0, hcz14_1, hcz14_2, hfz14_0, hfz14_1, hfz14_2⟩ := bc3 BK181.out; obtain ⟨hcz15_0, hcz15_1, hcz15_2, hfz15_0, hfz15_1, hfz15_2⟩ := bc3 BK178.out) | ((with_reducible refine gate_dst (N := 10) rfl ?_); (try (refine gate_guard (by rfl) ?_; dsimp only)); refine box_event ?hg (N := 10) ?hd (cs := #[.int .i64 0, .int .i64 0, .slice none 0 0]) (t := 76) ?hr ?_; (case hd => rfl); (case hg => rfl); (case hr => exact tG); intro gb182 hg w16 hbox hb; have n0_ := Aside0.mk (blk_below (g := gb178) (o := .cells #[.int .i64 a0_0, .int .i64 a0_1, .slice A0_2 l0_2.length c0_2] 76 (0, 0)) (by (with_reducible repeat (first | refine blk_drewN ?_ _ | refine blk_drew ?_ | refine blk_alloc ?_ _)); refine blk_far ?_ NB178_181.out _; (with_reducible repeat (first | refine blk_drewN ?_ _ | refine blk_drew ?_ | refine blk_alloc ?_ _)); refine blk_far ?_ NB178_181.out _; (with_reducible repeat (first | refine blk_drewN ?_ _ | refine blk_drew ?_ | refine blk_alloc ?_ _)); refine blk_far ?_ NB178_181.out _; (with_reducible repeat (first | refine blk_drewN ?_ _ | refine blk_drew ?_ | refine blk_alloc ?_ _)); exact BK178.out) hb); have n1_ := Aside0.mk (blk_below (g := gb179) (o := .cells #[.int .i64 0, .int .i64 0, .slice none 0 0] 76 (0, 0)) (by (with_reducible repeat (first | refine blk_drewN ?_ _ | refine blk_drew ?_ | refine blk_alloc ?_ _)); refine blk_far ?_ NB179_181.out _; (with_reducible repeat (first | refine blk_drewN ?_ _ | refine blk_drew ?_ | refine blk_alloc ?_ _)); refine blk_far ?_ NB179_181.out _; (with_reducible repeat (first | refine blk_drewN ?_ _ | refine blk_drew ?_ | refine blk_alloc ?_ _)); refine blk_far ?_ NB179_181.out _; (with_reducible repeat (first | refine blk_drewN ?_ _ | refine blk_drew ?_ | refine blk_alloc ?_ _)); exact BK179.out) hb); have n2_ := Aside0.mk (blk_below (g := gb180) (o := .cells #[.int .i64 0, .int .i64 0, .slice none 0 0] 76 (0, 0)) (by (with_reducible repeat (first | refine blk_drewN ?_ _ | refine blk_drew ?_ | refine blk_alloc ?_ _)); refine blk_far ?_ NB180_181.out _; (with_reducible repeat (first | refine blk_drewN ?_ _ | refine blk_drew ?_ | refine blk_alloc ?_ _)); refine blk_far ?_ NB180_181.out _; (with_reducible repeat (first | refine blk_drewN ?_ _ | refine blk_drew ?_ | refine blk_alloc ?_ _)); refine blk_far ?_ NB180_181.out _; (with_reducible repeat (first | refine blk_drewN ?_ _ | refine blk_drew ?_ | refine blk_alloc ?_ _)); exact BK180.out) hb); have n3_ := Aside0.mk (blk_below (g := gb181) (o := .cells #[.int .i64 a0_0, .int .i64 a0_1, .slice none 0 0] 76 (0, 0)) (by (with_reducible repeat (first | refine blk_drewN ?_ _ | refine blk_drew ?_ | refine blk_alloc ?_ _)); refine blk_put (cs := #[.int .i64 a0_0, .int .i64 a0_1, .slice none 0 0]) ?_ 2 _ rfl; (with_reducible repeat (first | refine blk_drewN ?_ _ | refine blk_drew ?_ | refine blk_alloc ?_ _)); refine blk_put (cs := #[.int .i64 a0_0, .int .i64 0, .slice none 0 0]) ?_ 1 _ rfl; (with_reducible repeat (first | refine blk_drewN ?_ _ | refine blk_drew ?_ | refine blk_alloc ?_ _)); refine blk_put (cs := #[.int .i64 0, .int .i64 0, .slice none 0 0]) ?_ 0 _ rfl; (with_reducible repeat (first | refine blk_drewN ?_ _ | refine blk_drew ?_ | refine blk_alloc ?_ _)); exact BK181.out) hb); have n4_ := Aside0.mk (below_step tB hb); have n5_ := Aside0.mk (hbox); have n6_ := Aside0.mk ((by rw [hg]; exact (below_size tB) : w.heap.size ≤ gb182)); have n7_ := Aside0.mk ((by rw [hg]; exact (below_size tB) : w.heap.size ≤ gb182)); have n8_ := Aside0.mk ((by rw [hg]; exact Nat.ne_of_lt (blk_lt (g := gb178) (o := .cells #[.int .i64 a0_0, .int .i64 a0_1, .slice A0_2 l0_2.length c0_2] 76 (0, 0)) (by (with_reducible repeat (first | refine blk_drewN ?_ _ | refine blk_drew ?_ | refine blk_alloc ?_ _)); refine blk_far ?_ NB178_181.out _; (with_reducible repeat (first | refine blk_drewN ?_ _ | refine blk_drew ?_ | refine blk_alloc ?_ _)); refine blk_far ?_ NB178_181.out _; (with_reducible repeat (first | refine blk_drewN ?_ _ | refine blk_drew ?_ | refine blk_alloc ?_ _)); refine blk_far ?_ NB178_181.out _; (with_reducible repeat (first | refine blk_drewN ?_ _ | refine blk_drew ?_ | refine blk_alloc ?_ _)); exact BK178.out)) : gb178 ≠ gb182)); have n9_ := Aside0.mk ((by rw [hg]; exact Nat.ne_of_gt (blk_lt (g := gb178) (o := .cells #[.int .i64 a0_0, .int .i64 a0_1, .slice A0_2 l0_2.length c0_2] 76 (0, 0)) (by (with_reducible repeat (first | refine blk_drewN ?_ _ | refine blk_drew ?_ | refine blk_alloc ?_ _)); refine blk_far ?_ NB178_181.out _; (with_reducible repeat (first | refine blk_drewN ?_ _ | refine blk_drew ?_ | refine blk_alloc ?_ _)); refine blk_far ?_ NB178_181.out _; (with_reducible repeat (first | refine blk_drewN ?_ _ | refine blk_drew ?_ | refine blk_alloc ?_ _)); refine blk_far ?_ NB178_181.out _; (with_reducible repeat (first | refine blk_drewN ?_ _ | refine blk_drew ?_ | refine blk_alloc ?_ _)); exact BK178.out)) : gb182 ≠ gb178)); have n10_ := Aside0.mk ((by rw [hg]; exact Nat.ne_of_lt (blk_lt (g := gb179) (o := .cells #[.int .i64 0, .int .i64 0, .slice none 0 0] 76 (0, 0)) (by (with_reducible repeat (first | refine blk_drewN ?_ _ | refine blk_drew ?_ | refine blk_alloc ?_ _)); refine blk_far ?_ NB179_181.out _; (with_reducible repeat (first | refine blk_drewN ?_ _ | refine blk_drew ?_ | refine blk_alloc ?_ _)); refine blk_far ?_ NB179_181.out _; (with_reducible repeat (first | refine blk_drewN ?_ _ | refine blk_drew ?_ | refine blk_alloc ?_ _)); refine blk_far ?_ NB179_181.out _; (with_reducible repeat (first | refine blk_drewN ?_ _ | refine blk_drew ?_ | refine blk_alloc ?_ _)); exact BK179.out)) : gb179 ≠ gb182)); have n11_ := Aside0.mk ((by rw [hg]; exact Nat.ne_of_gt (blk_lt (g := gb179) (o := .cells #[.int .i64 0, .int .i64 0, .slice none 0 0] 76 (0, 0)) (by (with_reducible repeat (first | refine blk_drewN ?_ _ | refine blk_drew ?_ | refine blk_alloc ?_ _)); refine blk_far ?_ NB179_181.out _; (with_reducible repeat (first | refine blk_drewN ?_ _ | refine blk_drew ?_ | refine blk_alloc ?_ _)); refine blk_far ?_ NB179_181.out _; (with_reducible repeat (first | refine blk_drewN ?_ _ | refine blk_drew ?_ | refine blk_alloc ?_ _)); refine blk_far ?_ NB179_181.out _; (with_reducible repeat (first | refine blk_drewN ?_ _ | refine blk_drew ?_ | refine blk_alloc ?_ _)); exact BK179.out)) : gb182 ≠ gb179)); have n12_ := Aside0.mk ((by rw [hg]; exact Nat.ne_of_lt (blk_lt (g := gb180) (o := .cells #[.int .i64 0, .int .i64 0, .slice none 0 0] 76 (0, 0)) (by (with_reducible repeat (first | refine blk_drewN ?_ _ | refine blk_drew ?_ | refine blk_alloc ?_ _)); refine blk_far ?_ NB180_181.out _; (with_reducible repeat (first | refine blk_drewN ?_ _ | refine blk_drew ?_ | refine blk_alloc ?_ _)); refine blk_far ?_ NB180_181.out _; (with_reducible repeat (first | refine blk_drewN ?_ _ | refine blk_drew ?_ | refine blk_alloc ?_ _)); refine blk_far ?_ NB180_181.out _; (with_reducible repeat (first | refine blk_drewN ?_ _ | refine blk_drew ?_ | refine blk_alloc ?_ _)); exact BK180.out)) : gb180 ≠ gb182)); have n13_ := Aside0.mk ((by rw [hg]; exact Nat.ne_of_gt (blk_lt (g := gb180) (o := .cells #[.int .i64 0, .int .i64 0, .slice none 0 0] 76 (0, 0)) (by (with_reducible repeat (first | refine blk_drewN ?_ _ | refine blk_drew ?_ | refine blk_alloc ?_ _)); refine blk_far ?_ NB180_181.out _; (with_reducible repeat (first | refine blk_drewN ?_ _ | refine blk_drew ?_ | refine blk_alloc ?_ _)); refine blk_far ?_ NB180_181.out _; (with_reducible repeat (first | refine blk_drewN ?_ _ | refine blk_drew ?_ | refine blk_alloc ?_ _)); refine blk_far ?_ NB180_181.out _; (with_reducible repeat (first | refine blk_drewN ?_ _ | refine blk_drew ?_ | refine blk_alloc ?_ _)); exact BK180.out)) : gb182 ≠ gb180)); have n14_ := Aside0.mk ((by rw [hg]; exact Nat.ne_of_lt (blk_lt (g := gb181) (o := .cells #[.int .i64 a0_0, .int .i64 a0_1, .slice none 0 0] 76 (0, 0)) (by (with_reducible repeat (first | refine blk_drewN ?_ _ | refine blk_drew ?_ | refine blk_alloc ?_ _)); refine blk_put (cs := #[.int .i64 a0_0, .int .i64 a0_1, .slice none 0 0]) ?_ 2 _ rfl; (with_reducible repeat (first | refine blk_drewN ?_ _ | refine blk_drew ?_ | refine blk_alloc ?_ _)); refine blk_put (cs := #[.int .i64 a0_0, .int .i64 0, .slice none 0 0]) ?_ 1 _ rfl; (with_reducible repeat (first | refine blk_drewN ?_ _ | refine blk_drew ?_ | refine blk_alloc ?_ _)); refine blk_put (cs := #[.int .i64 0, .int .i64 0, .slice none 0 0]) ?_ 0 _ rfl; (with_reducible repeat (first | refine blk_drewN ?_ _ | refine blk_drew ?_ | refine blk_alloc ?_ _)); exact BK181.out)) : gb181 ≠ gb182)); have n15_ := Aside0.mk ((by rw [hg]; exact Nat.ne_of_gt (blk_lt (g := gb181) (o := .cells #[.int .i64 a0_0, .int .i64 a0_1, .slice none 0 0] 76 (0, 0)) (by (with_reducible repeat (first | refine blk_drewN ?_ _ | refine blk_drew ?_ | refine blk_alloc ?_ _)); refine blk_put (cs := #[.int .i64 a0_0, .int .i64 a0_1, .slice none 0 0]) ?_ 2 _ rfl; (with_reducible repeat (first | refine blk_drewN ?_ _ | refine blk_drew ?_ | refine blk_alloc ?_ _)); refine blk_put (cs := #[.int .i64 a0_0, .int .i64 0, .slice none 0 0]) ?_ 1 _ rfl; (with_reducible repeat (first | refine blk_drewN ?_ _ | refine blk_drew ?_ | refine blk_alloc ?_ _)); refine blk_put (cs := #[.int .i64 0, .int .i64 0, .slice none 0 0]) ?_ 0 _ rfl; (with_reducible repeat (first | refine blk_drewN ?_ _ | refine blk_drew ?_ | refine blk_alloc ?_ _)); exact BK181.out)) : gb182 ≠ gb181)); clear BK178; clear BK179; clear BK180; clear BK181; clear HB; have BK178 := n0_; have BK179 := n1_; have BK180 := n2_; have BK181 := n3_; have HB := n4_; have BK182 := n5_; have GW182 := n6_; have GE182 := n7_; have NB178_182 := n8_; have NB182_178 := n9_; have NB179_182 := n10_; have NB182_179 := n11_; have NB180_182 := n12_; have NB182_180 := n13_; have NB181_182 := n14_; have NB182_181 := n15_; clear n0_ n1_ n2_ n3_ n4_ n5_ n6_ n7_ n8_ n9_ n10_ n11_ n12_ n13_ n14_ n15_; clear hb hbox hg; have hnb17 := NB182_178.out; have hnc17 := NB178_182.out; have hnb18 := NB182_179.out; have hnc18 := NB179_182.out; have hnb19 := NB182_180.out; have hnc19 := NB180_182.out; have hnb20 := NB182_181.out; have hnc20 := NB181_182.out; obtain ⟨hcz21_0, hcz21_1, hcz21_2, hfz21_0, hfz21_1, hfz21_2⟩ := bc3 BK182.out))
 go_loopg [11] k (fun kq v11 w' => ∃ (x11_1 : Int) (x182002_1 : List (S123)) (x183002_1 : List (S123)) (u182002 : Value) (u183002 : Value), v11 = .int .i64 x11_1 ∧ Aside0 (spec_SplitAccount.l0 kq l1 a2 x11_1 a0_0 a0_1 l0_2 a0_0 a0_1 x182002_1 a2 a0_1 x183002_1 = some (r1, r2, r3, r4, r5, r6, r7)) ∧ Aside0 (kq ≤ k) ∧ Aside0 (Kd.R k123 123 w' w.heap.size (fun k_ => some k_ ≠ (u183002 : Value).ownBlock) u182002 x182002_1) ∧ Aside0 (Kd.R k123 123 w' w.heap.size (fun k_ => some k_ ≠ (u182002 : Value).ownBlock) u183002 x183002_1) ∧ Aside0 (w'.heap[gb178]? = some (.cells #[.int .i64 a0_0, .int .i64 a0_1, (.slice A0_2 l0_2.length c0_2)] 76 (0, 0))) ∧ Aside0 (w'.heap[gb179]? = some (.cells #[.int .i64 0, .int .i64 0, (.slice none 0 0)] 76 (0, 0))) ∧ Aside0 (w'.heap[gb180]? = some (.cells #[.int .i64 0, .int .i64 0, (.slice none 0 0)] 76 (0, 0))) ∧ Aside0 (w'.heap[gb181]? = some (.cells #[.int .i64 a0_0, .int .i64 a0_1, u182002] 76 (0, 0))) ∧ Aside0 (w'.heap[gb182]? = some (.cells #[.int .i64 a2, .int .i64 a0_1, u183002] 76 (0, 0))) ∧ Aside0 (Below w.heap.size w w'))
 case atStart => exact ⟨(0), (([] : List (S123))), (([] : List (S123))), (.slice none 0 0), (.slice none 0 0), tS, H', ⟨Nat.le_refl _⟩, ⟨by first | exact Kd.R_nil _ _ _ _ _ | exact Kd.N_nil _ _ _ _ _ | exact Kd.V_nil _ _ _ _ _ | exact Kd.Q_nil _ _ _ _ _ | exact Kd.S_nil _ _ _ _ _⟩, ⟨by first | exact Kd.R_nil _ _ _ _ _ | exact Kd.N_nil _ _ _ _ _ | exact Kd.V_nil _ _ _ _ _ | exact Kd.Q_nil _ _ _ _ _ | exact Kd.S_nil _ _ _ _ _⟩, ⟨by (with_reducible repeat (first | refine blk_drewN ?_ _ | refine blk_drew ?_ | refine blk_alloc ?_ _)); refine blk_far ?_ NB178_182.out _; (with_reducible repeat (first | refine blk_drewN ?_ _ | refine blk_drew ?_ | refine blk_alloc ?_ _)); refine blk_far ?_ NB178_182.out _; (with_reducible repeat (first | refine blk_drewN ?_ _ | refine blk_drew ?_ | refine blk_alloc ?_ _)); refine blk_far ?_ NB178_182.out _; (with_reducible repeat (first | refine blk_drewN ?_ _ | refine blk_drew ?_ | refine blk_alloc ?_ _)); exact BK178.out⟩, ⟨by (with_reducible repeat (first | refine blk_drewN ?_ _ | refine blk_drew ?_ | refine blk_alloc ?_ _)); refine blk_far ?_ NB179_182.out _; (with_reducible repeat (first | refine blk_drewN ?_ _ | refine blk_drew ?_ | refine blk_alloc ?_ _)); refine blk_far ?_ NB179_182.out _; (with_reducible repeat (first | refine blk_drewN ?_ _ | refine blk_drew ?_ | refine blk_alloc ?_ _)); refine blk_far ?_ NB179_182.out _; (with_reducible repeat (first | refine blk_drewN ?_ _ | refine blk_drew ?_ | refine blk_alloc ?_ _)); exact BK179.out⟩, ⟨by (with_reducible repeat (first | refine blk_drewN ?_ _ | refine blk_drew ?_ | refine blk_alloc ?_ _)); refine blk_far ?_ NB180_182.out _; (with_reducible repeat (first | refine blk_drewN ?_ _ | refine blk_drew ?_ | refine blk_alloc ?_ _)); refine blk_far ?_ NB180_182.out _; (with_reducible repeat (first | refine blk_drewN ?_ _ | refine blk_drew ?_ | refine blk_alloc ?_ _)); refine blk_far ?_ NB180_182.out _; (with_reducible repeat (first | refine blk_drewN ?_ _ | refine blk_drew ?_ | refine blk_alloc ?_ _)); exact BK180.out⟩, ⟨by (with_reducible repeat (first | refine blk_drewN ?_ _ | refine blk_drew ?_ | refine blk_alloc ?_ _)); refine blk_far ?_ NB181_182.out _; (with_reducible repeat (first | refine blk_drewN ?_ _ | refine blk_drew ?_ | refine blk_alloc ?_ _)); refine blk_far ?_ NB181_182.out _; (with_reducible repeat (first | refine blk_drewN ?_ _ | refine blk_drew ?_ | refine blk_alloc ?_ _)); refine blk_far ?_ NB181_182.out _; (with_reducible repeat (first | refine blk_drewN ?_ _ | refine blk_drew ?_ | refine blk_alloc ?_ _)); exact BK181.out⟩, ⟨by (with_reducible repeat (first | refine blk_drewN ?_ _ | refine blk_drew ?_ | refine blk_alloc ?_ _)); refine blk_put (cs := #[.int .i64 a2, .int .i64 a0_1, .slice none 0 0]) ?_ 2 _ rfl; (with_reducible repeat (first | refine blk_drewN ?_ _ | refine blk_drew ?_ | refine blk_alloc ?_ _)); refine blk_put (cs := #[.int .i64 a2, .int .i64 0, .slice none 0 0]) ?_ 1 _ rfl; (with_reducible repeat (first | refine blk_drewN ?_ _ | refine blk_drew ?_ | refine blk_alloc ?_ _)); refine blk_put (cs := #[.int .i64 0, .int .i64 0, .slice none 0 0]) ?_ 0 _ rfl; (with_reducible repeat (first | refine blk_drewN ?_ _ | refine blk_drew ?_ | refine blk_alloc ?_ _)); exact BK182.out⟩, ⟨tB⟩⟩
 case round =>
  clear H'
  try clear c1
  try clear c2
  try clear p2
  try clear c5
  try clear c7
  try clear c8
  try clear c11
  try clear c12
  try clear c13
  try clear c17
  try clear c18
  try clear c19
  try clear c20
  try clear hcz14_0
  try clear hcz14_1
  try clear hcz14_2
  try clear hcz15_0
  try clear hcz15_1
  try clear hcz15_2
  try clear hcz21_0
  try clear hcz21_1
  try clear hcz21_2
  try clear hcz9_0
  try clear hcz9_1
  try clear hcz9_2
  try clear hfz14_0
  try clear hfz14_1
  try clear hfz14_2
  try clear hfz15_0
  try clear hfz15_1
  try clear hfz15_2
  try clear hfz21_0
  try clear hfz21_1
  try clear hfz21_2
  try clear hfz9_0
  try clear hfz9_1
  try clear hfz9_2
  obtain ⟨x11_1, x182002_1, x183002_1, u182002, u183002, rfl, HA, HK1, HO_182002, HO_183002, BK178, BK179, BK180, BK181, BK182, HB⟩ := hrel
  cases gk with
  | zero => exact absurd HA.out (by simp [spec_SplitAccount.l0])
  | succ k1 =>
   have H := HA.out
   clear HA
   simp only [spec_SplitAccount.l0] at H
   by_cases c22 : x11_1 < (l0_2.length : Int)
   ·rw [if_pos c22] at H
    have c22b0 : decide (x11_1 < (l0_2.length : Int)) = true := decide_eq_true c22
    clear c22
    by_cases c23 : 0 ≤ x11_1
    ·rw [if_pos c23] at H
     have c23b0 : decide (0 ≤ x11_1) = true := decide_eq_true c23
     clear c23
     replace H := Option.bind_eq_some_iff.mp H
     obtain ⟨t184, A240, H⟩ := H
     replace H : (if t184 = true then (if x183002_1.length < 4398046511104 then (spec_SplitAccount.l0 k1 l1 a2 (wrap64 (x11_1 + 1)) a0_0 a0_1 l0_2 a0_0 a0_1 x182002_1 a2 a0_1 (x183002_1 ++ [(⟨(rd_T123 l0_2 x11_1).f0, (rd_T123 l0_2 x11_1).f1, (rd_T123 l0_2 x11_1).f2, (rd_T123 l0_2 x11_1).f3⟩ : S123)])) else (none)) else (if x182002_1.length < 4398046511104 then (spec_SplitAccount.l0 k1 l1 a2 (wrap64 (x11_1 + 1)) a0_0 a0_1 l0_2 a0_0 a0_1 (x182002_1 ++ [(⟨(rd_T123 l0_2 x11_1).f0, (rd_T123 l0_2 x11_1).f1, (rd_T123 l0_2 x11_1).f2, (rd_T123 l0_2 x11_1).f3⟩ : S123)]) a2 a0_1 x183002_1) else (none))) = some (r1, r2, r3, r4, r5, r6, r7) := H
     have A24 := Aside0.mk A240
     clear A240
     by_cases c25 : t184 = true
     ·subst c25
      have H1 : (if x183002_1.length < 4398046511104 then (spec_SplitAccount.l0 k1 l1 a2 (wrap64 (x11_1 + 1)) a0_0 a0_1 l0_2 a0_0 a0_1 x182002_1 a2 a0_1 (x183002_1 ++ [(⟨(rd_T123 l0_2 x11_1).f0, (rd_T123 l0_2 x11_1).f1, (rd_T123 l0_2 x11_1).f2, (rd_T123 l0_2 x11_1).f3⟩ : S123)])) else (none)) = some (r1, r2, r3, r4, r5, r6, r7) := by rw [if_pos rfl] at H; exact H
      clear H
      have H := H1
      clear H1
      by_cases c26 : x183002_1.length < 4398046511104
      ·rw [if_pos c26] at H
       have LMc26 := Aside0.mk c26
       clear c26
       obtain ⟨y186, hy186⟩ : ∃ y_ : List (S123), y_ = (x183002_1 ++ [(⟨(rd_T123 l0_2 x11_1).f0, (rd_T123 l0_2 x11_1).f1, (rd_T123 l0_2 x11_1).f2, (rd_T123 l0_2 x11_1).f3⟩ : S123)]) := ⟨_, rfl⟩
       replace H : (spec_SplitAccount.l0 k1 l1 a2 (wrap64 (x11_1 + 1)) a0_0 a0_1 l0_2 a0_0 a0_1 x182002_1 a2 a0_1 y186) = some (r1, r2, r3, r4, r5, r6, r7) := by first | (rw [hy186]; with_reducible exact H) | (have H2_ := (Option.bind_some _ _).symm.trans H; rw [hy186]; with_reducible exact H2_) | (have H2_ := (Option.bind_some _ _).symm.trans H; with_reducible exact H2_) | with_reducible exact H | (rw [hy186]; exact H) | exact H
       have Ny186 := Aside0.mk hy186
       clear hy186
       have H' := Aside0.mk H
       clear H
       have hnb27 := NB178_179.out
       have hnc27 := NB179_178.out
       have hnb28 := NB178_180.out
       have hnc28 := NB180_178.out
       have hnb29 := NB178_181.out
       have hnc29 := NB181_178.out
       have hnb30 := NB178_182.out
       have hnc30 := NB182_178.out
       obtain ⟨hcz31_0, hcz31_1, hcz31_2, hfz31_0, hfz31_1, hfz31_2⟩ := bc3 BK178.out
       have p183 : 0 ≤ (x11_1 : Int) := of_decide_eq_true tA
       have q183 : x11_1 < (l0_2.length : Int) := of_decide_eq_true tA
       obtain ⟨ad183, e183, hx183_0, hx183_1, hx183_2, hx183_3⟩ := at_T123 HR0_2.out x11_1 p183 q183
       cases e183
       replace hx183_0 := hbc HB hx183_0
       replace hx183_1 := hbc HB hx183_1
       replace hx183_2 := hbc HB hx183_2
       replace hx183_3 := hbc HB hx183_3
       replace p183 := eq_true p183
       replace q183 := eq_true q183
       try go_wp2_with (first | ((with_reducible refine gate_callee (f := 85) rfl ?_); refine goesL_ (some 35) rfl rfl Try.func85 (by kernel_rfl) rfl #[.slice A1 l1.length c1, .int .i64 ((rd_T123 l0_2 x11_1).f0)] rfl tL ?_; (with_reducible refine (spec_l19Has.calls k1 _ _ l1 ((rd_T123 l0_2 x11_1).f0) true _ ?side1 ?side2 A24.out).mono ?_); (case side1 => repeat (first | exact (Kd.C_below HR1.out HB.out) | (with_reducible refine Kd.C_alloc ?_ _) | (with_reducible refine Kd.C_drewN ?_ _) | (with_reducible refine Kd.C_drew ?_))); (case side2 => exact HC1.out); rintro e w' ⟨rfl, ⟨nd, rfl⟩⟩; refine ⟨_, rfl, ?_⟩; (try (rw [drewN_self wr]; generalize hq_ : World.drewN wr _ = wr; have n0_ : Aside0 (Kd.R k123 123 wr w.heap.size (fun k_ => some k_ ≠ (u183002 : Value).ownBlock) u182002 x182002_1) := ⟨by rw [← hq_]; exact (tR HO_182002)⟩; have n1_ : Aside0 (Kd.R k123 123 wr w.heap.size (fun k_ => some k_ ≠ (u182002 : Value).ownBlock) u183002 x183002_1) := ⟨by rw [← hq_]; exact (tR HO_183002)⟩; have n2_ : Aside0 (wr.heap[gb178]? = some (.cells #[.int .i64 a0_0, .int .i64 a0_1, .slice (some ad183) l0_2.length c0_2] 76 (0, 0))) := ⟨by rw [← hq_]; exact (tK BK178)⟩; have n3_ : Aside0 (wr.heap[gb179]? = some (.cells #[.int .i64 0, .int .i64 0, .slice none 0 0] 76 (0, 0))) := ⟨by rw [← hq_]; exact (tK BK179)⟩; have n4_ : Aside0 (wr.heap[gb180]? = some (.cells #[.int .i64 0, .int .i64 0, .slice none 0 0] 76 (0, 0))) := ⟨by rw [← hq_]; exact (tK BK180)⟩; have n5_ : Aside0 (wr.heap[gb181]? = some (.cells #[.int .i64 a0_0, .int .i64 a0_1, u182002] 76 (0, 0))) := ⟨by rw [← hq_]; exact (tK BK181)⟩; have n6_ : Aside0 (wr.heap[gb182]? = some (.cells #[.int .i64 a2, .int .i64 a0_1, u183002] 76 (0, 0))) := ⟨by rw [← hq_]; exact (tK BK182)⟩; have n7_ : Aside0 (Below w.heap.size w wr) := ⟨by rw [← hq_]; exact tB⟩; clear HO_182002 HO_183002 BK178 BK179 BK180 BK181 BK182 HB hq_; have HO_182002 := n0_; have HO_183002 := n1_; have BK178 := n2_; have BK179 := n3_; have BK180 := n4_; have BK181 := n5_; have BK182 := n6_; have HB := n7_; clear n0_ n1_ n2_ n3_ n4_ n5_ n6_ n7_))))
       have n0_ := Aside0.mk (Kd.R_drew HO_182002.out)
       have n1_ := Aside0.mk (Kd.R_drew HO_183002.out)
       have n2_ := Aside0.mk (blk_drew BK178.out)
       have n3_ := Aside0.mk (blk_drew BK179.out)
       have n4_ := Aside0.mk (blk_drew BK180.out)
       have n5_ := Aside0.mk (blk_drew BK181.out)
       have n6_ := Aside0.mk (blk_drew BK182.out)
       have n7_ := Aside0.mk (below_drew1 HB.out)
       clear HO_182002
       clear HO_183002
       clear BK178
       clear BK179
       clear BK180
       clear BK181
       clear BK182
       clear HB
       have HO_182002 := n0_
       have HO_183002 := n1_
       have BK178 := n2_
       have BK179 := n3_
       have BK180 := n4_
       have BK181 := n5_
       have BK182 := n6_
       have HB := n7_
       clear n0_ n1_ n2_ n3_ n4_ n5_ n6_ n7_
       have p185 : 0 ≤ (x11_1 : Int) := of_decide_eq_true tA
       have q185 : x11_1 < (l0_2.length : Int) := of_decide_eq_true tA
       obtain ⟨ad185, e185, hx185_0, hx185_1, hx185_2, hx185_3⟩ := at_T123 HR0_2.out x11_1 p185 q185
       have hw185_3 := hx185_3
       have hw185_2 := hx185_2
       have hw185_1 := hx185_1
       have hw185_0 := hx185_0
       obtain rfl : ad183 = ad185 := (by injection e185)
       replace hx185_0 := hbc HB hx185_0
       replace hx185_1 := hbc HB hx185_1
       replace hx185_2 := hbc HB hx185_2
       replace hx185_3 := hbc HB hx185_3
       replace p185 := eq_true p185
       replace q185 := eq_true q185
       refine start_ (n := 11) (S := fun w' => w'.cell? ⟨gb182, 0, none⟩ = some (.int .i64 a2) ∧ w'.cell? ⟨gb182, 1, none⟩ = some (.int .i64 a0_1) ∧ w'.cell? ⟨gb182, 2, none⟩ = some (u183002) ∧ w'.cell? ⟨gb178, 0, none⟩ = some (.int .i64 a0_0) ∧ w'.cell? ⟨gb178, 1, none⟩ = some (.int .i64 a0_1) ∧ w'.cell? ⟨gb178, 2, none⟩ = some (.slice (some ad183) l0_2.length c0_2) ∧ w'.cell? (ad183.add ((x11_1).toNat * 4)) = some (.int .i64 ((rd_T123 l0_2 x11_1).f0)) ∧ w'.cell? ⟨(ad183.add ((x11_1).toNat * 4)).block, (ad183.add ((x11_1).toNat * 4)).off + 1, none⟩ = some (.int .i64 ((rd_T123 l0_2 x11_1).f1)) ∧ w'.cell? ⟨(ad183.add ((x11_1).toNat * 4)).block, (ad183.add ((x11_1).toNat * 4)).off + 2, none⟩ = some (.int .i64 ((rd_T123 l0_2 x11_1).f2)) ∧ w'.cell? ⟨(ad183.add ((x11_1).toNat * 4)).block, (ad183.add ((x11_1).toNat * 4)).off + 3, none⟩ = some (.bool ((rd_T123 l0_2 x11_1).f3))) (ds := [10]) #[false, false, false, false, false, false, false, false, false, false, false] (by kernel_rfl) rfl rfl ⟨(blk_cell BK182.out 0).trans rfl, (blk_cell BK182.out 1).trans rfl, (blk_cell BK182.out 2).trans rfl, (blk_cell BK178.out 0).trans rfl, (blk_cell BK178.out 1).trans rfl, (blk_cell BK178.out 2).trans rfl, ((HB.out.cell (World.block_lt_of_cell? w _ hw185_0)).trans hw185_0), ((HB.out.cell (World.block_lt_of_cell? w _ hw185_1)).trans hw185_1), ((HB.out.cell (World.block_lt_of_cell? w _ hw185_2)).trans hw185_2), ((HB.out.cell (World.block_lt_of_cell? w _ hw185_3)).trans hw185_3)⟩ (fun hHeld => ?_); refine with_tabW spec_SplitAccount.tab7 spec_SplitAccount.bits7 (fun HT_ HW_ => ?_)
       generalize wr.drew = w32 at HO_182002 HO_183002 BK178 BK179 BK180 BK181 BK182 HB hx185_0 hx185_1 hx185_2 hx185_3 hHeld ⊢
       refine pure_ (i := 0) (N := some 36) (v := ?_) (a' := ?_) #[true, false, false, false, false, false, false, false, false, false, false] rfl rfl (any_of HT_.out (by kernel_rfl)) (fun _ _ _ h => h) (Or.inl ⟨by rfl, ?_⟩) ?_ ?_
       rotate_left
       ·intro w'
        go_simp
        with_reducible rfl
       rotate_left
       ·simp only [Act.put, List.setIfInBounds_toArray, List.set_cons_zero, List.set_cons_succ, i64_w, i32_w]
        rfl
       refine pure_ (i := 2) (N := some 38) (v := ?_) (a' := ?_) #[true, false, true, false, false, false, false, false, false, false, false] rfl rfl (any_of HT_.out (by kernel_rfl)) (fun _ _ _ h => h) (Or.inl ⟨by rfl, ?_⟩) ?_ ?_
       rotate_left
       ·intro w'
        go_simp
        with_reducible rfl
       rotate_left
       ·simp only [Act.put, List.setIfInBounds_toArray, List.set_cons_zero, List.set_cons_succ, i64_w, i32_w]
        rfl
       refine pure_ (i := 4) (N := some 40) (v := ?_) (a' := ?_) #[true, false, true, false, true, false, false, false, false, false, false] rfl rfl (any_of HT_.out (by kernel_rfl)) (fun _ _ _ h => h) (Or.inl ⟨by rfl, ?_⟩) ?_ ?_
       rotate_left
       ·intro w'
        go_simp
        with_reducible rfl
       rotate_left
       ·simp only [Act.put, List.setIfInBounds_toArray, List.set_cons_zero, List.set_cons_succ, i64_w, i32_w]
        rfl
       refine take_ (i := 1) (N := some 37) (v := ?_) (a' := ?_) #[true, true, true, false, true, false, false, false, false, false, false] rfl rfl (take_ofW HT_.out HW_.out (by kernel_rfl)) (fun _ _ _ h => h) (Or.inl ⟨by rfl, ?_⟩) hHeld ?_ ?_
       rotate_left
       ·rintro w' ⟨s0, s1, s2, s3, s4, s5, s6, s7, s8, s9⟩
        go_simp
        with_reducible rfl
       rotate_left
       ·simp only [Act.put, List.setIfInBounds_toArray, List.set_cons_zero, List.set_cons_succ, i64_w, i32_w]
        rfl
       refine take_ (i := 3) (N := some 39) (v := ?_) (a' := ?_) #[true, true, true, true, true, false, false, false, false, false, false] rfl rfl (take_ofW HT_.out HW_.out (by kernel_rfl)) (fun _ _ _ h => h) (Or.inl ⟨by rfl, ?_⟩) hHeld ?_ ?_
       rotate_left
       ·rintro w' ⟨s0, s1, s2, s3, s4, s5, s6, s7, s8, s9⟩
        go_simp
        with_reducible rfl
       rotate_left
       ·simp only [Act.put, List.setIfInBounds_toArray, List.set_cons_zero, List.set_cons_succ, i64_w, i32_w]
        rfl
       refine pure_ (i := 5) (N := some 41) (v := ?_) (a' := ?_) #[true, true, true, true, true, true, false, false, false, false, false] rfl rfl (any_of HT_.out (by kernel_rfl)) (fun _ _ _ h => h) (Or.inl ⟨by rfl, ?_⟩) ?_ ?_
       rotate_left
       ·intro w'
        go_simp
        with_reducible rfl
       rotate_left
       ·simp only [Act.put, List.setIfInBounds_toArray, List.set_cons_zero, List.set_cons_succ, i64_w, i32_w]
        rfl
       refine take_ (i := 6) (N := some 42) (v := ?_) (a' := ?_) #[true, true, true, true, true, true, true, false, false, false, false] rfl rfl (take_ofW HT_.out HW_.out (by kernel_rfl)) (fun _ _ _ h => h) (Or.inl ⟨by rfl, ?_⟩) hHeld ?_ ?_
       rotate_left
       ·rintro w' ⟨s0, s1, s2, s3, s4, s5, s6, s7, s8, s9⟩
        go_simp
        with_reducible rfl
       rotate_left
       ·simp only [Act.put, List.setIfInBounds_toArray, List.set_cons_zero, List.set_cons_succ, i64_w, i32_w]
        rfl
       refine one_ (i := 7) (N := some 43) #[true, true, true, true, true, true, true, true, false, false, false] rfl rfl (one_of HT_.out (by kernel_rfl)) (by decide) (fun K hK => ?_)
       refine value_ (w1 := ?_) (v := ?_) (by rfl) rfl ?_ ?_
       rotate_left 2
       ·go_simp
        constructor
        ·rfl
        ·rfl
       refine hK.out _ _ ⟨(blk_cell (blk_alloc BK182.out _) 0).trans rfl, (blk_cell (blk_alloc BK182.out _) 1).trans rfl, (blk_cell (blk_alloc BK182.out _) 2).trans rfl, (blk_cell (blk_alloc BK178.out _) 0).trans rfl, (blk_cell (blk_alloc BK178.out _) 1).trans rfl, (blk_cell (blk_alloc BK178.out _) 2).trans rfl, (World.cell?_alloc_lt _ _ _ (World.block_lt_of_cell? _ _ (((HB.out.cell (World.block_lt_of_cell? w _ hw185_0)).trans hw185_0)))).trans (((HB.out.cell (World.block_lt_of_cell? w _ hw185_0)).trans hw185_0)), (World.cell?_alloc_lt _ _ _ (World.block_lt_of_cell? _ _ (((HB.out.cell (World.block_lt_of_cell? w _ hw185_1)).trans hw185_1)))).trans (((HB.out.cell (World.block_lt_of_cell? w _ hw185_1)).trans hw185_1)), (World.cell?_alloc_lt _ _ _ (World.block_lt_of_cell? _ _ (((HB.out.cell (World.block_lt_of_cell? w _ hw185_2)).trans hw185_2)))).trans (((HB.out.cell (World.block_lt_of_cell? w _ hw185_2)).trans hw185_2)), (World.cell?_alloc_lt _ _ _ (World.block_lt_of_cell? _ _ (((HB.out.cell (World.block_lt_of_cell? w _ hw185_3)).trans hw185_3)))).trans (((HB.out.cell (World.block_lt_of_cell? w _ hw185_3)).trans hw185_3))⟩ (fun hHeld => ?_)
       clear hK K
       refine norm_ (a' := ?_) ?_ ?_
       rotate_left
       ·show Act.put _ (some 43) _ = _
        simp only [Act.put, List.setIfInBounds_toArray, List.set_cons_zero, List.set_cons_succ, i64_w, i32_w]
        rfl
       refine one_ (i := 8) (N := some 44) #[true, true, true, true, true, true, true, true, true, false, false] rfl rfl (one_of HT_.out (by kernel_rfl)) (by decide) (fun K hK => ?_)
       refine Kd.R_append_step k123 (w0 := w) w.heap.size (by rfl) (.tmp 37) (.tmp 43) 74 123 (.agg #[(.int .i64 0), (.int .i64 0), (.int .i64 0), (.bool false)]) 32 rfl Try.underlying74 info123 rfl (by decide) (by omega) u183002 x183002_1 (⟨(rd_T123 l0_2 x11_1).f0, (rd_T123 l0_2 x11_1).f1, (rd_T123 l0_2 x11_1).f2, (rd_T123 l0_2 x11_1).f3⟩ : S123) [.int .i64 ((rd_T123 l0_2 x11_1).f0), .int .i64 ((rd_T123 l0_2 x11_1).f1), .int .i64 ((rd_T123 l0_2 x11_1).f2), .bool ((rd_T123 l0_2 x11_1).f3)] (fun k_ => some k_ ≠ (u182002 : Value).ownBlock) (fun _ => False) rfl rfl ?aP (fun _ hk => hk.elim) ?aF ?aO ?aB ?aS ?aL ?_
       (case aP => exact k123_mkM _ _ _ (⟨(rd_T123 l0_2 x11_1).f0, (rd_T123 l0_2 x11_1).f1, (rd_T123 l0_2 x11_1).f2, (rd_T123 l0_2 x11_1).f3⟩ : S123))
       (case aB => exact tB)
       (case aF => exact (fun k_ hk => Kd.fresh' (Kd.R_lt (tR HO_182002)) k_ hk))
       (case aO => exact (tR HO_183002))
       (case aS => exact (below_size tB))
       (case aL => have := LMc26.out; omega)
       intro v187 w33 ho hb hg hat
       rw [← Ny186.out] at ho
       have n0_ := Aside0.mk (Kd.R_after (ok := (fun _ => True)) (by (with_reducible repeat (first | apply Kd.R_alloc | apply Kd.R_drewN | apply Kd.R_drew)); exact Kd.R_mono HO_182002.out (fun _ hk => ⟨trivial, hk⟩)) hg hat)
       have n1_ := Aside0.mk (blk_grown (g := gb178) (o := .cells #[.int .i64 a0_0, .int .i64 a0_1, .slice (some ad183) l0_2.length c0_2] 76 (0, 0)) (tK BK178) hg (Kd.R_ne HO_183002.out BK178.out (by decide)))
       have n2_ := Aside0.mk (blk_grown (g := gb179) (o := .cells #[.int .i64 0, .int .i64 0, .slice none 0 0] 76 (0, 0)) (tK BK179) hg (Kd.R_ne HO_183002.out BK179.out (by decide)))
       have n3_ := Aside0.mk (blk_grown (g := gb180) (o := .cells #[.int .i64 0, .int .i64 0, .slice none 0 0] 76 (0, 0)) (tK BK180) hg (Kd.R_ne HO_183002.out BK180.out (by decide)))
       have n4_ := Aside0.mk (blk_grown (g := gb181) (o := .cells #[.int .i64 a0_0, .int .i64 a0_1, u182002] 76 (0, 0)) (tK BK181) hg (Kd.R_ne HO_183002.out BK181.out (by decide)))
       have n5_ := Aside0.mk (blk_grown (g := gb182) (o := .cells #[.int .i64 a2, .int .i64 a0_1, u183002] 76 (0, 0)) (tK BK182) hg (Kd.R_ne HO_183002.out BK182.out (by decide)))
       have n6_ := Aside0.mk (hb)
       have n7_ := Aside0.mk (ho)
       clear HO_182002
       clear BK178
       clear BK179
       clear BK180
       clear BK181
       clear BK182
       clear HB
       clear HO_183002
       have HO_182002 := n0_
       have BK178 := n1_
       have BK179 := n2_
       have BK180 := n3_
       have BK181 := n4_
       have BK182 := n5_
       have HB := n6_
       have HO188 := n7_
       clear n0_ n1_ n2_ n3_ n4_ n5_ n6_ n7_
       clear ho hb hg hat
       obtain ⟨Ao34, co34, eo34⟩ := Kd.R_slice HO188.out
       (first | subst eo34 | (injection eo34 with f1_ f2_ f3_; have f4_ := f1_.symm; have f5_ := f3_.symm; clear f1_ f2_ f3_; subst f4_; subst f5_))
       refine hK.out _ _ ⟨(blk_cell BK182.out 0).trans rfl, (blk_cell BK182.out 1).trans rfl, (blk_cell BK182.out 2).trans rfl, (blk_cell BK178.out 0).trans rfl, (blk_cell BK178.out 1).trans rfl, (blk_cell BK178.out 2).trans rfl, ((HB.out.cell (World.block_lt_of_cell? w _ hw185_0)).trans hw185_0), ((HB.out.cell (World.block_lt_of_cell? w _ hw185_1)).trans hw185_1), ((HB.out.cell (World.block_lt_of_cell? w _ hw185_2)).trans hw185_2), ((HB.out.cell (World.block_lt_of_cell? w _ hw185_3)).trans hw185_3)⟩ (fun hHeld => ?_)
       clear hK K
       refine norm_ (a' := ?_) ?_ ?_
       rotate_left
       ·show Act.put _ (some 44) _ = _
        simp only [Act.put, List.setIfInBounds_toArray, List.set_cons_zero, List.set_cons_succ, i64_w, i32_w]
        rfl
       refine pure_ (i := 9) (N := some 45) (v := ?_) (a' := ?_) #[true, true, true, true, true, true, true, true, true, true, false] rfl rfl (any_of HT_.out (by kernel_rfl)) (fun _ _ _ h => h) (Or.inl ⟨by rfl, ?_⟩) ?_ ?_
       rotate_left
       ·intro w'
        go_simp
        with_reducible rfl
       rotate_left
       ·simp only [Act.put, List.setIfInBounds_toArray, List.set_cons_zero, List.set_cons_succ, i64_w, i32_w]
        rfl
       refine last_ (i := 10) (N := none) #[true, true, true, true, true, true, true, true, true, true, true] rfl rfl (one_of HT_.out (by kernel_rfl)) (by decide) (fun K hK => ?_)
       have hs35 : w33.cell? ⟨gb182, 2, none⟩ = some (u183002) := (blk_cell BK182.out 2).trans rfl
       have hfs35 := blk_frozen BK182.out 2
       have hns35_0 := NB178_182.out
       have hns35_1 := NB179_182.out
       have hns35_2 := NB180_182.out
       have hns35_3 := NB181_182.out
       have hms35_0 := NB182_178.out
       have hms35_1 := NB182_179.out
       have hms35_2 := NB182_180.out
       have hms35_3 := NB182_181.out
       refine skip_ (w1 := ?_) (by rfl) rfl ?_ ?_
       rotate_left
       ·go_simp
        rfl
       refine hK.out _ _ ?_
       clear hK K
       refine done_ (done_of HT_.out (by kernel_rfl)) ?_
       try go_wp2
       go_roundg k1
       case measure => have := HK1.out; omega
       case rel => exact ⟨(wrap64 (x11_1 + 1)), (x182002_1), (y186), (u182002), (.slice Ao34 y186.length co34), tS, H', ⟨tI⟩, ⟨by (with_reducible repeat (first | apply Kd.R_alloc | apply Kd.R_drewN | apply Kd.R_drew)); exact Kd.R_mono (Kd.R_far (p := ⟨gb182, 2, none⟩) (Kd.R_types HO_182002.out BK182.out (by decide)) (fun _ hk => hk.2) (.slice Ao34 y186.length co34)) (fun _ hk => hk.1.2)⟩, ⟨by (with_reducible repeat (first | apply Kd.R_alloc | apply Kd.R_drewN | apply Kd.R_drew)); exact Kd.R_mono (Kd.R_far (p := ⟨gb182, 2, none⟩) (Kd.R_types HO188.out BK182.out (by decide)) (fun _ hk => hk.2) (.slice Ao34 y186.length co34)) (fun _ hk => hk.1)⟩, ⟨by (with_reducible repeat (first | refine blk_drewN ?_ _ | refine blk_drew ?_ | refine blk_alloc ?_ _)); refine blk_far ?_ NB178_182.out _; (with_reducible repeat (first | refine blk_drewN ?_ _ | refine blk_drew ?_ | refine blk_alloc ?_ _)); exact BK178.out⟩, ⟨by (with_reducible repeat (first | refine blk_drewN ?_ _ | refine blk_drew ?_ | refine blk_alloc ?_ _)); refine blk_far ?_ NB179_182.out _; (with_reducible repeat (first | refine blk_drewN ?_ _ | refine blk_drew ?_ | refine blk_alloc ?_ _)); exact BK179.out⟩, ⟨by (with_reducible repeat (first | refine blk_drewN ?_ _ | refine blk_drew ?_ | refine blk_alloc ?_ _)); refine blk_far ?_ NB180_182.out _; (with_reducible repeat (first | refine blk_drewN ?_ _ | refine blk_drew ?_ | refine blk_alloc ?_ _)); exact BK180.out⟩, ⟨by (with_reducible repeat (first | refine blk_drewN ?_ _ | refine blk_drew ?_ | refine blk_alloc ?_ _)); refine blk_far ?_ NB181_182.out _; (with_reducible repeat (first | refine blk_drewN ?_ _ | refine blk_drew ?_ | refine blk_alloc ?_ _)); exact BK181.out⟩, ⟨by (with_reducible repeat (first | refine blk_drewN ?_ _ | refine blk_drew ?_ | refine blk_alloc ?_ _)); refine blk_put (cs := #[.int .i64 a2, .int .i64 a0_1, u183002]) ?_ 2 _ rfl; (with_reducible repeat (first | refine blk_drewN ?_ _ | refine blk_drew ?_ | refine blk_alloc ?_ _)); exact BK182.out⟩, ⟨tB⟩⟩
      ·rw [if_neg c26] at H
       exact absurd H (by simp)
     ·replace c25 := Bool.eq_false_iff.mpr c25
      subst c25
      have H1 : (if x182002_1.length < 4398046511104 then (spec_SplitAccount.l0 k1 l1 a2 (wrap64 (x11_1 + 1)) a0_0 a0_1 l0_2 a0_0 a0_1 (x182002_1 ++ [(⟨(rd_T123 l0_2 x11_1).f0, (rd_T123 l0_2 x11_1).f1, (rd_T123 l0_2 x11_1).f2, (rd_T123 l0_2 x11_1).f3⟩ : S123)]) a2 a0_1 x183002_1) else (none)) = some (r1, r2, r3, r4, r5, r6, r7) := by rw [if_neg (show ¬ (false = true) by decide)] at H; exact H
      clear H
      have H := H1
      clear H1
      by_cases c36 : x182002_1.length < 4398046511104
      ·rw [if_pos c36] at H
       have LMc36 := Aside0.mk c36
       clear c36
       obtain ⟨y190, hy190⟩ : ∃ y_ : List (S123), y_ = (x182002_1 ++ [(⟨(rd_T123 l0_2 x11_1).f0, (rd_T123 l0_2 x11_1).f1, (rd_T123 l0_2 x11_1).f2, (rd_T123 l0_2 x11_1).f3⟩ : S123)]) := ⟨_, rfl⟩
       replace H : (spec_SplitAccount.l0 k1 l1 a2 (wrap64 (x11_1 + 1)) a0_0 a0_1 l0_2 a0_0 a0_1 y190 a2 a0_1 x183002_1) = some (r1, r2, r3, r4, r5, r6, r7) := by first | (rw [hy190]; with_reducible exact H) | (have H2_ := (Option.bind_some _ _).symm.trans H; rw [hy190]; with_reducible exact H2_) | (have H2_ := (Option.bind_some _ _).symm.trans H; with_reducible exact H2_) | with_reducible exact H | (rw [hy190]; exact H) | exact H
       have Ny190 := Aside0.mk hy190
       clear hy190
       have H' := Aside0.mk H
       clear H
       have hnb37 := NB178_179.out
       have hnc37 := NB179_178.out
       have hnb38 := NB178_180.out
       have hnc38 := NB180_178.out
       have hnb39 := NB178_181.out
       have hnc39 := NB181_178.out
       have hnb40 := NB178_182.out
       have hnc40 := NB182_178.out
       obtain ⟨hcz41_0, hcz41_1, hcz41_2, hfz41_0, hfz41_1, hfz41_2⟩ := bc3 BK178.out
       have p183 : 0 ≤ (x11_1 : Int) := of_decide_eq_true tA
       have q183 : x11_1 < (l0_2.length : Int) := of_decide_eq_true tA
       obtain ⟨ad183, e183, hx183_0, hx183_1, hx183_2, hx183_3⟩ := at_T123 HR0_2.out x11_1 p183 q183
       cases e183
       replace hx183_0 := hbc HB hx183_0
       replace hx183_1 := hbc HB hx183_1
       replace hx183_2 := hbc HB hx183_2
       replace hx183_3 := hbc HB hx183_3
       replace p183 := eq_true p183
       replace q183 := eq_true q183
       try go_wp2_with (first | ((with_reducible refine gate_callee (f := 85) rfl ?_); refine goesL_ (some 35) rfl rfl Try.func85 (by kernel_rfl) rfl #[.slice A1 l1.length c1, .int .i64 ((rd_T123 l0_2 x11_1).f0)] rfl tL ?_; (with_reducible refine (spec_l19Has.calls k1 _ _ l1 ((rd_T123 l0_2 x11_1).f0) false _ ?side1 ?side2 A24.out).mono ?_); (case side1 => repeat (first | exact (Kd.C_below HR1.out HB.out) | (with_reducible refine Kd.C_alloc ?_ _) | (with_reducible refine Kd.C_drewN ?_ _) | (with_reducible refine Kd.C_drew ?_))); (case side2 => exact HC1.out); rintro e w' ⟨rfl, ⟨nd, rfl⟩⟩; refine ⟨_, rfl, ?_⟩; (try (rw [drewN_self wr]; generalize hq_ : World.drewN wr _ = wr; have n0_ : Aside0 (Kd.R k123 123 wr w.heap.size (fun k_ => some k_ ≠ (u183002 : Value).ownBlock) u182002 x182002_1) := ⟨by rw [← hq_]; exact (tR HO_182002)⟩; have n1_ : Aside0 (Kd.R k123 123 wr w.heap.size (fun k_ => some k_ ≠ (u182002 : Value).ownBlock) u183002 x183002_1) := ⟨by rw [← hq_]; exact (tR HO_183002)⟩; have n2_ : Aside0 (wr.heap[gb178]? = some (.cells #[.int .i64 a0_0, .int .i64 a0_1, .slice (some ad183) l0_2.length c0_2] 76 (0, 0))) := ⟨by rw [← hq_]; exact (tK BK178)⟩; have n3_ : Aside0 (wr.heap[gb179]? = some (.cells #[.int .i64 0, .int .i64 0, .slice none 0 0] 76 (0, 0))) := ⟨by rw [← hq_]; exact (tK BK179)⟩; have n4_ : Aside0 (wr.heap[gb180]? = some (.cells #[.int .i64 0, .int .i64 0, .slice none 0 0] 76 (0, 0))) := ⟨by rw [← hq_]; exact (tK BK180)⟩; have n5_ : Aside0 (wr.heap[gb181]? = some (.cells #[.int .i64 a0_0, .int .i64 a0_1, u182002] 76 (0, 0))) := ⟨by rw [← hq_]; exact (tK BK181)⟩; have n6_ : Aside0 (wr.heap[gb182]? = some (.cells #[.int .i64 a2, .int .i64 a0_1, u183002] 76 (0, 0))) := ⟨by rw [← hq_]; exact (tK BK182)⟩; have n7_ : Aside0 (Below w.heap.size w wr) := ⟨by rw [← hq_]; exact tB⟩; clear HO_182002 HO_183002 BK178 BK179 BK180 BK181 BK182 HB hq_; have HO_182002 := n0_; have HO_183002 := n1_; have BK178 := n2_; have BK179 := n3_; have BK180 := n4_; have BK181 := n5_; have BK182 := n6_; have HB := n7_; clear n0_ n1_ n2_ n3_ n4_ n5_ n6_ n7_))))
       have n0_ := Aside0.mk (Kd.R_drew HO_182002.out)
       have n1_ := Aside0.mk (Kd.R_drew HO_183002.out)
       have n2_ := Aside0.mk (blk_drew BK178.out)
       have n3_ := Aside0.mk (blk_drew BK179.out)
       have n4_ := Aside0.mk (blk_drew BK180.out)
       have n5_ := Aside0.mk (blk_drew BK181.out)
       have n6_ := Aside0.mk (blk_drew BK182.out)
       have n7_ := Aside0.mk (below_drew1 HB.out)
       clear HO_182002
       clear HO_183002
       clear BK178
       clear BK179
       clear BK180
       clear BK181
       clear BK182
       clear HB
       have HO_182002 := n0_
       have HO_183002 := n1_
       have BK178 := n2_
       have BK179 := n3_
       have BK180 := n4_
       have BK181 := n5_
       have BK182 := n6_
       have HB := n7_
       clear n0_ n1_ n2_ n3_ n4_ n5_ n6_ n7_
       have p189 : 0 ≤ (x11_1 : Int) := of_decide_eq_true tA
       have q189 : x11_1 < (l0_2.length : Int) := of_decide_eq_true tA
       obtain ⟨ad189, e189, hx189_0, hx189_1, hx189_2, hx189_3⟩ := at_T123 HR0_2.out x11_1 p189 q189
       have hw189_3 := hx189_3
       have hw189_2 := hx189_2
       have hw189_1 := hx189_1
       have hw189_0 := hx189_0
       obtain rfl : ad183 = ad189 := (by injection e189)
       replace hx189_0 := hbc HB hx189_0
       replace hx189_1 := hbc HB hx189_1
       replace hx189_2 := hbc HB hx189_2
       replace hx189_3 := hbc HB hx189_3
       replace p189 := eq_true p189
       replace q189 := eq_true q189
       refine start_ (n := 11) (S := fun w' => w'.cell? ⟨gb181, 0, none⟩ = some (.int .i64 a0_0) ∧ w'.cell? ⟨gb181, 1, none⟩ = some (.int .i64 a0_1) ∧ w'.cell? ⟨gb181, 2, none⟩ = some (u182002) ∧ w'.cell? ⟨gb178, 0, none⟩ = some (.int .i64 a0_0) ∧ w'.cell? ⟨gb178, 1, none⟩ = some (.int .i64 a0_1) ∧ w'.cell? ⟨gb178, 2, none⟩ = some (.slice (some ad183) l0_2.length c0_2) ∧ w'.cell? (ad183.add ((x11_1).toNat * 4)) = some (.int .i64 ((rd_T123 l0_2 x11_1).f0)) ∧ w'.cell? ⟨(ad183.add ((x11_1).toNat * 4)).block, (ad183.add ((x11_1).toNat * 4)).off + 1, none⟩ = some (.int .i64 ((rd_T123 l0_2 x11_1).f1)) ∧ w'.cell? ⟨(ad183.add ((x11_1).toNat * 4)).block, (ad183.add ((x11_1).toNat * 4)).off + 2, none⟩ = some (.int .i64 ((rd_T123 l0_2 x11_1).f2)) ∧ w'.cell? ⟨(ad183.add ((x11_1).toNat * 4)).block, (ad183.add ((x11_1).toNat * 4)).off + 3, none⟩ = some (.bool ((rd_T123 l0_2 x11_1).f3))) (ds := [10]) #[false, false, false, false, false, false, false, false, false, false, false] (by kernel_rfl) rfl rfl ⟨(blk_cell BK181.out 0).trans rfl, (blk_cell BK181.out 1).trans rfl, (blk_cell BK181.out 2).trans rfl, (blk_cell BK178.out 0).trans rfl, (blk_cell BK178.out 1).trans rfl, (blk_cell BK178.out 2).trans rfl, ((HB.out.cell (World.block_lt_of_cell? w _ hw189_0)).trans hw189_0), ((HB.out.cell (World.block_lt_of_cell? w _ hw189_1)).trans hw189_1), ((HB.out.cell (World.block_lt_of_cell? w _ hw189_2)).trans hw189_2), ((HB.out.cell (World.block_lt_of_cell? w _ hw189_3)).trans hw189_3)⟩ (fun hHeld => ?_); refine with_tabW spec_SplitAccount.tab8 spec_SplitAccount.bits8 (fun HT_ HW_ => ?_)
       generalize wr.drew = w42 at HO_182002 HO_183002 BK178 BK179 BK180 BK181 BK182 HB hx189_0 hx189_1 hx189_2 hx189_3 hHeld ⊢
       refine pure_ (i := 0) (N := some 46) (v := ?_) (a' := ?_) #[true, false, false, false, false, false, false, false, false, false, false] rfl rfl (any_of HT_.out (by kernel_rfl)) (fun _ _ _ h => h) (Or.inl ⟨by rfl, ?_⟩) ?_ ?_
       rotate_left
       ·intro w'
        go_simp
        with_reducible rfl
       rotate_left
       ·simp only [Act.put, List.setIfInBounds_toArray, List.set_cons_zero, List.set_cons_succ, i64_w, i32_w]
        rfl
       refine pure_ (i := 2) (N := some 48) (v := ?_) (a' := ?_) #[true, false, true, false, false, false, false, false, false, false, false] rfl rfl (any_of HT_.out (by kernel_rfl)) (fun _ _ _ h => h) (Or.inl ⟨by rfl, ?_⟩) ?_ ?_
       rotate_left
       ·intro w'
        go_simp
        with_reducible rfl
       rotate_left
       ·simp only [Act.put, List.setIfInBounds_toArray, List.set_cons_zero, List.set_cons_succ, i64_w, i32_w]
        rfl
       refine pure_ (i := 4) (N := some 50) (v := ?_) (a' := ?_) #[true, false, true, false, true, false, false, false, false, false, false] rfl rfl (any_of HT_.out (by kernel_rfl)) (fun _ _ _ h => h) (Or.inl ⟨by rfl, ?_⟩) ?_ ?_
       rotate_left
       ·intro w'
        go_simp
        with_reducible rfl
       rotate_left
       ·simp only [Act.put, List.setIfInBounds_toArray, List.set_cons_zero, List.set_cons_succ, i64_w, i32_w]
        rfl
       refine take_ (i := 1) (N := some 47) (v := ?_) (a' := ?_) #[true, true, true, false, true, false, false, false, false, false, false] rfl rfl (take_ofW HT_.out HW_.out (by kernel_rfl)) (fun _ _ _ h => h) (Or.inl ⟨by rfl, ?_⟩) hHeld ?_ ?_
       rotate_left
       ·rintro w' ⟨s0, s1, s2, s3, s4, s5, s6, s7, s8, s9⟩
        go_simp
        with_reducible rfl
       rotate_left
       ·simp only [Act.put, List.setIfInBounds_toArray, List.set_cons_zero, List.set_cons_succ, i64_w, i32_w]
        rfl
       refine take_ (i := 3) (N := some 49) (v := ?_) (a' := ?_) #[true, true, true, true, true, false, false, false, false, false, false] rfl rfl (take_ofW HT_.out HW_.out (by kernel_rfl)) (fun _ _ _ h => h) (Or.inl ⟨by rfl, ?_⟩) hHeld ?_ ?_
       rotate_left
       ·rintro w' ⟨s0, s1, s2, s3, s4, s5, s6, s7, s8, s9⟩
        go_simp
        with_reducible rfl
       rotate_left
       ·simp only [Act.put, List.setIfInBounds_toArray, List.set_cons_zero, List.set_cons_succ, i64_w, i32_w]
        rfl
       refine pure_ (i := 5) (N := some 51) (v := ?_) (a' := ?_) #[true, true, true, true, true, true, false, false, false, false, false] rfl rfl (any_of HT_.out (by kernel_rfl)) (fun _ _ _ h => h) (Or.inl ⟨by rfl, ?_⟩) ?_ ?_
       rotate_left
       ·intro w'
        go_simp
        with_reducible rfl
       rotate_left
       ·simp only [Act.put, List.setIfInBounds_toArray, List.set_cons_zero, List.set_cons_succ, i64_w, i32_w]
        rfl
       refine take_ (i := 6) (N := some 52) (v := ?_) (a' := ?_) #[true, true, true, true, true, true, true, false, false, false, false] rfl rfl (take_ofW HT_.out HW_.out (by kernel_rfl)) (fun _ _ _ h => h) (Or.inl ⟨by rfl, ?_⟩) hHeld ?_ ?_
       rotate_left
       ·rintro w' ⟨s0, s1, s2, s3, s4, s5, s6, s7, s8, s9⟩
        go_simp
        with_reducible rfl
       rotate_left
       ·simp only [Act.put, List.setIfInBounds_toArray, List.set_cons_zero, List.set_cons_succ, i64_w, i32_w]
        rfl
       refine one_ (i := 7) (N := some 53) #[true, true, true, true, true, true, true, true, false, false, false] rfl rfl (one_of HT_.out (by kernel_rfl)) (by decide) (fun K hK => ?_)
       refine value_ (w1 := ?_) (v := ?_) (by rfl) rfl ?_ ?_
       rotate_left 2
       ·go_simp
        constructor
        ·rfl
        ·rfl
       refine hK.out _ _ ⟨(blk_cell (blk_alloc BK181.out _) 0).trans rfl, (blk_cell (blk_alloc BK181.out _) 1).trans rfl, (blk_cell (blk_alloc BK181.out _) 2).trans rfl, (blk_cell (blk_alloc BK178.out _) 0).trans rfl, (blk_cell (blk_alloc BK178.out _) 1).trans rfl, (blk_cell (blk_alloc BK178.out _) 2).trans rfl, (World.cell?_alloc_lt _ _ _ (World.block_lt_of_cell? _ _ (((HB.out.cell (World.block_lt_of_cell? w _ hw189_0)).trans hw189_0)))).trans (((HB.out.cell (World.block_lt_of_cell? w _ hw189_0)).trans hw189_0)), (World.cell?_alloc_lt _ _ _ (World.block_lt_of_cell? _ _ (((HB.out.cell (World.block_lt_of_cell? w _ hw189_1)).trans hw189_1)))).trans (((HB.out.cell (World.block_lt_of_cell? w _ hw189_1)).trans hw189_1)), (World.cell?_alloc_lt _ _ _ (World.block_lt_of_cell? _ _ (((HB.out.cell (World.block_lt_of_cell? w _ hw189_2)).trans hw189_2)))).trans (((HB.out.cell (World.block_lt_of_cell? w _ hw189_2)).trans hw189_2)), (World.cell?_alloc_lt _ _ _ (World.block_lt_of_cell? _ _ (((HB.out.cell (World.block_lt_of_cell? w _ hw189_3)).trans hw189_3)))).trans (((HB.out.cell (World.block_lt_of_cell? w _ hw189_3)).trans hw189_3))⟩ (fun hHeld => ?_)
       clear hK K
       refine norm_ (a' := ?_) ?_ ?_
       rotate_left
       ·show Act.put _ (some 53) _ = _
        simp only [Act.put, List.setIfInBounds_toArray, List.set_cons_zero, List.set_cons_succ, i64_w, i32_w]
        rfl
       refine one_ (i := 8) (N := some 54) #[true, true, true, true, true, true, true, true, true, false, false] rfl rfl (one_of HT_.out (by kernel_rfl)) (by decide) (fun K hK => ?_)
       refine Kd.R_append_step k123 (w0 := w) w.heap.size (by rfl) (.tmp 47) (.tmp 53) 74 123 (.agg #[(.int .i64 0), (.int .i64 0), (.int .i64 0), (.bool false)]) 32 rfl Try.underlying74 info123 rfl (by decide) (by omega) u182002 x182002_1 (⟨(rd_T123 l0_2 x11_1).f0, (rd_T123 l0_2 x11_1).f1, (rd_T123 l0_2 x11_1).f2, (rd_T123 l0_2 x11_1).f3⟩ : S123) [.int .i64 ((rd_T123 l0_2 x11_1).f0), .int .i64 ((rd_T123 l0_2 x11_1).f1), .int .i64 ((rd_T123 l0_2 x11_1).f2), .bool ((rd_T123 l0_2 x11_1).f3)] (fun k_ => some k_ ≠ (u183002 : Value).ownBlock) (fun _ => False) rfl rfl ?aP (fun _ hk => hk.elim) ?aF ?aO ?aB ?aS ?aL ?_
       (case aP => exact k123_mkM _ _ _ (⟨(rd_T123 l0_2 x11_1).f0, (rd_T123 l0_2 x11_1).f1, (rd_T123 l0_2 x11_1).f2, (rd_T123 l0_2 x11_1).f3⟩ : S123))
       (case aB => exact tB)
       (case aF => exact (fun k_ hk => Kd.fresh' (Kd.R_lt (tR HO_183002)) k_ hk))
       (case aO => exact (tR HO_182002))
       (case aS => exact (below_size tB))
       (case aL => have := LMc36.out; omega)
       intro v191 w43 ho hb hg hat
       rw [← Ny190.out] at ho
       have n0_ := Aside0.mk (Kd.R_after (ok := (fun _ => True)) (by (with_reducible repeat (first | apply Kd.R_alloc | apply Kd.R_drewN | apply Kd.R_drew)); exact Kd.R_mono HO_183002.out (fun _ hk => ⟨trivial, hk⟩)) hg hat)
       have n1_ := Aside0.mk (blk_grown (g := gb178) (o := .cells #[.int .i64 a0_0, .int .i64 a0_1, .slice (some ad183) l0_2.length c0_2] 76 (0, 0)) (tK BK178) hg (Kd.R_ne HO_182002.out BK178.out (by decide)))
       have n2_ := Aside0.mk (blk_grown (g := gb179) (o := .cells #[.int .i64 0, .int .i64 0, .slice none 0 0] 76 (0, 0)) (tK BK179) hg (Kd.R_ne HO_182002.out BK179.out (by decide)))
       have n3_ := Aside0.mk (blk_grown (g := gb180) (o := .cells #[.int .i64 0, .int .i64 0, .slice none 0 0] 76 (0, 0)) (tK BK180) hg (Kd.R_ne HO_182002.out BK180.out (by decide)))
       have n4_ := Aside0.mk (blk_grown (g := gb181) (o := .cells #[.int .i64 a0_0, .int .i64 a0_1, u182002] 76 (0, 0)) (tK BK181) hg (Kd.R_ne HO_182002.out BK181.out (by decide)))
       have n5_ := Aside0.mk (blk_grown (g := gb182) (o := .cells #[.int .i64 a2, .int .i64 a0_1, u183002] 76 (0, 0)) (tK BK182) hg (Kd.R_ne HO_182002.out BK182.out (by decide)))
       have n6_ := Aside0.mk (hb)
       have n7_ := Aside0.mk (ho)
       clear HO_183002
       clear BK178
       clear BK179
       clear BK180
       clear BK181
       clear BK182
       clear HB
       clear HO_182002
       have HO_183002 := n0_
       have BK178 := n1_
       have BK179 := n2_
       have BK180 := n3_
       have BK181 := n4_
       have BK182 := n5_
       have HB := n6_
       have HO192 := n7_
       clear n0_ n1_ n2_ n3_ n4_ n5_ n6_ n7_
       clear ho hb hg hat
       obtain ⟨Ao44, co44, eo44⟩ := Kd.R_slice HO192.out
       (first | subst eo44 | (injection eo44 with f1_ f2_ f3_; have f4_ := f1_.symm; have f5_ := f3_.symm; clear f1_ f2_ f3_; subst f4_; subst f5_))
       refine hK.out _ _ ⟨(blk_cell BK181.out 0).trans rfl, (blk_cell BK181.out 1).trans rfl, (blk_cell BK181.out 2).trans rfl, (blk_cell BK178.out 0).trans rfl, (blk_cell BK178.out 1).trans rfl, (blk_cell BK178.out 2).trans rfl, ((HB.out.cell (World.block_lt_of_cell? w _ hw189_0)).trans hw189_0), ((HB.out.cell (World.block_lt_of_cell? w _ hw189_1)).trans hw189_1), ((HB.out.cell (World.block_lt_of_cell? w _ hw189_2)).trans hw189_2), ((HB.out.cell (World.block_lt_of_cell? w _ hw189_3)).trans hw189_3)⟩ (fun hHeld => ?_)
       clear hK K
       refine norm_ (a' := ?_) ?_ ?_
       rotate_left
       ·show Act.put _ (some 54) _ = _
        simp only [Act.put, List.setIfInBounds_toArray, List.set_cons_zero, List.set_cons_succ, i64_w, i32_w]
        rfl
       refine pure_ (i := 9) (N := some 55) (v := ?_) (a' := ?_) #[true, true, true, true, true, true, true, true, true, true, false] rfl rfl (any_of HT_.out (by kernel_rfl)) (fun _ _ _ h => h) (Or.inl ⟨by rfl, ?_⟩) ?_ ?_
       rotate_left
       ·intro w'
        go_simp
        with_reducible rfl
       rotate_left
       ·simp only [Act.put, List.setIfInBounds_toArray, List.set_cons_zero, List.set_cons_succ, i64_w, i32_w]
        rfl
       refine last_ (i := 10) (N := none) #[true, true, true, true, true, true, true, true, true, true, true] rfl rfl (one_of HT_.out (by kernel_rfl)) (by decide) (fun K hK => ?_)
       have hs45 : w43.cell? ⟨gb181, 2, none⟩ = some (u182002) := (blk_cell BK181.out 2).trans rfl
       have hfs45 := blk_frozen BK181.out 2
       have hns45_0 := NB178_181.out
       have hns45_1 := NB179_181.out
       have hns45_2 := NB180_181.out
       have hns45_4 := NB182_181.out
       have hms45_0 := NB181_178.out
       have hms45_1 := NB181_179.out
       have hms45_2 := NB181_180.out
       have hms45_4 := NB181_182.out
       refine skip_ (w1 := ?_) (by rfl) rfl ?_ ?_
       rotate_left
       ·go_simp
        rfl
       refine hK.out _ _ ?_
       clear hK K
       refine done_ (done_of HT_.out (by kernel_rfl)) ?_
       try go_wp2
       go_roundg k1
       case measure => have := HK1.out; omega
       case rel => exact ⟨(wrap64 (x11_1 + 1)), (y190), (x183002_1), (.slice Ao44 y190.length co44), (u183002), tS, H', ⟨tI⟩, ⟨by (with_reducible repeat (first | apply Kd.R_alloc | apply Kd.R_drewN | apply Kd.R_drew)); exact Kd.R_mono (Kd.R_far (p := ⟨gb181, 2, none⟩) (Kd.R_types HO192.out BK181.out (by decide)) (fun _ hk => hk.2) (.slice Ao44 y190.length co44)) (fun _ hk => hk.1)⟩, ⟨by (with_reducible repeat (first | apply Kd.R_alloc | apply Kd.R_drewN | apply Kd.R_drew)); exact Kd.R_mono (Kd.R_far (p := ⟨gb181, 2, none⟩) (Kd.R_types HO_183002.out BK181.out (by decide)) (fun _ hk => hk.2) (.slice Ao44 y190.length co44)) (fun _ hk => hk.1.2)⟩, ⟨by (with_reducible repeat (first | refine blk_drewN ?_ _ | refine blk_drew ?_ | refine blk_alloc ?_ _)); refine blk_far ?_ NB178_181.out _; (with_reducible repeat (first | refine blk_drewN ?_ _ | refine blk_drew ?_ | refine blk_alloc ?_ _)); exact BK178.out⟩, ⟨by (with_reducible repeat (first | refine blk_drewN ?_ _ | refine blk_drew ?_ | refine blk_alloc ?_ _)); refine blk_far ?_ NB179_181.out _; (with_reducible repeat (first | refine blk_drewN ?_ _ | refine blk_drew ?_ | refine blk_alloc ?_ _)); exact BK179.out⟩, ⟨by (with_reducible repeat (first | refine blk_drewN ?_ _ | refine blk_drew ?_ | refine blk_alloc ?_ _)); refine blk_far ?_ NB180_181.out _; (with_reducible repeat (first | refine blk_drewN ?_ _ | refine blk_drew ?_ | refine blk_alloc ?_ _)); exact BK180.out⟩, ⟨by (with_reducible repeat (first | refine blk_drewN ?_ _ | refine blk_drew ?_ | refine blk_alloc ?_ _)); refine blk_put (cs := #[.int .i64 a0_0, .int .i64 a0_1, u182002]) ?_ 2 _ rfl; (with_reducible repeat (first | refine blk_drewN ?_ _ | refine blk_drew ?_ | refine blk_alloc ?_ _)); exact BK181.out⟩, ⟨by (with_reducible repeat (first | refine blk_drewN ?_ _ | refine blk_drew ?_ | refine blk_alloc ?_ _)); refine blk_far ?_ NB182_181.out _; (with_reducible repeat (first | refine blk_drewN ?_ _ | refine blk_drew ?_ | refine blk_alloc ?_ _)); exact BK182.out⟩, ⟨tB⟩⟩
      ·rw [if_neg c36] at H
       exact absurd H (by simp)
    ·rw [if_neg c23] at H
     exact absurd H (by simp)
   ·rw [if_neg c22] at H
    have c22b0 : decide (x11_1 < (l0_2.length : Int)) = false := decide_eq_false c22
    clear c22
    replace H := Option.bind_eq_some_iff.mp H
    obtain ⟨t193, A460, H⟩ := H
    replace H : (if t193 = true then ((spec_l1In.f a2 0 1000000).bind fun t194 => (if t194 = true then (if a2 = a0_0 then ((spec_l14Copy.f a0_0 a0_1 l0_2).bind fun bt195 => (some (bt195.1, bt195.2.1, bt195.2.2, 0, 0, ([] : List (S123)), false))) else (if (x183002_1.length : Int) = (l1.length : Int) then ((spec_KeysOf.f k1 a0_0 a0_1 x182002_1).bind fun t200 => (if (t200.length : Int) = 0 then ((spec_l14Copy.f a0_0 a0_1 l0_2).bind fun bt203 => (some (bt203.1, bt203.2.1, bt203.2.2, 0, 0, ([] : List (S123)), false))) else ((spec_KeysOf.f k1 a2 a0_1 x183002_1).bind fun t208 => (if (t208.length : Int) = 0 then ((spec_l14Copy.f a0_0 a0_1 l0_2).bind fun bt211 => (some (bt211.1, bt211.2.1, bt211.2.2, 0, 0, ([] : List (S123)), false))) else (some (a0_0, a0_1, x182002_1, a2, a0_1, x183002_1, true)))))) else ((spec_l14Copy.f a0_0 a0_1 l0_2).bind fun bt216 => (some (bt216.1, bt216.2.1, bt216.2.2, 0, 0, ([] : List (S123)), false))))) else ((spec_l14Copy.f a0_0 a0_1 l0_2).bind fun bt221 => (some (bt221.1, bt221.2.1, bt221.2.2, 0, 0, ([] : List (S123)), false))))) else ((spec_l14Copy.f a0_0 a0_1 l0_2).bind fun bt226 => (some (bt226.1, bt226.2.1, bt226.2.2, 0, 0, ([] : List (S123)), false)))) = some (r1, r2, r3, r4, r5, r6, r7) := H
    have A46 := Aside0.mk A460
    clear A460
    by_cases c47 : t193 = true
    ·subst c47
     have H1 : ((spec_l1In.f a2 0 1000000).bind fun t194 => (if t194 = true then (if a2 = a0_0 then ((spec_l14Copy.f a0_0 a0_1 l0_2).bind fun bt195 => (some (bt195.1, bt195.2.1, bt195.2.2, 0, 0, ([] : List (S123)), false))) else (if (x183002_1.length : Int) = (l1.length : Int) then ((spec_KeysOf.f k1 a0_0 a0_1 x182002_1).bind fun t200 => (if (t200.length : Int) = 0 then ((spec_l14Copy.f a0_0 a0_1 l0_2).bind fun bt203 => (some (bt203.1, bt203.2.1, bt203.2.2, 0, 0, ([] : List (S123)), false))) else ((spec_KeysOf.f k1 a2 a0_1 x183002_1).bind fun t208 => (if (t208.length : Int) = 0 then ((spec_l14Copy.f a0_0 a0_1 l0_2).bind fun bt211 => (some (bt211.1, bt211.2.1, bt211.2.2, 0, 0, ([] : List (S123)), false))) else (some (a0_0, a0_1, x182002_1, a2, a0_1, x183002_1, true)))))) else ((spec_l14Copy.f a0_0 a0_1 l0_2).bind fun bt216 => (some (bt216.1, bt216.2.1, bt216.2.2, 0, 0, ([] : List (S123)), false))))) else ((spec_l14Copy.f a0_0 a0_1 l0_2).bind fun bt221 => (some (bt221.1, bt221.2.1, bt221.2.2, 0, 0, ([] : List (S123)), false))))) = some (r1, r2, r3, r4, r5, r6, r7) := by rw [if_pos rfl] at H; exact H
     clear H
     have H := H1
     clear H1
     replace H := Option.bind_eq_some_iff.mp H
     obtain ⟨t194, A480, H⟩ := H
     replace H : (if t194 = true then (if a2 = a0_0 then ((spec_l14Copy.f a0_0 a0_1 l0_2).bind fun bt195 => (some (bt195.1, bt195.2.1, bt195.2.2, 0, 0, ([] : List (S123)), false))) else (if (x183002_1.length : Int) = (l1.length : Int) then ((spec_KeysOf.f k1 a0_0 a0_1 x182002_1).bind fun t200 => (if (t200.length : Int) = 0 then ((spec_l14Copy.f a0_0 a0_1 l0_2).bind fun bt203 => (some (bt203.1, bt203.2.1, bt203.2.2, 0, 0, ([] : List (S123)), false))) else ((spec_KeysOf.f k1 a2 a0_1 x183002_1).bind fun t208 => (if (t208.length : Int) = 0 then ((spec_l14Copy.f a0_0 a0_1 l0_2).bind fun bt211 => (some (bt211.1, bt211.2.1, bt211.2.2, 0, 0, ([] : List (S123)), false))) else (some (a0_0, a0_1, x182002_1, a2, a0_1, x183002_1, true)))))) else ((spec_l14Copy.f a0_0 a0_1 l0_2).bind fun bt216 => (some (bt216.1, bt216.2.1, bt216.2.2, 0, 0, ([] : List (S123)), false))))) else ((spec_l14Copy.f a0_0 a0_1 l0_2).bind fun bt221 => (some (bt221.1, bt221.2.1, bt221.2.2, 0, 0, ([] : List (S123)), false)))) = some (r1, r2, r3, r4, r5, r6, r7) := H
     have A48 := Aside0.mk A480
     clear A480
     by_cases c49 : t194 = true
     ·subst c49
      have H1 : (if a2 = a0_0 then ((spec_l14Copy.f a0_0 a0_1 l0_2).bind fun bt195 => (some (bt195.1, bt195.2.1, bt195.2.2, 0, 0, ([] : List (S123)), false))) else (if (x183002_1.length : Int) = (l1.length : Int) then ((spec_KeysOf.f k1 a0_0 a0_1 x182002_1).bind fun t200 => (if (t200.length : Int) = 0 then ((spec_l14Copy.f a0_0 a0_1 l0_2).bind fun bt203 => (some (bt203.1, bt203.2.1, bt203.2.2, 0, 0, ([] : List (S123)), false))) else ((spec_KeysOf.f k1 a2 a0_1 x183002_1).bind fun t208 => (if (t208.length : Int) = 0 then ((spec_l14Copy.f a0_0 a0_1 l0_2).bind fun bt211 => (some (bt211.1, bt211.2.1, bt211.2.2, 0, 0, ([] : List (S123)), false))) else (some (a0_0, a0_1, x182002_1, a2, a0_1, x183002_1, true)))))) else ((spec_l14Copy.f a0_0 a0_1 l0_2).bind fun bt216 => (some (bt216.1, bt216.2.1, bt216.2.2, 0, 0, ([] : List (S123)), false))))) = some (r1, r2, r3, r4, r5, r6, r7) := by rw [if_pos rfl] at H; exact H
      clear H
      have H := H1
      clear H1
      by_cases c50 : a2 = a0_0
      ·rw [if_pos c50] at H
       have c50b0 : (a2 == a0_0) = true := beq_iff_eq.mpr c50
       have c50b1 : (a2 != a0_0) = false := bne_eq_false_iff_eq.mpr c50
       clear c50
       replace H := Option.bind_eq_some_iff.mp H
       obtain ⟨⟨t195, t196, t197⟩, A510, H⟩ := H
       replace H : (some (t195, t196, t197, 0, 0, ([] : List (S123)), false)) = some (r1, r2, r3, r4, r5, r6, r7) := H
       have A51 := Aside0.mk A510
       clear A510
       simp only [Option.some.injEq, Prod.mk.injEq] at H
       obtain ⟨rfl, rfl, rfl, rfl, rfl, rfl, rfl⟩ := H
       have hnb52 := NB178_179.out
       have hnc52 := NB179_178.out
       have hnb53 := NB178_180.out
       have hnc53 := NB180_178.out
       have hnb54 := NB178_181.out
       have hnc54 := NB181_178.out
       have hnb55 := NB178_182.out
       have hnc55 := NB182_178.out
       obtain ⟨hcz56_0, hcz56_1, hcz56_2, hfz56_0, hfz56_1, hfz56_2⟩ := bc3 BK178.out
       go_wp2_with (first | ((with_reducible refine gate_callee (f := 103) rfl ?_); refine goesL_ (some 57) rfl rfl Try.func103 (by kernel_rfl) rfl #[.agg #[.int .i64 a0_0, .int .i64 a0_1, .slice A0_2 l0_2.length c0_2]] rfl tL ?_; (with_reducible refine (spec_IsValidAccount.calls k1 a0_0 a0_1 _ _ l0_2 true _ ?side1 ?side2 A46.out).mono ?_); (case side1 => repeat (first | exact (Kd.C_below HR0_2.out HB.out) | (with_reducible refine Kd.C_alloc ?_ _) | (with_reducible refine Kd.C_drewN ?_ _) | (with_reducible refine Kd.C_drew ?_))); (case side2 => exact HC0_2.out); rintro e w57 ⟨rfl, hb⟩; refine ⟨_, rfl, ?_⟩; have n0_ := Aside0.mk (Kd.R_below (tR HO_182002) hb); have n1_ := Aside0.mk (Kd.R_below (tR HO_183002) hb); have n2_ := Aside0.mk (blk_below (g := gb178) (o := .cells #[.int .i64 a0_0, .int .i64 a0_1, .slice A0_2 l0_2.length c0_2] 76 (0, 0)) (tK BK178) hb); have n3_ := Aside0.mk (blk_below (g := gb179) (o := .cells #[.int .i64 0, .int .i64 0, .slice none 0 0] 76 (0, 0)) (tK BK179) hb); have n4_ := Aside0.mk (blk_below (g := gb180) (o := .cells #[.int .i64 0, .int .i64 0, .slice none 0 0] 76 (0, 0)) (tK BK180) hb); have n5_ := Aside0.mk (blk_below (g := gb181) (o := .cells #[.int .i64 a0_0, .int .i64 a0_1, u182002] 76 (0, 0)) (tK BK181) hb); have n6_ := Aside0.mk (blk_below (g := gb182) (o := .cells #[.int .i64 a2, .int .i64 a0_1, u183002] 76 (0, 0)) (tK BK182) hb); have n7_ := Aside0.mk (below_step tB hb); clear HO_182002; clear HO_183002; clear BK178; clear BK179; clear BK180; clear BK181; clear BK182; clear HB; have HO_182002 := n0_; have HO_183002 := n1_; have BK178 := n2_; have BK179 := n3_; have BK180 := n4_; have BK181 := n5_; have BK182 := n6_; have HB := n7_; clear n0_ n1_ n2_ n3_ n4_ n5_ n6_ n7_; (try clear hb); (try clear hb2); (try clear hk); (try clear hi)) | (go_at_call 81; (with_reducible refine (spec_l1In.calls a2 0 1000000 true _ A48.out).mono ?_); rintro e w' ⟨rfl, ⟨nd, rfl⟩⟩; (try (rw [drewN_self w57]; generalize hq_ : World.drewN w57 _ = w57; have n0_ : Aside0 (Kd.R k123 123 w57 w.heap.size (fun k_ => some k_ ≠ (u183002 : Value).ownBlock) u182002 x182002_1) := ⟨by rw [← hq_]; exact (tR HO_182002)⟩; have n1_ : Aside0 (Kd.R k123 123 w57 w.heap.size (fun k_ => some k_ ≠ (u182002 : Value).ownBlock) u183002 x183002_1) := ⟨by rw [← hq_]; exact (tR HO_183002)⟩; have n2_ : Aside0 (w57.heap[gb178]? = some (.cells #[.int .i64 a0_0, .int .i64 a0_1, .slice A0_2 l0_2.length c0_2] 76 (0, 0))) := ⟨by rw [← hq_]; exact (tK BK178)⟩; have n3_ : Aside0 (w57.heap[gb179]? = some (.cells #[.int .i64 0, .int .i64 0, .slice none 0 0] 76 (0, 0))) := ⟨by rw [← hq_]; exact (tK BK179)⟩; have n4_ : Aside0 (w57.heap[gb180]? = some (.cells #[.int .i64 0, .int .i64 0, .slice none 0 0] 76 (0, 0))) := ⟨by rw [← hq_]; exact (tK BK180)⟩; have n5_ : Aside0 (w57.heap[gb181]? = some (.cells #[.int .i64 a0_0, .int .i64 a0_1, u182002] 76 (0, 0))) := ⟨by rw [← hq_]; exact (tK BK181)⟩; have n6_ : Aside0 (w57.heap[gb182]? = some (.cells #[.int .i64 a2, .int .i64 a0_1, u183002] 76 (0, 0))) := ⟨by rw [← hq_]; exact (tK BK182)⟩; have n7_ : Aside0 (Below w.heap.size w w57) := ⟨by rw [← hq_]; exact tB⟩; clear HO_182002 HO_183002 BK178 BK179 BK180 BK181 BK182 HB hq_; have HO_182002 := n0_; have HO_183002 := n1_; have BK178 := n2_; have BK179 := n3_; have BK180 := n4_; have BK181 := n5_; have BK182 := n6_; have HB := n7_; clear n0_ n1_ n2_ n3_ n4_ n5_ n6_ n7_)); obtain ⟨hcz58_0, hcz58_1, hcz58_2, hfz58_0, hfz58_1, hfz58_2⟩ := bc3 BK178.out) | ((with_reducible refine gate_callee (f := 101) rfl ?_); refine goesL_ (some 91) rfl rfl Try.func101 (by kernel_rfl) rfl #[.agg #[.int .i64 a0_0, .int .i64 a0_1, .slice A0_2 l0_2.length c0_2]] rfl tL ?_; (with_reducible refine (spec_l14Copy.calls a0_0 a0_1 _ _ l0_2 t195 t196 t197 _ ?side1 ?side2 A51.out).mono ?_); (case side1 => repeat (first | exact (Kd.C_below HR0_2.out HB.out) | (with_reducible refine Kd.C_alloc ?_ _) | (with_reducible refine Kd.C_drewN ?_ _) | (with_reducible refine Kd.C_drew ?_))); (case side2 => exact HC0_2.out); rintro e w59 ⟨v198, rfl, ho0, hb⟩; refine ⟨_, rfl, ?_⟩; have n0_ := Aside0.mk (Kd.R_elder' (tR HO_182002) (Kd.R_base ho0) hb); have n1_ := Aside0.mk (Kd.R_elder' (tR HO_183002) (Kd.R_base ho0) hb); have n2_ := Aside0.mk (Kd.R_lower (Kd.R_new' (Kd.R_new' ho0 (Kd.R_lt (tR HO_182002))) (Kd.R_lt (tR HO_183002))) (below_size tB)); have n3_ := Aside0.mk (blk_below (g := gb178) (o := .cells #[.int .i64 a0_0, .int .i64 a0_1, .slice A0_2 l0_2.length c0_2] 76 (0, 0)) (tK BK178) hb); have n4_ := Aside0.mk (blk_below (g := gb179) (o := .cells #[.int .i64 0, .int .i64 0, .slice none 0 0] 76 (0, 0)) (tK BK179) hb); have n5_ := Aside0.mk (blk_below (g := gb180) (o := .cells #[.int .i64 0, .int .i64 0, .slice none 0 0] 76 (0, 0)) (tK BK180) hb); have n6_ := Aside0.mk (blk_below (g := gb181) (o := .cells #[.int .i64 a0_0, .int .i64 a0_1, u182002] 76 (0, 0)) (tK BK181) hb); have n7_ := Aside0.mk (blk_below (g := gb182) (o := .cells #[.int .i64 a2, .int .i64 a0_1, u183002] 76 (0, 0)) (tK BK182) hb); have n8_ := Aside0.mk (below_step tB hb); clear HO_182002; clear HO_183002; clear BK178; clear BK179; clear BK180; clear BK181; clear BK182; clear HB; have HO_182002 := n0_; have HO_183002 := n1_; have HO199 := n2_; have BK178 := n3_; have BK179 := n4_; have BK180 := n5_; have BK181 := n6_; have BK182 := n7_; have HB := n8_; clear n0_ n1_ n2_ n3_ n4_ n5_ n6_ n7_ n8_; (try clear hb); (try clear hb2); (try clear hk); (try clear hi); (try clear ho0); have hnb60 := NB179_180.out; have hnc60 := NB180_179.out; have hnb61 := NB179_181.out; have hnc61 := NB181_179.out; have hnb62 := NB179_182.out; have hnc62 := NB182_179.out; obtain ⟨hcz63_0, hcz63_1, hcz63_2, hfz63_0, hfz63_1, hfz63_2⟩ := bc3 BK179.out; obtain ⟨Ao64, co64, eo64⟩ := Kd.R_slice HO199.out; subst eo64; have hnb65 := NB180_181.out; have hnc65 := NB181_180.out; have hnb66 := NB180_182.out; have hnc66 := NB182_180.out; obtain ⟨hcz67_0, hcz67_1, hcz67_2, hfz67_0, hfz67_1, hfz67_2⟩ := bc3 BK180.out))
       refine bodyPost_ret (results_list (rs := [.cell 6 76, .cell 7 76, .tmp 8]) rfl (by simp) (.cell gb179 76 #[.int .i64 t195, .int .i64 t196, .slice Ao64 t197.length co64] (0, 0) _ rfl (by (with_reducible repeat (first | refine blk_drewN ?_ _ | refine blk_drew ?_ | refine blk_alloc ?_ _)); refine blk_far ?_ NB179_180.out _; (with_reducible repeat (first | refine blk_drewN ?_ _ | refine blk_drew ?_ | refine blk_alloc ?_ _)); refine blk_far ?_ NB179_180.out _; (with_reducible repeat (first | refine blk_drewN ?_ _ | refine blk_drew ?_ | refine blk_alloc ?_ _)); refine blk_far ?_ NB179_180.out _; (with_reducible repeat (first | refine blk_drewN ?_ _ | refine blk_drew ?_ | refine blk_alloc ?_ _)); refine blk_put (cs := #[.int .i64 t195, .int .i64 t196, .slice none 0 0]) ?_ 2 _ rfl; (with_reducible repeat (first | refine blk_drewN ?_ _ | refine blk_drew ?_ | refine blk_alloc ?_ _)); refine blk_put (cs := #[.int .i64 t195, .int .i64 0, .slice none 0 0]) ?_ 1 _ rfl; (with_reducible repeat (first | refine blk_drewN ?_ _ | refine blk_drew ?_ | refine blk_alloc ?_ _)); refine blk_put (cs := #[.int .i64 0, .int .i64 0, .slice none 0 0]) ?_ 0 _ rfl; (with_reducible repeat (first | refine blk_drewN ?_ _ | refine blk_drew ?_ | refine blk_alloc ?_ _)); exact BK179.out) Try.underlying76 rfl (by kernel_rfl) (.cell gb180 76 #[.int .i64 0, .int .i64 0, .slice none 0 0] (0, 0) _ rfl (by (with_reducible repeat (first | refine blk_drewN ?_ _ | refine blk_drew ?_ | refine blk_alloc ?_ _)); refine blk_put (cs := #[.int .i64 0, .int .i64 0, .slice none 0 0]) ?_ 2 _ rfl; (with_reducible repeat (first | refine blk_drewN ?_ _ | refine blk_drew ?_ | refine blk_alloc ?_ _)); refine blk_put (cs := #[.int .i64 0, .int .i64 0, .slice none 0 0]) ?_ 1 _ rfl; (with_reducible repeat (first | refine blk_drewN ?_ _ | refine blk_drew ?_ | refine blk_alloc ?_ _)); refine blk_put (cs := #[.int .i64 0, .int .i64 0, .slice none 0 0]) ?_ 0 _ rfl; (with_reducible repeat (first | refine blk_drewN ?_ _ | refine blk_drew ?_ | refine blk_alloc ?_ _)); refine blk_far ?_ NB180_179.out _; (with_reducible repeat (first | refine blk_drewN ?_ _ | refine blk_drew ?_ | refine blk_alloc ?_ _)); refine blk_far ?_ NB180_179.out _; (with_reducible repeat (first | refine blk_drewN ?_ _ | refine blk_drew ?_ | refine blk_alloc ?_ _)); refine blk_far ?_ NB180_179.out _; (with_reducible repeat (first | refine blk_drewN ?_ _ | refine blk_drew ?_ | refine blk_alloc ?_ _)); exact BK180.out) Try.underlying76 rfl (by kernel_rfl) (.tmp .nil)))) rfl ?_
       exact ⟨_, _, tE, by (with_reducible repeat (first | apply Kd.R_alloc | apply Kd.R_drewN | apply Kd.R_drew)); exact Kd.R_mono (Kd.R_far (p := ⟨gb180, 2, none⟩) (Kd.R_far (p := ⟨gb180, 1, none⟩) (Kd.R_far (p := ⟨gb180, 0, none⟩) (Kd.R_far (p := ⟨gb179, 2, none⟩) (Kd.R_far (p := ⟨gb179, 1, none⟩) (Kd.R_far (p := ⟨gb179, 0, none⟩) (Kd.R_types (Kd.R_types HO199.out BK179.out (by decide)) BK180.out (by decide)) (fun _ hk => hk.1.2) (.int .i64 t195)) (fun _ hk => hk.1.2) (.int .i64 t196)) (fun _ hk => hk.1.2) (.slice Ao64 t197.length co64)) (fun _ hk => hk.2) (.int .i64 0)) (fun _ hk => hk.2) (.int .i64 0)) (fun _ hk => hk.2) (.slice none 0 0)) (fun _ hk => (by simp [Value.ownBlock])), by first | exact Kd.R_nil _ _ _ _ _ | exact Kd.N_nil _ _ _ _ _ | exact Kd.V_nil _ _ _ _ _ | exact Kd.Q_nil _ _ _ _ _ | exact Kd.S_nil _ _ _ _ _, tB⟩
      ·rw [if_neg c50] at H
       have c50b0 : (a2 == a0_0) = false := beq_eq_false_iff_ne.mpr c50
       have c50b1 : (a2 != a0_0) = true := bne_iff_ne.mpr c50
       by_cases c68 : (x183002_1.length : Int) = (l1.length : Int)
       ·rw [if_pos c68] at H
        have c68b0 : ((x183002_1.length : Int) == (l1.length : Int)) = true := beq_iff_eq.mpr c68
        have c68b1 : ((x183002_1.length : Int) != (l1.length : Int)) = false := bne_eq_false_iff_eq.mpr c68
        have c68b2 : (x183002_1.length == l1.length) = true := by first | simpa using c68 | (simp at c68 ⊢; omega)
        clear c68
        replace H := Option.bind_eq_some_iff.mp H
        obtain ⟨t200, A690, H⟩ := H
        replace H : (if (t200.length : Int) = 0 then ((spec_l14Copy.f a0_0 a0_1 l0_2).bind fun bt203 => (some (bt203.1, bt203.2.1, bt203.2.2, 0, 0, ([] : List (S123)), false))) else ((spec_KeysOf.f k1 a2 a0_1 x183002_1).bind fun t208 => (if (t208.length : Int) = 0 then ((spec_l14Copy.f a0_0 a0_1 l0_2).bind fun bt211 => (some (bt211.1, bt211.2.1, bt211.2.2, 0, 0, ([] : List (S123)), false))) else (some (a0_0, a0_1, x182002_1, a2, a0_1, x183002_1, true))))) = some (r1, r2, r3, r4, r5, r6, r7) := H
        have A69 := Aside0.mk A690
        clear A690
        by_cases c70 : (t200.length : Int) = 0
        ·rw [if_pos c70] at H
         have c70b0 : ((t200.length : Int) == 0) = true := beq_iff_eq.mpr c70
         have c70b1 : ((t200.length : Int) != 0) = false := bne_eq_false_iff_eq.mpr c70
         clear c70
         replace H := Option.bind_eq_some_iff.mp H
         obtain ⟨⟨t203, t204, t205⟩, A710, H⟩ := H
         replace H : (some (t203, t204, t205, 0, 0, ([] : List (S123)), false)) = some (r1, r2, r3, r4, r5, r6, r7) := H
         have A71 := Aside0.mk A710
         clear A710
         simp only [Option.some.injEq, Prod.mk.injEq] at H
         obtain ⟨rfl, rfl, rfl, rfl, rfl, rfl, rfl⟩ := H
         have hnb72 := NB178_179.out
         have hnc72 := NB179_178.out
         have hnb73 := NB178_180.out
         have hnc73 := NB180_178.out
         have hnb74 := NB178_181.out
         have hnc74 := NB181_178.out
         have hnb75 := NB178_182.out
         have hnc75 := NB182_178.out
         obtain ⟨hcz76_0, hcz76_1, hcz76_2, hfz76_0, hfz76_1, hfz76_2⟩ := bc3 BK178.out
         go_wp2_with (first | ((with_reducible refine gate_callee (f := 103) rfl ?_); refine goesL_ (some 57) rfl rfl Try.func103 (by kernel_rfl) rfl #[.agg #[.int .i64 a0_0, .int .i64 a0_1, .slice A0_2 l0_2.length c0_2]] rfl tL ?_; (with_reducible refine (spec_IsValidAccount.calls k1 a0_0 a0_1 _ _ l0_2 true _ ?side1 ?side2 A46.out).mono ?_); (case side1 => repeat (first | exact (Kd.C_below HR0_2.out HB.out) | (with_reducible refine Kd.C_alloc ?_ _) | (with_reducible refine Kd.C_drewN ?_ _) | (with_reducible refine Kd.C_drew ?_))); (case side2 => exact HC0_2.out); rintro e w77 ⟨rfl, hb⟩; refine ⟨_, rfl, ?_⟩; have n0_ := Aside0.mk (Kd.R_below (tR HO_182002) hb); have n1_ := Aside0.mk (Kd.R_below (tR HO_183002) hb); have n2_ := Aside0.mk (blk_below (g := gb178) (o := .cells #[.int .i64 a0_0, .int .i64 a0_1, .slice A0_2 l0_2.length c0_2] 76 (0, 0)) (tK BK178) hb); have n3_ := Aside0.mk (blk_below (g := gb179) (o := .cells #[.int .i64 0, .int .i64 0, .slice none 0 0] 76 (0, 0)) (tK BK179) hb); have n4_ := Aside0.mk (blk_below (g := gb180) (o := .cells #[.int .i64 0, .int .i64 0, .slice none 0 0] 76 (0, 0)) (tK BK180) hb); have n5_ := Aside0.mk (blk_below (g := gb181) (o := .cells #[.int .i64 a0_0, .int .i64 a0_1, u182002] 76 (0, 0)) (tK BK181) hb); have n6_ := Aside0.mk (blk_below (g := gb182) (o := .cells #[.int .i64 a2, .int .i64 a0_1, u183002] 76 (0, 0)) (tK BK182) hb); have n7_ := Aside0.mk (below_step tB hb); clear HO_182002; clear HO_183002; clear BK178; clear BK179; clear BK180; clear BK181; clear BK182; clear HB; have HO_182002 := n0_; have HO_183002 := n1_; have BK178 := n2_; have BK179 := n3_; have BK180 := n4_; have BK181 := n5_; have BK182 := n6_; have HB := n7_; clear n0_ n1_ n2_ n3_ n4_ n5_ n6_ n7_; (try clear hb); (try clear hb2); (try clear hk); (try clear hi)) | (go_at_call 81; (with_reducible refine (spec_l1In.calls a2 0 1000000 true _ A48.out).mono ?_); rintro e w' ⟨rfl, ⟨nd, rfl⟩⟩; (try (rw [drewN_self w77]; generalize hq_ : World.drewN w77 _ = w77; have n0_ : Aside0 (Kd.R k123 123 w77 w.heap.size (fun k_ => some k_ ≠ (u183002 : Value).ownBlock) u182002 x182002_1) := ⟨by rw [← hq_]; exact (tR HO_182002)⟩; have n1_ : Aside0 (Kd.R k123 123 w77 w.heap.size (fun k_ => some k_ ≠ (u182002 : Value).ownBlock) u183002 x183002_1) := ⟨by rw [← hq_]; exact (tR HO_183002)⟩; have n2_ : Aside0 (w77.heap[gb178]? = some (.cells #[.int .i64 a0_0, .int .i64 a0_1, .slice A0_2 l0_2.length c0_2] 76 (0, 0))) := ⟨by rw [← hq_]; exact (tK BK178)⟩; have n3_ : Aside0 (w77.heap[gb179]? = some (.cells #[.int .i64 0, .int .i64 0, .slice none 0 0] 76 (0, 0))) := ⟨by rw [← hq_]; exact (tK BK179)⟩; have n4_ : Aside0 (w77.heap[gb180]? = some (.cells #[.int .i64 0, .int .i64 0, .slice none 0 0] 76 (0, 0))) := ⟨by rw [← hq_]; exact (tK BK180)⟩; have n5_ : Aside0 (w77.heap[gb181]? = some (.cells #[.int .i64 a0_0, .int .i64 a0_1, u182002] 76 (0, 0))) := ⟨by rw [← hq_]; exact (tK BK181)⟩; have n6_ : Aside0 (w77.heap[gb182]? = some (.cells #[.int .i64 a2, .int .i64 a0_1, u183002] 76 (0, 0))) := ⟨by rw [← hq_]; exact (tK BK182)⟩; have n7_ : Aside0 (Below w.heap.size w w77) := ⟨by rw [← hq_]; exact tB⟩; clear HO_182002 HO_183002 BK178 BK179 BK180 BK181 BK182 HB hq_; have HO_182002 := n0_; have HO_183002 := n1_; have BK178 := n2_; have BK179 := n3_; have BK180 := n4_; have BK181 := n5_; have BK182 := n6_; have HB := n7_; clear n0_ n1_ n2_ n3_ n4_ n5_ n6_ n7_)); obtain ⟨hcz78_0, hcz78_1, hcz78_2, hfz78_0, hfz78_1, hfz78_2⟩ := bc3 BK178.out; have hnb79 := NB182_179.out; have hnc79 := NB179_182.out; have hnb80 := NB182_180.out; have hnc80 := NB180_182.out; have hnb81 := NB182_181.out; have hnc81 := NB181_182.out; obtain ⟨hcz82_0, hcz82_1, hcz82_2, hfz82_0, hfz82_1, hfz82_2⟩ := bc3 BK182.out; obtain ⟨Ao83, co83, eo83⟩ := Kd.R_slice HO_183002.out; subst eo83; have hnb84 := NB181_179.out; have hnc84 := NB179_181.out; have hnb85 := NB181_180.out; have hnc85 := NB180_181.out; obtain ⟨hcz86_0, hcz86_1, hcz86_2, hfz86_0, hfz86_1, hfz86_2⟩ := bc3 BK181.out; obtain ⟨Ao87, co87, eo87⟩ := Kd.R_slice HO_182002.out; subst eo87) | (go_at_call 115; (with_reducible refine (spec_KeysOf.calls k1 a0_0 a0_1 _ _ x182002_1 t200 _ ?side1 ?side2 A69.out).mono ?_); (case side1 => repeat (first | exact (Kd.R_reads' HO_182002.out).2.2 | (with_reducible refine Kd.C_alloc ?_ _) | (with_reducible refine Kd.C_drewN ?_ _) | (with_reducible refine Kd.C_drew ?_))); (case side2 => exact (Kd.R_reads' HO_182002.out).2.1); rintro e w88 ⟨v201, rfl, ho0, hb⟩; have n0_ := Aside0.mk (Kd.R_below (tR HO_182002) hb); have n1_ := Aside0.mk (Kd.R_below (tR HO_183002) hb); have n2_ := Aside0.mk (Kd.R_lower ho0 (below_size tB)); have n3_ := Aside0.mk (blk_below (g := gb178) (o := .cells #[.int .i64 a0_0, .int .i64 a0_1, .slice A0_2 l0_2.length c0_2] 76 (0, 0)) (tK BK178) hb); have n4_ := Aside0.mk (blk_below (g := gb179) (o := .cells #[.int .i64 0, .int .i64 0, .slice none 0 0] 76 (0, 0)) (tK BK179) hb); have n5_ := Aside0.mk (blk_below (g := gb180) (o := .cells #[.int .i64 0, .int .i64 0, .slice none 0 0] 76 (0, 0)) (tK BK180) hb); have n6_ := Aside0.mk (blk_below (g := gb181) (o := .cells #[.int .i64 a0_0, .int .i64 a0_1, .slice Ao87 x182002_1.length co87] 76 (0, 0)) (tK BK181) hb); have n7_ := Aside0.mk (blk_below (g := gb182) (o := .cells #[.int .i64 a2, .int .i64 a0_1, .slice Ao83 x183002_1.length co83] 76 (0, 0)) (tK BK182) hb); have n8_ := Aside0.mk (below_step tB hb); clear HO_182002; clear HO_183002; clear BK178; clear BK179; clear BK180; clear BK181; clear BK182; clear HB; have HO_182002 := n0_; have HO_183002 := n1_; have HO202 := n2_; have BK178 := n3_; have BK179 := n4_; have BK180 := n5_; have BK181 := n6_; have BK182 := n7_; have HB := n8_; clear n0_ n1_ n2_ n3_ n4_ n5_ n6_ n7_ n8_; (try clear hb); (try clear hb2); (try clear hk); (try clear hi); (try clear ho0); obtain ⟨Ao89, co89, eo89⟩ := Kd.R_slice HO202.out; subst eo89; obtain ⟨hcz90_0, hcz90_1, hcz90_2, hfz90_0, hfz90_1, hfz90_2⟩ := bc3 BK178.out) | ((with_reducible refine gate_callee (f := 101) rfl ?_); refine goesL_ (some 91) rfl rfl Try.func101 (by kernel_rfl) rfl #[.agg #[.int .i64 a0_0, .int .i64 a0_1, .slice A0_2 l0_2.length c0_2]] rfl tL ?_; (with_reducible refine (spec_l14Copy.calls a0_0 a0_1 _ _ l0_2 t203 t204 t205 _ ?side1 ?side2 A71.out).mono ?_); (case side1 => repeat (first | exact (Kd.C_below HR0_2.out HB.out) | (with_reducible refine Kd.C_alloc ?_ _) | (with_reducible refine Kd.C_drewN ?_ _) | (with_reducible refine Kd.C_drew ?_))); (case side2 => exact HC0_2.out); rintro e w91 ⟨v206, rfl, ho0, hb⟩; refine ⟨_, rfl, ?_⟩; have n0_ := Aside0.mk (Kd.R_elder' (tR HO_182002) (Kd.R_base ho0) hb); have n1_ := Aside0.mk (Kd.R_elder' (tR HO_183002) (Kd.R_base ho0) hb); have n2_ := Aside0.mk (Kd.R_below (tR HO202) hb); have n3_ := Aside0.mk (Kd.R_lower (Kd.R_new' (Kd.R_new' ho0 (Kd.R_lt (tR HO_182002))) (Kd.R_lt (tR HO_183002))) (below_size tB)); have n4_ := Aside0.mk (blk_below (g := gb178) (o := .cells #[.int .i64 a0_0, .int .i64 a0_1, .slice A0_2 l0_2.length c0_2] 76 (0, 0)) (tK BK178) hb); have n5_ := Aside0.mk (blk_below (g := gb179) (o := .cells #[.int .i64 0, .int .i64 0, .slice none 0 0] 76 (0, 0)) (tK BK179) hb); have n6_ := Aside0.mk (blk_below (g := gb180) (o := .cells #[.int .i64 0, .int .i64 0, .slice none 0 0] 76 (0, 0)) (tK BK180) hb); have n7_ := Aside0.mk (blk_below (g := gb181) (o := .cells #[.int .i64 a0_0, .int .i64 a0_1, .slice Ao87 x182002_1.length co87] 76 (0, 0)) (tK BK181) hb); have n8_ := Aside0.mk (blk_below (g := gb182) (o := .cells #[.int .i64 a2, .int .i64 a0_1, .slice Ao83 x183002_1.length co83] 76 (0, 0)) (tK BK182) hb); have n9_ := Aside0.mk (below_step tB hb); clear HO_182002; clear HO_183002; clear HO202; clear BK178; clear BK179; clear BK180; clear BK181; clear BK182; clear HB; have HO_182002 := n0_; have HO_183002 := n1_; have HO202 := n2_; have HO207 := n3_; have BK178 := n4_; have BK179 := n5_; have BK180 := n6_; have BK181 := n7_; have BK182 := n8_; have HB := n9_; clear n0_ n1_ n2_ n3_ n4_ n5_ n6_ n7_ n8_ n9_; (try clear hb); (try clear hb2); (try clear hk); (try clear hi); (try clear ho0); have hnb92 := NB179_180.out; have hnc92 := NB180_179.out; obtain ⟨hcz93_0, hcz93_1, hcz93_2, hfz93_0, hfz93_1, hfz93_2⟩ := bc3 BK179.out; obtain ⟨Ao94, co94, eo94⟩ := Kd.R_slice HO207.out; subst eo94; obtain ⟨hcz95_0, hcz95_1, hcz95_2, hfz95_0, hfz95_1, hfz95_2⟩ := bc3 BK180.out))
         refine bodyPost_ret (results_list (rs := [.cell 6 76, .cell 7 76, .tmp 8]) rfl (by simp) (.cell gb179 76 #[.int .i64 t203, .int .i64 t204, .slice Ao94 t205.length co94] (0, 0) _ rfl (by (with_reducible repeat (first | refine blk_drewN ?_ _ | refine blk_drew ?_ | refine blk_alloc ?_ _)); refine blk_far ?_ NB179_180.out _; (with_reducible repeat (first | refine blk_drewN ?_ _ | refine blk_drew ?_ | refine blk_alloc ?_ _)); refine blk_far ?_ NB179_180.out _; (with_reducible repeat (first | refine blk_drewN ?_ _ | refine blk_drew ?_ | refine blk_alloc ?_ _)); refine blk_far ?_ NB179_180.out _; (with_reducible repeat (first | refine blk_drewN ?_ _ | refine blk_drew ?_ | refine blk_alloc ?_ _)); refine blk_put (cs := #[.int .i64 t203, .int .i64 t204, .slice none 0 0]) ?_ 2 _ rfl; (with_reducible repeat (first | refine blk_drewN ?_ _ | refine blk_drew ?_ | refine blk_alloc ?_ _)); refine blk_put (cs := #[.int .i64 t203, .int .i64 0, .slice none 0 0]) ?_ 1 _ rfl; (with_reducible repeat (first | refine blk_drewN ?_ _ | refine blk_drew ?_ | refine blk_alloc ?_ _)); refine blk_put (cs := #[.int .i64 0, .int .i64 0, .slice none 0 0]) ?_ 0 _ rfl; (with_reducible repeat (first | refine blk_drewN ?_ _ | refine blk_drew ?_ | refine blk_alloc ?_ _)); exact BK179.out) Try.underlying76 rfl (by kernel_rfl) (.cell gb180 76 #[.int .i64 0, .int .i64 0, .slice none 0 0] (0, 0) _ rfl (by (with_reducible repeat (first | refine blk_drewN ?_ _ | refine blk_drew ?_ | refine blk_alloc ?_ _)); refine blk_put (cs := #[.int .i64 0, .int .i64 0, .slice none 0 0]) ?_ 2 _ rfl; (with_reducible repeat (first | refine blk_drewN ?_ _ | refine blk_drew ?_ | refine blk_alloc ?_ _)); refine blk_put (cs := #[.int .i64 0, .int .i64 0, .slice none 0 0]) ?_ 1 _ rfl; (with_reducible repeat (first | refine blk_drewN ?_ _ | refine blk_drew ?_ | refine blk_alloc ?_ _)); refine blk_put (cs := #[.int .i64 0, .int .i64 0, .slice none 0 0]) ?_ 0 _ rfl; (with_reducible repeat (first | refine blk_drewN ?_ _ | refine blk_drew ?_ | refine blk_alloc ?_ _)); refine blk_far ?_ NB180_179.out _; (with_reducible repeat (first | refine blk_drewN ?_ _ | refine blk_drew ?_ | refine blk_alloc ?_ _)); refine blk_far ?_ NB180_179.out _; (with_reducible repeat (first | refine blk_drewN ?_ _ | refine blk_drew ?_ | refine blk_alloc ?_ _)); refine blk_far ?_ NB180_179.out _; (with_reducible repeat (first | refine blk_drewN ?_ _ | refine blk_drew ?_ | refine blk_alloc ?_ _)); exact BK180.out) Try.underlying76 rfl (by kernel_rfl) (.tmp .nil)))) rfl ?_
         exact ⟨_, _, tE, by (with_reducible repeat (first | apply Kd.R_alloc | apply Kd.R_drewN | apply Kd.R_drew)); exact Kd.R_mono (Kd.R_far (p := ⟨gb180, 2, none⟩) (Kd.R_far (p := ⟨gb180, 1, none⟩) (Kd.R_far (p := ⟨gb180, 0, none⟩) (Kd.R_far (p := ⟨gb179, 2, none⟩) (Kd.R_far (p := ⟨gb179, 1, none⟩) (Kd.R_far (p := ⟨gb179, 0, none⟩) (Kd.R_types (Kd.R_types HO207.out BK179.out (by decide)) BK180.out (by decide)) (fun _ hk => hk.1.2) (.int .i64 t203)) (fun _ hk => hk.1.2) (.int .i64 t204)) (fun _ hk => hk.1.2) (.slice Ao94 t205.length co94)) (fun _ hk => hk.2) (.int .i64 0)) (fun _ hk => hk.2) (.int .i64 0)) (fun _ hk => hk.2) (.slice none 0 0)) (fun _ hk => (by simp [Value.ownBlock])), by first | exact Kd.R_nil _ _ _ _ _ | exact Kd.N_nil _ _ _ _ _ | exact Kd.V_nil _ _ _ _ _ | exact Kd.Q_nil _ _ _ _ _ | exact Kd.S_nil _ _ _ _ _, tB⟩
        ·rw [if_neg c70] at H
         have c70b0 : ((t200.length : Int) == 0) = false := beq_eq_false_iff_ne.mpr c70
         have c70b1 : ((t200.length : Int) != 0) = true := bne_iff_ne.mpr c70
         have c70b2 : ¬ (t200 = []) := fun h_ => c70 (by rw [h_]; rfl)
         replace H := Option.bind_eq_some_iff.mp H
         obtain ⟨t208, A960, H⟩ := H
         replace H : (if (t208.length : Int) = 0 then ((spec_l14Copy.f a0_0 a0_1 l0_2).bind fun bt211 => (some (bt211.1, bt211.2.1, bt211.2.2, 0, 0, ([] : List (S123)), false))) else (some (a0_0, a0_1, x182002_1, a2, a0_1, x183002_1, true))) = some (r1, r2, r3, r4, r5, r6, r7) := H
         have A96 := Aside0.mk A960
         clear A960
         by_cases c97 : (t208.length : Int) = 0
         ·rw [if_pos c97] at H
          have c97b0 : ((t208.length : Int) == 0) = true := beq_iff_eq.mpr c97
          have c97b1 : ((t208.length : Int) != 0) = false := bne_eq_false_iff_eq.mpr c97
          clear c97
          replace H := Option.bind_eq_some_iff.mp H
          obtain ⟨⟨t211, t212, t213⟩, A980, H⟩ := H
          replace H : (some (t211, t212, t213, 0, 0, ([] : List (S123)), false)) = some (r1, r2, r3, r4, r5, r6, r7) := H
          have A98 := Aside0.mk A980
          clear A980
          simp only [Option.some.injEq, Prod.mk.injEq] at H
          obtain ⟨rfl, rfl, rfl, rfl, rfl, rfl, rfl⟩ := H
          have hnb99 := NB178_179.out
          have hnc99 := NB179_178.out
          have hnb100 := NB178_180.out
          have hnc100 := NB180_178.out
          have hnb101 := NB178_181.out
          have hnc101 := NB181_178.out
          have hnb102 := NB178_182.out
          have hnc102 := NB182_178.out
          obtain ⟨hcz103_0, hcz103_1, hcz103_2, hfz103_0, hfz103_1, hfz103_2⟩ := bc3 BK178.out
          go_wp2_with (first | ((with_reducible refine gate_callee (f := 103) rfl ?_); refine goesL_ (some 57) rfl rfl Try.func103 (by kernel_rfl) rfl #[.agg #[.int .i64 a0_0, .int .i64 a0_1, .slice A0_2 l0_2.length c0_2]] rfl tL ?_; (with_reducible refine (spec_IsValidAccount.calls k1 a0_0 a0_1 _ _ l0_2 true _ ?side1 ?side2 A46.out).mono ?_); (case side1 => repeat (first | exact (Kd.C_below HR0_2.out HB.out) | (with_reducible refine Kd.C_alloc ?_ _) | (with_reducible refine Kd.C_drewN ?_ _) | (with_reducible refine Kd.C_drew ?_))); (case side2 => exact HC0_2.out); rintro e w104 ⟨rfl, hb⟩; refine ⟨_, rfl, ?_⟩; have n0_ := Aside0.mk (Kd.R_below (tR HO_182002) hb); have n1_ := Aside0.mk (Kd.R_below (tR HO_183002) hb); have n2_ := Aside0.mk (blk_below (g := gb178) (o := .cells #[.int .i64 a0_0, .int .i64 a0_1, .slice A0_2 l0_2.length c0_2] 76 (0, 0)) (tK BK178) hb); have n3_ := Aside0.mk (blk_below (g := gb179) (o := .cells #[.int .i64 0, .int .i64 0, .slice none 0 0] 76 (0, 0)) (tK BK179) hb); have n4_ := Aside0.mk (blk_below (g := gb180) (o := .cells #[.int .i64 0, .int .i64 0, .slice none 0 0] 76 (0, 0)) (tK BK180) hb); have n5_ := Aside0.mk (blk_below (g := gb181) (o := .cells #[.int .i64 a0_0, .int .i64 a0_1, u182002] 76 (0, 0)) (tK BK181) hb); have n6_ := Aside0.mk (blk_below (g := gb182) (o := .cells #[.int .i64 a2, .int .i64 a0_1, u183002] 76 (0, 0)) (tK BK182) hb); have n7_ := Aside0.mk (below_step tB hb); clear HO_182002; clear HO_183002; clear BK178; clear BK179; clear BK180; clear BK181; clear BK182; clear HB; have HO_182002 := n0_; have HO_183002 := n1_; have BK178 := n2_; have BK179 := n3_; have BK180 := n4_; have BK181 := n5_; have BK182 := n6_; have HB := n7_; clear n0_ n1_ n2_ n3_ n4_ n5_ n6_ n7_; (try clear hb); (try clear hb2); (try clear hk); (try clear hi)) | (go_at_call 81; (with_reducible refine (spec_l1In.calls a2 0 1000000 true _ A48.out).mono ?_); rintro e w' ⟨rfl, ⟨nd, rfl⟩⟩; (try (rw [drewN_self w104]; generalize hq_ : World.drewN w104 _ = w104; have n0_ : Aside0 (Kd.R k123 123 w104 w.heap.size (fun k_ => some k_ ≠ (u183002 : Value).ownBlock) u182002 x182002_1) := ⟨by rw [← hq_]; exact (tR HO_182002)⟩; have n1_ : Aside0 (Kd.R k123 123 w104 w.heap.size (fun k_ => some k_ ≠ (u182002 : Value).ownBlock) u183002 x183002_1) := ⟨by rw [← hq_]; exact (tR HO_183002)⟩; have n2_ : Aside0 (w104.heap[gb178]? = some (.cells #[.int .i64 a0_0, .int .i64 a0_1, .slice A0_2 l0_2.length c0_2] 76 (0, 0))) := ⟨by rw [← hq_]; exact (tK BK178)⟩; have n3_ : Aside0 (w104.heap[gb179]? = some (.cells #[.int .i64 0, .int .i64 0, .slice none 0 0] 76 (0, 0))) := ⟨by rw [← hq_]; exact (tK BK179)⟩; have n4_ : Aside0 (w104.heap[gb180]? = some (.cells #[.int .i64 0, .int .i64 0, .slice none 0 0] 76 (0, 0))) := ⟨by rw [← hq_]; exact (tK BK180)⟩; have n5_ : Aside0 (w104.heap[gb181]? = some (.cells #[.int .i64 a0_0, .int .i64 a0_1, u182002] 76 (0, 0))) := ⟨by rw [← hq_]; exact (tK BK181)⟩; have n6_ : Aside0 (w104.heap[gb182]? = some (.cells #[.int .i64 a2, .int .i64 a0_1, u183002] 76 (0, 0))) := ⟨by rw [← hq_]; exact (tK BK182)⟩; have n7_ : Aside0 (Below w.heap.size w w104) := ⟨by rw [← hq_]; exact tB⟩; clear HO_182002 HO_183002 BK178 BK179 BK180 BK181 BK182 HB hq_; have HO_182002 := n0_; have HO_183002 := n1_; have BK178 := n2_; have BK179 := n3_; have BK180 := n4_; have BK181 := n5_; have BK182 := n6_; have HB := n7_; clear n0_ n1_ n2_ n3_ n4_ n5_ n6_ n7_)); obtain ⟨hcz105_0, hcz105_1, hcz105_2, hfz105_0, hfz105_1, hfz105_2⟩ := bc3 BK178.out; have hnb106 := NB182_179.out; have hnc106 := NB179_182.out; have hnb107 := NB182_180.out; have hnc107 := NB180_182.out; have hnb108 := NB182_181.out; have hnc108 := NB181_182.out; obtain ⟨hcz109_0, hcz109_1, hcz109_2, hfz109_0, hfz109_1, hfz109_2⟩ := bc3 BK182.out; obtain ⟨Ao110, co110, eo110⟩ := Kd.R_slice HO_183002.out; subst eo110; have hnb111 := NB181_179.out; have hnc111 := NB179_181.out; have hnb112 := NB181_180.out; have hnc112 := NB180_181.out; obtain ⟨hcz113_0, hcz113_1, hcz113_2, hfz113_0, hfz113_1, hfz113_2⟩ := bc3 BK181.out; obtain ⟨Ao114, co114, eo114⟩ := Kd.R_slice HO_182002.out; subst eo114) | (go_at_call 115; (with_reducible refine (spec_KeysOf.calls k1 a0_0 a0_1 _ _ x182002_1 t200 _ ?side1 ?side2 A69.out).mono ?_); (case side1 => repeat (first | exact (Kd.R_reads' HO_182002.out).2.2 | (with_reducible refine Kd.C_alloc ?_ _) | (with_reducible refine Kd.C_drewN ?_ _) | (with_reducible refine Kd.C_drew ?_))); (case side2 => exact (Kd.R_reads' HO_182002.out).2.1); rintro e w115 ⟨v201, rfl, ho0, hb⟩; have n0_ := Aside0.mk (Kd.R_below (tR HO_182002) hb); have n1_ := Aside0.mk (Kd.R_below (tR HO_183002) hb); have n2_ := Aside0.mk (Kd.R_lower ho0 (below_size tB)); have n3_ := Aside0.mk (blk_below (g := gb178) (o := .cells #[.int .i64 a0_0, .int .i64 a0_1, .slice A0_2 l0_2.length c0_2] 76 (0, 0)) (tK BK178) hb); have n4_ := Aside0.mk (blk_below (g := gb179) (o := .cells #[.int .i64 0, .int .i64 0, .slice none 0 0] 76 (0, 0)) (tK BK179) hb); have n5_ := Aside0.mk (blk_below (g := gb180) (o := .cells #[.int .i64 0, .int .i64 0, .slice none 0 0] 76 (0, 0)) (tK BK180) hb); have n6_ := Aside0.mk (blk_below (g := gb181) (o := .cells #[.int .i64 a0_0, .int .i64 a0_1, .slice Ao114 x182002_1.length co114] 76 (0, 0)) (tK BK181) hb); have n7_ := Aside0.mk (blk_below (g := gb182) (o := .cells #[.int .i64 a2, .int .i64 a0_1, .slice Ao110 x183002_1.length co110] 76 (0, 0)) (tK BK182) hb); have n8_ := Aside0.mk (below_step tB hb); clear HO_182002; clear HO_183002; clear BK178; clear BK179; clear BK180; clear BK181; clear BK182; clear HB; have HO_182002 := n0_; have HO_183002 := n1_; have HO202 := n2_; have BK178 := n3_; have BK179 := n4_; have BK180 := n5_; have BK181 := n6_; have BK182 := n7_; have HB := n8_; clear n0_ n1_ n2_ n3_ n4_ n5_ n6_ n7_ n8_; (try clear hb); (try clear hb2); (try clear hk); (try clear hi); (try clear ho0); obtain ⟨Ao116, co116, eo116⟩ := Kd.R_slice HO202.out; subst eo116; obtain ⟨hcz117_0, hcz117_1, hcz117_2, hfz117_0, hfz117_1, hfz117_2⟩ := bc3 BK182.out) | (go_at_call 115; (with_reducible refine (spec_KeysOf.calls k1 a2 a0_1 _ _ x183002_1 t208 _ ?side1 ?side2 A96.out).mono ?_); (case side1 => repeat (first | exact (Kd.R_reads' HO_183002.out).2.2 | (with_reducible refine Kd.C_alloc ?_ _) | (with_reducible refine Kd.C_drewN ?_ _) | (with_reducible refine Kd.C_drew ?_))); (case side2 => exact (Kd.R_reads' HO_183002.out).2.1); rintro e w118 ⟨v209, rfl, ho0, hb⟩; have n0_ := Aside0.mk (Kd.R_below (tR HO_182002) hb); have n1_ := Aside0.mk (Kd.R_below (tR HO_183002) hb); have n2_ := Aside0.mk (Kd.R_elder' (tR HO202) (Kd.R_base ho0) hb); have n3_ := Aside0.mk (Kd.R_lower (Kd.R_new' ho0 (Kd.R_lt (tR HO202))) (below_size tB)); have n4_ := Aside0.mk (blk_below (g := gb178) (o := .cells #[.int .i64 a0_0, .int .i64 a0_1, .slice A0_2 l0_2.length c0_2] 76 (0, 0)) (tK BK178) hb); have n5_ := Aside0.mk (blk_below (g := gb179) (o := .cells #[.int .i64 0, .int .i64 0, .slice none 0 0] 76 (0, 0)) (tK BK179) hb); have n6_ := Aside0.mk (blk_below (g := gb180) (o := .cells #[.int .i64 0, .int .i64 0, .slice none 0 0] 76 (0, 0)) (tK BK180) hb); have n7_ := Aside0.mk (blk_below (g := gb181) (o := .cells #[.int .i64 a0_0, .int .i64 a0_1, .slice Ao114 x182002_1.length co114] 76 (0, 0)) (tK BK181) hb); have n8_ := Aside0.mk (blk_below (g := gb182) (o := .cells #[.int .i64 a2, .int .i64 a0_1, .slice Ao110 x183002_1.length co110] 76 (0, 0)) (tK BK182) hb); have n9_ := Aside0.mk (below_step tB hb); clear HO_182002; clear HO_183002; clear HO202; clear BK178; clear BK179; clear BK180; clear BK181; clear BK182; clear HB; have HO_182002 := n0_; have HO_183002 := n1_; have HO202 := n2_; have HO210 := n3_; have BK178 := n4_; have BK179 := n5_; have BK180 := n6_; have BK181 := n7_; have BK182 := n8_; have HB := n9_; clear n0_ n1_ n2_ n3_ n4_ n5_ n6_ n7_ n8_ n9_; (try clear hb); (try clear hb2); (try clear hk); (try clear hi); (try clear ho0); obtain ⟨Ao119, co119, eo119⟩ := Kd.R_slice HO210.out; subst eo119; obtain ⟨hcz120_0, hcz120_1, hcz120_2, hfz120_0, hfz120_1, hfz120_2⟩ := bc3 BK178.out) | ((with_reducible refine gate_callee (f := 101) rfl ?_); refine goesL_ (some 91) rfl rfl Try.func101 (by kernel_rfl) rfl #[.agg #[.int .i64 a0_0, .int .i64 a0_1, .slice A0_2 l0_2.length c0_2]] rfl tL ?_; (with_reducible refine (spec_l14Copy.calls a0_0 a0_1 _ _ l0_2 t211 t212 t213 _ ?side1 ?side2 A98.out).mono ?_); (case side1 => repeat (first | exact (Kd.C_below HR0_2.out HB.out) | (with_reducible refine Kd.C_alloc ?_ _) | (with_reducible refine Kd.C_drewN ?_ _) | (with_reducible refine Kd.C_drew ?_))); (case side2 => exact HC0_2.out); rintro e w121 ⟨v214, rfl, ho0, hb⟩; refine ⟨_, rfl, ?_⟩; have n0_ := Aside0.mk (Kd.R_elder' (tR HO_182002) (Kd.R_base ho0) hb); have n1_ := Aside0.mk (Kd.R_elder' (tR HO_183002) (Kd.R_base ho0) hb); have n2_ := Aside0.mk (Kd.R_below (tR HO202) hb); have n3_ := Aside0.mk (Kd.R_below (tR HO210) hb); have n4_ := Aside0.mk (Kd.R_lower (Kd.R_new' (Kd.R_new' ho0 (Kd.R_lt (tR HO_182002))) (Kd.R_lt (tR HO_183002))) (below_size tB)); have n5_ := Aside0.mk (blk_below (g := gb178) (o := .cells #[.int .i64 a0_0, .int .i64 a0_1, .slice A0_2 l0_2.length c0_2] 76 (0, 0)) (tK BK178) hb); have n6_ := Aside0.mk (blk_below (g := gb179) (o := .cells #[.int .i64 0, .int .i64 0, .slice none 0 0] 76 (0, 0)) (tK BK179) hb); have n7_ := Aside0.mk (blk_below (g := gb180) (o := .cells #[.int .i64 0, .int .i64 0, .slice none 0 0] 76 (0, 0)) (tK BK180) hb); have n8_ := Aside0.mk (blk_below (g := gb181) (o := .cells #[.int .i64 a0_0, .int .i64 a0_1, .slice Ao114 x182002_1.length co114] 76 (0, 0)) (tK BK181) hb); have n9_ := Aside0.mk (blk_below (g := gb182) (o := .cells #[.int .i64 a2, .int .i64 a0_1, .slice Ao110 x183002_1.length co110] 76 (0, 0)) (tK BK182) hb); have n10_ := Aside0.mk (below_step tB hb); clear HO_182002; clear HO_183002; clear HO202; clear HO210; clear BK178; clear BK179; clear BK180; clear BK181; clear BK182; clear HB; have HO_182002 := n0_; have HO_183002 := n1_; have HO202 := n2_; have HO210 := n3_; have HO215 := n4_; have BK178 := n5_; have BK179 := n6_; have BK180 := n7_; have BK181 := n8_; have BK182 := n9_; have HB := n10_; clear n0_ n1_ n2_ n3_ n4_ n5_ n6_ n7_ n8_ n9_ n10_; (try clear hb); (try clear hb2); (try clear hk); (try clear hi); (try clear ho0); have hnb122 := NB179_180.out; have hnc122 := NB180_179.out; obtain ⟨hcz123_0, hcz123_1, hcz123_2, hfz123_0, hfz123_1, hfz123_2⟩ := bc3 BK179.out; obtain ⟨Ao124, co124, eo124⟩ := Kd.R_slice HO215.out; subst eo124; obtain ⟨hcz125_0, hcz125_1, hcz125_2, hfz125_0, hfz125_1, hfz125_2⟩ := bc3 BK180.out))
          refine bodyPost_ret (results_list (rs := [.cell 6 76, .cell 7 76, .tmp 8]) rfl (by simp) (.cell gb179 76 #[.int .i64 t211, .int .i64 t212, .slice Ao124 t213.length co124] (0, 0) _ rfl (by (with_reducible repeat (first | refine blk_drewN ?_ _ | refine blk_drew ?_ | refine blk_alloc ?_ _)); refine blk_far ?_ NB179_180.out _; (with_reducible repeat (first | refine blk_drewN ?_ _ | refine blk_drew ?_ | refine blk_alloc ?_ _)); refine blk_far ?_ NB179_180.out _; (with_reducible repeat (first | refine blk_drewN ?_ _ | refine blk_drew ?_ | refine blk_alloc ?_ _)); refine blk_far ?_ NB179_180.out _; (with_reducible repeat (first | refine blk_drewN ?_ _ | refine blk_drew ?_ | refine blk_alloc ?_ _)); refine blk_put (cs := #[.int .i64 t211, .int .i64 t212, .slice none 0 0]) ?_ 2 _ rfl; (with_reducible repeat (first | refine blk_drewN ?_ _ | refine blk_drew ?_ | refine blk_alloc ?_ _)); refine blk_put (cs := #[.int .i64 t211, .int .i64 0, .slice none 0 0]) ?_ 1 _ rfl; (with_reducible repeat (first | refine blk_drewN ?_ _ | refine blk_drew ?_ | refine blk_alloc ?_ _)); refine blk_put (cs := #[.int .i64 0, .int .i64 0, .slice none 0 0]) ?_ 0 _ rfl; (with_reducible repeat (first | refine blk_drewN ?_ _ | refine blk_drew ?_ | refine blk_alloc ?_ _)); exact BK179.out) Try.underlying76 rfl (by kernel_rfl) (.cell gb180 76 #[.int .i64 0, .int .i64 0, .slice none 0 0] (0, 0) _ rfl (by (with_reducible repeat (first | refine blk_drewN ?_ _ | refine blk_drew ?_ | refine blk_alloc ?_ _)); refine blk_put (cs := #[.int .i64 0, .int .i64 0, .slice none 0 0]) ?_ 2 _ rfl; (with_reducible repeat (first | refine blk_drewN ?_ _ | refine blk_drew ?_ | refine blk_alloc ?_ _)); refine blk_put (cs := #[.int .i64 0, .int .i64 0, .slice none 0 0]) ?_ 1 _ rfl; (with_reducible repeat (first | refine blk_drewN ?_ _ | refine blk_drew ?_ | refine blk_alloc ?_ _)); refine blk_put (cs := #[.int .i64 0, .int .i64 0, .slice none 0 0]) ?_ 0 _ rfl; (with_reducible repeat (first | refine blk_drewN ?_ _ | refine blk_drew ?_ | refine blk_alloc ?_ _)); refine blk_far ?_ NB180_179.out _; (with_reducible repeat (first | refine blk_drewN ?_ _ | refine blk_drew ?_ | refine blk_alloc ?_ _)); refine blk_far ?_ NB180_179.out _; (with_reducible repeat (first | refine blk_drewN ?_ _ | refine blk_drew ?_ | refine blk_alloc ?_ _)); refine blk_far ?_ NB180_179.out _; (with_reducible repeat (first | refine blk_drewN ?_ _ | refine blk_drew ?_ | refine blk_alloc ?_ _)); exact BK180.out) Try.underlying76 rfl (by kernel_rfl) (.tmp .nil)))) rfl ?_
          exact ⟨_, _, tE, by (with_reducible repeat (first | apply Kd.R_alloc | apply Kd.R_drewN | apply Kd.R_drew)); exact Kd.R_mono (Kd.R_far (p := ⟨gb180, 2, none⟩) (Kd.R_far (p := ⟨gb180, 1, none⟩) (Kd.R_far (p := ⟨gb180, 0, none⟩) (Kd.R_far (p := ⟨gb179, 2, none⟩) (Kd.R_far (p := ⟨gb179, 1, none⟩) (Kd.R_far (p := ⟨gb179, 0, none⟩) (Kd.R_types (Kd.R_types HO215.out BK179.out (by decide)) BK180.out (by decide)) (fun _ hk => hk.1.2) (.int .i64 t211)) (fun _ hk => hk.1.2) (.int .i64 t212)) (fun _ hk => hk.1.2) (.slice Ao124 t213.length co124)) (fun _ hk => hk.2) (.int .i64 0)) (fun _ hk => hk.2) (.int .i64 0)) (fun _ hk => hk.2) (.slice none 0 0)) (fun _ hk => (by simp [Value.ownBlock])), by first | exact Kd.R_nil _ _ _ _ _ | exact Kd.N_nil _ _ _ _ _ | exact Kd.V_nil _ _ _ _ _ | exact Kd.Q_nil _ _ _ _ _ | exact Kd.S_nil _ _ _ _ _, tB⟩
         ·rw [if_neg c97] at H
          have c97b0 : ((t208.length : Int) == 0) = false := beq_eq_false_iff_ne.mpr c97
          have c97b1 : ((t208.length : Int) != 0) = true := bne_iff_ne.mpr c97
          have c97b2 : ¬ (t208 = []) := fun h_ => c97 (by rw [h_]; rfl)
          simp only [Option.some.injEq, Prod.mk.injEq] at H
          obtain ⟨rfl, rfl, rfl, rfl, rfl, rfl, rfl⟩ := H
          have hnb126 := NB178_179.out
          have hnc126 := NB179_178.out
          have hnb127 := NB178_180.out
          have hnc127 := NB180_178.out
          have hnb128 := NB178_181.out
          have hnc128 := NB181_178.out
          have hnb129 := NB178_182.out
          have hnc129 := NB182_178.out
          obtain ⟨hcz130_0, hcz130_1, hcz130_2, hfz130_0, hfz130_1, hfz130_2⟩ := bc3 BK178.out
          try go_wp2_with (first | ((with_reducible refine gate_callee (f := 103) rfl ?_); refine goesL_ (some 57) rfl rfl Try.func103 (by kernel_rfl) rfl #[.agg #[.int .i64 a0_0, .int .i64 a0_1, .slice A0_2 l0_2.length c0_2]] rfl tL ?_; (with_reducible refine (spec_IsValidAccount.calls k1 a0_0 a0_1 _ _ l0_2 true _ ?side1 ?side2 A46.out).mono ?_); (case side1 => repeat (first | exact (Kd.C_below HR0_2.out HB.out) | (with_reducible refine Kd.C_alloc ?_ _) | (with_reducible refine Kd.C_drewN ?_ _) | (with_reducible refine Kd.C_drew ?_))); (case side2 => exact HC0_2.out); rintro e w131 ⟨rfl, hb⟩; refine ⟨_, rfl, ?_⟩; have n0_ := Aside0.mk (Kd.R_below (tR HO_182002) hb); have n1_ := Aside0.mk (Kd.R_below (tR HO_183002) hb); have n2_ := Aside0.mk (blk_below (g := gb178) (o := .cells #[.int .i64 a0_0, .int .i64 a0_1, .slice A0_2 l0_2.length c0_2] 76 (0, 0)) (tK BK178) hb); have n3_ := Aside0.mk (blk_below (g := gb179) (o := .cells #[.int .i64 0, .int .i64 0, .slice none 0 0] 76 (0, 0)) (tK BK179) hb); have n4_ := Aside0.mk (blk_below (g := gb180) (o := .cells #[.int .i64 0, .int .i64 0, .slice none 0 0] 76 (0, 0)) (tK BK180) hb); have n5_ := Aside0.mk (blk_below (g := gb181) (o := .cells #[.int .i64 a0_0, .int .i64 a0_1, u182002] 76 (0, 0)) (tK BK181) hb); have n6_ := Aside0.mk (blk_below (g := gb182) (o := .cells #[.int .i64 a2, .int .i64 a0_1, u183002] 76 (0, 0)) (tK BK182) hb); have n7_ := Aside0.mk (below_step tB hb); clear HO_182002; clear HO_183002; clear BK178; clear BK179; clear BK180; clear BK181; clear BK182; clear HB; have HO_182002 := n0_; have HO_183002 := n1_; have BK178 := n2_; have BK179 := n3_; have BK180 := n4_; have BK181 := n5_; have BK182 := n6_; have HB := n7_; clear n0_ n1_ n2_ n3_ n4_ n5_ n6_ n7_; (try clear hb); (try clear hb2); (try clear hk); (try clear hi)) | (go_at_call 81; (with_reducible refine (spec_l1In.calls a2 0 1000000 true _ A48.out).mono ?_); rintro e w' ⟨rfl, ⟨nd, rfl⟩⟩; (try (rw [drewN_self w131]; generalize hq_ : World.drewN w131 _ = w131; have n0_ : Aside0 (Kd.R k123 123 w131 w.heap.size (fun k_ => some k_ ≠ (u183002 : Value).ownBlock) u182002 x182002_1) := ⟨by rw [← hq_]; exact (tR HO_182002)⟩; have n1_ : Aside0 (Kd.R k123 123 w131 w.heap.size (fun k_ => some k_ ≠ (u182002 : Value).ownBlock) u183002 x183002_1) := ⟨by rw [← hq_]; exact (tR HO_183002)⟩; have n2_ : Aside0 (w131.heap[gb178]? = some (.cells #[.int .i64 a0_0, .int .i64 a0_1, .slice A0_2 l0_2.length c0_2] 76 (0, 0))) := ⟨by rw [← hq_]; exact (tK BK178)⟩; have n3_ : Aside0 (w131.heap[gb179]? = some (.cells #[.int .i64 0, .int .i64 0, .slice none 0 0] 76 (0, 0))) := ⟨by rw [← hq_]; exact (tK BK179)⟩; have n4_ : Aside0 (w131.heap[gb180]? = some (.cells #[.int .i64 0, .int .i64 0, .slice none 0 0] 76 (0, 0))) := ⟨by rw [← hq_]; exact (tK BK180)⟩; have n5_ : Aside0 (w131.heap[gb181]? = some (.cells #[.int .i64 a0_0, .int .i64 a0_1, u182002] 76 (0, 0))) := ⟨by rw [← hq_]; exact (tK BK181)⟩; have n6_ : Aside0 (w131.heap[gb182]? = some (.cells #[.int .i64 a2, .int .i64 a0_1, u183002] 76 (0, 0))) := ⟨by rw [← hq_]; exact (tK BK182)⟩; have n7_ : Aside0 (Below w.heap.size w w131) := ⟨by rw [← hq_]; exact tB⟩; clear HO_182002 HO_183002 BK178 BK179 BK180 BK181 BK182 HB hq_; have HO_182002 := n0_; have HO_183002 := n1_; have BK178 := n2_; have BK179 := n3_; have BK180 := n4_; have BK181 := n5_; have BK182 := n6_; have HB := n7_; clear n0_ n1_ n2_ n3_ n4_ n5_ n6_ n7_)); obtain ⟨hcz132_0, hcz132_1, hcz132_2, hfz132_0, hfz132_1, hfz132_2⟩ := bc3 BK178.out; have hnb133 := NB182_179.out; have hnc133 := NB179_182.out; have hnb134 := NB182_180.out; have hnc134 := NB180_182.out; have hnb135 := NB182_181.out; have hnc135 := NB181_182.out; obtain ⟨hcz136_0, hcz136_1, hcz136_2, hfz136_0, hfz136_1, hfz136_2⟩ := bc3 BK182.out; obtain ⟨Ao137, co137, eo137⟩ := Kd.R_slice HO_183002.out; subst eo137; have hnb138 := NB181_179.out; have hnc138 := NB179_181.out; have hnb139 := NB181_180.out; have hnc139 := NB180_181.out; obtain ⟨hcz140_0, hcz140_1, hcz140_2, hfz140_0, hfz140_1, hfz140_2⟩ := bc3 BK181.out; obtain ⟨Ao141, co141, eo141⟩ := Kd.R_slice HO_182002.out; subst eo141) | (go_at_call 115; (with_reducible refine (spec_KeysOf.calls k1 a0_0 a0_1 _ _ x182002_1 t200 _ ?side1 ?side2 A69.out).mono ?_); (case side1 => repeat (first | exact (Kd.R_reads' HO_182002.out).2.2 | (with_reducible refine Kd.C_alloc ?_ _) | (with_reducible refine Kd.C_drewN ?_ _) | (with_reducible refine Kd.C_drew ?_))); (case side2 => exact (Kd.R_reads' HO_182002.out).2.1); rintro e w142 ⟨v201, rfl, ho0, hb⟩; have n0_ := Aside0.mk (Kd.R_below (tR HO_182002) hb); have n1_ := Aside0.mk (Kd.R_below (tR HO_183002) hb); have n2_ := Aside0.mk (Kd.R_lower ho0 (below_size tB)); have n3_ := Aside0.mk (blk_below (g := gb178) (o := .cells #[.int .i64 a0_0, .int .i64 a0_1, .slice A0_2 l0_2.length c0_2] 76 (0, 0)) (tK BK178) hb); have n4_ := Aside0.mk (blk_below (g := gb179) (o := .cells #[.int .i64 0, .int .i64 0, .slice none 0 0] 76 (0, 0)) (tK BK179) hb); have n5_ := Aside0.mk (blk_below (g := gb180) (o := .cells #[.int .i64 0, .int .i64 0, .slice none 0 0] 76 (0, 0)) (tK BK180) hb); have n6_ := Aside0.mk (blk_below (g := gb181) (o := .cells #[.int .i64 a0_0, .int .i64 a0_1, .slice Ao141 x182002_1.length co141] 76 (0, 0)) (tK BK181) hb); have n7_ := Aside0.mk (blk_below (g := gb182) (o := .cells #[.int .i64 a2, .int .i64 a0_1, .slice Ao137 x183002_1.length co137] 76 (0, 0)) (tK BK182) hb); have n8_ := Aside0.mk (below_step tB hb); clear HO_182002; clear HO_183002; clear BK178; clear BK179; clear BK180; clear BK181; clear BK182; clear HB; have HO_182002 := n0_; have HO_183002 := n1_; have HO202 := n2_; have BK178 := n3_; have BK179 := n4_; have BK180 := n5_; have BK181 := n6_; have BK182 := n7_; have HB := n8_; clear n0_ n1_ n2_ n3_ n4_ n5_ n6_ n7_ n8_; (try clear hb); (try clear hb2); (try clear hk); (try clear hi); (try clear ho0); obtain ⟨Ao143, co143, eo143⟩ := Kd.R_slice HO202.out; subst eo143; obtain ⟨hcz144_0, hcz144_1, hcz144_2, hfz144_0, hfz144_1, hfz144_2⟩ := bc3 BK182.out) | (go_at_call 115; (with_reducible refine (spec_KeysOf.calls k1 a2 a0_1 _ _ x183002_1 t208 _ ?side1 ?side2 A96.out).mono ?_); (case side1 => repeat (first | exact (Kd.R_reads' HO_183002.out).2.2 | (with_reducible refine Kd.C_alloc ?_ _) | (with_reducible refine Kd.C_drewN ?_ _) | (with_reducible refine Kd.C_drew ?_))); (case side2 => exact (Kd.R_reads' HO_183002.out).2.1); rintro e w145 ⟨v209, rfl, ho0, hb⟩; have n0_ := Aside0.mk (Kd.R_below (tR HO_182002) hb); have n1_ := Aside0.mk (Kd.R_below (tR HO_183002) hb); have n2_ := Aside0.mk (Kd.R_elder' (tR HO202) (Kd.R_base ho0) hb); have n3_ := Aside0.mk (Kd.R_lower (Kd.R_new' ho0 (Kd.R_lt (tR HO202))) (below_size tB)); have n4_ := Aside0.mk (blk_below (g := gb178) (o := .cells #[.int .i64 a0_0, .int .i64 a0_1, .slice A0_2 l0_2.length c0_2] 76 (0, 0)) (tK BK178) hb); have n5_ := Aside0.mk (blk_below (g := gb179) (o := .cells #[.int .i64 0, .int .i64 0, .slice none 0 0] 76 (0, 0)) (tK BK179) hb); have n6_ := Aside0.mk (blk_below (g := gb180) (o := .cells #[.int .i64 0, .int .i64 0, .slice none 0 0] 76 (0, 0)) (tK BK180) hb); have n7_ := Aside0.mk (blk_below (g := gb181) (o := .cells #[.int .i64 a0_0, .int .i64 a0_1, .slice Ao141 x182002_1.length co141] 76 (0, 0)) (tK BK181) hb); have n8_ := Aside0.mk (blk_below (g := gb182) (o := .cells #[.int .i64 a2, .int .i64 a0_1, .slice Ao137 x183002_1.length co137] 76 (0, 0)) (tK BK182) hb); have n9_ := Aside0.mk (below_step tB hb); clear HO_182002; clear HO_183002; clear HO202; clear BK178; clear BK179; clear BK180; clear BK181; clear BK182; clear HB; have HO_182002 := n0_; have HO_183002 := n1_; have HO202 := n2_; have HO210 := n3_; have BK178 := n4_; have BK179 := n5_; have BK180 := n6_; have BK181 := n7_; have BK182 := n8_; have HB := n9_; clear n0_ n1_ n2_ n3_ n4_ n5_ n6_ n7_ n8_ n9_; (try clear hb); (try clear hb2); (try clear hk); (try clear hi); (try clear ho0); obtain ⟨Ao146, co146, eo146⟩ := Kd.R_slice HO210.out; subst eo146))
          have n0_ := Aside0.mk (Kd.R_drew HO_182002.out)
          have n1_ := Aside0.mk (Kd.R_drew HO_183002.out)
          have n2_ := Aside0.mk (Kd.R_drew HO202.out)
          have n3_ := Aside0.mk (Kd.R_drew HO210.out)
          have n4_ := Aside0.mk (blk_drew BK178.out)
          have n5_ := Aside0.mk (blk_drew BK179.out)
          have n6_ := Aside0.mk (blk_drew BK180.out)
          have n7_ := Aside0.mk (blk_drew BK181.out)
          have n8_ := Aside0.mk (blk_drew BK182.out)
          have n9_ := Aside0.mk (below_drew1 HB.out)
          clear HO_182002
          clear HO_183002
          clear HO202
          clear HO210
          clear BK178
          clear BK179
          clear BK180
          clear BK181
          clear BK182
          clear HB
          have HO_182002 := n0_
          have HO_183002 := n1_
          have HO202 := n2_
          have HO210 := n3_
          have BK178 := n4_
          have BK179 := n5_
          have BK180 := n6_
          have BK181 := n7_
          have BK182 := n8_
          have HB := n9_
          clear n0_ n1_ n2_ n3_ n4_ n5_ n6_ n7_ n8_ n9_
          refine start_ (n := 5) (S := fun w' => w'.cell? ⟨gb181, 0, none⟩ = some (.int .i64 a0_0) ∧ w'.cell? ⟨gb181, 1, none⟩ = some (.int .i64 a0_1) ∧ w'.cell? ⟨gb181, 2, none⟩ = some (.slice Ao141 x182002_1.length co141) ∧ w'.cell? ⟨gb182, 0, none⟩ = some (.int .i64 a2) ∧ w'.cell? ⟨gb182, 1, none⟩ = some (.int .i64 a0_1) ∧ w'.cell? ⟨gb182, 2, none⟩ = some (.slice Ao137 x183002_1.length co137)) (ds := []) #[false, false, false, false, false] (by kernel_rfl) rfl rfl ⟨(blk_cell BK181.out 0).trans rfl, (blk_cell BK181.out 1).trans rfl, (blk_cell BK181.out 2).trans rfl, (blk_cell BK182.out 0).trans rfl, (blk_cell BK182.out 1).trans rfl, (blk_cell BK182.out 2).trans rfl⟩ (fun hHeld => ?_)
          generalize w145.drew = w147 at HO_182002 HO_183002 HO202 HO210 BK178 BK179 BK180 BK181 BK182 HB hHeld ⊢
          refine take_ (i := 0) (N := some 93) (v := ?_) (a' := ?_) #[true, false, false, false, false] rfl rfl (by kernel_rfl) (fun _ _ _ h => h) (Or.inl ⟨by rfl, ?_⟩) hHeld ?_ ?_
          rotate_left
          ·rintro w' ⟨s0, s1, s2, s3, s4, s5⟩
           go_simp
           with_reducible rfl
          rotate_left
          ·simp only [Act.put, List.setIfInBounds_toArray, List.set_cons_zero, List.set_cons_succ, i64_w, i32_w]
           rfl
          refine take_ (i := 1) (N := some 94) (v := ?_) (a' := ?_) #[true, true, false, false, false] rfl rfl (by kernel_rfl) (fun _ _ _ h => h) (Or.inl ⟨by rfl, ?_⟩) hHeld ?_ ?_
          rotate_left
          ·rintro w' ⟨s0, s1, s2, s3, s4, s5⟩
           go_simp
           with_reducible rfl
          rotate_left
          ·simp only [Act.put, List.setIfInBounds_toArray, List.set_cons_zero, List.set_cons_succ, i64_w, i32_w]
           rfl
          refine one_ (i := 2) (N := none) #[true, true, true, false, false] rfl rfl (by kernel_rfl) (by decide) (fun K hK => ?_)
          have hs148 : w147.cell? ⟨gb179, 0, none⟩ = some (.int .i64 0) := (blk_cell BK179.out 0).trans rfl
          have hfs148 := blk_frozen BK179.out 0
          have hns148_0 := NB178_179.out
          have hns148_2 := NB180_179.out
          have hns148_3 := NB181_179.out
          have hns148_4 := NB182_179.out
          have hms148_0 := NB179_178.out
          have hms148_2 := NB179_180.out
          have hms148_3 := NB179_181.out
          have hms148_4 := NB179_182.out
          have hs149 : w147.cell? ⟨gb179, 1, none⟩ = some (.int .i64 0) := (blk_cell BK179.out 1).trans rfl
          have hfs149 := blk_frozen BK179.out 1
          have hns149_0 := NB178_179.out
          have hns149_2 := NB180_179.out
          have hns149_3 := NB181_179.out
          have hns149_4 := NB182_179.out
          have hms149_0 := NB179_178.out
          have hms149_2 := NB179_180.out
          have hms149_3 := NB179_181.out
          have hms149_4 := NB179_182.out
          have hs150 : w147.cell? ⟨gb179, 2, none⟩ = some (.slice none 0 0) := (blk_cell BK179.out 2).trans rfl
          have hfs150 := blk_frozen BK179.out 2
          have hns150_0 := NB178_179.out
          have hns150_2 := NB180_179.out
          have hns150_3 := NB181_179.out
          have hns150_4 := NB182_179.out
          have hms150_0 := NB179_178.out
          have hms150_2 := NB179_180.out
          have hms150_3 := NB179_181.out
          have hms150_4 := NB179_182.out
          refine skip_ (w1 := ?_) (by rfl) rfl ?_ ?_
          rotate_left
          ·go_simp
           rfl
          refine hK.out _ _ ⟨((cell_far (p := ⟨gb179, _, none⟩) NB181_179.out _).trans (((cell_far (p := ⟨gb179, _, none⟩) NB181_179.out _).trans (((cell_far (p := ⟨gb179, _, none⟩) NB181_179.out _).trans (hHeld.1)))))), ((cell_far (p := ⟨gb179, _, none⟩) NB181_179.out _).trans (((cell_far (p := ⟨gb179, _, none⟩) NB181_179.out _).trans (((cell_far (p := ⟨gb179, _, none⟩) NB181_179.out _).trans (hHeld.2.1)))))), ((cell_far (p := ⟨gb179, _, none⟩) NB181_179.out _).trans (((cell_far (p := ⟨gb179, _, none⟩) NB181_179.out _).trans (((cell_far (p := ⟨gb179, _, none⟩) NB181_179.out _).trans (hHeld.2.2.1)))))), ((cell_far (p := ⟨gb179, _, none⟩) NB182_179.out _).trans (((cell_far (p := ⟨gb179, _, none⟩) NB182_179.out _).trans (((cell_far (p := ⟨gb179, _, none⟩) NB182_179.out _).trans (hHeld.2.2.2.1)))))), ((cell_far (p := ⟨gb179, _, none⟩) NB182_179.out _).trans (((cell_far (p := ⟨gb179, _, none⟩) NB182_179.out _).trans (((cell_far (p := ⟨gb179, _, none⟩) NB182_179.out _).trans (hHeld.2.2.2.2.1)))))), ((cell_far (p := ⟨gb179, _, none⟩) NB182_179.out _).trans (((cell_far (p := ⟨gb179, _, none⟩) NB182_179.out _).trans (((cell_far (p := ⟨gb179, _, none⟩) NB182_179.out _).trans (hHeld.2.2.2.2.2))))))⟩ (fun hHeld => ?_)
          clear hK K
          refine one_ (i := 3) (N := none) #[true, true, true, true, false] rfl rfl (by kernel_rfl) (by decide) (fun K hK => ?_)
          have hs151 : w147.cell? ⟨gb180, 0, none⟩ = some (.int .i64 0) := (blk_cell BK180.out 0).trans rfl
          have hfs151 := blk_frozen BK180.out 0
          have hns151_0 := NB178_180.out
          have hns151_1 := NB179_180.out
          have hns151_3 := NB181_180.out
          have hns151_4 := NB182_180.out
          have hms151_0 := NB180_178.out
          have hms151_1 := NB180_179.out
          have hms151_3 := NB180_181.out
          have hms151_4 := NB180_182.out
          have hs152 : w147.cell? ⟨gb180, 1, none⟩ = some (.int .i64 0) := (blk_cell BK180.out 1).trans rfl
          have hfs152 := blk_frozen BK180.out 1
          have hns152_0 := NB178_180.out
          have hns152_1 := NB179_180.out
          have hns152_3 := NB181_180.out
          have hns152_4 := NB182_180.out
          have hms152_0 := NB180_178.out
          have hms152_1 := NB180_179.out
          have hms152_3 := NB180_181.out
          have hms152_4 := NB180_182.out
          have hs153 : w147.cell? ⟨gb180, 2, none⟩ = some (.slice none 0 0) := (blk_cell BK180.out 2).trans rfl
          have hfs153 := blk_frozen BK180.out 2
          have hns153_0 := NB178_180.out
          have hns153_1 := NB179_180.out
          have hns153_3 := NB181_180.out
          have hns153_4 := NB182_180.out
          have hms153_0 := NB180_178.out
          have hms153_1 := NB180_179.out
          have hms153_3 := NB180_181.out
          have hms153_4 := NB180_182.out
          refine skip_ (w1 := ?_) (by rfl) rfl ?_ ?_
          rotate_left
          ·go_simp
           rfl
          refine hK.out _ _ ⟨((cell_far (p := ⟨gb180, _, none⟩) NB181_180.out _).trans (((cell_far (p := ⟨gb180, _, none⟩) NB181_180.out _).trans (((cell_far (p := ⟨gb180, _, none⟩) NB181_180.out _).trans (hHeld.1)))))), ((cell_far (p := ⟨gb180, _, none⟩) NB181_180.out _).trans (((cell_far (p := ⟨gb180, _, none⟩) NB181_180.out _).trans (((cell_far (p := ⟨gb180, _, none⟩) NB181_180.out _).trans (hHeld.2.1)))))), ((cell_far (p := ⟨gb180, _, none⟩) NB181_180.out _).trans (((cell_far (p := ⟨gb180, _, none⟩) NB181_180.out _).trans (((cell_far (p := ⟨gb180, _, none⟩) NB181_180.out _).trans (hHeld.2.2.1)))))), ((cell_far (p := ⟨gb180, _, none⟩) NB182_180.out _).trans (((cell_far (p := ⟨gb180, _, none⟩) NB182_180.out _).trans (((cell_far (p := ⟨gb180, _, none⟩) NB182_180.out _).trans (hHeld.2.2.2.1)))))), ((cell_far (p := ⟨gb180, _, none⟩) NB182_180.out _).trans (((cell_far (p := ⟨gb180, _, none⟩) NB182_180.out _).trans (((cell_far (p := ⟨gb180, _, none⟩) NB182_180.out _).trans (hHeld.2.2.2.2.1)))))), ((cell_far (p := ⟨gb180, _, none⟩) NB182_180.out _).trans (((cell_far (p := ⟨gb180, _, none⟩) NB182_180.out _).trans (((cell_far (p := ⟨gb180, _, none⟩) NB182_180.out _).trans (hHeld.2.2.2.2.2))))))⟩ (fun hHeld => ?_)
          clear hK K
          refine pure_ (i := 4) (N := some 8) (v := ?_) (a' := ?_) #[true, true, true, true, true] rfl rfl (by kernel_rfl) (fun _ _ _ h => h) (Or.inl ⟨by rfl, ?_⟩) ?_ ?_
          rotate_left
          ·intro w'
           go_simp
           with_reducible rfl
          rotate_left
          ·simp only [Act.put, List.setIfInBounds_toArray, List.set_cons_zero, List.set_cons_succ, i64_w, i32_w]
           rfl
          refine done_ (by kernel_rfl) ?_
          try go_wp2
          refine bodyPost_ret (results_list (rs := [.cell 6 76, .cell 7 76, .tmp 8]) rfl (by simp) (.cell gb179 76 #[.int .i64 a0_0, .int .i64 a0_1, .slice Ao141 x182002_1.length co141] (0, 0) _ rfl (by (with_reducible repeat (first | refine blk_drewN ?_ _ | refine blk_drew ?_ | refine blk_alloc ?_ _)); refine blk_far ?_ NB179_180.out _; (with_reducible repeat (first | refine blk_drewN ?_ _ | refine blk_drew ?_ | refine blk_alloc ?_ _)); refine blk_far ?_ NB179_180.out _; (with_reducible repeat (first | refine blk_drewN ?_ _ | refine blk_drew ?_ | refine blk_alloc ?_ _)); refine blk_far ?_ NB179_180.out _; (with_reducible repeat (first | refine blk_drewN ?_ _ | refine blk_drew ?_ | refine blk_alloc ?_ _)); refine blk_put (cs := #[.int .i64 a0_0, .int .i64 a0_1, .slice none 0 0]) ?_ 2 _ rfl; (with_reducible repeat (first | refine blk_drewN ?_ _ | refine blk_drew ?_ | refine blk_alloc ?_ _)); refine blk_put (cs := #[.int .i64 a0_0, .int .i64 0, .slice none 0 0]) ?_ 1 _ rfl; (with_reducible repeat (first | refine blk_drewN ?_ _ | refine blk_drew ?_ | refine blk_alloc ?_ _)); refine blk_put (cs := #[.int .i64 0, .int .i64 0, .slice none 0 0]) ?_ 0 _ rfl; (with_reducible repeat (first | refine blk_drewN ?_ _ | refine blk_drew ?_ | refine blk_alloc ?_ _)); exact BK179.out) Try.underlying76 rfl (by kernel_rfl) (.cell gb180 76 #[.int .i64 a2, .int .i64 a0_1, .slice Ao137 x183002_1.length co137] (0, 0) _ rfl (by (with_reducible repeat (first | refine blk_drewN ?_ _ | refine blk_drew ?_ | refine blk_alloc ?_ _)); refine blk_put (cs := #[.int .i64 a2, .int .i64 a0_1, .slice none 0 0]) ?_ 2 _ rfl; (with_reducible repeat (first | refine blk_drewN ?_ _ | refine blk_drew ?_ | refine blk_alloc ?_ _)); refine blk_put (cs := #[.int .i64 a2, .int .i64 0, .slice none 0 0]) ?_ 1 _ rfl; (with_reducible repeat (first | refine blk_drewN ?_ _ | refine blk_drew ?_ | refine blk_alloc ?_ _)); refine blk_put (cs := #[.int .i64 0, .int .i64 0, .slice none 0 0]) ?_ 0 _ rfl; (with_reducible repeat (first | refine blk_drewN ?_ _ | refine blk_drew ?_ | refine blk_alloc ?_ _)); refine blk_far ?_ NB180_179.out _; (with_reducible repeat (first | refine blk_drewN ?_ _ | refine blk_drew ?_ | refine blk_alloc ?_ _)); refine blk_far ?_ NB180_179.out _; (with_reducible repeat (first | refine blk_drewN ?_ _ | refine blk_drew ?_ | refine blk_alloc ?_ _)); refine blk_far ?_ NB180_179.out _; (with_reducible repeat (first | refine blk_drewN ?_ _ | refine blk_drew ?_ | refine blk_alloc ?_ _)); exact BK180.out) Try.underlying76 rfl (by kernel_rfl) (.tmp .nil)))) rfl ?_
          exact ⟨_, _, tE, by (with_reducible repeat (first | apply Kd.R_alloc | apply Kd.R_drewN | apply Kd.R_drew)); exact Kd.R_mono (Kd.R_far (p := ⟨gb180, 2, none⟩) (Kd.R_far (p := ⟨gb180, 1, none⟩) (Kd.R_far (p := ⟨gb180, 0, none⟩) (Kd.R_far (p := ⟨gb179, 2, none⟩) (Kd.R_far (p := ⟨gb179, 1, none⟩) (Kd.R_far (p := ⟨gb179, 0, none⟩) (Kd.R_types (Kd.R_types HO_182002.out BK179.out (by decide)) BK180.out (by decide)) (fun _ hk => hk.1.2) (.int .i64 a0_0)) (fun _ hk => hk.1.2) (.int .i64 a0_1)) (fun _ hk => hk.1.2) (.slice Ao141 x182002_1.length co141)) (fun _ hk => hk.2) (.int .i64 a2)) (fun _ hk => hk.2) (.int .i64 a0_1)) (fun _ hk => hk.2) (.slice Ao137 x183002_1.length co137)) (fun _ hk => hk.1.1), by (with_reducible repeat (first | apply Kd.R_alloc | apply Kd.R_drewN | apply Kd.R_drew)); exact Kd.R_mono (Kd.R_far (p := ⟨gb180, 2, none⟩) (Kd.R_far (p := ⟨gb180, 1, none⟩) (Kd.R_far (p := ⟨gb180, 0, none⟩) (Kd.R_far (p := ⟨gb179, 2, none⟩) (Kd.R_far (p := ⟨gb179, 1, none⟩) (Kd.R_far (p := ⟨gb179, 0, none⟩) (Kd.R_types (Kd.R_types HO_183002.out BK179.out (by decide)) BK180.out (by decide)) (fun _ hk => hk.1.2) (.int .i64 a0_0)) (fun _ hk => hk.1.2) (.int .i64 a0_1)) (fun _ hk => hk.1.2) (.slice Ao141 x182002_1.length co141)) (fun _ hk => hk.2) (.int .i64 a2)) (fun _ hk => hk.2) (.int .i64 a0_1)) (fun _ hk => hk.2) (.slice Ao137 x183002_1.length co137)) (fun _ hk => hk.1.1), tB⟩
       ·rw [if_neg c68] at H
        have c68b0 : ((x183002_1.length : Int) == (l1.length : Int)) = false := beq_eq_false_iff_ne.mpr c68
        have c68b1 : ((x183002_1.length : Int) != (l1.length : Int)) = true := bne_iff_ne.mpr c68
        have c68b2 : (x183002_1.length == l1.length) = false := by first | simpa using c68 | (simp at c68 ⊢; omega)
        replace H := Option.bind_eq_some_iff.mp H
        obtain ⟨⟨t216, t217, t218⟩, A1540, H⟩ := H
        replace H : (some (t216, t217, t218, 0, 0, ([] : List (S123)), false)) = some (r1, r2, r3, r4, r5, r6, r7) := H
        have A154 := Aside0.mk A1540
        clear A1540
        simp only [Option.some.injEq, Prod.mk.injEq] at H
        obtain ⟨rfl, rfl, rfl, rfl, rfl, rfl, rfl⟩ := H
        have hnb155 := NB178_179.out
        have hnc155 := NB179_178.out
        have hnb156 := NB178_180.out
        have hnc156 := NB180_178.out
        have hnb157 := NB178_181.out
        have hnc157 := NB181_178.out
        have hnb158 := NB178_182.out
        have hnc158 := NB182_178.out
        obtain ⟨hcz159_0, hcz159_1, hcz159_2, hfz159_0, hfz159_1, hfz159_2⟩ := bc3 BK178.out
        go_wp2_with (first | ((with_reducible refine gate_callee (f := 103) rfl ?_); refine goesL_ (some 57) rfl rfl Try.func103 (by kernel_rfl) rfl #[.agg #[.int .i64 a0_0, .int .i64 a0_1, .slice A0_2 l0_2.length c0_2]] rfl tL ?_; (with_reducible refine (spec_IsValidAccount.calls k1 a0_0 a0_1 _ _ l0_2 true _ ?side1 ?side2 A46.out).mono ?_); (case side1 => repeat (first | exact (Kd.C_below HR0_2.out HB.out) | (with_reducible refine Kd.C_alloc ?_ _) | (with_reducible refine Kd.C_drewN ?_ _) | (with_reducible refine Kd.C_drew ?_))); (case side2 => exact HC0_2.out); rintro e w160 ⟨rfl, hb⟩; refine ⟨_, rfl, ?_⟩; have n0_ := Aside0.mk (Kd.R_below (tR HO_182002) hb); have n1_ := Aside0.mk (Kd.R_below (tR HO_183002) hb); have n2_ := Aside0.mk (blk_below (g := gb178) (o := .cells #[.int .i64 a0_0, .int .i64 a0_1, .slice A0_2 l0_2.length c0_2] 76 (0, 0)) (tK BK178) hb); have n3_ := Aside0.mk (blk_below (g := gb179) (o := .cells #[.int .i64 0, .int .i64 0, .slice none 0 0] 76 (0, 0)) (tK BK179) hb); have n4_ := Aside0.mk (blk_below (g := gb180) (o := .cells #[.int .i64 0, .int .i64 0, .slice none 0 0] 76 (0, 0)) (tK BK180) hb); have n5_ := Aside0.mk (blk_below (g := gb181) (o := .cells #[.int .i64 a0_0, .int .i64 a0_1, u182002] 76 (0, 0)) (tK BK181) hb); have n6_ := Aside0.mk (blk_below (g := gb182) (o := .cells #[.int .i64 a2, .int .i64 a0_1, u183002] 76 (0, 0)) (tK BK182) hb); have n7_ := Aside0.mk (below_step tB hb); clear HO_182002; clear HO_183002; clear BK178; clear BK179; clear BK180; clear BK181; clear BK182; clear HB; have HO_182002 := n0_; have HO_183002 := n1_; have BK178 := n2_; have BK179 := n3_; have BK180 := n4_; have BK181 := n5_; have BK182 := n6_; have HB := n7_; clear n0_ n1_ n2_ n3_ n4_ n5_ n6_ n7_; (try clear hb); (try clear hb2); (try clear hk); (try clear hi)) | (go_at_call 81; (with_reducible refine (spec_l1In.calls a2 0 1000000 true _ A48.out).mono ?_); rintro e w' ⟨rfl, ⟨nd, rfl⟩⟩; (try (rw [drewN_self w160]; generalize hq_ : World.drewN w160 _ = w160; have n0_ : Aside0 (Kd.R k123 123 w160 w.heap.size (fun k_ => some k_ ≠ (u183002 : Value).ownBlock) u182002 x182002_1) := ⟨by rw [← hq_]; exact (tR HO_182002)⟩; have n1_ : Aside0 (Kd.R k123 123 w160 w.heap.size (fun k_ => some k_ ≠ (u182002 : Value).ownBlock) u183002 x183002_1) := ⟨by rw [← hq_]; exact (tR HO_183002)⟩; have n2_ : Aside0 (w160.heap[gb178]? = some (.cells #[.int .i64 a0_0, .int .i64 a0_1, .slice A0_2 l0_2.length c0_2] 76 (0, 0))) := ⟨by rw [← hq_]; exact (tK BK178)⟩; have n3_ : Aside0 (w160.heap[gb179]? = some (.cells #[.int .i64 0, .int .i64 0, .slice none 0 0] 76 (0, 0))) := ⟨by rw [← hq_]; exact (tK BK179)⟩; have n4_ : Aside0 (w160.heap[gb180]? = some (.cells #[.int .i64 0, .int .i64 0, .slice none 0 0] 76 (0, 0))) := ⟨by rw [← hq_]; exact (tK BK180)⟩; have n5_ : Aside0 (w160.heap[gb181]? = some (.cells #[.int .i64 a0_0, .int .i64 a0_1, u182002] 76 (0, 0))) := ⟨by rw [← hq_]; exact (tK BK181)⟩; have n6_ : Aside0 (w160.heap[gb182]? = some (.cells #[.int .i64 a2, .int .i64 a0_1, u183002] 76 (0, 0))) := ⟨by rw [← hq_]; exact (tK BK182)⟩; have n7_ : Aside0 (Below w.heap.size w w160) := ⟨by rw [← hq_]; exact tB⟩; clear HO_182002 HO_183002 BK178 BK179 BK180 BK181 BK182 HB hq_; have HO_182002 := n0_; have HO_183002 := n1_; have BK178 := n2_; have BK179 := n3_; have BK180 := n4_; have BK181 := n5_; have BK182 := n6_; have HB := n7_; clear n0_ n1_ n2_ n3_ n4_ n5_ n6_ n7_)); obtain ⟨hcz161_0, hcz161_1, hcz161_2, hfz161_0, hfz161_1, hfz161_2⟩ := bc3 BK178.out; have hnb162 := NB182_179.out; have hnc162 := NB179_182.out; have hnb163 := NB182_180.out; have hnc163 := NB180_182.out; have hnb164 := NB182_181.out; have hnc164 := NB181_182.out; obtain ⟨hcz165_0, hcz165_1, hcz165_2, hfz165_0, hfz165_1, hfz165_2⟩ := bc3 BK182.out; obtain ⟨Ao166, co166, eo166⟩ := Kd.R_slice HO_183002.out; subst eo166) | ((with_reducible refine gate_callee (f := 101) rfl ?_); refine goesL_ (some 91) rfl rfl Try.func101 (by kernel_rfl) rfl #[.agg #[.int .i64 a0_0, .int .i64 a0_1, .slice A0_2 l0_2.length c0_2]] rfl tL ?_; (with_reducible refine (spec_l14Copy.calls a0_0 a0_1 _ _ l0_2 t216 t217 t218 _ ?side1 ?side2 A154.out).mono ?_); (case side1 => repeat (first | exact (Kd.C_below HR0_2.out HB.out) | (with_reducible refine Kd.C_alloc ?_ _) | (with_reducible refine Kd.C_drewN ?_ _) | (with_reducible refine Kd.C_drew ?_))); (case side2 => exact HC0_2.out); rintro e w167 ⟨v219, rfl, ho0, hb⟩; refine ⟨_, rfl, ?_⟩; have n0_ := Aside0.mk (Kd.R_elder' (tR HO_182002) (Kd.R_base ho0) hb); have n1_ := Aside0.mk (Kd.R_elder' (tR HO_183002) (Kd.R_base ho0) hb); have n2_ := Aside0.mk (Kd.R_lower (Kd.R_new' (Kd.R_new' ho0 (Kd.R_lt (tR HO_182002))) (Kd.R_lt (tR HO_183002))) (below_size tB)); have n3_ := Aside0.mk (blk_below (g := gb178) (o := .cells #[.int .i64 a0_0, .int .i64 a0_1, .slice A0_2 l0_2.length c0_2] 76 (0, 0)) (tK BK178) hb); have n4_ := Aside0.mk (blk_below (g := gb179) (o := .cells #[.int .i64 0, .int .i64 0, .slice none 0 0] 76 (0, 0)) (tK BK179) hb); have n5_ := Aside0.mk (blk_below (g := gb180) (o := .cells #[.int .i64 0, .int .i64 0, .slice none 0 0] 76 (0, 0)) (tK BK180) hb); have n6_ := Aside0.mk (blk_below (g := gb181) (o := .cells #[.int .i64 a0_0, .int .i64 a0_1, u182002] 76 (0, 0)) (tK BK181) hb); have n7_ := Aside0.mk (blk_below (g := gb182) (o := .cells #[.int .i64 a2, .int .i64 a0_1, .slice Ao166 x183002_1.length co166] 76 (0, 0)) (tK BK182) hb); have n8_ := Aside0.mk (below_step tB hb); clear HO_182002; clear HO_183002; clear BK178; clear BK179; clear BK180; clear BK181; clear BK182; clear HB; have HO_182002 := n0_; have HO_183002 := n1_; have HO220 := n2_; have BK178 := n3_; have BK179 := n4_; have BK180 := n5_; have BK181 := n6_; have BK182 := n7_; have HB := n8_; clear n0_ n1_ n2_ n3_ n4_ n5_ n6_ n7_ n8_; (try clear hb); (try clear hb2); (try clear hk); (try clear hi); (try clear ho0); have hnb168 := NB179_180.out; have hnc168 := NB180_179.out; have hnb169 := NB179_181.out; have hnc169 := NB181_179.out; obtain ⟨hcz170_0, hcz170_1, hcz170_2, hfz170_0, hfz170_1, hfz170_2⟩ := bc3 BK179.out; obtain ⟨Ao171, co171, eo171⟩ := Kd.R_slice HO220.out; subst eo171; have hnb172 := NB180_181.out; have hnc172 := NB181_180.out; obtain ⟨hcz173_0, hcz173_1, hcz173_2, hfz173_0, hfz173_1, hfz173_2⟩ := bc3 BK180.out))
        refine bodyPost_ret (results_list (rs := [.cell 6 76, .cell 7 76, .tmp 8]) rfl (by simp) (.cell gb179 76 #[.int .i64 t216, .int .i64 t217, .slice Ao171 t218.length co171] (0, 0) _ rfl (by (with_reducible repeat (first | refine blk_drewN ?_ _ | refine blk_drew ?_ | refine blk_alloc ?_ _)); refine blk_far ?_ NB179_180.out _; (with_reducible repeat (first | refine blk_drewN ?_ _ | refine blk_drew ?_ | refine blk_alloc ?_ _)); refine blk_far ?_ NB179_180.out _; (with_reducible repeat (first | refine blk_drewN ?_ _ | refine blk_drew ?_ | refine blk_alloc ?_ _)); refine blk_far ?_ NB179_180.out _; (with_reducible repeat (first | refine blk_drewN ?_ _ | refine blk_drew ?_ | refine blk_alloc ?_ _)); refine blk_put (cs := #[.int .i64 t216, .int .i64 t217, .slice none 0 0]) ?_ 2 _ rfl; (with_reducible repeat (first | refine blk_drewN ?_ _ | refine blk_drew ?_ | refine blk_alloc ?_ _)); refine blk_put (cs := #[.int .i64 t216, .int .i64 0, .slice none 0 0]) ?_ 1 _ rfl; (with_reducible repeat (first | refine blk_drewN ?_ _ | refine blk_drew ?_ | refine blk_alloc ?_ _)); refine blk_put (cs := #[.int .i64 0, .int .i64 0, .slice none 0 0]) ?_ 0 _ rfl; (with_reducible repeat (first | refine blk_drewN ?_ _ | refine blk_drew ?_ | refine blk_alloc ?_ _)); exact BK179.out) Try.underlying76 rfl (by kernel_rfl) (.cell gb180 76 #[.int .i64 0, .int .i64 0, .slice none 0 0] (0, 0) _ rfl (by (with_reducible repeat (first | refine blk_drewN ?_ _ | refine blk_drew ?_ | refine blk_alloc ?_ _)); refine blk_put (cs := #[.int .i64 0, .int .i64 0, .slice none 0 0]) ?_ 2 _ rfl; (with_reducible repeat (first | refine blk_drewN ?_ _ | refine blk_drew ?_ | refine blk_alloc ?_ _)); refine blk_put (cs := #[.int .i64 0, .int .i64 0, .slice none 0 0]) ?_ 1 _ rfl; (with_reducible repeat (first | refine blk_drewN ?_ _ | refine blk_drew ?_ | refine blk_alloc ?_ _)); refine blk_put (cs := #[.int .i64 0, .int .i64 0, .slice none 0 0]) ?_ 0 _ rfl; (with_reducible repeat (first | refine blk_drewN ?_ _ | refine blk_drew ?_ | refine blk_alloc ?_ _)); refine blk_far ?_ NB180_179.out _; (with_reducible repeat (first | refine blk_drewN ?_ _ | refine blk_drew ?_ | refine blk_alloc ?_ _)); refine blk_far ?_ NB180_179.out _; (with_reducible repeat (first | refine blk_drewN ?_ _ | refine blk_drew ?_ | refine blk_alloc ?_ _)); refine blk_far ?_ NB180_179.out _; (with_reducible repeat (first | refine blk_drewN ?_ _ | refine blk_drew ?_ | refine blk_alloc ?_ _)); exact BK180.out) Try.underlying76 rfl (by kernel_rfl) (.tmp .nil)))) rfl ?_
        exact ⟨_, _, tE, by (with_reducible repeat (first | apply Kd.R_alloc | apply Kd.R_drewN | apply Kd.R_drew)); exact Kd.R_mono (Kd.R_far (p := ⟨gb180, 2, none⟩) (Kd.R_far (p := ⟨gb180, 1, none⟩) (Kd.R_far (p := ⟨gb180, 0, none⟩) (Kd.R_far (p := ⟨gb179, 2, none⟩) (Kd.R_far (p := ⟨gb179, 1, none⟩) (Kd.R_far (p := ⟨gb179, 0, none⟩) (Kd.R_types (Kd.R_types HO220.out BK179.out (by decide)) BK180.out (by decide)) (fun _ hk => hk.1.2) (.int .i64 t216)) (fun _ hk => hk.1.2) (.int .i64 t217)) (fun _ hk => hk.1.2) (.slice Ao171 t218.length co171)) (fun _ hk => hk.2) (.int .i64 0)) (fun _ hk => hk.2) (.int .i64 0)) (fun _ hk => hk.2) (.slice none 0 0)) (fun _ hk => (by simp [Value.ownBlock])), by first | exact Kd.R_nil _ _ _ _ _ | exact Kd.N_nil _ _ _ _ _ | exact Kd.V_nil _ _ _ _ _ | exact Kd.Q_nil _ _ _ _ _ | exact Kd.S_nil _ _ _ _ _, tB⟩
     ·replace c49 := Bool.eq_false_iff.mpr c49
      subst c49
      have H1 : ((spec_l14Copy.f a0_0 a0_1 l0_2).bind fun bt221 => (some (bt221.1, bt221.2.1, bt221.2.2, 0, 0, ([] : List (S123)), false))) = some (r1, r2, r3, r4, r5, r6, r7) := by rw [if_neg (show ¬ (false = true) by decide)] at H; exact H
      clear H
      have H := H1
      clear H1
      replace H := Option.bind_eq_some_iff.mp H
      obtain ⟨⟨t221, t222, t223⟩, A1740, H⟩ := H
      replace H : (some (t221, t222, t223, 0, 0, ([] : List (S123)), false)) = some (r1, r2, r3, r4, r5, r6, r7) := H
      have A174 := Aside0.mk A1740
      clear A1740
      simp only [Option.some.injEq, Prod.mk.injEq] at H
      obtain ⟨rfl, rfl, rfl, rfl, rfl, rfl, rfl⟩ := H
      have hnb175 := NB178_179.out
      have hnc175 := NB179_178.out
      have hnb176 := NB178_180.out
      have hnc176 := NB180_178.out
      have hnb177 := NB178_181.out
      have hnc177 := NB181_178.out
      have hnb178 := NB178_182.out
      have hnc178 := NB182_178.out
      obtain ⟨hcz179_0, hcz179_1, hcz179_2, hfz179_0, hfz179_1, hfz179_2⟩ := bc3 BK178.out
      go_wp2_with (first | ((with_reducible refine gate_callee (f := 103) rfl ?_); refine goesL_ (some 57) rfl rfl Try.func103 (by kernel_rfl) rfl #[.agg #[.int .i64 a0_0, .int .i64 a0_1, .slice A0_2 l0_2.length c0_2]] rfl tL ?_; (with_reducible refine (spec_IsValidAccount.calls k1 a0_0 a0_1 _ _ l0_2 true _ ?side1 ?side2 A46.out).mono ?_); (case side1 => repeat (first | exact (Kd.C_below HR0_2.out HB.out) | (with_reducible refine Kd.C_alloc ?_ _) | (with_reducible refine Kd.C_drewN ?_ _) | (with_reducible refine Kd.C_drew ?_))); (case side2 => exact HC0_2.out); rintro e w180 ⟨rfl, hb⟩; refine ⟨_, rfl, ?_⟩; have n0_ := Aside0.mk (Kd.R_below (tR HO_182002) hb); have n1_ := Aside0.mk (Kd.R_below (tR HO_183002) hb); have n2_ := Aside0.mk (blk_below (g := gb178) (o := .cells #[.int .i64 a0_0, .int .i64 a0_1, .slice A0_2 l0_2.length c0_2] 76 (0, 0)) (tK BK178) hb); have n3_ := Aside0.mk (blk_below (g := gb179) (o := .cells #[.int .i64 0, .int .i64 0, .slice none 0 0] 76 (0, 0)) (tK BK179) hb); have n4_ := Aside0.mk (blk_below (g := gb180) (o := .cells #[.int .i64 0, .int .i64 0, .slice none 0 0] 76 (0, 0)) (tK BK180) hb); have n5_ := Aside0.mk (blk_below (g := gb181) (o := .cells #[.int .i64 a0_0, .int .i64 a0_1, u182002] 76 (0, 0)) (tK BK181) hb); have n6_ := Aside0.mk (blk_below (g := gb182) (o := .cells #[.int .i64 a2, .int .i64 a0_1, u183002] 76 (0, 0)) (tK BK182) hb); have n7_ := Aside0.mk (below_step tB hb); clear HO_182002; clear HO_183002; clear BK178; clear BK179; clear BK180; clear BK181; clear BK182; clear HB; have HO_182002 := n0_; have HO_183002 := n1_; have BK178 := n2_; have BK179 := n3_; have BK180 := n4_; have BK181 := n5_; have BK182 := n6_; have HB := n7_; clear n0_ n1_ n2_ n3_ n4_ n5_ n6_ n7_; (try clear hb); (try clear hb2); (try clear hk); (try clear hi)) | (go_at_call 81; (with_reducible refine (spec_l1In.calls a2 0 1000000 false _ A48.out).mono ?_); rintro e w' ⟨rfl, ⟨nd, rfl⟩⟩; (try (rw [drewN_self w180]; generalize hq_ : World.drewN w180 _ = w180; have n0_ : Aside0 (Kd.R k123 123 w180 w.heap.size (fun k_ => some k_ ≠ (u183002 : Value).ownBlock) u182002 x182002_1) := ⟨by rw [← hq_]; exact (tR HO_182002)⟩; have n1_ : Aside0 (Kd.R k123 123 w180 w.heap.size (fun k_ => some k_ ≠ (u182002 : Value).ownBlock) u183002 x183002_1) := ⟨by rw [← hq_]; exact (tR HO_183002)⟩; have n2_ : Aside0 (w180.heap[gb178]? = some (.cells #[.int .i64 a0_0, .int .i64 a0_1, .slice A0_2 l0_2.length c0_2] 76 (0, 0))) := ⟨by rw [← hq_]; exact (tK BK178)⟩; have n3_ : Aside0 (w180.heap[gb179]? = some (.cells #[.int .i64 0, .int .i64 0, .slice none 0 0] 76 (0, 0))) := ⟨by rw [← hq_]; exact (tK BK179)⟩; have n4_ : Aside0 (w180.heap[gb180]? = some (.cells #[.int .i64 0, .int .i64 0, .slice none 0 0] 76 (0, 0))) := ⟨by rw [← hq_]; exact (tK BK180)⟩; have n5_ : Aside0 (w180.heap[gb181]? = some (.cells #[.int .i64 a0_0, .int .i64 a0_1, u182002] 76 (0, 0))) := ⟨by rw [← hq_]; exact (tK BK181)⟩; have n6_ : Aside0 (w180.heap[gb182]? = some (.cells #[.int .i64 a2, .int .i64 a0_1, u183002] 76 (0, 0))) := ⟨by rw [← hq_]; exact (tK BK182)⟩; have n7_ : Aside0 (Below w.heap.size w w180) := ⟨by rw [← hq_]; exact tB⟩; clear HO_182002 HO_183002 BK178 BK179 BK180 BK181 BK182 HB hq_; have HO_182002 := n0_; have HO_183002 := n1_; have BK178 := n2_; have BK179 := n3_; have BK180 := n4_; have BK181 := n5_; have BK182 := n6_; have HB := n7_; clear n0_ n1_ n2_ n3_ n4_ n5_ n6_ n7_)); obtain ⟨hcz181_0, hcz181_1, hcz181_2, hfz181_0, hfz181_1, hfz181_2⟩ := bc3 BK178.out) | ((with_reducible refine gate_callee (f := 101) rfl ?_); refine goesL_ (some 91) rfl rfl Try.func101 (by kernel_rfl) rfl #[.agg #[.int .i64 a0_0, .int .i64 a0_1, .slice A0_2 l0_2.length c0_2]] rfl tL ?_; (with_reducible refine (spec_l14Copy.calls a0_0 a0_1 _ _ l0_2 t221 t222 t223 _ ?side1 ?side2 A174.out).mono ?_); (case side1 => repeat (first | exact (Kd.C_below HR0_2.out HB.out) | (with_reducible refine Kd.C_alloc ?_ _) | (with_reducible refine Kd.C_drewN ?_ _) | (with_reducible refine Kd.C_drew ?_))); (case side2 => exact HC0_2.out); rintro e w182 ⟨v224, rfl, ho0, hb⟩; refine ⟨_, rfl, ?_⟩; have n0_ := Aside0.mk (Kd.R_elder' (tR HO_182002) (Kd.R_base ho0) hb); have n1_ := Aside0.mk (Kd.R_elder' (tR HO_183002) (Kd.R_base ho0) hb); have n2_ := Aside0.mk (Kd.R_lower (Kd.R_new' (Kd.R_new' ho0 (Kd.R_lt (tR HO_182002))) (Kd.R_lt (tR HO_183002))) (below_size tB)); have n3_ := Aside0.mk (blk_below (g := gb178) (o := .cells #[.int .i64 a0_0, .int .i64 a0_1, .slice A0_2 l0_2.length c0_2] 76 (0, 0)) (tK BK178) hb); have n4_ := Aside0.mk (blk_below (g := gb179) (o := .cells #[.int .i64 0, .int .i64 0, .slice none 0 0] 76 (0, 0)) (tK BK179) hb); have n5_ := Aside0.mk (blk_below (g := gb180) (o := .cells #[.int .i64 0, .int .i64 0, .slice none 0 0] 76 (0, 0)) (tK BK180) hb); have n6_ := Aside0.mk (blk_below (g := gb181) (o := .cells #[.int .i64 a0_0, .int .i64 a0_1, u182002] 76 (0, 0)) (tK BK181) hb); have n7_ := Aside0.mk (blk_below (g := gb182) (o := .cells #[.int .i64 a2, .int .i64 a0_1, u183002] 76 (0, 0)) (tK BK182) hb); have n8_ := Aside0.mk (below_step tB hb); clear HO_182002; clear HO_183002; clear BK178; clear BK179; clear BK180; clear BK181; clear BK182; clear HB; have HO_182002 := n0_; have HO_183002 := n1_; have HO225 := n2_; have BK178 := n3_; have BK179 := n4_; have BK180 := n5_; have BK181 := n6_; have BK182 := n7_; have HB := n8_; clear n0_ n1_ n2_ n3_ n4_ n5_ n6_ n7_ n8_; (try clear hb); (try clear hb2); (try clear hk); (try clear hi); (try clear ho0); have hnb183 := NB179_180.out; have hnc183 := NB180_179.out; have hnb184 := NB179_181.out; have hnc184 := NB181_179.out; have hnb185 := NB179_182.out; have hnc185 := NB182_179.out; obtain ⟨hcz186_0, hcz186_1, hcz186_2, hfz186_0, hfz186_1, hfz186_2⟩ := bc3 BK179.out; obtain ⟨Ao187, co187, eo187⟩ := Kd.R_slice HO225.out; subst eo187; have hnb188 := NB180_181.out; have hnc188 := NB181_180.out; have hnb189 := NB180_182.out; have hnc189 := NB182_180.out; obtain ⟨hcz190_0, hcz190_1, hcz190_2, hfz190_0, hfz190_1, hfz190_2⟩ := bc3 BK180.out))
      refine bodyPost_ret (results_list (rs := [.cell 6 76, .cell 7 76, .tmp 8]) rfl (by simp) (.cell gb179 76 #[.int .i64 t221, .int .i64 t222, .slice Ao187 t223.length co187] (0, 0) _ rfl (by (with_reducible repeat (first | refine blk_drewN ?_ _ | refine blk_drew ?_ | refine blk_alloc ?_ _)); refine blk_far ?_ NB179_180.out _; (with_reducible repeat (first | refine blk_drewN ?_ _ | refine blk_drew ?_ | refine blk_alloc ?_ _)); refine blk_far ?_ NB179_180.out _; (with_reducible repeat (first | refine blk_drewN ?_ _ | refine blk_drew ?_ | refine blk_alloc ?_ _)); refine blk_far ?_ NB179_180.out _; (with_reducible repeat (first | refine blk_drewN ?_ _ | refine blk_drew ?_ | refine blk_alloc ?_ _)); refine blk_put (cs := #[.int .i64 t221, .int .i64 t222, .slice none 0 0]) ?_ 2 _ rfl; (with_reducible repeat (first | refine blk_drewN ?_ _ | refine blk_drew ?_ | refine blk_alloc ?_ _)); refine blk_put (cs := #[.int .i64 t221, .int .i64 0, .slice none 0 0]) ?_ 1 _ rfl; (with_reducible repeat (first | refine blk_drewN ?_ _ | refine blk_drew ?_ | refine blk_alloc ?_ _)); refine blk_put (cs := #[.int .i64 0, .int .i64 0, .slice none 0 0]) ?_ 0 _ rfl; (with_reducible repeat (first | refine blk_drewN ?_ _ | refine blk_drew ?_ | refine blk_alloc ?_ _)); exact BK179.out) Try.underlying76 rfl (by kernel_rfl) (.cell gb180 76 #[.int .i64 0, .int .i64 0, .slice none 0 0] (0, 0) _ rfl (by (with_reducible repeat (first | refine blk_drewN ?_ _ | refine blk_drew ?_ | refine blk_alloc ?_ _)); refine blk_put (cs := #[.int .i64 0, .int .i64 0, .slice none 0 0]) ?_ 2 _ rfl; (with_reducible repeat (first | refine blk_drewN ?_ _ | refine blk_drew ?_ | refine blk_alloc ?_ _)); refine blk_put (cs := #[.int .i64 0, .int .i64 0, .slice none 0 0]) ?_ 1 _ rfl; (with_reducible repeat (first | refine blk_drewN ?_ _ | refine blk_drew ?_ | refine blk_alloc ?_ _)); refine blk_put (cs := #[.int .i64 0, .int .i64 0, .slice none 0 0]) ?_ 0 _ rfl; (with_reducible repeat (first | refine blk_drewN ?_ _ | refine blk_drew ?_ | refine blk_alloc ?_ _)); refine blk_far ?_ NB180_179.out _; (with_reducible repeat (first | refine blk_drewN ?_ _ | refine blk_drew ?_ | refine blk_alloc ?_ _)); refine blk_far ?_ NB180_179.out _; (with_reducible repeat (first | refine blk_drewN ?_ _ | refine blk_drew ?_ | refine blk_alloc ?_ _)); refine blk_far ?_ NB180_179.out _; (with_reducible repeat (first | refine blk_drewN ?_ _ | refine blk_drew ?_ | refine blk_alloc ?_ _)); exact BK180.out) Try.underlying76 rfl (by kernel_rfl) (.tmp .nil)))) rfl ?_
      exact ⟨_, _, tE, by (with_reducible repeat (first | apply Kd.R_alloc | apply Kd.R_drewN | apply Kd.R_drew)); exact Kd.R_mono (Kd.R_far (p := ⟨gb180, 2, none⟩) (Kd.R_far (p := ⟨gb180, 1, none⟩) (Kd.R_far (p := ⟨gb180, 0, none⟩) (Kd.R_far (p := ⟨gb179, 2, none⟩) (Kd.R_far (p := ⟨gb179, 1, none⟩) (Kd.R_far (p := ⟨gb179, 0, none⟩) (Kd.R_types (Kd.R_types HO225.out BK179.out (by decide)) BK180.out (by decide)) (fun _ hk => hk.1.2) (.int .i64 t221)) (fun _ hk => hk.1.2) (.int .i64 t222)) (fun _ hk => hk.1.2) (.slice Ao187 t223.length co187)) (fun _ hk => hk.2) (.int .i64 0)) (fun _ hk => hk.2) (.int .i64 0)) (fun _ hk => hk.2) (.slice none 0 0)) (fun _ hk => (by simp [Value.ownBlock])), by first | exact Kd.R_nil _ _ _ _ _ | exact Kd.N_nil _ _ _ _ _ | exact Kd.V_nil _ _ _ _ _ | exact Kd.Q_nil _ _ _ _ _ | exact Kd.S_nil _ _ _ _ _, tB⟩
    ·replace c47 := Bool.eq_false_iff.mpr c47
     subst c47
     have H1 : ((spec_l14Copy.f a0_0 a0_1 l0_2).bind fun bt226 => (some (bt226.1, bt226.2.1, bt226.2.2, 0, 0, ([] : List (S123)), false))) = some (r1, r2, r3, r4, r5, r6, r7) := by rw [if_neg (show ¬ (false = true) by decide)] at H; exact H
     clear H
     have H := H1
     clear H1
     replace H := Option.bind_eq_some_iff.mp H
     obtain ⟨⟨t226, t227, t228⟩, A1910, H⟩ := H
     replace H : (some (t226, t227, t228, 0, 0, ([] : List (S123)), false)) = some (r1, r2, r3, r4, r5, r6, r7) := H
     have A191 := Aside0.mk A1910
     clear A1910
     simp only [Option.some.injEq, Prod.mk.injEq] at H
     obtain ⟨rfl, rfl, rfl, rfl, rfl, rfl, rfl⟩ := H
     have hnb192 := NB178_179.out
     have hnc192 := NB179_178.out
     have hnb193 := NB178_180.out
     have hnc193 := NB180_178.out
     have hnb194 := NB178_181.out
     have hnc194 := NB181_178.out
     have hnb195 := NB178_182.out
     have hnc195 := NB182_178.out
     obtain ⟨hcz196_0, hcz196_1, hcz196_2, hfz196_0, hfz196_1, hfz196_2⟩ := bc3 BK178.out
     go_wp2_with (first | ((with_reducible refine gate_callee (f := 103) rfl ?_); refine goesL_ (some 57) rfl rfl Try.func103 (by kernel_rfl) rfl #[.agg #[.int .i64 a0_0, .int .i64 a0_1, .slice A0_2 l0_2.length c0_2]] rfl tL ?_; (with_reducible refine (spec_IsValidAccount.calls k1 a0_0 a0_1 _ _ l0_2 false _ ?side1 ?side2 A46.out).mono ?_); (case side1 => repeat (first | exact (Kd.C_below HR0_2.out HB.out) | (with_reducible refine Kd.C_alloc ?_ _) | (with_reducible refine Kd.C_drewN ?_ _) | (with_reducible refine Kd.C_drew ?_))); (case side2 => exact HC0_2.out); rintro e w197 ⟨rfl, hb⟩; refine ⟨_, rfl, ?_⟩; have n0_ := Aside0.mk (Kd.R_below (tR HO_182002) hb); have n1_ := Aside0.mk (Kd.R_below (tR HO_183002) hb); have n2_ := Aside0.mk (blk_below (g := gb178) (o := .cells #[.int .i64 a0_0, .int .i64 a0_1, .slice A0_2 l0_2.length c0_2] 76 (0, 0)) (tK BK178) hb); have n3_ := Aside0.mk (blk_below (g := gb179) (o := .cells #[.int .i64 0, .int .i64 0, .slice none 0 0] 76 (0, 0)) (tK BK179) hb); have n4_ := Aside0.mk (blk_below (g := gb180) (o := .cells #[.int .i64 0, .int .i64 0, .slice none 0 0] 76 (0, 0)) (tK BK180) hb); have n5_ := Aside0.mk (blk_below (g := gb181) (o := .cells #[.int .i64 a0_0, .int .i64 a0_1, u182002] 76 (0, 0)) (tK BK181) hb); have n6_ := Aside0.mk (blk_below (g := gb182) (o := .cells #[.int .i64 a2, .int .i64 a0_1, u183002] 76 (0, 0)) (tK BK182) hb); have n7_ := Aside0.mk (below_step tB hb); clear HO_182002; clear HO_183002; clear BK178; clear BK179; clear BK180; clear BK181; clear BK182; clear HB; have HO_182002 := n0_; have HO_183002 := n1_; have BK178 := n2_; have BK179 := n3_; have BK180 := n4_; have BK181 := n5_; have BK182 := n6_; have HB := n7_; clear n0_ n1_ n2_ n3_ n4_ n5_ n6_ n7_; (try clear hb); (try clear hb2); (try clear hk); (try clear hi); obtain ⟨hcz198_0, hcz198_1, hcz198_2, hfz198_0, hfz198_1, hfz198_2⟩ := bc3 BK178.out) | ((with_reducible refine gate_callee (f := 101) rfl ?_); refine goesL_ (some 91) rfl rfl Try.func101 (by kernel_rfl) rfl #[.agg #[.int .i64 a0_0, .int .i64 a0_1, .slice A0_2 l0_2.length c0_2]] rfl tL ?_; (with_reducible refine (spec_l14Copy.calls a0_0 a0_1 _ _ l0_2 t226 t227 t228 _ ?side1 ?side2 A191.out).mono ?_); (case side1 => repeat (first | exact (Kd.C_below HR0_2.out HB.out) | (with_reducible refine Kd.C_alloc ?_ _) | (with_reducible refine Kd.C_drewN ?_ _) | (with_reducible refine Kd.C_drew ?_))); (case side2 => exact HC0_2.out); rintro e w199 ⟨v229, rfl, ho0, hb⟩; refine ⟨_, rfl, ?_⟩; have n0_ := Aside0.mk (Kd.R_elder' (tR HO_182002) (Kd.R_base ho0) hb); have n1_ := Aside0.mk (Kd.R_elder' (tR HO_183002) (Kd.R_base ho0) hb); have n2_ := Aside0.mk (Kd.R_lower (Kd.R_new' (Kd.R_new' ho0 (Kd.R_lt (tR HO_182002))) (Kd.R_lt (tR HO_183002))) (below_size tB)); have n3_ := Aside0.mk (blk_below (g := gb178) (o := .cells #[.int .i64 a0_0, .int .i64 a0_1, .slice A0_2 l0_2.length c0_2] 76 (0, 0)) (tK BK178) hb); have n4_ := Aside0.mk (blk_below (g := gb179) (o := .cells #[.int .i64 0, .int .i64 0, .slice none 0 0] 76 (0, 0)) (tK BK179) hb); have n5_ := Aside0.mk (blk_below (g := gb180) (o := .cells #[.int .i64 0, .int .i64 0, .slice none 0 0] 76 (0, 0)) (tK BK180) hb); have n6_ := Aside0.mk (blk_below (g := gb181) (o := .cells #[.int .i64 a0_0, .int .i64 a0_1, u182002] 76 (0, 0)) (tK BK181) hb); have n7_ := Aside0.mk (blk_below (g := gb182) (o := .cells #[.int .i64 a2, .int .i64 a0_1, u183002] 76 (0, 0)) (tK BK182) hb); have n8_ := Aside0.mk (below_step tB hb); clear HO_182002; clear HO_183002; clear BK178; clear BK179; clear BK180; clear BK181; clear BK182; clear HB; have HO_182002 := n0_; have HO_183002 := n1_; have HO230 := n2_; have BK178 := n3_; have BK179 := n4_; have BK180 := n5_; have BK181 := n6_; have BK182 := n7_; have HB := n8_; clear n0_ n1_ n2_ n3_ n4_ n5_ n6_ n7_ n8_; (try clear hb); (try clear hb2); (try clear hk); (try clear hi); (try clear ho0); have hnb200 := NB179_180.out; have hnc200 := NB180_179.out; have hnb201 := NB179_181.out; have hnc201 := NB181_179.out; have hnb202 := NB179_182.out; have hnc202 := NB182_179.out; obtain ⟨hcz203_0, hcz203_1, hcz203_2, hfz203_0, hfz203_1, hfz203_2⟩ := bc3 BK179.out; obtain ⟨Ao204, co204, eo204⟩ := Kd.R_slice HO230.out; subst eo204; have hnb205 := NB180_181.out; have hnc205 := NB181_180.out; have hnb206 := NB180_182.out; have hnc206 := NB182_180.out; obtain ⟨hcz207_0, hcz207_1, hcz207_2, hfz207_0, hfz207_1, hfz207_2⟩ := bc3 BK180.out))
     refine bodyPost_ret (results_list (rs := [.cell 6 76, .cell 7 76, .tmp 8]) rfl (by simp) (.cell gb179 76 #[.int .i64 t226, .int .i64 t227, .slice Ao204 t228.length co204] (0, 0) _ rfl (by (with_reducible repeat (first | refine blk_drewN ?_ _ | refine blk_drew ?_ | refine blk_alloc ?_ _)); refine blk_far ?_ NB179_180.out _; (with_reducible repeat (first | refine blk_drewN ?_ _ | refine blk_drew ?_ | refine blk_alloc ?_ _)); refine blk_far ?_ NB179_180.out _; (with_reducible repeat (first | refine blk_drewN ?_ _ | refine blk_drew ?_ | refine blk_alloc ?_ _)); refine blk_far ?_ NB179_180.out _; (with_reducible repeat (first | refine blk_drewN ?_ _ | refine blk_drew ?_ | refine blk_alloc ?_ _)); refine blk_put (cs := #[.int .i64 t226, .int .i64 t227, .slice none 0 0]) ?_ 2 _ rfl; (with_reducible repeat (first | refine blk_drewN ?_ _ | refine blk_drew ?_ | refine blk_alloc ?_ _)); refine blk_put (cs := #[.int .i64 t226, .int .i64 0, .slice none 0 0]) ?_ 1 _ rfl; (with_reducible repeat (first | refine blk_drewN ?_ _ | refine blk_drew ?_ | refine blk_alloc ?_ _)); refine blk_put (cs := #[.int .i64 0, .int .i64 0, .slice none 0 0]) ?_ 0 _ rfl; (with_reducible repeat (first | refine blk_drewN ?_ _ | refine blk_drew ?_ | refine blk_alloc ?_ _)); exact BK179.out) Try.underlying76 rfl (by kernel_rfl) (.cell gb180 76 #[.int .i64 0, .int .i64 0, .slice none 0 0] (0, 0) _ rfl (by (with_reducible repeat (first | refine blk_drewN ?_ _ | refine blk_drew ?_ | refine blk_alloc ?_ _)); refine blk_put (cs := #[.int .i64 0, .int .i64 0, .slice none 0 0]) ?_ 2 _ rfl; (with_reducible repeat (first | refine blk_drewN ?_ _ | refine blk_drew ?_ | refine blk_alloc ?_ _)); refine blk_put (cs := #[.int .i64 0, .int .i64 0, .slice none 0 0]) ?_ 1 _ rfl; (with_reducible repeat (first | refine blk_drewN ?_ _ | refine blk_drew ?_ | refine blk_alloc ?_ _)); refine blk_put (cs := #[.int .i64 0, .int .i64 0, .slice none 0 0]) ?_ 0 _ rfl; (with_reducible repeat (first | refine blk_drewN ?_ _ | refine blk_drew ?_ | refine blk_alloc ?_ _)); refine blk_far ?_ NB180_179.out _; (with_reducible repeat (first | refine blk_drewN ?_ _ | refine blk_drew ?_ | refine blk_alloc ?_ _)); refine blk_far ?_ NB180_179.out _; (with_reducible repeat (first | refine blk_drewN ?_ _ | refine blk_drew ?_ | refine blk_alloc ?_ _)); refine blk_far ?_ NB180_179.out _; (with_reducible repeat (first | refine blk_drewN ?_ _ | refine blk_drew ?_ | refine blk_alloc ?_ _)); exact BK180.out) Try.underlying76 rfl (by kernel_rfl) (.tmp .nil)))) rfl ?_
     exact ⟨_, _, tE, by (with_reducible repeat (first | apply Kd.R_alloc | apply Kd.R_drewN | apply Kd.R_drew)); exact Kd.R_mono (Kd.R_far (p := ⟨gb180, 2, none⟩) (Kd.R_far (p := ⟨gb180, 1, none⟩) (Kd.R_far (p := ⟨gb180, 0, none⟩) (Kd.R_far (p := ⟨gb179, 2, none⟩) (Kd.R_far (p := ⟨gb179, 1, none⟩) (Kd.R_far (p := ⟨gb179, 0, none⟩) (Kd.R_types (Kd.R_types HO230.out BK179.out (by decide)) BK180.out (by decide)) (fun _ hk => hk.1.2) (.int .i64 t226)) (fun _ hk => hk.1.2) (.int .i64 t227)) (fun _ hk => hk.1.2) (.slice Ao204 t228.length co204)) (fun _ hk => hk.2) (.int .i64 0)) (fun _ hk => hk.2) (.int .i64 0)) (fun _ hk => hk.2) (.slice none 0 0)) (fun _ hk => (by simp [Value.ownBlock])), by first | exact Kd.R_nil _ _ _ _ _ | exact Kd.N_nil _ _ _ _ _ | exact Kd.V_nil _ _ _ _ _ | exact Kd.Q_nil _ _ _ _ _ | exact Kd.S_nil _ _ _ _ _, tB⟩

end Go.Proofs.Ytjggdakbphjomaa.ZFnExactSplitAccount
