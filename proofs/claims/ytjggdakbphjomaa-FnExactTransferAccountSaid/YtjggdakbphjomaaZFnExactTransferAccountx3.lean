/- The machine side: for each Go function a Lean function and the contract that the Go code answers as it does; printed by program (wip/tmpl/pprint.sh). -/
import Derived.Test.YtjggdakbphjomaaZFnExactTransferAccountx0
import Derived.Test.YtjggdakbphjomaaZFnExactTransferAccountx1
import Derived.Test.YtjggdakbphjomaaZFnExactTransferAccountx2
namespace Go.Proofs.Ytjggdakbphjomaa.ZFnExactTransferAccount
open Go.RowKit Go.Proofs.YtjggdakbphjomaaW.PrintWords Go.Proofs.YtjggdakbphjomaaW.PrintLast Go.Proofs.YtjggdakbphjomaaW.PrintMore
attribute [local go_sem] max2_int min2_int max_two min_two max_three min_three max_four min_four   -- for this text's walks alone
set_option linter.unusedVariables false
set_option linter.unusedSimpArgs false

/-! ### spec_AddCredential: function 102 -/
mutual
def spec_AddCredential.j1 : Nat → Int → Int → Int → Int → Int → List (S123) → Int → Int → List (S123) → Option (Int × Int × (List (S123)) × Bool)
 | 0, _, _, _, _, _, _, _, _, _ => none
 | k + 1, x1, x2, x9, x130000, x130001, x130002, x137000, x137001, x137002 => (some (([] : List (S123)) : List (S123))).bind fun y138 => (if 0 ≤ x9 then (if x9 ≤ (x130002.length : Int) then ((some (x130002.take (x9 : Int).toNat : List (S123))).bind fun y141 => (if y138.length + y141.length < 4398046511104 then ((some (y138 ++ y141 : List (S123))).bind fun y145 => ((some (([(⟨x1, x2, 0, false⟩ : S123)] : List (S123)) : List (S123))).bind fun y148 => (if y145.length + y148.length < 4398046511104 then ((some (y145 ++ y148 : List (S123))).bind fun y151 => ((some (x130002.drop (x9 : Int).toNat : List (S123))).bind fun y154 => (if y151.length + y154.length < 4398046511104 then ((some (y151 ++ y154 : List (S123))).bind fun y158 => ((spec_IsValidAccount.f k x130000 x130001 x130002).bind fun t161 => (if t161 = true then ((spec_IsValidAccount.f k x137000 x137001 y158).bind fun t162 => (if t162 = true then (some (x137000, x137001, y158, true)) else ((spec_l14Copy.f x130000 x130001 x130002).bind fun bt163 => (some (bt163.1, bt163.2.1, bt163.2.2, false))))) else ((spec_l14Copy.f x130000 x130001 x130002).bind fun bt168 => (some (bt168.1, bt168.2.1, bt168.2.2, false)))))) else (none)))) else (none)))) else (none))) else (none)) else (none))
def spec_AddCredential.l0 : Nat → Int → Int → Int → Int → Int → List (S123) → Int → Int → List (S123) → Option (Int × Int × (List (S123)) × Bool)
 | 0, _, _, _, _, _, _, _, _, _ => none
 | k + 1, x1, x2, x9, x130000, x130001, x130002, x137000, x137001, x137002 => if x9 < (x130002.length : Int) then (if 0 ≤ x9 then (if ((rd_T123 x130002 x9).f0) < x1 then (spec_AddCredential.l0 k x1 x2 (wrap64 (x9 + 1)) x130000 x130001 x130002 x137000 x137001 x137002) else (spec_AddCredential.j1 k x1 x2 x9 x130000 x130001 x130002 x137000 x137001 x137002)) else (none)) else (spec_AddCredential.j1 k x1 x2 x9 x130000 x130001 x130002 x137000 x137001 x137002)
end
def spec_AddCredential.f (k : Nat) (a0_0 : Int) (a0_1 : Int) (l0_2 : List (S123)) (a1 : Int) (a2 : Int) : Option (Int × Int × (List (S123)) × Bool) := (spec_l14Copy.f a0_0 a0_1 l0_2).bind fun bt131 => (spec_AddCredential.l0 k a1 a2 0 a0_0 a0_1 l0_2 bt131.1 bt131.2.1 bt131.2.2)
theorem spec_AddCredential.mono_l : ∀ k, (∀ y0 y1 y2 y3 y4 y5 y6 y7 y8, LeO (spec_AddCredential.j1 k y0 y1 y2 y3 y4 y5 y6 y7 y8) (spec_AddCredential.j1 (k + 1) y0 y1 y2 y3 y4 y5 y6 y7 y8)) ∧ (∀ y0 y1 y2 y3 y4 y5 y6 y7 y8, LeO (spec_AddCredential.l0 k y0 y1 y2 y3 y4 y5 y6 y7 y8) (spec_AddCredential.l0 (k + 1) y0 y1 y2 y3 y4 y5 y6 y7 y8))
 | 0 => ⟨fun _ _ _ _ _ _ _ _ _ r h => by simp [spec_AddCredential.j1] at h, fun _ _ _ _ _ _ _ _ _ r h => by simp [spec_AddCredential.l0] at h⟩
 | k + 1 => by
  obtain ⟨ih0, ih1⟩ := spec_AddCredential.mono_l k
  refine ⟨?_, ?_⟩
  ·intro y0 y1 y2 y3 y4 y5 y6 y7 y8
   unfold spec_AddCredential.j1
   repeat' first
   | (with_reducible exact ih0 _ _ _ _ _ _ _ _ _)
   | (with_reducible exact ih1 _ _ _ _ _ _ _ _ _)
   | (with_reducible exact spec_IsValidAccount.mono _ _ _ _)
   | (with_reducible exact LeO.refl _)
   | (with_reducible exact LeO.none _)
   | (with_reducible refine LeO.ite ?_ ?_)
   | (with_reducible refine LeO.bind ?_ (fun _ => ?_))
   | exact ih0 _ _ _ _ _ _ _ _ _
   | exact ih1 _ _ _ _ _ _ _ _ _
   | exact spec_IsValidAccount.mono _ _ _ _
   | exact LeO.none _
   | refine LeO.ite ?_ ?_
   | refine LeO.bind ?_ (fun _ => ?_)
  ·intro y0 y1 y2 y3 y4 y5 y6 y7 y8
   unfold spec_AddCredential.l0
   repeat' first
   | (with_reducible exact ih0 _ _ _ _ _ _ _ _ _)
   | (with_reducible exact ih1 _ _ _ _ _ _ _ _ _)
   | (with_reducible exact spec_IsValidAccount.mono _ _ _ _)
   | (with_reducible exact LeO.refl _)
   | (with_reducible exact LeO.none _)
   | (with_reducible refine LeO.ite ?_ ?_)
   | (with_reducible refine LeO.bind ?_ (fun _ => ?_))
   | exact ih0 _ _ _ _ _ _ _ _ _
   | exact ih1 _ _ _ _ _ _ _ _ _
   | exact spec_IsValidAccount.mono _ _ _ _
   | exact LeO.none _
   | refine LeO.ite ?_ ?_
   | refine LeO.bind ?_ (fun _ => ?_)
theorem spec_AddCredential.mono : ∀ a0 a1 a2 a3 a4 k, LeO (spec_AddCredential.f k a0 a1 a2 a3 a4) (spec_AddCredential.f (k + 1) a0 a1 a2 a3 a4) := by
 intro a0 a1 a2 a3 a4 k
 obtain ⟨ih0, ih1⟩ := spec_AddCredential.mono_l k
 unfold spec_AddCredential.f
 repeat' first
   | (with_reducible exact ih0 _ _ _ _ _ _ _ _ _)
   | (with_reducible exact ih1 _ _ _ _ _ _ _ _ _)
   | (with_reducible exact spec_IsValidAccount.mono _ _ _ _)
   | (with_reducible exact LeO.refl _)
   | (with_reducible exact LeO.none _)
   | (with_reducible refine LeO.ite ?_ ?_)
   | (with_reducible refine LeO.bind ?_ (fun _ => ?_))
   | exact ih0 _ _ _ _ _ _ _ _ _
   | exact ih1 _ _ _ _ _ _ _ _ _
   | exact spec_IsValidAccount.mono _ _ _ _
   | exact LeO.none _
   | refine LeO.ite ?_ ?_
   | refine LeO.bind ?_ (fun _ => ?_)
def spec_AddCredential.T5 : Bool × List (List Nat × List Nat) := (true, [([], []), ([], []), ([1], [1]), ([], []), ([2, 3], [2, 3]), ([0, 4], [0, 4]), ([], []), ([], []), ([6, 7], [6, 7]), ([8], [8]), ([5, 9, 5], [5, 9]), ([], []), ([11], [11]), ([], []), ([12, 13], [12, 13]), ([10, 14, 10], [10, 14]), ([0, 1, 2, 3, 4, 5, 6, 7, 8, 9, 10, 11, 12, 13, 14, 15], []), ([16, 15, 15, 0, 1, 2, 3, 4, 5, 6, 7, 8, 9, 10, 11, 12, 13, 14, 15], [15, 16])])
def spec_AddCredential.B5 : List Nat := [0, 0, 2, 0, 14, 31, 0, 0, 192, 448, 1023, 0, 2048, 0, 14336, 32767, 65535, 131071]
theorem spec_AddCredential.tab5 : rtab .any (opsOf Try.f102 5) = spec_AddCredential.T5 := by kernel_rfl
theorem spec_AddCredential.bits5 : waitsOk spec_AddCredential.T5.2 spec_AddCredential.B5 = true := by kernel_rfl
set_option maxHeartbeats 8000000 in
set_option maxRecDepth 100000 in
theorem spec_AddCredential.calls (k : Nat) (a0_0 : Int) (a0_1 : Int) (A0_2 : Option Addr) (c0_2 : Nat) (l0_2 : List (S123)) (a1 : Int) (a2 : Int) (r1 : Int) (r2 : Int) (r3 : List (S123)) (r4 : Bool) (w : World) (hr0_2 : Kd.C k123 w A0_2 l0_2.length l0_2) (hc0_2 : l0_2.length ≤ c0_2) (h : spec_AddCredential.f k a0_0 a0_1 l0_2 a1 a2 = some (r1, r2, r3, r4)) :
  Calls Try.prog 102 #[.agg #[.int .i64 a0_0, .int .i64 a0_1, .slice A0_2 l0_2.length c0_2], .int .i64 a1, .int .i64 a2] w fun e w' => ∃ v2_ : Value, e = .returned (.tuple #[.agg #[.int .i64 r1, .int .i64 r2, v2_], .bool r4]) ∧ Kd.R k123 123 w' w.heap.size (fun _ => True) v2_ r3 ∧ Below w.heap.size w w' := by
 have hu76 := Try.underlying76
 have hu123 := Try.underlying123
 have HR0_2 := Aside0.mk hr0_2
 have HC0_2 := Aside0.mk hc0_2
 clear hr0_2 hc0_2
 have HB := Aside0.mk (Below.refl w.heap.size w)
 have H : ((spec_l14Copy.f a0_0 a0_1 l0_2).bind fun bt131 => (spec_AddCredential.l0 k a1 a2 0 a0_0 a0_1 l0_2 bt131.1 bt131.2.1 bt131.2.2)) = some (r1, r2, r3, r4) := h
 clear h
 replace H := Option.bind_eq_some_iff.mp H
 obtain ⟨⟨t131, t132, t133⟩, A40, H⟩ := H
 replace H : (spec_AddCredential.l0 k a1 a2 0 a0_0 a0_1 l0_2 t131 t132 t133) = some (r1, r2, r3, r4) := H
 have A4 := Aside0.mk A40
 clear A40
 have HC5 := Aside0.mk H
 clear H
 go_enter Try.func102, Try.ntmps102
 go_upto_block 0 with (first | ((with_reducible refine gate_dst (N := 3) rfl ?_); refine box_event ?hg (N := 3) ?hd (cs := #[.int .i64 a0_0, .int .i64 a0_1, .slice A0_2 l0_2.length c0_2]) (t := 76) ?hr ?_; (case hd => rfl); (case hg => rfl); (case hr => exact tG); intro gb129 hg w6 hbox hb; have n0_ := Aside0.mk (below_step tB hb); have n1_ := Aside0.mk (hbox); have n2_ := Aside0.mk ((by rw [hg]; exact (below_size tB) : w.heap.size ≤ gb129)); have n3_ := Aside0.mk ((by rw [hg]; exact (below_size tB) : w.heap.size ≤ gb129)); clear HB; have HB := n0_; have BK129 := n1_; have GW129 := n2_; have GE129 := n3_; clear n0_ n1_ n2_ n3_; clear hb hbox hg) | ((with_reducible refine gate_dst (N := 6) rfl ?_); refine box_event ?hg (N := 6) ?hd (cs := #[.int .i64 0, .int .i64 0, .slice none 0 0]) (t := 76) ?hr ?_; (case hd => rfl); (case hg => rfl); (case hr => exact tG); intro gb130 hg w7 hbox hb; have n0_ := Aside0.mk (blk_below (g := gb129) (o := .cells #[.int .i64 a0_0, .int .i64 a0_1, .slice A0_2 l0_2.length c0_2] 76 (0, 0)) (tK BK129) hb); have n1_ := Aside0.mk (below_step tB hb); have n2_ := Aside0.mk (hbox); have n3_ := Aside0.mk ((by rw [hg]; exact (below_size tB) : w.heap.size ≤ gb130)); have n4_ := Aside0.mk ((by rw [hg]; exact (below_size tB) : w.heap.size ≤ gb130)); have n5_ := Aside0.mk ((by rw [hg]; exact Nat.ne_of_lt (blk_lt (g := gb129) (o := .cells #[.int .i64 a0_0, .int .i64 a0_1, .slice A0_2 l0_2.length c0_2] 76 (0, 0)) (tK BK129)) : gb129 ≠ gb130)); have n6_ := Aside0.mk ((by rw [hg]; exact Nat.ne_of_gt (blk_lt (g := gb129) (o := .cells #[.int .i64 a0_0, .int .i64 a0_1, .slice A0_2 l0_2.length c0_2] 76 (0, 0)) (tK BK129)) : gb130 ≠ gb129)); clear BK129; clear HB; have BK129 := n0_; have HB := n1_; have BK130 := n2_; have GW130 := n3_; have GE130 := n4_; have NB129_130 := n5_; have NB130_129 := n6_; clear n0_ n1_ n2_ n3_ n4_ n5_ n6_; clear hb hbox hg; have hnb8 := NB129_130.out; have hnc8 := NB130_129.out; obtain ⟨hcz9_0, hcz9_1, hcz9_2, hfz9_0, hfz9_1, hfz9_2⟩ := bc3 BK129.out) | ((with_reducible refine gate_callee (f := 101) rfl ?_); refine goesL_ (some 11) rfl rfl Try.func101 (by kernel_rfl) rfl #[.agg #[.int .i64 a0_0, .int .i64 a0_1, .slice A0_2 l0_2.length c0_2]] rfl tL ?_; (with_reducible refine (spec_l14Copy.calls a0_0 a0_1 _ _ l0_2 t131 t132 t133 _ ?side1 ?side2 A4.out).mono ?_); (case side1 => repeat (first | exact (Kd.C_below HR0_2.out HB.out) | (with_reducible refine Kd.C_alloc ?_ _) | (with_reducible refine Kd.C_drewN ?_ _) | (with_reducible refine Kd.C_drew ?_))); (case side2 => exact HC0_2.out); rintro e w10 ⟨v134, rfl, ho0, hb⟩; refine ⟨_, rfl, ?_⟩; have n0_ := Aside0.mk (Kd.R_lower ho0 (below_size tB)); have n1_ := Aside0.mk (blk_below (g := gb129) (o := .cells #[.int .i64 a0_0, .int .i64 a0_1, .slice A0_2 l0_2.length c0_2] 76 (0, 0)) (tK BK129) hb); have n2_ := Aside0.mk (blk_below (g := gb130) (o := .cells #[.int .i64 0, .int .i64 0, .slice none 0 0] 76 (0, 0)) (tK BK130) hb); have n3_ := Aside0.mk (below_step tB hb); clear BK129; clear BK130; clear HB; have HO135 := n0_; have BK129 := n1_; have BK130 := n2_; have HB := n3_; clear n0_ n1_ n2_ n3_; (try clear hb); (try clear hb2); (try clear hk); (try clear hi); (try clear ho0)) | ((with_reducible refine gate_dst (N := 8) rfl ?_); refine box_event ?hg (N := 8) ?hd (cs := #[.int .i64 0, .int .i64 0, .slice none 0 0]) (t := 76) ?hr ?_; (case hd => rfl); (case hg => rfl); (case hr => exact tG); intro gb136 hg w11 hbox hb; have n0_ := Aside0.mk (Kd.R_below (tR HO135) hb); have n1_ := Aside0.mk (blk_below (g := gb129) (o := .cells #[.int .i64 a0_0, .int .i64 a0_1, .slice A0_2 l0_2.length c0_2] 76 (0, 0)) (tK BK129) hb); have n2_ := Aside0.mk (blk_below (g := gb130) (o := .cells #[.int .i64 0, .int .i64 0, .slice none 0 0] 76 (0, 0)) (tK BK130) hb); have n3_ := Aside0.mk (below_step tB hb); have n4_ := Aside0.mk (hbox); have n5_ := Aside0.mk ((by rw [hg]; exact (below_size tB) : w.heap.size ≤ gb136)); have n6_ := Aside0.mk ((by rw [hg]; exact (below_size tB) : w.heap.size ≤ gb136)); have n7_ := Aside0.mk ((by rw [hg]; exact Nat.ne_of_lt (blk_lt (g := gb129) (o := .cells #[.int .i64 a0_0, .int .i64 a0_1, .slice A0_2 l0_2.length c0_2] 76 (0, 0)) (tK BK129)) : gb129 ≠ gb136)); have n8_ := Aside0.mk ((by rw [hg]; exact Nat.ne_of_gt (blk_lt (g := gb129) (o := .cells #[.int .i64 a0_0, .int .i64 a0_1, .slice A0_2 l0_2.length c0_2] 76 (0, 0)) (tK BK129)) : gb136 ≠ gb129)); have n9_ := Aside0.mk ((by rw [hg]; exact Nat.ne_of_lt (blk_lt (g := gb130) (o := .cells #[.int .i64 0, .int .i64 0, .slice none 0 0] 76 (0, 0)) (tK BK130)) : gb130 ≠ gb136)); have n10_ := Aside0.mk ((by rw [hg]; exact Nat.ne_of_gt (blk_lt (g := gb130) (o := .cells #[.int .i64 0, .int .i64 0, .slice none 0 0] 76 (0, 0)) (tK BK130)) : gb136 ≠ gb130)); clear HO135; clear BK129; clear BK130; clear HB; have HO135 := n0_; have BK129 := n1_; have BK130 := n2_; have HB := n3_; have BK136 := n4_; have GW136 := n5_; have GE136 := n6_; have NB129_136 := n7_; have NB136_129 := n8_; have NB130_136 := n9_; have NB136_130 := n10_; clear n0_ n1_ n2_ n3_ n4_ n5_ n6_ n7_ n8_ n9_ n10_; clear hb hbox hg; have hnb12 := NB136_129.out; have hnc12 := NB129_136.out; have hnb13 := NB136_130.out; have hnc13 := NB130_136.out; obtain ⟨hcz14_0, hcz14_1, hcz14_2, hfz14_0, hfz14_1, hfz14_2⟩ := bc3 BK136.out; obtain ⟨Ao15, co15, eo15⟩ := Kd.R_slice HO135.out; subst eo15))
 (try simp only [Act.put, List.setIfInBounds_toArray, List.set_cons_zero, List.set_cons_succ])
 go_cut [9] (fun v9 wc => ∃ (kq : Nat) (x9_4 : Int), v9 = .int .i64 x9_4 ∧ Aside0 (spec_AddCredential.j1 kq a1 a2 x9_4 a0_0 a0_1 l0_2 t131 t132 t133 = some (r1, r2, r3, r4)) ∧ Aside0 (kq ≤ k) ∧ Aside0 (Kd.R k123 123 wc w.heap.size (fun _ => True) (.slice Ao15 t133.length co15) t133) ∧ Aside0 (wc.heap[gb129]? = some (.cells #[.int .i64 a0_0, .int .i64 a0_1, (.slice A0_2 l0_2.length c0_2)] 76 (0, 0))) ∧ Aside0 (wc.heap[gb130]? = some (.cells #[.int .i64 0, .int .i64 0, (.slice none 0 0)] 76 (0, 0))) ∧ Aside0 (wc.heap[gb136]? = some (.cells #[.int .i64 t131, .int .i64 t132, (.slice Ao15 t133.length co15)] 76 (0, 0))) ∧ Aside0 (Below w.heap.size w wc))
 case first =>
  have H := HC5.out
  clear HC5
  have H' := Aside0.mk H
  clear H
  go_wp2
  go_loopg [9] k (fun kq v9 w' => ∃ (x9_1 : Int), v9 = .int .i64 x9_1 ∧ Aside0 (spec_AddCredential.l0 kq a1 a2 x9_1 a0_0 a0_1 l0_2 t131 t132 t133 = some (r1, r2, r3, r4)) ∧ Aside0 (kq ≤ k) ∧ Aside0 (Kd.R k123 123 w' w.heap.size (fun _ => True) (.slice Ao15 t133.length co15) t133) ∧ Aside0 (w'.heap[gb129]? = some (.cells #[.int .i64 a0_0, .int .i64 a0_1, (.slice A0_2 l0_2.length c0_2)] 76 (0, 0))) ∧ Aside0 (w'.heap[gb130]? = some (.cells #[.int .i64 0, .int .i64 0, (.slice none 0 0)] 76 (0, 0))) ∧ Aside0 (w'.heap[gb136]? = some (.cells #[.int .i64 t131, .int .i64 t132, (.slice Ao15 t133.length co15)] 76 (0, 0))) ∧ Aside0 (Below w.heap.size w w'))
  case atStart => exact ⟨(0), tS, H', ⟨Nat.le_refl _⟩, ⟨by (with_reducible repeat (first | apply Kd.R_alloc | apply Kd.R_drewN | apply Kd.R_drew)); exact Kd.R_mono (Kd.R_far (p := ⟨gb136, 2, none⟩) (Kd.R_far (p := ⟨gb136, 1, none⟩) (Kd.R_far (p := ⟨gb136, 0, none⟩) (Kd.R_types HO135.out BK136.out (by decide)) (fun _ hk => hk.2) (.int .i64 t131)) (fun _ hk => hk.2) (.int .i64 t132)) (fun _ hk => hk.2) (.slice Ao15 t133.length co15)) (fun _ hk => trivial)⟩, ⟨by (with_reducible repeat (first | refine blk_drewN ?_ _ | refine blk_drew ?_ | refine blk_alloc ?_ _)); refine blk_far ?_ NB129_136.out _; (with_reducible repeat (first | refine blk_drewN ?_ _ | refine blk_drew ?_ | refine blk_alloc ?_ _)); refine blk_far ?_ NB129_136.out _; (with_reducible repeat (first | refine blk_drewN ?_ _ | refine blk_drew ?_ | refine blk_alloc ?_ _)); refine blk_far ?_ NB129_136.out _; (with_reducible repeat (first | refine blk_drewN ?_ _ | refine blk_drew ?_ | refine blk_alloc ?_ _)); exact BK129.out⟩, ⟨by (with_reducible repeat (first | refine blk_drewN ?_ _ | refine blk_drew ?_ | refine blk_alloc ?_ _)); refine blk_far ?_ NB130_136.out _; (with_reducible repeat (first | refine blk_drewN ?_ _ | refine blk_drew ?_ | refine blk_alloc ?_ _)); refine blk_far ?_ NB130_136.out _; (with_reducible repeat (first | refine blk_drewN ?_ _ | refine blk_drew ?_ | refine blk_alloc ?_ _)); refine blk_far ?_ NB130_136.out _; (with_reducible repeat (first | refine blk_drewN ?_ _ | refine blk_drew ?_ | refine blk_alloc ?_ _)); exact BK130.out⟩, ⟨by (with_reducible repeat (first | refine blk_drewN ?_ _ | refine blk_drew ?_ | refine blk_alloc ?_ _)); refine blk_put (cs := #[.int .i64 t131, .int .i64 t132, .slice none 0 0]) ?_ 2 _ rfl; (with_reducible repeat (first | refine blk_drewN ?_ _ | refine blk_drew ?_ | refine blk_alloc ?_ _)); refine blk_put (cs := #[.int .i64 t131, .int .i64 0, .slice none 0 0]) ?_ 1 _ rfl; (with_reducible repeat (first | refine blk_drewN ?_ _ | refine blk_drew ?_ | refine blk_alloc ?_ _)); refine blk_put (cs := #[.int .i64 0, .int .i64 0, .slice none 0 0]) ?_ 0 _ rfl; (with_reducible repeat (first | refine blk_drewN ?_ _ | refine blk_drew ?_ | refine blk_alloc ?_ _)); exact BK136.out⟩, ⟨tB⟩⟩
  case round =>
   clear H'
   try clear c1
   try clear p2
   try clear c8
   try clear c10
   try clear c12
   try clear c13
   try clear hcz14_0
   try clear hcz14_1
   try clear hcz14_2
   try clear hcz9_0
   try clear hcz9_1
   try clear hcz9_2
   try clear hfz14_0
   try clear hfz14_1
   try clear hfz14_2
   try clear hfz9_0
   try clear hfz9_1
   try clear hfz9_2
   obtain ⟨x9_1, rfl, HA, HK1, HO_137002, BK129, BK130, BK136, HB⟩ := hrel
   cases gk with
   | zero => exact absurd HA.out (by simp [spec_AddCredential.l0])
   | succ k1 =>
    have H := HA.out
    clear HA
    simp only [spec_AddCredential.l0] at H
    by_cases c16 : x9_1 < (l0_2.length : Int)
    ·rw [if_pos c16] at H
     have c16b0 : decide (x9_1 < (l0_2.length : Int)) = true := decide_eq_true c16
     clear c16
     (first | rw [c16b0] | (simp only [i64_w, i32_w]; rw [c16b0]) | skip)
     by_cases c17 : 0 ≤ x9_1
     ·rw [if_pos c17] at H
      have c17b0 : decide (0 ≤ x9_1) = true := decide_eq_true c17
      clear c17
      by_cases c18 : ((rd_T123 l0_2 x9_1).f0) < a1
      ·rw [if_pos c18] at H
       have c18b0 : decide (((rd_T123 l0_2 x9_1).f0) < a1) = true := decide_eq_true c18
       clear c18
       have H' := Aside0.mk H
       clear H
       have hnb19 := NB129_130.out
       have hnc19 := NB130_129.out
       have hnb20 := NB129_136.out
       have hnc20 := NB136_129.out
       obtain ⟨hcz21_0, hcz21_1, hcz21_2, hfz21_0, hfz21_1, hfz21_2⟩ := bc3 BK129.out
       have p137 : 0 ≤ (x9_1 : Int) := of_decide_eq_true tA
       have q137 : x9_1 < (l0_2.length : Int) := of_decide_eq_true tA
       obtain ⟨ad137, e137, hx137_0, hx137_1, hx137_2, hx137_3⟩ := at_T123 HR0_2.out x9_1 p137 q137
       cases e137
       replace hx137_0 := hbc HB hx137_0
       replace hx137_1 := hbc HB hx137_1
       replace hx137_2 := hbc HB hx137_2
       replace hx137_3 := hbc HB hx137_3
       replace p137 := eq_true p137
       replace q137 := eq_true q137
       go_wp2
       go_roundg k1
       case measure => have := HK1.out; omega
       case rel => exact ⟨(wrap64 (x9_1 + 1)), tS, H', ⟨tI⟩, ⟨tR HO_137002⟩, ⟨tK BK129⟩, ⟨tK BK130⟩, ⟨tK BK136⟩, ⟨tB⟩⟩
      ·rw [if_neg c18] at H
       have c18b0 : decide (((rd_T123 l0_2 x9_1).f0) < a1) = false := decide_eq_false c18
       clear c18
       have H' := Aside0.mk H
       clear H
       have hnb22 := NB129_130.out
       have hnc22 := NB130_129.out
       have hnb23 := NB129_136.out
       have hnc23 := NB136_129.out
       obtain ⟨hcz24_0, hcz24_1, hcz24_2, hfz24_0, hfz24_1, hfz24_2⟩ := bc3 BK129.out
       have p137 : 0 ≤ (x9_1 : Int) := of_decide_eq_true tA
       have q137 : x9_1 < (l0_2.length : Int) := of_decide_eq_true tA
       obtain ⟨ad137, e137, hx137_0, hx137_1, hx137_2, hx137_3⟩ := at_T123 HR0_2.out x9_1 p137 q137
       cases e137
       replace hx137_0 := hbc HB hx137_0
       replace hx137_1 := hbc HB hx137_1
       replace hx137_2 := hbc HB hx137_2
       replace hx137_3 := hbc HB hx137_3
       replace p137 := eq_true p137
       replace q137 := eq_true q137
       go_wp2
       go_meet
       case rel => exact ⟨_, (x9_1), tS, H', ⟨by have := HK1.out; first | omega | exact Nat.le_refl _⟩, ⟨tR HO_137002⟩, ⟨tK BK129⟩, ⟨tK BK130⟩, ⟨tK BK136⟩, ⟨tB⟩⟩
     ·rw [if_neg c17] at H
      exact absurd H (by simp)
    ·rw [if_neg c16] at H
     have c16b0 : decide (x9_1 < (l0_2.length : Int)) = false := decide_eq_false c16
     clear c16
     (first | rw [c16b0] | (simp only [i64_w, i32_w]; rw [c16b0]) | skip)
     have H' := Aside0.mk H
     clear H
     have hnb25 := NB129_130.out
     have hnc25 := NB130_129.out
     have hnb26 := NB129_136.out
     have hnc26 := NB136_129.out
     obtain ⟨hcz27_0, hcz27_1, hcz27_2, hfz27_0, hfz27_1, hfz27_2⟩ := bc3 BK129.out
     go_wp2
     go_meet
     case rel => exact ⟨_, (x9_1), tS, H', ⟨by have := HK1.out; first | omega | exact Nat.le_refl _⟩, ⟨tR HO_137002⟩, ⟨tK BK129⟩, ⟨tK BK130⟩, ⟨tK BK136⟩, ⟨tB⟩⟩
 case rest =>
  clear HC5
  try clear c1
  try clear p1
  try clear q1
  try clear hx1
  try clear c2
  try clear p2
  try clear p6
  try clear c8
  try clear c10
  try clear c12
  try clear c13
  try clear p13
  try clear q13
  try clear hx13
  try clear c16
  try clear c16b0
  try clear c17
  try clear c17b0
  try clear c18
  try clear c18b0
  try clear c19
  try clear c20
  try clear c22
  try clear c23
  try clear c25
  try clear c26
  try clear hcz14_0
  try clear hcz14_1
  try clear hcz14_2
  try clear hcz21_0
  try clear hcz21_1
  try clear hcz21_2
  try clear hcz24_0
  try clear hcz24_1
  try clear hcz24_2
  try clear hcz27_0
  try clear hcz27_1
  try clear hcz27_2
  try clear hcz9_0
  try clear hcz9_1
  try clear hcz9_2
  try clear hfz14_0
  try clear hfz14_1
  try clear hfz14_2
  try clear hfz21_0
  try clear hfz21_1
  try clear hfz21_2
  try clear hfz24_0
  try clear hfz24_1
  try clear hfz24_2
  try clear hfz27_0
  try clear hfz27_1
  try clear hfz27_2
  try clear hfz9_0
  try clear hfz9_1
  try clear hfz9_2
  try clear hx137_0
  try clear hx137_1
  try clear hx137_2
  try clear hx137_3
  try clear p137
  try clear p2
  try clear q137
  obtain ⟨kq, x9_4, rfl, HA, HJ4, HO_137002, BK129, BK130, BK136, HB⟩ := hcut
  cases kq with
  | zero => exact absurd HA.out (by simp [spec_AddCredential.j1])
  | succ kj4 =>
   have H := HA.out
   clear HA
   simp only [spec_AddCredential.j1] at H
   obtain ⟨y138, hy138⟩ : ∃ y_ : List (S123), y_ = (([] : List (S123))) := ⟨_, rfl⟩
   replace H : (if 0 ≤ x9_4 then (if x9_4 ≤ (l0_2.length : Int) then ((some (l0_2.take (x9_4 : Int).toNat : List (S123))).bind fun y141 => (if y138.length + y141.length < 4398046511104 then ((some (y138 ++ y141 : List (S123))).bind fun y145 => ((some (([(⟨a1, a2, 0, false⟩ : S123)] : List (S123)) : List (S123))).bind fun y148 => (if y145.length + y148.length < 4398046511104 then ((some (y145 ++ y148 : List (S123))).bind fun y151 => ((some (l0_2.drop (x9_4 : Int).toNat : List (S123))).bind fun y154 => (if y151.length + y154.length < 4398046511104 then ((some (y151 ++ y154 : List (S123))).bind fun y158 => ((spec_IsValidAccount.f kj4 a0_0 a0_1 l0_2).bind fun t161 => (if t161 = true then ((spec_IsValidAccount.f kj4 t131 t132 y158).bind fun t162 => (if t162 = true then (some (t131, t132, y158, true)) else ((spec_l14Copy.f a0_0 a0_1 l0_2).bind fun bt163 => (some (bt163.1, bt163.2.1, bt163.2.2, false))))) else ((spec_l14Copy.f a0_0 a0_1 l0_2).bind fun bt168 => (some (bt168.1, bt168.2.1, bt168.2.2, false)))))) else (none)))) else (none)))) else (none))) else (none)) else (none)) = some (r1, r2, r3, r4) := by first | (rw [hy138]; with_reducible exact H) | (have H2_ := (Option.bind_some _ _).symm.trans H; rw [hy138]; with_reducible exact H2_) | (have H2_ := (Option.bind_some _ _).symm.trans H; with_reducible exact H2_) | with_reducible exact H | (rw [hy138]; exact H) | exact H
   have Ny138 := Aside0.mk hy138
   clear hy138
   by_cases c28 : 0 ≤ x9_4
   ·rw [if_pos c28] at H
    have c28b0 := eq_true c28
    have c28b1 : decide (0 ≤ x9_4) = true := decide_eq_true c28
    clear c28
    by_cases c29 : x9_4 ≤ (l0_2.length : Int)
    ·rw [if_pos c29] at H
     have c29b0 := eq_true c29
     have c29b1 : decide (x9_4 ≤ (l0_2.length : Int)) = true := decide_eq_true c29
     clear c29
     obtain ⟨y141, hy141⟩ : ∃ y_ : List (S123), y_ = (l0_2.take (x9_4 : Int).toNat) := ⟨_, rfl⟩
     replace H : (if y138.length + y141.length < 4398046511104 then ((some (y138 ++ y141 : List (S123))).bind fun y145 => ((some (([(⟨a1, a2, 0, false⟩ : S123)] : List (S123)) : List (S123))).bind fun y148 => (if y145.length + y148.length < 4398046511104 then ((some (y145 ++ y148 : List (S123))).bind fun y151 => ((some (l0_2.drop (x9_4 : Int).toNat : List (S123))).bind fun y154 => (if y151.length + y154.length < 4398046511104 then ((some (y151 ++ y154 : List (S123))).bind fun y158 => ((spec_IsValidAccount.f kj4 a0_0 a0_1 l0_2).bind fun t161 => (if t161 = true then ((spec_IsValidAccount.f kj4 t131 t132 y158).bind fun t162 => (if t162 = true then (some (t131, t132, y158, true)) else ((spec_l14Copy.f a0_0 a0_1 l0_2).bind fun bt163 => (some (bt163.1, bt163.2.1, bt163.2.2, false))))) else ((spec_l14Copy.f a0_0 a0_1 l0_2).bind fun bt168 => (some (bt168.1, bt168.2.1, bt168.2.2, false)))))) else (none)))) else (none)))) else (none)) = some (r1, r2, r3, r4) := by first | (rw [hy141]; with_reducible exact H) | (have H2_ := (Option.bind_some _ _).symm.trans H; rw [hy141]; with_reducible exact H2_) | (have H2_ := (Option.bind_some _ _).symm.trans H; with_reducible exact H2_) | with_reducible exact H | (rw [hy141]; exact H) | exact H
     have Ny141 := Aside0.mk hy141
     clear hy141
     by_cases c30 : y138.length + y141.length < 4398046511104
     ·rw [if_pos c30] at H
      have LMc30 := Aside0.mk c30
      clear c30
      obtain ⟨y145, hy145⟩ : ∃ y_ : List (S123), y_ = (y138 ++ y141) := ⟨_, rfl⟩
      replace H : ((some (([(⟨a1, a2, 0, false⟩ : S123)] : List (S123)) : List (S123))).bind fun y148 => (if y145.length + y148.length < 4398046511104 then ((some (y145 ++ y148 : List (S123))).bind fun y151 => ((some (l0_2.drop (x9_4 : Int).toNat : List (S123))).bind fun y154 => (if y151.length + y154.length < 4398046511104 then ((some (y151 ++ y154 : List (S123))).bind fun y158 => ((spec_IsValidAccount.f kj4 a0_0 a0_1 l0_2).bind fun t161 => (if t161 = true then ((spec_IsValidAccount.f kj4 t131 t132 y158).bind fun t162 => (if t162 = true then (some (t131, t132, y158, true)) else ((spec_l14Copy.f a0_0 a0_1 l0_2).bind fun bt163 => (some (bt163.1, bt163.2.1, bt163.2.2, false))))) else ((spec_l14Copy.f a0_0 a0_1 l0_2).bind fun bt168 => (some (bt168.1, bt168.2.1, bt168.2.2, false)))))) else (none)))) else (none))) = some (r1, r2, r3, r4) := by first | (rw [hy145]; with_reducible exact H) | (have H2_ := (Option.bind_some _ _).symm.trans H; rw [hy145]; with_reducible exact H2_) | (have H2_ := (Option.bind_some _ _).symm.trans H; with_reducible exact H2_) | with_reducible exact H | (rw [hy145]; exact H) | exact H
      have Ny145 := Aside0.mk hy145
      clear hy145
      obtain ⟨y148, hy148⟩ : ∃ y_ : List (S123), y_ = (([(⟨a1, a2, 0, false⟩ : S123)] : List (S123))) := ⟨_, rfl⟩
      replace H : (if y145.length + y148.length < 4398046511104 then ((some (y145 ++ y148 : List (S123))).bind fun y151 => ((some (l0_2.drop (x9_4 : Int).toNat : List (S123))).bind fun y154 => (if y151.length + y154.length < 4398046511104 then ((some (y151 ++ y154 : List (S123))).bind fun y158 => ((spec_IsValidAccount.f kj4 a0_0 a0_1 l0_2).bind fun t161 => (if t161 = true then ((spec_IsValidAccount.f kj4 t131 t132 y158).bind fun t162 => (if t162 = true then (some (t131, t132, y158, true)) else ((spec_l14Copy.f a0_0 a0_1 l0_2).bind fun bt163 => (some (bt163.1, bt163.2.1, bt163.2.2, false))))) else ((spec_l14Copy.f a0_0 a0_1 l0_2).bind fun bt168 => (some (bt168.1, bt168.2.1, bt168.2.2, false)))))) else (none)))) else (none)) = some (r1, r2, r3, r4) := by first | (rw [hy148]; with_reducible exact H) | (have H2_ := (Option.bind_some _ _).symm.trans H; rw [hy148]; with_reducible exact H2_) | (have H2_ := (Option.bind_some _ _).symm.trans H; with_reducible exact H2_) | with_reducible exact H | (rw [hy148]; exact H) | exact H
      have Ny148 := Aside0.mk hy148
      clear hy148
      by_cases c31 : y145.length + y148.length < 4398046511104
      ·rw [if_pos c31] at H
       have LMc31 := Aside0.mk c31
       clear c31
       obtain ⟨y151, hy151⟩ : ∃ y_ : List (S123), y_ = (y145 ++ y148) := ⟨_, rfl⟩
       replace H : ((some (l0_2.drop (x9_4 : Int).toNat : List (S123))).bind fun y154 => (if y151.length + y154.length < 4398046511104 then ((some (y151 ++ y154 : List (S123))).bind fun y158 => ((spec_IsValidAccount.f kj4 a0_0 a0_1 l0_2).bind fun t161 => (if t161 = true then ((spec_IsValidAccount.f kj4 t131 t132 y158).bind fun t162 => (if t162 = true then (some (t131, t132, y158, true)) else ((spec_l14Copy.f a0_0 a0_1 l0_2).bind fun bt163 => (some (bt163.1, bt163.2.1, bt163.2.2, false))))) else ((spec_l14Copy.f a0_0 a0_1 l0_2).bind fun bt168 => (some (bt168.1, bt168.2.1, bt168.2.2, false)))))) else (none))) = some (r1, r2, r3, r4) := by first | (rw [hy151]; with_reducible exact H) | (have H2_ := (Option.bind_some _ _).symm.trans H; rw [hy151]; with_reducible exact H2_) | (have H2_ := (Option.bind_some _ _).symm.trans H; with_reducible exact H2_) | with_reducible exact H | (rw [hy151]; exact H) | exact H
       have Ny151 := Aside0.mk hy151
       clear hy151
       have c32b0 := eq_true (of_decide_eq_true tA : 0 ≤ x9_4)
       have c33b0 := eq_true (of_decide_eq_true tA : x9_4 ≤ (l0_2.length : Int))
       obtain ⟨y154, hy154⟩ : ∃ y_ : List (S123), y_ = (l0_2.drop (x9_4 : Int).toNat) := ⟨_, rfl⟩
       replace H : (if y151.length + y154.length < 4398046511104 then ((some (y151 ++ y154 : List (S123))).bind fun y158 => ((spec_IsValidAccount.f kj4 a0_0 a0_1 l0_2).bind fun t161 => (if t161 = true then ((spec_IsValidAccount.f kj4 t131 t132 y158).bind fun t162 => (if t162 = true then (some (t131, t132, y158, true)) else ((spec_l14Copy.f a0_0 a0_1 l0_2).bind fun bt163 => (some (bt163.1, bt163.2.1, bt163.2.2, false))))) else ((spec_l14Copy.f a0_0 a0_1 l0_2).bind fun bt168 => (some (bt168.1, bt168.2.1, bt168.2.2, false)))))) else (none)) = some (r1, r2, r3, r4) := by first | (rw [hy154]; with_reducible exact H) | (have H2_ := (Option.bind_some _ _).symm.trans H; rw [hy154]; with_reducible exact H2_) | (have H2_ := (Option.bind_some _ _).symm.trans H; with_reducible exact H2_) | with_reducible exact H | (rw [hy154]; exact H) | exact H
       have Ny154 := Aside0.mk hy154
       clear hy154
       by_cases c34 : y151.length + y154.length < 4398046511104
       ·rw [if_pos c34] at H
        have LMc34 := Aside0.mk c34
        clear c34
        obtain ⟨y158, hy158⟩ : ∃ y_ : List (S123), y_ = (y151 ++ y154) := ⟨_, rfl⟩
        replace H : ((spec_IsValidAccount.f kj4 a0_0 a0_1 l0_2).bind fun t161 => (if t161 = true then ((spec_IsValidAccount.f kj4 t131 t132 y158).bind fun t162 => (if t162 = true then (some (t131, t132, y158, true)) else ((spec_l14Copy.f a0_0 a0_1 l0_2).bind fun bt163 => (some (bt163.1, bt163.2.1, bt163.2.2, false))))) else ((spec_l14Copy.f a0_0 a0_1 l0_2).bind fun bt168 => (some (bt168.1, bt168.2.1, bt168.2.2, false))))) = some (r1, r2, r3, r4) := by first | (rw [hy158]; with_reducible exact H) | (have H2_ := (Option.bind_some _ _).symm.trans H; rw [hy158]; with_reducible exact H2_) | (have H2_ := (Option.bind_some _ _).symm.trans H; with_reducible exact H2_) | with_reducible exact H | (rw [hy158]; exact H) | exact H
        have Ny158 := Aside0.mk hy158
        clear hy158
        replace H := Option.bind_eq_some_iff.mp H
        obtain ⟨t161, A350, H⟩ := H
        replace H : (if t161 = true then ((spec_IsValidAccount.f kj4 t131 t132 y158).bind fun t162 => (if t162 = true then (some (t131, t132, y158, true)) else ((spec_l14Copy.f a0_0 a0_1 l0_2).bind fun bt163 => (some (bt163.1, bt163.2.1, bt163.2.2, false))))) else ((spec_l14Copy.f a0_0 a0_1 l0_2).bind fun bt168 => (some (bt168.1, bt168.2.1, bt168.2.2, false)))) = some (r1, r2, r3, r4) := H
        have A35 := Aside0.mk A350
        clear A350
        by_cases c36 : t161 = true
        ·subst c36
         have H1 : ((spec_IsValidAccount.f kj4 t131 t132 y158).bind fun t162 => (if t162 = true then (some (t131, t132, y158, true)) else ((spec_l14Copy.f a0_0 a0_1 l0_2).bind fun bt163 => (some (bt163.1, bt163.2.1, bt163.2.2, false))))) = some (r1, r2, r3, r4) := by rw [if_pos rfl] at H; exact H
         clear H
         have H := H1
         clear H1
         replace H := Option.bind_eq_some_iff.mp H
         obtain ⟨t162, A370, H⟩ := H
         replace H : (if t162 = true then (some (t131, t132, y158, true)) else ((spec_l14Copy.f a0_0 a0_1 l0_2).bind fun bt163 => (some (bt163.1, bt163.2.1, bt163.2.2, false)))) = some (r1, r2, r3, r4) := H
         have A37 := Aside0.mk A370
         clear A370
         by_cases c38 : t162 = true
         ·subst c38
          have H1 : (some (t131, t132, y158, true)) = some (r1, r2, r3, r4) := by rw [if_pos rfl] at H; exact H
          clear H
          have H := H1
          clear H1
          simp only [Option.some.injEq, Prod.mk.injEq] at H
          obtain ⟨rfl, rfl, rfl, rfl⟩ := H
          try go_wp2
          have n0_ := Aside0.mk (Kd.R_drew HO_137002.out)
          have n1_ := Aside0.mk (blk_drew BK129.out)
          have n2_ := Aside0.mk (blk_drew BK130.out)
          have n3_ := Aside0.mk (blk_drew BK136.out)
          have n4_ := Aside0.mk (below_drew1 HB.out)
          clear HO_137002
          clear BK129
          clear BK130
          clear BK136
          clear HB
          have HO_137002 := n0_
          have BK129 := n1_
          have BK130 := n2_
          have BK136 := n3_
          have HB := n4_
          clear n0_ n1_ n2_ n3_ n4_
          have q40 : (x9_4 : Int) ≤ ((l0_2.length : Int) : Int) := of_decide_eq_true tA
          obtain ⟨i040, hi040, _, hsz40, _⟩ := info_parts info123
          have hroom40 : l0_2.length ≤ c0_2 := HC0_2.out
          have hC40 : Kd.C k123 _ A0_2 l0_2.length l0_2 := HR0_2.out
          have hcut40 := cut_to (P := Try.prog) 74 123 .i64 Try.underlying74 hi040 A0_2 l0_2.length c0_2 x9_4 (of_decide_eq_true tA) q40 hroom40
          have hr40 := Kd.C_take (m := (x9_4 : Int).toNat) hC40 (by omega)
          have hy40 : y141.length = (x9_4 : Int).toNat := (by rw [Ny141.out, List.length_take]; omega)
          rw [← Ny141.out] at hr40
          rw [← hy40] at hcut40
          have HR144 := Aside0.mk hr40
          have HC144 := Aside0.mk (show y141.length ≤ c0_2 from by omega)
          clear hr40 hC40 hroom40 hi040 hsz40
          have KY40 := Aside0.mk hy40
          clear hy40
          replace q40 := eq_true q40
          have q41 : (x9_4 : Int) ≤ ((l0_2.length : Int) : Int) := of_decide_eq_true tA
          obtain ⟨i041, hi041, _, hsz41, _⟩ := info_parts info123
          have hroom41 : l0_2.length ≤ c0_2 := HC0_2.out
          have hC41 : Kd.C k123 _ A0_2 l0_2.length l0_2 := HR0_2.out
          have q041 : (0 : Int) ≤ (x9_4 : Int) := of_decide_eq_true tA
          have hcut41 := cut_from (P := Try.prog) 74 123 .i64 Try.underlying74 hi041 4 hsz41 A0_2 l0_2.length c0_2 x9_4 q041 q41
          have hr41 := Kd.C_drop (m := (x9_4 : Int).toNat) (c := c0_2) hC41 (by omega) hroom41
          obtain ⟨A41, hA41⟩ : ∃ A1, A1 = (if c0_2 = (x9_4 : Int).toNat then A0_2 else (A0_2 : Option Addr).map (·.add ((x9_4 : Int).toNat * 4))) := ⟨_, rfl⟩
          obtain ⟨c41, hc41⟩ : ∃ c1, c1 = c0_2 - (x9_4 : Int).toNat := ⟨_, rfl⟩
          have hy41 : y154.length = l0_2.length - (x9_4 : Int).toNat := (by rw [Ny154.out, List.length_drop] <;> omega)
          rw [show (l0_2).drop (x9_4 : Int).toNat = y154 from Ny154.out.symm] at hr41
          replace hr41 : Kd.C k123 _ A41 y154.length y154 := (by rw [hA41]; exact hr41)
          rw [← hy41, ← hA41, ← hc41] at hcut41
          have HR157 := Aside0.mk hr41
          have HC157 := Aside0.mk (show y154.length ≤ c41 from by rw [hy41, hc41]; exact Nat.sub_le_sub_right hroom41 _)
          clear hr41 hC41 hroom41 hi041 hsz41 hc41
          have KY41 := Aside0.mk hy41
          have KA41 := Aside0.mk hA41
          clear hy41 hA41
          replace q41 := eq_true q41
          refine start_ (n := 18) (S := fun w' => w'.cell? ⟨gb129, 0, none⟩ = some (.int .i64 a0_0) ∧ w'.cell? ⟨gb129, 1, none⟩ = some (.int .i64 a0_1) ∧ w'.cell? ⟨gb129, 2, none⟩ = some (.slice A0_2 l0_2.length c0_2)) (ds := []) #[false, false, false, false, false, false, false, false, false, false, false, false, false, false, false, false, false, false] (by kernel_rfl) rfl rfl ⟨(blk_cell BK129.out 0).trans rfl, (blk_cell BK129.out 1).trans rfl, (blk_cell BK129.out 2).trans rfl⟩ (fun hHeld => ?_); refine with_tabW spec_AddCredential.tab5 spec_AddCredential.bits5 (fun HT_ HW_ => ?_)
          generalize wc.drew = w39 at HO_137002 BK129 BK130 BK136 HB HR144 HR157 hHeld ⊢
          refine pure_ (i := 1) (N := some 30) (v := ?_) (a' := ?_) #[false, true, false, false, false, false, false, false, false, false, false, false, false, false, false, false, false, false] rfl rfl (any_of HT_.out (by kernel_rfl)) (fun _ _ _ h => h) (Or.inl ⟨by rfl, ?_⟩) ?_ ?_
          rotate_left
          ·intro w'
           go_simp
           with_reducible rfl
          rotate_left
          ·simp only [Act.put, List.setIfInBounds_toArray, List.set_cons_zero, List.set_cons_succ, i64_w, i32_w]
           rfl
          refine pure_ (i := 3) (N := some 32) (v := ?_) (a' := ?_) #[false, true, false, true, false, false, false, false, false, false, false, false, false, false, false, false, false, false] rfl rfl (any_of HT_.out (by kernel_rfl)) (fun _ _ _ h => h) (Or.inl ⟨by rfl, ?_⟩) ?_ ?_
          rotate_left
          ·intro w'
           go_simp
           with_reducible rfl
          rotate_left
          ·simp only [Act.put, List.setIfInBounds_toArray, List.set_cons_zero, List.set_cons_succ, i64_w, i32_w]
           rfl
          refine pure_ (i := 6) (N := some 35) (v := ?_) (a' := ?_) #[false, true, false, true, false, false, true, false, false, false, false, false, false, false, false, false, false, false] rfl rfl (any_of HT_.out (by kernel_rfl)) (fun _ _ _ h => h) (Or.inl ⟨by rfl, ?_⟩) ?_ ?_
          rotate_left
          ·intro w'
           go_simp
           with_reducible rfl
          rotate_left
          ·simp only [Act.put, List.setIfInBounds_toArray, List.set_cons_zero, List.set_cons_succ, i64_w, i32_w]
           rfl
          refine pure_ (i := 7) (N := some 36) (v := ?_) (a' := ?_) #[false, true, false, true, false, false, true, true, false, false, false, false, false, false, false, false, false, false] rfl rfl (any_of HT_.out (by kernel_rfl)) (fun _ _ _ h => h) (Or.inl ⟨by rfl, ?_⟩) ?_ ?_
          rotate_left
          ·intro w'
           go_simp
           with_reducible rfl
          rotate_left
          ·simp only [Act.put, List.setIfInBounds_toArray, List.set_cons_zero, List.set_cons_succ, i64_w, i32_w]
           rfl
          refine pure_ (i := 8) (N := some 37) (v := ?_) (a' := ?_) #[false, true, false, true, false, false, true, true, true, false, false, false, false, false, false, false, false, false] rfl rfl (any_of HT_.out (by kernel_rfl)) (fun _ _ _ h => h) (Or.inl ⟨by rfl, ?_⟩) ?_ ?_
          rotate_left
          ·intro w'
           go_simp
           with_reducible rfl
          rotate_left
          ·simp only [Act.put, List.setIfInBounds_toArray, List.set_cons_zero, List.set_cons_succ, i64_w, i32_w]
           rfl
          refine pure_ (i := 11) (N := some 40) (v := ?_) (a' := ?_) #[false, true, false, true, false, false, true, true, true, false, false, true, false, false, false, false, false, false] rfl rfl (any_of HT_.out (by kernel_rfl)) (fun _ _ _ h => h) (Or.inl ⟨by rfl, ?_⟩) ?_ ?_
          rotate_left
          ·intro w'
           go_simp
           with_reducible rfl
          rotate_left
          ·simp only [Act.put, List.setIfInBounds_toArray, List.set_cons_zero, List.set_cons_succ, i64_w, i32_w]
           rfl
          refine pure_ (i := 13) (N := some 42) (v := ?_) (a' := ?_) #[false, true, false, true, false, false, true, true, true, false, false, true, false, true, false, false, false, false] rfl rfl (any_of HT_.out (by kernel_rfl)) (fun _ _ _ h => h) (Or.inl ⟨by rfl, ?_⟩) ?_ ?_
          rotate_left
          ·intro w'
           go_simp
           with_reducible rfl
          rotate_left
          ·simp only [Act.put, List.setIfInBounds_toArray, List.set_cons_zero, List.set_cons_succ, i64_w, i32_w]
           rfl
          refine take_ (i := 2) (N := some 31) (v := ?_) (a' := ?_) #[false, true, true, true, false, false, true, true, true, false, false, true, false, true, false, false, false, false] rfl rfl (take_ofW HT_.out HW_.out (by kernel_rfl)) (fun _ _ _ h => h) (Or.inl ⟨by rfl, ?_⟩) hHeld ?_ ?_
          rotate_left
          ·rintro w' ⟨s0, s1, s2⟩
           go_simp
           with_reducible rfl
          rotate_left
          ·simp only [Act.put, List.setIfInBounds_toArray, List.set_cons_zero, List.set_cons_succ, i64_w, i32_w]
           rfl
          refine pure_ (i := 4) (N := some 33) (v := ?_) (a' := ?_) #[false, true, true, true, true, false, true, true, true, false, false, true, false, true, false, false, false, false] rfl rfl (any_of HT_.out (by kernel_rfl)) (fun _ _ _ h => h) (Or.inl ⟨by rfl, ?_⟩) ?_ ?_
          rotate_left
          ·intro w'
           go_simp
           with_reducible rfl
          rotate_left
          ·simp only [Act.put, List.setIfInBounds_toArray, List.set_cons_zero, List.set_cons_succ, i64_w, i32_w]
           rfl
          refine take_ (i := 12) (N := some 41) (v := ?_) (a' := ?_) #[false, true, true, true, true, false, true, true, true, false, false, true, true, true, false, false, false, false] rfl rfl (take_ofW HT_.out HW_.out (by kernel_rfl)) (fun _ _ _ h => h) (Or.inl ⟨by rfl, ?_⟩) hHeld ?_ ?_
          rotate_left
          ·rintro w' ⟨s0, s1, s2⟩
           go_simp
           with_reducible rfl
          rotate_left
          ·simp only [Act.put, List.setIfInBounds_toArray, List.set_cons_zero, List.set_cons_succ, i64_w, i32_w]
           rfl
          refine pure_ (i := 14) (N := some 43) (v := ?_) (a' := ?_) #[false, true, true, true, true, false, true, true, true, false, false, true, true, true, true, false, false, false] rfl rfl (any_of HT_.out (by kernel_rfl)) (fun _ _ _ h => h) (Or.inl ⟨by rfl, ?_⟩) ?_ ?_
          rotate_left
          ·intro w'
           go_simp
           with_reducible rfl
          rotate_left
          ·simp only [Act.put, List.setIfInBounds_toArray, List.set_cons_zero, List.set_cons_succ, i64_w, i32_w]
           rfl
          refine join_ (σ := Value × Value × Value) 4 #[true, true, true, true, true, true, true, true, true, true, false, true, true, true, true, false, false, false] (fun s_ => [(29, s_.1), (34, s_.2.1), (38, s_.2.2)]) (fun s_ w' => (w'.cell? ⟨gb129, 0, none⟩ = some (.int .i64 a0_0) ∧ w'.cell? ⟨gb129, 1, none⟩ = some (.int .i64 a0_1) ∧ w'.cell? ⟨gb129, 2, none⟩ = some (.slice A0_2 l0_2.length c0_2)) ∧ (Kd.R k123 123 w' w.heap.size (fun k_ => some k_ ≠ (s_.2.2 : Value).ownBlock ∧ some k_ ≠ (.slice Ao15 t133.length co15 : Value).ownBlock) s_.2.1 y145) ∧ (Kd.R k123 123 w' w.heap.size (fun k_ => some k_ ≠ (s_.2.1 : Value).ownBlock ∧ some k_ ≠ (.slice Ao15 t133.length co15 : Value).ownBlock) s_.2.2 y148) ∧ (Kd.R k123 123 w' w.heap.size (fun k_ => some k_ ≠ (s_.2.1 : Value).ownBlock ∧ some k_ ≠ (s_.2.2 : Value).ownBlock) (.slice Ao15 t133.length co15) t133) ∧ (w'.heap[gb129]? = some (.cells #[.int .i64 a0_0, .int .i64 a0_1, .slice A0_2 l0_2.length c0_2] 76 (0, 0))) ∧ (w'.heap[gb130]? = some (.cells #[.int .i64 0, .int .i64 0, .slice none 0 0] 76 (0, 0))) ∧ (w'.heap[gb136]? = some (.cells #[.int .i64 t131, .int .i64 t132, .slice Ao15 t133.length co15] 76 (0, 0))) ∧ (Below w.heap.size w w')) ?_ ?_
          rotate_left
          ·intro hCont
           refine two_ (i := 0) (j := 9) (Ni := some 29) (Nj := some 38) #[true, true, true, true, true, false, true, true, true, false, false, true, true, true, true, false, false, false] #[false, true, true, true, true, false, true, true, true, true, false, true, true, true, true, false, false, false] rfl rfl rfl rfl (two_of HT_.out (by kernel_rfl)) (by decide) (by decide) (fun K hK => ?_) (fun K hK => ?_)
           ·skip
            refine Kd.R_lit_step k123 _ 123 ?hg (N := 29) ?hd (xs := ([] : List (S123))) (inner := []) (ok := fun _ => True) (okp := fun _ => True) ?hr ?hp (fun _ hk => hk) trivial (Below.refl _ _) (Nat.le_refl _) (by simp) ?_; (case hd => rfl); (case hg => rfl); (case hr => exact tG); (case hp => exact (Reps.none _ _))
            intro v139 w42 ho43 hb hg_ hnew_
            clear hg_ hnew_
            (first | rw [← Ny138.out] at ho43 | (simp only [Int.reduceToNat] at ho43; rw [← Ny138.out] at ho43))
            have n0_ := Aside0.mk (Kd.R_elder' (tR HO_137002) (Kd.R_base ho43) hb)
            have n1_ := Aside0.mk (Kd.R_lower (Kd.R_new' ho43 (Kd.R_lt (tR HO_137002))) (below_size tB))
            have n2_ := Aside0.mk (blk_below (g := gb129) (o := .cells #[.int .i64 a0_0, .int .i64 a0_1, .slice A0_2 l0_2.length c0_2] 76 (0, 0)) (tK BK129) hb)
            have n3_ := Aside0.mk (blk_below (g := gb130) (o := .cells #[.int .i64 0, .int .i64 0, .slice none 0 0] 76 (0, 0)) (tK BK130) hb)
            have n4_ := Aside0.mk (blk_below (g := gb136) (o := .cells #[.int .i64 t131, .int .i64 t132, .slice Ao15 t133.length co15] 76 (0, 0)) (tK BK136) hb)
            have n5_ := Aside0.mk (below_step tB hb)
            clear HO_137002
            clear BK129
            clear BK130
            clear BK136
            clear HB
            have HO_137002 := n0_
            have HO140 := n1_
            have BK129 := n2_
            have BK130 := n3_
            have BK136 := n4_
            have HB := n5_
            clear n0_ n1_ n2_ n3_ n4_ n5_
            clear hb ho43
            refine hK.out _ _ ⟨(blk_cell BK129.out 0).trans rfl, (blk_cell BK129.out 1).trans rfl, (blk_cell BK129.out 2).trans rfl⟩ (fun hHeld => ?_)
            clear hK K
            refine norm_ (a' := ?_) ?_ ?_
            rotate_left
            ·show Act.put _ (some 29) _ = _
             simp only [Act.put, List.setIfInBounds_toArray, List.set_cons_zero, List.set_cons_succ, i64_w, i32_w]
             rfl
            refine two_ (i := 5) (j := 9) (Ni := some 34) (Nj := some 38) #[true, true, true, true, true, true, true, true, true, false, false, true, true, true, true, false, false, false] #[true, true, true, true, true, false, true, true, true, true, false, true, true, true, true, false, false, false] rfl rfl rfl rfl (two_of HT_.out (by kernel_rfl)) (by decide) (by decide) (fun K hK => ?_) (fun K hK => ?_)
            ·skip
             refine Kd.R_append_rows_step k123 (w0 := w) w.heap.size (by rfl) (.tmp 29) (.tmp 33) 74 123 (.agg #[(.int .i64 0), (.int .i64 0), (.int .i64 0), (.bool false)]) 32 rfl Try.underlying74 info123 rfl (by decide) (by omega) v139 y138 y141 _ _ _ (fun k_ => some k_ ≠ (.slice Ao15 t133.length co15 : Value).ownBlock) (fun _ => False) rfl rfl ?aO ?aR (fun _ _ h => h) (fun _ h => h.elim) ?aF ?aB ?aS ?aL ?_
             (case aR => repeat (first | exact (Kd.C_below HR144.out HB.out) | (with_reducible refine Kd.C_alloc ?_ _) | (with_reducible refine Kd.C_drewN ?_ _) | (with_reducible refine Kd.C_drew ?_)))
             (case aB => exact tB)
             (case aF => exact (fun k_ hk => Kd.fresh' (Kd.R_lt (tR HO_137002)) k_ hk))
             (case aO => exact (by (with_reducible repeat (first | apply Kd.R_alloc | apply Kd.R_drewN | apply Kd.R_drew)); exact Kd.R_mono HO140.out (fun _ hk => hk.2)))
             (case aS => exact (below_size tB))
             (case aL => have := LMc30.out; omega)
             intro v146 w44 ho hb hg hat
             rw [← Ny145.out] at ho
             have n0_ := Aside0.mk (Kd.R_after (ok := (fun _ => True)) (tR HO_137002) hg hat)
             have n1_ := Aside0.mk (blk_grown (g := gb129) (o := .cells #[.int .i64 a0_0, .int .i64 a0_1, .slice A0_2 l0_2.length c0_2] 76 (0, 0)) (tK BK129) hg (Kd.R_ne HO140.out BK129.out (by decide)))
             have n2_ := Aside0.mk (blk_grown (g := gb130) (o := .cells #[.int .i64 0, .int .i64 0, .slice none 0 0] 76 (0, 0)) (tK BK130) hg (Kd.R_ne HO140.out BK130.out (by decide)))
             have n3_ := Aside0.mk (blk_grown (g := gb136) (o := .cells #[.int .i64 t131, .int .i64 t132, .slice Ao15 t133.length co15] 76 (0, 0)) (tK BK136) hg (Kd.R_ne HO140.out BK136.out (by decide)))
             have n4_ := Aside0.mk (hb)
             have n5_ := Aside0.mk (ho)
             clear HO_137002
             clear BK129
             clear BK130
             clear BK136
             clear HB
             clear HO140
             have HO_137002 := n0_
             have BK129 := n1_
             have BK130 := n2_
             have BK136 := n3_
             have HB := n4_
             have HO147 := n5_
             clear n0_ n1_ n2_ n3_ n4_ n5_
             clear ho hb hg hat
             refine hK.out _ _ ⟨(blk_cell BK129.out 0).trans rfl, (blk_cell BK129.out 1).trans rfl, (blk_cell BK129.out 2).trans rfl⟩ (fun hHeld => ?_)
             clear hK K
             refine norm_ (a' := ?_) ?_ ?_
             rotate_left
             ·show Act.put _ (some 34) _ = _
              simp only [Act.put, List.setIfInBounds_toArray, List.set_cons_zero, List.set_cons_succ, i64_w, i32_w]
              rfl
             refine one_ (i := 9) (N := some 38) #[true, true, true, true, true, true, true, true, true, true, false, true, true, true, true, false, false, false] rfl rfl (one_of HT_.out (by kernel_rfl)) (by decide) (fun K hK => ?_)
             refine Kd.R_lit_step k123 _ 123 ?hg (N := 38) ?hd (xs := ([(⟨a1, a2, 0, false⟩ : S123)] : List (S123))) (inner := [.int .i64 a1, .int .i64 a2, .int .i64 0, .bool false]) (ok := fun _ => True) (okp := fun _ => True) ?hr ?hp (fun _ hk => hk) trivial (Below.refl _ _) (Nat.le_refl _) (by simp) ?_; (case hd => rfl); (case hg => rfl); (case hr => exact tG); (case hp => exact (Reps.c4 (show Kd.M k123 _ _ _ (⟨a1, a2, 0, false⟩ : S123) [.int .i64 a1, .int .i64 a2, .int .i64 0, .bool false] from (k123_mkM _ _ _ (⟨a1, a2, 0, false⟩ : S123) )) (Reps.none _ _)))
             intro v149 w45 ho46 hb hg_ hnew_
             clear hg_ hnew_
             (first | rw [← Ny148.out] at ho46 | (simp only [Int.reduceToNat] at ho46; rw [← Ny148.out] at ho46))
             have n0_ := Aside0.mk (Kd.R_elder' (tR HO_137002) (Kd.R_base ho46) hb)
             have n1_ := Aside0.mk (Kd.R_elder' (tR HO147) (Kd.R_base ho46) hb)
             have n2_ := Aside0.mk (Kd.R_lower (Kd.R_new' (Kd.R_new' ho46 (Kd.R_lt (tR HO_137002))) (Kd.R_lt (tR HO147))) (below_size tB))
             have n3_ := Aside0.mk (blk_below (g := gb129) (o := .cells #[.int .i64 a0_0, .int .i64 a0_1, .slice A0_2 l0_2.length c0_2] 76 (0, 0)) (tK BK129) hb)
             have n4_ := Aside0.mk (blk_below (g := gb130) (o := .cells #[.int .i64 0, .int .i64 0, .slice none 0 0] 76 (0, 0)) (tK BK130) hb)
             have n5_ := Aside0.mk (blk_below (g := gb136) (o := .cells #[.int .i64 t131, .int .i64 t132, .slice Ao15 t133.length co15] 76 (0, 0)) (tK BK136) hb)
             have n6_ := Aside0.mk (below_step tB hb)
             clear HO_137002
             clear HO147
             clear BK129
             clear BK130
             clear BK136
             clear HB
             have HO_137002 := n0_
             have HO147 := n1_
             have HO150 := n2_
             have BK129 := n3_
             have BK130 := n4_
             have BK136 := n5_
             have HB := n6_
             clear n0_ n1_ n2_ n3_ n4_ n5_ n6_
             clear hb ho46
             refine hK.out _ _ ⟨(blk_cell BK129.out 0).trans rfl, (blk_cell BK129.out 1).trans rfl, (blk_cell BK129.out 2).trans rfl⟩ (fun hHeld => ?_)
             clear hK K
             refine norm_ (a' := ?_) ?_ ?_
             rotate_left
             ·show Act.put _ (some 38) _ = _
              simp only [Act.put, List.setIfInBounds_toArray, List.set_cons_zero, List.set_cons_succ, i64_w, i32_w]
              rfl
             exact norm_ (by simp only [putAll, Act.put, List.setIfInBounds_toArray, List.set_cons_zero, List.set_cons_succ]) (hCont (v139, v146, v149) _ ⟨hHeld, (by (with_reducible repeat (first | apply Kd.R_alloc | apply Kd.R_drewN | apply Kd.R_drew)); exact Kd.R_mono HO147.out (fun _ hk => ⟨hk.2, hk.1⟩)), (by (with_reducible repeat (first | apply Kd.R_alloc | apply Kd.R_drewN | apply Kd.R_drew)); exact Kd.R_mono HO150.out (fun _ hk => ⟨hk.2, hk.1.2⟩)), (by (with_reducible repeat (first | apply Kd.R_alloc | apply Kd.R_drewN | apply Kd.R_drew)); exact Kd.R_mono HO_137002.out (fun _ hk => ⟨hk.1.2, hk.2⟩)), (tK BK129), (tK BK130), (tK BK136), tB⟩)
            ·skip
             refine Kd.R_lit_step k123 _ 123 ?hg (N := 38) ?hd (xs := ([(⟨a1, a2, 0, false⟩ : S123)] : List (S123))) (inner := [.int .i64 a1, .int .i64 a2, .int .i64 0, .bool false]) (ok := fun _ => True) (okp := fun _ => True) ?hr ?hp (fun _ hk => hk) trivial (Below.refl _ _) (Nat.le_refl _) (by simp) ?_; (case hd => rfl); (case hg => rfl); (case hr => exact tG); (case hp => exact (Reps.c4 (show Kd.M k123 _ _ _ (⟨a1, a2, 0, false⟩ : S123) [.int .i64 a1, .int .i64 a2, .int .i64 0, .bool false] from (k123_mkM _ _ _ (⟨a1, a2, 0, false⟩ : S123) )) (Reps.none _ _)))
             intro v149 w44 ho45 hb hg_ hnew_
             clear hg_ hnew_
             (first | rw [← Ny148.out] at ho45 | (simp only [Int.reduceToNat] at ho45; rw [← Ny148.out] at ho45))
             have n0_ := Aside0.mk (Kd.R_elder' (tR HO_137002) (Kd.R_base ho45) hb)
             have n1_ := Aside0.mk (Kd.R_elder' (tR HO140) (Kd.R_base ho45) hb)
             have n2_ := Aside0.mk (Kd.R_lower (Kd.R_new' (Kd.R_new' ho45 (Kd.R_lt (tR HO_137002))) (Kd.R_lt (tR HO140))) (below_size tB))
             have n3_ := Aside0.mk (blk_below (g := gb129) (o := .cells #[.int .i64 a0_0, .int .i64 a0_1, .slice A0_2 l0_2.length c0_2] 76 (0, 0)) (tK BK129) hb)
             have n4_ := Aside0.mk (blk_below (g := gb130) (o := .cells #[.int .i64 0, .int .i64 0, .slice none 0 0] 76 (0, 0)) (tK BK130) hb)
             have n5_ := Aside0.mk (blk_below (g := gb136) (o := .cells #[.int .i64 t131, .int .i64 t132, .slice Ao15 t133.length co15] 76 (0, 0)) (tK BK136) hb)
             have n6_ := Aside0.mk (below_step tB hb)
             clear HO_137002
             clear HO140
             clear BK129
             clear BK130
             clear BK136
             clear HB
             have HO_137002 := n0_
             have HO140 := n1_
             have HO150 := n2_
             have BK129 := n3_
             have BK130 := n4_
             have BK136 := n5_
             have HB := n6_
             clear n0_ n1_ n2_ n3_ n4_ n5_ n6_
             clear hb ho45
             refine hK.out _ _ ⟨(blk_cell BK129.out 0).trans rfl, (blk_cell BK129.out 1).trans rfl, (blk_cell BK129.out 2).trans rfl⟩ (fun hHeld => ?_)
             clear hK K
             refine norm_ (a' := ?_) ?_ ?_
             rotate_left
             ·show Act.put _ (some 38) _ = _
              simp only [Act.put, List.setIfInBounds_toArray, List.set_cons_zero, List.set_cons_succ, i64_w, i32_w]
              rfl
             refine one_ (i := 5) (N := some 34) #[true, true, true, true, true, true, true, true, true, true, false, true, true, true, true, false, false, false] rfl rfl (one_of HT_.out (by kernel_rfl)) (by decide) (fun K hK => ?_)
             refine Kd.R_append_rows_step k123 (w0 := w) w.heap.size (by rfl) (.tmp 29) (.tmp 33) 74 123 (.agg #[(.int .i64 0), (.int .i64 0), (.int .i64 0), (.bool false)]) 32 rfl Try.underlying74 info123 rfl (by decide) (by omega) v139 y138 y141 _ _ _ (fun k_ => some k_ ≠ (.slice Ao15 t133.length co15 : Value).ownBlock ∧ some k_ ≠ (v149 : Value).ownBlock) (fun _ => False) rfl rfl ?aO ?aR (fun _ _ h => h) (fun _ h => h.elim) ?aF ?aB ?aS ?aL ?_
             (case aR => repeat (first | exact (Kd.C_below HR144.out HB.out) | (with_reducible refine Kd.C_alloc ?_ _) | (with_reducible refine Kd.C_drewN ?_ _) | (with_reducible refine Kd.C_drew ?_)))
             (case aB => exact tB)
             (case aF => exact (fun k_ hk => ⟨Kd.fresh' (Kd.R_lt (tR HO_137002)) k_ hk, Kd.fresh' (Kd.R_lt (tR HO150)) k_ hk⟩))
             (case aO => exact (by (with_reducible repeat (first | apply Kd.R_alloc | apply Kd.R_drewN | apply Kd.R_drew)); exact Kd.R_mono HO140.out (fun _ hk => ⟨hk.1.2, hk.2⟩)))
             (case aS => exact (below_size tB))
             (case aL => have := LMc30.out; omega)
             intro v146 w46 ho hb hg hat
             rw [← Ny145.out] at ho
             have n0_ := Aside0.mk (Kd.R_after (ok := (fun k_ => some k_ ≠ (v149 : Value).ownBlock)) (by (with_reducible repeat (first | apply Kd.R_alloc | apply Kd.R_drewN | apply Kd.R_drew)); exact Kd.R_mono HO_137002.out (fun _ hk => ⟨hk.2, hk.1.2⟩)) hg hat)
             have n1_ := Aside0.mk (blk_grown (g := gb129) (o := .cells #[.int .i64 a0_0, .int .i64 a0_1, .slice A0_2 l0_2.length c0_2] 76 (0, 0)) (tK BK129) hg (Kd.R_ne HO140.out BK129.out (by decide)))
             have n2_ := Aside0.mk (blk_grown (g := gb130) (o := .cells #[.int .i64 0, .int .i64 0, .slice none 0 0] 76 (0, 0)) (tK BK130) hg (Kd.R_ne HO140.out BK130.out (by decide)))
             have n3_ := Aside0.mk (blk_grown (g := gb136) (o := .cells #[.int .i64 t131, .int .i64 t132, .slice Ao15 t133.length co15] 76 (0, 0)) (tK BK136) hg (Kd.R_ne HO140.out BK136.out (by decide)))
             have n4_ := Aside0.mk (Kd.R_after (ok := (fun k_ => some k_ ≠ (.slice Ao15 t133.length co15 : Value).ownBlock)) (by (with_reducible repeat (first | apply Kd.R_alloc | apply Kd.R_drewN | apply Kd.R_drew)); exact Kd.R_mono HO150.out (fun _ hk => ⟨hk.1.2, hk.2⟩)) hg hat)
             have n5_ := Aside0.mk (hb)
             have n6_ := Aside0.mk (ho)
             clear HO_137002
             clear BK129
             clear BK130
             clear BK136
             clear HO150
             clear HB
             clear HO140
             have HO_137002 := n0_
             have BK129 := n1_
             have BK130 := n2_
             have BK136 := n3_
             have HO150 := n4_
             have HB := n5_
             have HO147 := n6_
             clear n0_ n1_ n2_ n3_ n4_ n5_ n6_
             clear ho hb hg hat
             refine hK.out _ _ ⟨(blk_cell BK129.out 0).trans rfl, (blk_cell BK129.out 1).trans rfl, (blk_cell BK129.out 2).trans rfl⟩ (fun hHeld => ?_)
             clear hK K
             refine norm_ (a' := ?_) ?_ ?_
             rotate_left
             ·show Act.put _ (some 34) _ = _
              simp only [Act.put, List.setIfInBounds_toArray, List.set_cons_zero, List.set_cons_succ, i64_w, i32_w]
              rfl
             exact norm_ (by simp only [putAll, Act.put, List.setIfInBounds_toArray, List.set_cons_zero, List.set_cons_succ]) (hCont (v139, v146, v149) _ ⟨hHeld, (by (with_reducible repeat (first | apply Kd.R_alloc | apply Kd.R_drewN | apply Kd.R_drew)); exact Kd.R_mono HO147.out (fun _ hk => ⟨hk.2, hk.1⟩)), (by (with_reducible repeat (first | apply Kd.R_alloc | apply Kd.R_drewN | apply Kd.R_drew)); exact Kd.R_mono HO150.out (fun _ hk => ⟨hk.2, hk.1⟩)), (by (with_reducible repeat (first | apply Kd.R_alloc | apply Kd.R_drewN | apply Kd.R_drew)); exact Kd.R_mono HO_137002.out (fun _ hk => ⟨hk.2, hk.1⟩)), (tK BK129), (tK BK130), (tK BK136), tB⟩)
           ·skip
            refine Kd.R_lit_step k123 _ 123 ?hg (N := 38) ?hd (xs := ([(⟨a1, a2, 0, false⟩ : S123)] : List (S123))) (inner := [.int .i64 a1, .int .i64 a2, .int .i64 0, .bool false]) (ok := fun _ => True) (okp := fun _ => True) ?hr ?hp (fun _ hk => hk) trivial (Below.refl _ _) (Nat.le_refl _) (by simp) ?_; (case hd => rfl); (case hg => rfl); (case hr => exact tG); (case hp => exact (Reps.c4 (show Kd.M k123 _ _ _ (⟨a1, a2, 0, false⟩ : S123) [.int .i64 a1, .int .i64 a2, .int .i64 0, .bool false] from (k123_mkM _ _ _ (⟨a1, a2, 0, false⟩ : S123) )) (Reps.none _ _)))
            intro v149 w42 ho43 hb hg_ hnew_
            clear hg_ hnew_
            (first | rw [← Ny148.out] at ho43 | (simp only [Int.reduceToNat] at ho43; rw [← Ny148.out] at ho43))
            have n0_ := Aside0.mk (Kd.R_elder' (tR HO_137002) (Kd.R_base ho43) hb)
            have n1_ := Aside0.mk (Kd.R_lower (Kd.R_new' ho43 (Kd.R_lt (tR HO_137002))) (below_size tB))
            have n2_ := Aside0.mk (blk_below (g := gb129) (o := .cells #[.int .i64 a0_0, .int .i64 a0_1, .slice A0_2 l0_2.length c0_2] 76 (0, 0)) (tK BK129) hb)
            have n3_ := Aside0.mk (blk_below (g := gb130) (o := .cells #[.int .i64 0, .int .i64 0, .slice none 0 0] 76 (0, 0)) (tK BK130) hb)
            have n4_ := Aside0.mk (blk_below (g := gb136) (o := .cells #[.int .i64 t131, .int .i64 t132, .slice Ao15 t133.length co15] 76 (0, 0)) (tK BK136) hb)
            have n5_ := Aside0.mk (below_step tB hb)
            clear HO_137002
            clear BK129
            clear BK130
            clear BK136
            clear HB
            have HO_137002 := n0_
            have HO150 := n1_
            have BK129 := n2_
            have BK130 := n3_
            have BK136 := n4_
            have HB := n5_
            clear n0_ n1_ n2_ n3_ n4_ n5_
            clear hb ho43
            refine hK.out _ _ ⟨(blk_cell BK129.out 0).trans rfl, (blk_cell BK129.out 1).trans rfl, (blk_cell BK129.out 2).trans rfl⟩ (fun hHeld => ?_)
            clear hK K
            refine norm_ (a' := ?_) ?_ ?_
            rotate_left
            ·show Act.put _ (some 38) _ = _
             simp only [Act.put, List.setIfInBounds_toArray, List.set_cons_zero, List.set_cons_succ, i64_w, i32_w]
             rfl
            refine one_ (i := 0) (N := some 29) #[true, true, true, true, true, false, true, true, true, true, false, true, true, true, true, false, false, false] rfl rfl (one_of HT_.out (by kernel_rfl)) (by decide) (fun K hK => ?_)
            refine Kd.R_lit_step k123 _ 123 ?hg (N := 29) ?hd (xs := ([] : List (S123))) (inner := []) (ok := fun _ => True) (okp := fun _ => True) ?hr ?hp (fun _ hk => hk) trivial (Below.refl _ _) (Nat.le_refl _) (by simp) ?_; (case hd => rfl); (case hg => rfl); (case hr => exact tG); (case hp => exact (Reps.none _ _))
            intro v139 w44 ho45 hb hg_ hnew_
            clear hg_ hnew_
            (first | rw [← Ny138.out] at ho45 | (simp only [Int.reduceToNat] at ho45; rw [← Ny138.out] at ho45))
            have n0_ := Aside0.mk (Kd.R_elder' (tR HO_137002) (Kd.R_base ho45) hb)
            have n1_ := Aside0.mk (Kd.R_elder' (tR HO150) (Kd.R_base ho45) hb)
            have n2_ := Aside0.mk (Kd.R_lower (Kd.R_new' (Kd.R_new' ho45 (Kd.R_lt (tR HO_137002))) (Kd.R_lt (tR HO150))) (below_size tB))
            have n3_ := Aside0.mk (blk_below (g := gb129) (o := .cells #[.int .i64 a0_0, .int .i64 a0_1, .slice A0_2 l0_2.length c0_2] 76 (0, 0)) (tK BK129) hb)
            have n4_ := Aside0.mk (blk_below (g := gb130) (o := .cells #[.int .i64 0, .int .i64 0, .slice none 0 0] 76 (0, 0)) (tK BK130) hb)
            have n5_ := Aside0.mk (blk_below (g := gb136) (o := .cells #[.int .i64 t131, .int .i64 t132, .slice Ao15 t133.length co15] 76 (0, 0)) (tK BK136) hb)
            have n6_ := Aside0.mk (below_step tB hb)
            clear HO_137002
            clear HO150
            clear BK129
            clear BK130
            clear BK136
            clear HB
            have HO_137002 := n0_
            have HO150 := n1_
            have HO140 := n2_
            have BK129 := n3_
            have BK130 := n4_
            have BK136 := n5_
            have HB := n6_
            clear n0_ n1_ n2_ n3_ n4_ n5_ n6_
            clear hb ho45
            refine hK.out _ _ ⟨(blk_cell BK129.out 0).trans rfl, (blk_cell BK129.out 1).trans rfl, (blk_cell BK129.out 2).trans rfl⟩ (fun hHeld => ?_)
            clear hK K
            refine norm_ (a' := ?_) ?_ ?_
            rotate_left
            ·show Act.put _ (some 29) _ = _
             simp only [Act.put, List.setIfInBounds_toArray, List.set_cons_zero, List.set_cons_succ, i64_w, i32_w]
             rfl
            refine one_ (i := 5) (N := some 34) #[true, true, true, true, true, true, true, true, true, true, false, true, true, true, true, false, false, false] rfl rfl (one_of HT_.out (by kernel_rfl)) (by decide) (fun K hK => ?_)
            refine Kd.R_append_rows_step k123 (w0 := w) w.heap.size (by rfl) (.tmp 29) (.tmp 33) 74 123 (.agg #[(.int .i64 0), (.int .i64 0), (.int .i64 0), (.bool false)]) 32 rfl Try.underlying74 info123 rfl (by decide) (by omega) v139 y138 y141 _ _ _ (fun k_ => some k_ ≠ (.slice Ao15 t133.length co15 : Value).ownBlock ∧ some k_ ≠ (v149 : Value).ownBlock) (fun _ => False) rfl rfl ?aO ?aR (fun _ _ h => h) (fun _ h => h.elim) ?aF ?aB ?aS ?aL ?_
            (case aR => repeat (first | exact (Kd.C_below HR144.out HB.out) | (with_reducible refine Kd.C_alloc ?_ _) | (with_reducible refine Kd.C_drewN ?_ _) | (with_reducible refine Kd.C_drew ?_)))
            (case aB => exact tB)
            (case aF => exact (fun k_ hk => ⟨Kd.fresh' (Kd.R_lt (tR HO_137002)) k_ hk, Kd.fresh' (Kd.R_lt (tR HO150)) k_ hk⟩))
            (case aO => exact (by (with_reducible repeat (first | apply Kd.R_alloc | apply Kd.R_drewN | apply Kd.R_drew)); exact Kd.R_mono HO140.out (fun _ hk => ⟨hk.1.2, hk.2⟩)))
            (case aS => exact (below_size tB))
            (case aL => have := LMc30.out; omega)
            intro v146 w46 ho hb hg hat
            rw [← Ny145.out] at ho
            have n0_ := Aside0.mk (Kd.R_after (ok := (fun k_ => some k_ ≠ (v149 : Value).ownBlock)) (by (with_reducible repeat (first | apply Kd.R_alloc | apply Kd.R_drewN | apply Kd.R_drew)); exact Kd.R_mono HO_137002.out (fun _ hk => ⟨hk.1.2, hk.2⟩)) hg hat)
            have n1_ := Aside0.mk (blk_grown (g := gb129) (o := .cells #[.int .i64 a0_0, .int .i64 a0_1, .slice A0_2 l0_2.length c0_2] 76 (0, 0)) (tK BK129) hg (Kd.R_ne HO140.out BK129.out (by decide)))
            have n2_ := Aside0.mk (blk_grown (g := gb130) (o := .cells #[.int .i64 0, .int .i64 0, .slice none 0 0] 76 (0, 0)) (tK BK130) hg (Kd.R_ne HO140.out BK130.out (by decide)))
            have n3_ := Aside0.mk (blk_grown (g := gb136) (o := .cells #[.int .i64 t131, .int .i64 t132, .slice Ao15 t133.length co15] 76 (0, 0)) (tK BK136) hg (Kd.R_ne HO140.out BK136.out (by decide)))
            have n4_ := Aside0.mk (Kd.R_after (ok := (fun k_ => some k_ ≠ (.slice Ao15 t133.length co15 : Value).ownBlock)) (by (with_reducible repeat (first | apply Kd.R_alloc | apply Kd.R_drewN | apply Kd.R_drew)); exact Kd.R_mono HO150.out (fun _ hk => ⟨hk.1.2, hk.2⟩)) hg hat)
            have n5_ := Aside0.mk (hb)
            have n6_ := Aside0.mk (ho)
            clear HO_137002
            clear BK129
            clear BK130
            clear BK136
            clear HO150
            clear HB
            clear HO140
            have HO_137002 := n0_
            have BK129 := n1_
            have BK130 := n2_
            have BK136 := n3_
            have HO150 := n4_
            have HB := n5_
            have HO147 := n6_
            clear n0_ n1_ n2_ n3_ n4_ n5_ n6_
            clear ho hb hg hat
            refine hK.out _ _ ⟨(blk_cell BK129.out 0).trans rfl, (blk_cell BK129.out 1).trans rfl, (blk_cell BK129.out 2).trans rfl⟩ (fun hHeld => ?_)
            clear hK K
            refine norm_ (a' := ?_) ?_ ?_
            rotate_left
            ·show Act.put _ (some 34) _ = _
             simp only [Act.put, List.setIfInBounds_toArray, List.set_cons_zero, List.set_cons_succ, i64_w, i32_w]
             rfl
            exact norm_ (by simp only [putAll, Act.put, List.setIfInBounds_toArray, List.set_cons_zero, List.set_cons_succ]) (hCont (v139, v146, v149) _ ⟨hHeld, (by (with_reducible repeat (first | apply Kd.R_alloc | apply Kd.R_drewN | apply Kd.R_drew)); exact Kd.R_mono HO147.out (fun _ hk => ⟨hk.2, hk.1⟩)), (by (with_reducible repeat (first | apply Kd.R_alloc | apply Kd.R_drewN | apply Kd.R_drew)); exact Kd.R_mono HO150.out (fun _ hk => ⟨hk.2, hk.1⟩)), (by (with_reducible repeat (first | apply Kd.R_alloc | apply Kd.R_drewN | apply Kd.R_drew)); exact Kd.R_mono HO_137002.out (fun _ hk => ⟨hk.2, hk.1⟩)), (tK BK129), (tK BK130), (tK BK136), tB⟩)
          rintro ⟨v139, v146, v149⟩ w47 ⟨hS_, h0_, h1_, h2_, h3_, h4_, h5_, h6_⟩
          have n0_ : Aside0 (Kd.R k123 123 w47 w.heap.size (fun k_ => some k_ ≠ (v149 : Value).ownBlock ∧ some k_ ≠ (.slice Ao15 t133.length co15 : Value).ownBlock) v146 y145) := ⟨h0_⟩
          have n1_ : Aside0 (Kd.R k123 123 w47 w.heap.size (fun k_ => some k_ ≠ (v146 : Value).ownBlock ∧ some k_ ≠ (.slice Ao15 t133.length co15 : Value).ownBlock) v149 y148) := ⟨h1_⟩
          have n2_ : Aside0 (Kd.R k123 123 w47 w.heap.size (fun k_ => some k_ ≠ (v146 : Value).ownBlock ∧ some k_ ≠ (v149 : Value).ownBlock) (.slice Ao15 t133.length co15) t133) := ⟨h2_⟩
          have n3_ : Aside0 (w47.heap[gb129]? = some (.cells #[.int .i64 a0_0, .int .i64 a0_1, .slice A0_2 l0_2.length c0_2] 76 (0, 0))) := ⟨h3_⟩
          have n4_ : Aside0 (w47.heap[gb130]? = some (.cells #[.int .i64 0, .int .i64 0, .slice none 0 0] 76 (0, 0))) := ⟨h4_⟩
          have n5_ : Aside0 (w47.heap[gb136]? = some (.cells #[.int .i64 t131, .int .i64 t132, .slice Ao15 t133.length co15] 76 (0, 0))) := ⟨h5_⟩
          have n6_ : Aside0 (Below w.heap.size w w47) := ⟨h6_⟩
          clear HO_137002
          clear BK129
          clear BK130
          clear BK136
          clear HB
          clear h0_ h1_ h2_ h3_ h4_ h5_ h6_
          have HO147 := n0_
          have HO150 := n1_
          have HO_137002 := n2_
          have BK129 := n3_
          have BK130 := n4_
          have BK136 := n5_
          have HB := n6_
          clear n0_ n1_ n2_ n3_ n4_ n5_ n6_
          have hHeld : w47.cell? ⟨gb129, 0, none⟩ = some (.int .i64 a0_0) ∧ w47.cell? ⟨gb129, 1, none⟩ = some (.int .i64 a0_1) ∧ w47.cell? ⟨gb129, 2, none⟩ = some (.slice A0_2 l0_2.length c0_2) := hS_
          obtain ⟨Ao49, co49, eo49⟩ := Kd.R_slice HO150.out
          (first | subst eo49 | (injection eo49 with f1_ f2_ f3_; have f4_ := f1_.symm; have f5_ := f3_.symm; clear f1_ f2_ f3_; subst f4_; subst f5_))
          refine norm_ (a' := ?_) ?_ ?_
          rotate_left
          ·simp only [putAll, Act.put, List.setIfInBounds_toArray, List.set_cons_zero, List.set_cons_succ]
           rfl
          refine one_ (i := 10) (N := some 39) #[true, true, true, true, true, true, true, true, true, true, true, true, true, true, true, false, false, false] rfl rfl (one_of HT_.out (by kernel_rfl)) (by decide) (fun K hK => ?_)
          refine Kd.R_append_rows_step k123 (w0 := w) w.heap.size (by rfl) (.tmp 34) (.tmp 38) 74 123 (.agg #[(.int .i64 0), (.int .i64 0), (.int .i64 0), (.bool false)]) 32 rfl Try.underlying74 info123 rfl (by decide) (by omega) v146 y145 y148 _ _ _ (fun k_ => some k_ ≠ (.slice Ao15 t133.length co15 : Value).ownBlock ∧ some k_ ≠ (.slice Ao49 y148.length co49 : Value).ownBlock) (fun _ => False) rfl rfl ?aO ?aR (fun _ _ h => h) (fun _ h => h.elim) ?aF ?aB ?aS ?aL ?_
          (case aR => repeat (first | exact (Kd.R_reads' HO150.out).2.2 | (with_reducible refine Kd.C_alloc ?_ _) | (with_reducible refine Kd.C_drewN ?_ _) | (with_reducible refine Kd.C_drew ?_)))
          (case aB => exact tB)
          (case aF => exact (fun k_ hk => ⟨Kd.fresh' (Kd.R_lt (tR HO_137002)) k_ hk, Kd.fresh' (Kd.R_lt (tR HO150)) k_ hk⟩))
          (case aO => exact (by (with_reducible repeat (first | apply Kd.R_alloc | apply Kd.R_drewN | apply Kd.R_drew)); exact Kd.R_mono HO147.out (fun _ hk => ⟨hk.2, hk.1⟩)))
          (case aS => exact (below_size tB))
          (case aL => have := LMc31.out; omega)
          intro v152 w48 ho hb hg hat
          rw [← Ny151.out] at ho
          have n0_ := Aside0.mk (Kd.R_after (ok := (fun k_ => some k_ ≠ (.slice Ao49 y148.length co49 : Value).ownBlock)) (by (with_reducible repeat (first | apply Kd.R_alloc | apply Kd.R_drewN | apply Kd.R_drew)); exact Kd.R_mono HO_137002.out (fun _ hk => ⟨hk.2, hk.1⟩)) hg hat)
          have n1_ := Aside0.mk (blk_grown (g := gb129) (o := .cells #[.int .i64 a0_0, .int .i64 a0_1, .slice A0_2 l0_2.length c0_2] 76 (0, 0)) (tK BK129) hg (Kd.R_ne HO147.out BK129.out (by decide)))
          have n2_ := Aside0.mk (blk_grown (g := gb130) (o := .cells #[.int .i64 0, .int .i64 0, .slice none 0 0] 76 (0, 0)) (tK BK130) hg (Kd.R_ne HO147.out BK130.out (by decide)))
          have n3_ := Aside0.mk (blk_grown (g := gb136) (o := .cells #[.int .i64 t131, .int .i64 t132, .slice Ao15 t133.length co15] 76 (0, 0)) (tK BK136) hg (Kd.R_ne HO147.out BK136.out (by decide)))
          have n4_ := Aside0.mk (Kd.R_after (ok := (fun k_ => some k_ ≠ (.slice Ao15 t133.length co15 : Value).ownBlock)) (by (with_reducible repeat (first | apply Kd.R_alloc | apply Kd.R_drewN | apply Kd.R_drew)); exact Kd.R_mono HO150.out (fun _ hk => ⟨hk.2, hk.1⟩)) hg hat)
          have n5_ := Aside0.mk (hb)
          have n6_ := Aside0.mk (ho)
          clear HO_137002
          clear BK129
          clear BK130
          clear BK136
          clear HO150
          clear HB
          clear HO147
          have HO_137002 := n0_
          have BK129 := n1_
          have BK130 := n2_
          have BK136 := n3_
          have HO150 := n4_
          have HB := n5_
          have HO153 := n6_
          clear n0_ n1_ n2_ n3_ n4_ n5_ n6_
          clear ho hb hg hat
          refine hK.out _ _ ⟨(blk_cell BK129.out 0).trans rfl, (blk_cell BK129.out 1).trans rfl, (blk_cell BK129.out 2).trans rfl⟩ (fun hHeld => ?_)
          clear hK K
          refine norm_ (a' := ?_) ?_ ?_
          rotate_left
          ·show Act.put _ (some 39) _ = _
           simp only [Act.put, List.setIfInBounds_toArray, List.set_cons_zero, List.set_cons_succ, i64_w, i32_w]
           rfl
          refine one_ (i := 15) (N := some 44) #[true, true, true, true, true, true, true, true, true, true, true, true, true, true, true, true, false, false] rfl rfl (one_of HT_.out (by kernel_rfl)) (by decide) (fun K hK => ?_)
          refine Kd.R_append_rows_step k123 (w0 := w) w.heap.size (by rfl) (.tmp 39) (.tmp 43) 74 123 (.agg #[(.int .i64 0), (.int .i64 0), (.int .i64 0), (.bool false)]) 32 rfl Try.underlying74 info123 rfl (by decide) (by omega) v152 y151 y154 _ _ _ (fun k_ => some k_ ≠ (.slice Ao15 t133.length co15 : Value).ownBlock ∧ some k_ ≠ (.slice Ao49 y148.length co49 : Value).ownBlock) (fun _ => False) rfl rfl ?aO ?aR (fun _ _ h => h) (fun _ h => h.elim) ?aF ?aB ?aS ?aL ?_
          (case aR => repeat (first | exact (Kd.C_below HR157.out HB.out) | (with_reducible refine Kd.C_alloc ?_ _) | (with_reducible refine Kd.C_drewN ?_ _) | (with_reducible refine Kd.C_drew ?_)))
          (case aB => exact tB)
          (case aF => exact (fun k_ hk => ⟨Kd.fresh' (Kd.R_lt (tR HO_137002)) k_ hk, Kd.fresh' (Kd.R_lt (tR HO150)) k_ hk⟩))
          (case aO => exact (tR HO153))
          (case aS => exact (below_size tB))
          (case aL => have := LMc34.out; omega)
          intro v159 w50 ho hb hg hat
          rw [← Ny158.out] at ho
          have n0_ := Aside0.mk (Kd.R_after (ok := (fun k_ => some k_ ≠ (.slice Ao49 y148.length co49 : Value).ownBlock)) (tR HO_137002) hg hat)
          have n1_ := Aside0.mk (blk_grown (g := gb129) (o := .cells #[.int .i64 a0_0, .int .i64 a0_1, .slice A0_2 l0_2.length c0_2] 76 (0, 0)) (tK BK129) hg (Kd.R_ne HO153.out BK129.out (by decide)))
          have n2_ := Aside0.mk (blk_grown (g := gb130) (o := .cells #[.int .i64 0, .int .i64 0, .slice none 0 0] 76 (0, 0)) (tK BK130) hg (Kd.R_ne HO153.out BK130.out (by decide)))
          have n3_ := Aside0.mk (blk_grown (g := gb136) (o := .cells #[.int .i64 t131, .int .i64 t132, .slice Ao15 t133.length co15] 76 (0, 0)) (tK BK136) hg (Kd.R_ne HO153.out BK136.out (by decide)))
          have n4_ := Aside0.mk (Kd.R_after (ok := (fun k_ => some k_ ≠ (.slice Ao15 t133.length co15 : Value).ownBlock)) (tR HO150) hg hat)
          have n5_ := Aside0.mk (hb)
          have n6_ := Aside0.mk (ho)
          clear HO_137002
          clear BK129
          clear BK130
          clear BK136
          clear HO150
          clear HB
          clear HO153
          have HO_137002 := n0_
          have BK129 := n1_
          have BK130 := n2_
          have BK136 := n3_
          have HO150 := n4_
          have HB := n5_
          have HO160 := n6_
          clear n0_ n1_ n2_ n3_ n4_ n5_ n6_
          clear ho hb hg hat
          obtain ⟨Ao51, co51, eo51⟩ := Kd.R_slice HO160.out
          (first | subst eo51 | (injection eo51 with f1_ f2_ f3_; have f4_ := f1_.symm; have f5_ := f3_.symm; clear f1_ f2_ f3_; subst f4_; subst f5_))
          refine hK.out _ _ ⟨(blk_cell BK129.out 0).trans rfl, (blk_cell BK129.out 1).trans rfl, (blk_cell BK129.out 2).trans rfl⟩ (fun hHeld => ?_)
          clear hK K
          refine norm_ (a' := ?_) ?_ ?_
          rotate_left
          ·show Act.put _ (some 44) _ = _
           simp only [Act.put, List.setIfInBounds_toArray, List.set_cons_zero, List.set_cons_succ, i64_w, i32_w]
           rfl
          refine pure_ (i := 16) (N := some 45) (v := ?_) (a' := ?_) #[true, true, true, true, true, true, true, true, true, true, true, true, true, true, true, true, true, false] rfl rfl (any_of HT_.out (by kernel_rfl)) (fun _ _ _ h => h) (Or.inl ⟨by rfl, ?_⟩) ?_ ?_
          rotate_left
          ·intro w'
           go_simp
           with_reducible rfl
          rotate_left
          ·simp only [Act.put, List.setIfInBounds_toArray, List.set_cons_zero, List.set_cons_succ, i64_w, i32_w]
           rfl
          refine one_ (i := 17) (N := none) #[true, true, true, true, true, true, true, true, true, true, true, true, true, true, true, true, true, true] rfl rfl (one_of HT_.out (by kernel_rfl)) (by decide) (fun K hK => ?_)
          have hs52 : w50.cell? ⟨gb136, 2, none⟩ = some (.slice Ao15 t133.length co15) := (blk_cell BK136.out 2).trans rfl
          have hfs52 := blk_frozen BK136.out 2
          have hns52_0 := NB129_136.out
          have hns52_1 := NB130_136.out
          have hms52_0 := NB136_129.out
          have hms52_1 := NB136_130.out
          refine skip_ (w1 := ?_) (by rfl) rfl ?_ ?_
          rotate_left
          ·go_simp
           rfl
          refine hK.out _ _ ⟨((cell_far (p := ⟨gb136, _, none⟩) NB129_136.out _).trans (hHeld.1)), ((cell_far (p := ⟨gb136, _, none⟩) NB129_136.out _).trans (hHeld.2.1)), ((cell_far (p := ⟨gb136, _, none⟩) NB129_136.out _).trans (hHeld.2.2))⟩ (fun hHeld => ?_)
          clear hK K
          refine done_ (done_of HT_.out (by kernel_rfl)) ?_
          have hnb53 := NB129_130.out
          have hnc53 := NB130_129.out
          have hnb54 := NB129_136.out
          have hnc54 := NB136_129.out
          obtain ⟨hcz55_0, hcz55_1, hcz55_2, hfz55_0, hfz55_1, hfz55_2⟩ := bc3 BK129.out
          try go_wp2_with (first | ((with_reducible refine gate_callee (f := 103) rfl ?_); refine goesL_ (some 47) rfl rfl Try.func103 (by kernel_rfl) rfl #[.agg #[.int .i64 a0_0, .int .i64 a0_1, .slice A0_2 l0_2.length c0_2]] rfl tL ?_; (with_reducible refine (spec_IsValidAccount.calls kj4 a0_0 a0_1 _ _ l0_2 true _ ?side1 ?side2 A35.out).mono ?_); (case side1 => exact Kd.C_below HR0_2.out tB); (case side2 => exact HC0_2.out); rintro e w56 ⟨rfl, hb⟩; refine ⟨_, rfl, ?_⟩; have n0_ := Aside0.mk (Kd.R_below (by (with_reducible repeat (first | apply Kd.R_alloc | apply Kd.R_drewN | apply Kd.R_drew)); exact (Kd.R_mono (Kd.R_far (p := ⟨gb136, 2, none⟩) (Kd.R_types HO_137002.out BK136.out (by decide)) (fun _ hk => hk.2) (.slice Ao51 y158.length co51)) (fun _ h_ => h_.1))) hb); have n1_ := Aside0.mk (Kd.R_below (by (with_reducible repeat (first | apply Kd.R_alloc | apply Kd.R_drewN | apply Kd.R_drew)); exact (Kd.R_mono (Kd.R_far (p := ⟨gb136, 2, none⟩) (Kd.R_types HO150.out BK136.out (by decide)) (fun _ hk => hk.2) (.slice Ao51 y158.length co51)) (fun _ h_ => h_.1))) hb); have n2_ := Aside0.mk (Kd.R_below (by (with_reducible repeat (first | apply Kd.R_alloc | apply Kd.R_drewN | apply Kd.R_drew)); exact (Kd.R_mono (Kd.R_far (p := ⟨gb136, 2, none⟩) (Kd.R_types HO160.out BK136.out (by decide)) (fun _ hk => hk.2) (.slice Ao51 y158.length co51)) (fun _ h_ => h_.1))) hb); have n3_ := Aside0.mk (blk_below (g := gb129) (o := .cells #[.int .i64 a0_0, .int .i64 a0_1, .slice A0_2 l0_2.length c0_2] 76 (0, 0)) (by (with_reducible repeat (first | refine blk_drewN ?_ _ | refine blk_drew ?_ | refine blk_alloc ?_ _)); refine blk_far ?_ NB129_136.out _; (with_reducible repeat (first | refine blk_drewN ?_ _ | refine blk_drew ?_ | refine blk_alloc ?_ _)); exact BK129.out) hb); have n4_ := Aside0.mk (blk_below (g := gb130) (o := .cells #[.int .i64 0, .int .i64 0, .slice none 0 0] 76 (0, 0)) (by (with_reducible repeat (first | refine blk_drewN ?_ _ | refine blk_drew ?_ | refine blk_alloc ?_ _)); refine blk_far ?_ NB130_136.out _; (with_reducible repeat (first | refine blk_drewN ?_ _ | refine blk_drew ?_ | refine blk_alloc ?_ _)); exact BK130.out) hb); have n5_ := Aside0.mk (blk_below (g := gb136) (o := .cells #[.int .i64 t131, .int .i64 t132, .slice Ao51 y158.length co51] 76 (0, 0)) (by (with_reducible repeat (first | refine blk_drewN ?_ _ | refine blk_drew ?_ | refine blk_alloc ?_ _)); refine blk_put (cs := #[.int .i64 t131, .int .i64 t132, .slice Ao15 t133.length co15]) ?_ 2 _ rfl; (with_reducible repeat (first | refine blk_drewN ?_ _ | refine blk_drew ?_ | refine blk_alloc ?_ _)); exact BK136.out) hb); have n6_ := Aside0.mk (below_step tB hb); clear HO_137002; clear HO150; clear HO160; clear BK129; clear BK130; clear BK136; clear HB; have HO_137002 := n0_; have HO150 := n1_; have HO160 := n2_; have BK129 := n3_; have BK130 := n4_; have BK136 := n5_; have HB := n6_; clear n0_ n1_ n2_ n3_ n4_ n5_ n6_; (try clear hb); (try clear hb2); (try clear hk); (try clear hi); have hnb57 := NB136_130.out; have hnc57 := NB130_136.out; obtain ⟨hcz58_0, hcz58_1, hcz58_2, hfz58_0, hfz58_1, hfz58_2⟩ := bc3 BK136.out) | (go_at_call 103; (with_reducible refine (spec_IsValidAccount.calls kj4 t131 t132 _ _ y158 true _ ?side1 ?side2 A37.out).mono ?_); (case side1 => repeat (first | exact (Kd.R_reads' HO160.out).2.2 | (with_reducible refine Kd.C_alloc ?_ _) | (with_reducible refine Kd.C_drewN ?_ _) | (with_reducible refine Kd.C_drew ?_))); (case side2 => exact (Kd.R_reads' HO160.out).2.1); rintro e w59 ⟨rfl, hb⟩; have n0_ := Aside0.mk (Kd.R_below (tR HO_137002) hb); have n1_ := Aside0.mk (Kd.R_below (tR HO150) hb); have n2_ := Aside0.mk (Kd.R_below (tR HO160) hb); have n3_ := Aside0.mk (blk_below (g := gb129) (o := .cells #[.int .i64 a0_0, .int .i64 a0_1, .slice A0_2 l0_2.length c0_2] 76 (0, 0)) (tK BK129) hb); have n4_ := Aside0.mk (blk_below (g := gb130) (o := .cells #[.int .i64 0, .int .i64 0, .slice none 0 0] 76 (0, 0)) (tK BK130) hb); have n5_ := Aside0.mk (blk_below (g := gb136) (o := .cells #[.int .i64 t131, .int .i64 t132, .slice Ao51 y158.length co51] 76 (0, 0)) (tK BK136) hb); have n6_ := Aside0.mk (below_step tB hb); clear HO_137002; clear HO150; clear HO160; clear BK129; clear BK130; clear BK136; clear HB; have HO_137002 := n0_; have HO150 := n1_; have HO160 := n2_; have BK129 := n3_; have BK130 := n4_; have BK136 := n5_; have HB := n6_; clear n0_ n1_ n2_ n3_ n4_ n5_ n6_; (try clear hb); (try clear hb2); (try clear hk); (try clear hi); obtain ⟨hcz60_0, hcz60_1, hcz60_2, hfz60_0, hfz60_1, hfz60_2⟩ := bc3 BK136.out; obtain ⟨hcz61_0, hcz61_1, hcz61_2, hfz61_0, hfz61_1, hfz61_2⟩ := bc3 BK130.out))
          refine bodyPost_ret (results_ct rfl _ _ gb130 76 #[.int .i64 t131, .int .i64 t132, .slice Ao51 y158.length co51] (0, 0) _ rfl (by (with_reducible repeat (first | refine blk_drewN ?_ _ | refine blk_drew ?_ | refine blk_alloc ?_ _)); refine blk_put (cs := #[.int .i64 t131, .int .i64 t132, .slice none 0 0]) ?_ 2 _ rfl; (with_reducible repeat (first | refine blk_drewN ?_ _ | refine blk_drew ?_ | refine blk_alloc ?_ _)); refine blk_put (cs := #[.int .i64 t131, .int .i64 0, .slice none 0 0]) ?_ 1 _ rfl; (with_reducible repeat (first | refine blk_drewN ?_ _ | refine blk_drew ?_ | refine blk_alloc ?_ _)); refine blk_put (cs := #[.int .i64 0, .int .i64 0, .slice none 0 0]) ?_ 0 _ rfl; (with_reducible repeat (first | refine blk_drewN ?_ _ | refine blk_drew ?_ | refine blk_alloc ?_ _)); exact BK130.out) Try.underlying76 rfl (by kernel_rfl)) rfl ?_
          exact ⟨_, tE, by (with_reducible repeat (first | apply Kd.R_alloc | apply Kd.R_drewN | apply Kd.R_drew)); exact Kd.R_mono (Kd.R_far (p := ⟨gb130, 2, none⟩) (Kd.R_far (p := ⟨gb130, 1, none⟩) (Kd.R_far (p := ⟨gb130, 0, none⟩) (Kd.R_types HO160.out BK130.out (by decide)) (fun _ hk => hk.2) (.int .i64 t131)) (fun _ hk => hk.2) (.int .i64 t132)) (fun _ hk => hk.2) (.slice Ao51 y158.length co51)) (fun _ hk => trivial), tB⟩
         ·replace c38 := Bool.eq_false_iff.mpr c38
          subst c38
          have H1 : ((spec_l14Copy.f a0_0 a0_1 l0_2).bind fun bt163 => (some (bt163.1, bt163.2.1, bt163.2.2, false))) = some (r1, r2, r3, r4) := by rw [if_neg (show ¬ (false = true) by decide)] at H; exact H
          clear H
          have H := H1
          clear H1
          replace H := Option.bind_eq_some_iff.mp H
          obtain ⟨⟨t163, t164, t165⟩, A620, H⟩ := H
          replace H : (some (t163, t164, t165, false)) = some (r1, r2, r3, r4) := H
          have A62 := Aside0.mk A620
          clear A620
          simp only [Option.some.injEq, Prod.mk.injEq] at H
          obtain ⟨rfl, rfl, rfl, rfl⟩ := H
          try go_wp2
          have n0_ := Aside0.mk (Kd.R_drew HO_137002.out)
          have n1_ := Aside0.mk (blk_drew BK129.out)
          have n2_ := Aside0.mk (blk_drew BK130.out)
          have n3_ := Aside0.mk (blk_drew BK136.out)
          have n4_ := Aside0.mk (below_drew1 HB.out)
          clear HO_137002
          clear BK129
          clear BK130
          clear BK136
          clear HB
          have HO_137002 := n0_
          have BK129 := n1_
          have BK130 := n2_
          have BK136 := n3_
          have HB := n4_
          clear n0_ n1_ n2_ n3_ n4_
          have q64 : (x9_4 : Int) ≤ ((l0_2.length : Int) : Int) := of_decide_eq_true tA
          obtain ⟨i064, hi064, _, hsz64, _⟩ := info_parts info123
          have hroom64 : l0_2.length ≤ c0_2 := HC0_2.out
          have hC64 : Kd.C k123 _ A0_2 l0_2.length l0_2 := HR0_2.out
          have hcut64 := cut_to (P := Try.prog) 74 123 .i64 Try.underlying74 hi064 A0_2 l0_2.length c0_2 x9_4 (of_decide_eq_true tA) q64 hroom64
          have hr64 := Kd.C_take (m := (x9_4 : Int).toNat) hC64 (by omega)
          have hy64 : y141.length = (x9_4 : Int).toNat := (by rw [Ny141.out, List.length_take]; omega)
          rw [← Ny141.out] at hr64
          rw [← hy64] at hcut64
          have HR144 := Aside0.mk hr64
          have HC144 := Aside0.mk (show y141.length ≤ c0_2 from by omega)
          clear hr64 hC64 hroom64 hi064 hsz64
          have KY64 := Aside0.mk hy64
          clear hy64
          replace q64 := eq_true q64
          have q65 : (x9_4 : Int) ≤ ((l0_2.length : Int) : Int) := of_decide_eq_true tA
          obtain ⟨i065, hi065, _, hsz65, _⟩ := info_parts info123
          have hroom65 : l0_2.length ≤ c0_2 := HC0_2.out
          have hC65 : Kd.C k123 _ A0_2 l0_2.length l0_2 := HR0_2.out
          have q065 : (0 : Int) ≤ (x9_4 : Int) := of_decide_eq_true tA
          have hcut65 := cut_from (P := Try.prog) 74 123 .i64 Try.underlying74 hi065 4 hsz65 A0_2 l0_2.length c0_2 x9_4 q065 q65
          have hr65 := Kd.C_drop (m := (x9_4 : Int).toNat) (c := c0_2) hC65 (by omega) hroom65
          obtain ⟨A65, hA65⟩ : ∃ A1, A1 = (if c0_2 = (x9_4 : Int).toNat then A0_2 else (A0_2 : Option Addr).map (·.add ((x9_4 : Int).toNat * 4))) := ⟨_, rfl⟩
          obtain ⟨c65, hc65⟩ : ∃ c1, c1 = c0_2 - (x9_4 : Int).toNat := ⟨_, rfl⟩
          have hy65 : y154.length = l0_2.length - (x9_4 : Int).toNat := (by rw [Ny154.out, List.length_drop] <;> omega)
          rw [show (l0_2).drop (x9_4 : Int).toNat = y154 from Ny154.out.symm] at hr65
          replace hr65 : Kd.C k123 _ A65 y154.length y154 := (by rw [hA65]; exact hr65)
          rw [← hy65, ← hA65, ← hc65] at hcut65
          have HR157 := Aside0.mk hr65
          have HC157 := Aside0.mk (show y154.length ≤ c65 from by rw [hy65, hc65]; exact Nat.sub_le_sub_right hroom65 _)
          clear hr65 hC65 hroom65 hi065 hsz65 hc65
          have KY65 := Aside0.mk hy65
          have KA65 := Aside0.mk hA65
          clear hy65 hA65
          replace q65 := eq_true q65
          refine start_ (n := 18) (S := fun w' => w'.cell? ⟨gb129, 0, none⟩ = some (.int .i64 a0_0) ∧ w'.cell? ⟨gb129, 1, none⟩ = some (.int .i64 a0_1) ∧ w'.cell? ⟨gb129, 2, none⟩ = some (.slice A0_2 l0_2.length c0_2)) (ds := []) #[false, false, false, false, false, false, false, false, false, false, false, false, false, false, false, false, false, false] (by kernel_rfl) rfl rfl ⟨(blk_cell BK129.out 0).trans rfl, (blk_cell BK129.out 1).trans rfl, (blk_cell BK129.out 2).trans rfl⟩ (fun hHeld => ?_); refine with_tabW spec_AddCredential.tab5 spec_AddCredential.bits5 (fun HT_ HW_ => ?_)
          generalize wc.drew = w63 at HO_137002 BK129 BK130 BK136 HB HR144 HR157 hHeld ⊢
          refine pure_ (i := 1) (N := some 30) (v := ?_) (a' := ?_) #[false, true, false, false, false, false, false, false, false, false, false, false, false, false, false, false, false, false] rfl rfl (any_of HT_.out (by kernel_rfl)) (fun _ _ _ h => h) (Or.inl ⟨by rfl, ?_⟩) ?_ ?_
          rotate_left
          ·intro w'
           go_simp
           with_reducible rfl
          rotate_left
          ·simp only [Act.put, List.setIfInBounds_toArray, List.set_cons_zero, List.set_cons_succ, i64_w, i32_w]
           rfl
          refine pure_ (i := 3) (N := some 32) (v := ?_) (a' := ?_) #[false, true, false, true, false, false, false, false, false, false, false, false, false, false, false, false, false, false] rfl rfl (any_of HT_.out (by kernel_rfl)) (fun _ _ _ h => h) (Or.inl ⟨by rfl, ?_⟩) ?_ ?_
          rotate_left
          ·intro w'
           go_simp
           with_reducible rfl
          rotate_left
          ·simp only [Act.put, List.setIfInBounds_toArray, List.set_cons_zero, List.set_cons_succ, i64_w, i32_w]
           rfl
          refine pure_ (i := 6) (N := some 35) (v := ?_) (a' := ?_) #[false, true, false, true, false, false, true, false, false, false, false, false, false, false, false, false, false, false] rfl rfl (any_of HT_.out (by kernel_rfl)) (fun _ _ _ h => h) (Or.inl ⟨by rfl, ?_⟩) ?_ ?_
          rotate_left
          ·intro w'
           go_simp
           with_reducible rfl
          rotate_left
          ·simp only [Act.put, List.setIfInBounds_toArray, List.set_cons_zero, List.set_cons_succ, i64_w, i32_w]
           rfl
          refine pure_ (i := 7) (N := some 36) (v := ?_) (a' := ?_) #[false, true, false, true, false, false, true, true, false, false, false, false, false, false, false, false, false, false] rfl rfl (any_of HT_.out (by kernel_rfl)) (fun _ _ _ h => h) (Or.inl ⟨by rfl, ?_⟩) ?_ ?_
          rotate_left
          ·intro w'
           go_simp
           with_reducible rfl
          rotate_left
          ·simp only [Act.put, List.setIfInBounds_toArray, List.set_cons_zero, List.set_cons_succ, i64_w, i32_w]
           rfl
          refine pure_ (i := 8) (N := some 37) (v := ?_) (a' := ?_) #[false, true, false, true, false, false, true, true, true, false, false, false, false, false, false, false, false, false] rfl rfl (any_of HT_.out (by kernel_rfl)) (fun _ _ _ h => h) (Or.inl ⟨by rfl, ?_⟩) ?_ ?_
          rotate_left
          ·intro w'
           go_simp
           with_reducible rfl
          rotate_left
          ·simp only [Act.put, List.setIfInBounds_toArray, List.set_cons_zero, List.set_cons_succ, i64_w, i32_w]
           rfl
          refine pure_ (i := 11) (N := some 40) (v := ?_) (a' := ?_) #[false, true, false, true, false, false, true, true, true, false, false, true, false, false, false, false, false, false] rfl rfl (any_of HT_.out (by kernel_rfl)) (fun _ _ _ h => h) (Or.inl ⟨by rfl, ?_⟩) ?_ ?_
          rotate_left
          ·intro w'
           go_simp
           with_reducible rfl
          rotate_left
          ·simp only [Act.put, List.setIfInBounds_toArray, List.set_cons_zero, List.set_cons_succ, i64_w, i32_w]
           rfl
          refine pure_ (i := 13) (N := some 42) (v := ?_) (a' := ?_) #[false, true, false, true, false, false, true, true, true, false, false, true, false, true, false, false, false, false] rfl rfl (any_of HT_.out (by kernel_rfl)) (fun _ _ _ h => h) (Or.inl ⟨by rfl, ?_⟩) ?_ ?_
          rotate_left
          ·intro w'
           go_simp
           with_reducible rfl
          rotate_left
          ·simp only [Act.put, List.setIfInBounds_toArray, List.set_cons_zero, List.set_cons_succ, i64_w, i32_w]
           rfl
          refine take_ (i := 2) (N := some 31) (v := ?_) (a' := ?_) #[false, true, true, true, false, false, true, true, true, false, false, true, false, true, false, false, false, false] rfl rfl (take_ofW HT_.out HW_.out (by kernel_rfl)) (fun _ _ _ h => h) (Or.inl ⟨by rfl, ?_⟩) hHeld ?_ ?_
          rotate_left
          ·rintro w' ⟨s0, s1, s2⟩
           go_simp
           with_reducible rfl
          rotate_left
          ·simp only [Act.put, List.setIfInBounds_toArray, List.set_cons_zero, List.set_cons_succ, i64_w, i32_w]
           rfl
          refine pure_ (i := 4) (N := some 33) (v := ?_) (a' := ?_) #[false, true, true, true, true, false, true, true, true, false, false, true, false, true, false, false, false, false] rfl rfl (any_of HT_.out (by kernel_rfl)) (fun _ _ _ h => h) (Or.inl ⟨by rfl, ?_⟩) ?_ ?_
          rotate_left
          ·intro w'
           go_simp
           with_reducible rfl
          rotate_left
          ·simp only [Act.put, List.setIfInBounds_toArray, List.set_cons_zero, List.set_cons_succ, i64_w, i32_w]
           rfl
          refine take_ (i := 12) (N := some 41) (v := ?_) (a' := ?_) #[false, true, true, true, true, false, true, true, true, false, false, true, true, true, false, false, false, false] rfl rfl (take_ofW HT_.out HW_.out (by kernel_rfl)) (fun _ _ _ h => h) (Or.inl ⟨by rfl, ?_⟩) hHeld ?_ ?_
          rotate_left
          ·rintro w' ⟨s0, s1, s2⟩
           go_simp
           with_reducible rfl
          rotate_left
          ·simp only [Act.put, List.setIfInBounds_toArray, List.set_cons_zero, List.set_cons_succ, i64_w, i32_w]
           rfl
          refine pure_ (i := 14) (N := some 43) (v := ?_) (a' := ?_) #[false, true, true, true, true, false, true, true, true, false, false, true, true, true, true, false, false, false] rfl rfl (any_of HT_.out (by kernel_rfl)) (fun _ _ _ h => h) (Or.inl ⟨by rfl, ?_⟩) ?_ ?_
          rotate_left
          ·intro w'
           go_simp
           with_reducible rfl
          rotate_left
          ·simp only [Act.put, List.setIfInBounds_toArray, List.set_cons_zero, List.set_cons_succ, i64_w, i32_w]
           rfl
          refine join_ (σ := Value × Value × Value) 4 #[true, true, true, true, true, true, true, true, true, true, false, true, true, true, true, false, false, false] (fun s_ => [(29, s_.1), (34, s_.2.1), (38, s_.2.2)]) (fun s_ w' => (w'.cell? ⟨gb129, 0, none⟩ = some (.int .i64 a0_0) ∧ w'.cell? ⟨gb129, 1, none⟩ = some (.int .i64 a0_1) ∧ w'.cell? ⟨gb129, 2, none⟩ = some (.slice A0_2 l0_2.length c0_2)) ∧ (Kd.R k123 123 w' w.heap.size (fun k_ => some k_ ≠ (s_.2.2 : Value).ownBlock ∧ some k_ ≠ (.slice Ao15 t133.length co15 : Value).ownBlock) s_.2.1 y145) ∧ (Kd.R k123 123 w' w.heap.size (fun k_ => some k_ ≠ (s_.2.1 : Value).ownBlock ∧ some k_ ≠ (.slice Ao15 t133.length co15 : Value).ownBlock) s_.2.2 y148) ∧ (Kd.R k123 123 w' w.heap.size (fun k_ => some k_ ≠ (s_.2.1 : Value).ownBlock ∧ some k_ ≠ (s_.2.2 : Value).ownBlock) (.slice Ao15 t133.length co15) t133) ∧ (w'.heap[gb129]? = some (.cells #[.int .i64 a0_0, .int .i64 a0_1, .slice A0_2 l0_2.length c0_2] 76 (0, 0))) ∧ (w'.heap[gb130]? = some (.cells #[.int .i64 0, .int .i64 0, .slice none 0 0] 76 (0, 0))) ∧ (w'.heap[gb136]? = some (.cells #[.int .i64 t131, .int .i64 t132, .slice Ao15 t133.length co15] 76 (0, 0))) ∧ (Below w.heap.size w w')) ?_ ?_
          rotate_left
          ·intro hCont
           refine two_ (i := 0) (j := 9) (Ni := some 29) (Nj := some 38) #[true, true, true, true, true, false, true, true, true, false, false, true, true, true, true, false, false, false] #[false, true, true, true, true, false, true, true, true, true, false, true, true, true, true, false, false, false] rfl rfl rfl rfl (two_of HT_.out (by kernel_rfl)) (by decide) (by decide) (fun K hK => ?_) (fun K hK => ?_)
           ·skip
            refine Kd.R_lit_step k123 _ 123 ?hg (N := 29) ?hd (xs := ([] : List (S123))) (inner := []) (ok := fun _ => True) (okp := fun _ => True) ?hr ?hp (fun _ hk => hk) trivial (Below.refl _ _) (Nat.le_refl _) (by simp) ?_; (case hd => rfl); (case hg => rfl); (case hr => exact tG); (case hp => exact (Reps.none _ _))
            intro v139 w66 ho67 hb hg_ hnew_
            clear hg_ hnew_
            (first | rw [← Ny138.out] at ho67 | (simp only [Int.reduceToNat] at ho67; rw [← Ny138.out] at ho67))
            have n0_ := Aside0.mk (Kd.R_elder' (tR HO_137002) (Kd.R_base ho67) hb)
            have n1_ := Aside0.mk (Kd.R_lower (Kd.R_new' ho67 (Kd.R_lt (tR HO_137002))) (below_size tB))
            have n2_ := Aside0.mk (blk_below (g := gb129) (o := .cells #[.int .i64 a0_0, .int .i64 a0_1, .slice A0_2 l0_2.length c0_2] 76 (0, 0)) (tK BK129) hb)
            have n3_ := Aside0.mk (blk_below (g := gb130) (o := .cells #[.int .i64 0, .int .i64 0, .slice none 0 0] 76 (0, 0)) (tK BK130) hb)
            have n4_ := Aside0.mk (blk_below (g := gb136) (o := .cells #[.int .i64 t131, .int .i64 t132, .slice Ao15 t133.length co15] 76 (0, 0)) (tK BK136) hb)
            have n5_ := Aside0.mk (below_step tB hb)
            clear HO_137002
            clear BK129
            clear BK130
            clear BK136
            clear HB
            have HO_137002 := n0_
            have HO140 := n1_
            have BK129 := n2_
            have BK130 := n3_
            have BK136 := n4_
            have HB := n5_
            clear n0_ n1_ n2_ n3_ n4_ n5_
            clear hb ho67
            refine hK.out _ _ ⟨(blk_cell BK129.out 0).trans rfl, (blk_cell BK129.out 1).trans rfl, (blk_cell BK129.out 2).trans rfl⟩ (fun hHeld => ?_)
            clear hK K
            refine norm_ (a' := ?_) ?_ ?_
            rotate_left
            ·show Act.put _ (some 29) _ = _
             simp only [Act.put, List.setIfInBounds_toArray, List.set_cons_zero, List.set_cons_succ, i64_w, i32_w]
             rfl
            refine two_ (i := 5) (j := 9) (Ni := some 34) (Nj := some 38) #[true, true, true, true, true, true, true, true, true, false, false, true, true, true, true, false, false, false] #[true, true, true, true, true, false, true, true, true, true, false, true, true, true, true, false, false, false] rfl rfl rfl rfl (two_of HT_.out (by kernel_rfl)) (by decide) (by decide) (fun K hK => ?_) (fun K hK => ?_)
            ·skip
             refine Kd.R_append_rows_step k123 (w0 := w) w.heap.size (by rfl) (.tmp 29) (.tmp 33) 74 123 (.agg #[(.int .i64 0), (.int .i64 0), (.int .i64 0), (.bool false)]) 32 rfl Try.underlying74 info123 rfl (by decide) (by omega) v139 y138 y141 _ _ _ (fun k_ => some k_ ≠ (.slice Ao15 t133.length co15 : Value).ownBlock) (fun _ => False) rfl rfl ?aO ?aR (fun _ _ h => h) (fun _ h => h.elim) ?aF ?aB ?aS ?aL ?_
             (case aR => repeat (first | exact (Kd.C_below HR144.out HB.out) | (with_reducible refine Kd.C_alloc ?_ _) | (with_reducible refine Kd.C_drewN ?_ _) | (with_reducible refine Kd.C_drew ?_)))
             (case aB => exact tB)
             (case aF => exact (fun k_ hk => Kd.fresh' (Kd.R_lt (tR HO_137002)) k_ hk))
             (case aO => exact (by (with_reducible repeat (first | apply Kd.R_alloc | apply Kd.R_drewN | apply Kd.R_drew)); exact Kd.R_mono HO140.out (fun _ hk => hk.2)))
             (case aS => exact (below_size tB))
             (case aL => have := LMc30.out; omega)
             intro v146 w68 ho hb hg hat
             rw [← Ny145.out] at ho
             have n0_ := Aside0.mk (Kd.R_after (ok := (fun _ => True)) (tR HO_137002) hg hat)
             have n1_ := Aside0.mk (blk_grown (g := gb129) (o := .cells #[.int .i64 a0_0, .int .i64 a0_1, .slice A0_2 l0_2.length c0_2] 76 (0, 0)) (tK BK129) hg (Kd.R_ne HO140.out BK129.out (by decide)))
             have n2_ := Aside0.mk (blk_grown (g := gb130) (o := .cells #[.int .i64 0, .int .i64 0, .slice none 0 0] 76 (0, 0)) (tK BK130) hg (Kd.R_ne HO140.out BK130.out (by decide)))
             have n3_ := Aside0.mk (blk_grown (g := gb136) (o := .cells #[.int .i64 t131, .int .i64 t132, .slice Ao15 t133.length co15] 76 (0, 0)) (tK BK136) hg (Kd.R_ne HO140.out BK136.out (by decide)))
             have n4_ := Aside0.mk (hb)
             have n5_ := Aside0.mk (ho)
             clear HO_137002
             clear BK129
             clear BK130
             clear BK136
             clear HB
             clear HO140
             have HO_137002 := n0_
             have BK129 := n1_
             have BK130 := n2_
             have BK136 := n3_
             have HB := n4_
             have HO147 := n5_
             clear n0_ n1_ n2_ n3_ n4_ n5_
             clear ho hb hg hat
             refine hK.out _ _ ⟨(blk_cell BK129.out 0).trans rfl, (blk_cell BK129.out 1).trans rfl, (blk_cell BK129.out 2).trans rfl⟩ (fun hHeld => ?_)
             clear hK K
             refine norm_ (a' := ?_) ?_ ?_
             rotate_left
             ·show Act.put _ (some 34) _ = _
              simp only [Act.put, List.setIfInBounds_toArray, List.set_cons_zero, List.set_cons_succ, i64_w, i32_w]
              rfl
             refine one_ (i := 9) (N := some 38) #[true, true, true, true, true, true, true, true, true, true, false, true, true, true, true, false, false, false] rfl rfl (one_of HT_.out (by kernel_rfl)) (by decide) (fun K hK => ?_)
             refine Kd.R_lit_step k123 _ 123 ?hg (N := 38) ?hd (xs := ([(⟨a1, a2, 0, false⟩ : S123)] : List (S123))) (inner := [.int .i64 a1, .int .i64 a2, .int .i64 0, .bool false]) (ok := fun _ => True) (okp := fun _ => True) ?hr ?hp (fun _ hk => hk) trivial (Below.refl _ _) (Nat.le_refl _) (by simp) ?_; (case hd => rfl); (case hg => rfl); (case hr => exact tG); (case hp => exact (Reps.c4 (show Kd.M k123 _ _ _ (⟨a1, a2, 0, false⟩ : S123) [.int .i64 a1, .int .i64 a2, .int .i64 0, .bool false] from (k123_mkM _ _ _ (⟨a1, a2, 0, false⟩ : S123) )) (Reps.none _ _)))
             intro v149 w69 ho70 hb hg_ hnew_
             clear hg_ hnew_
             (first | rw [← Ny148.out] at ho70 | (simp only [Int.reduceToNat] at ho70; rw [← Ny148.out] at ho70))
             have n0_ := Aside0.mk (Kd.R_elder' (tR HO_137002) (Kd.R_base ho70) hb)
             have n1_ := Aside0.mk (Kd.R_elder' (tR HO147) (Kd.R_base ho70) hb)
             have n2_ := Aside0.mk (Kd.R_lower (Kd.R_new' (Kd.R_new' ho70 (Kd.R_lt (tR HO_137002))) (Kd.R_lt (tR HO147))) (below_size tB))
             have n3_ := Aside0.mk (blk_below (g := gb129) (o := .cells #[.int .i64 a0_0, .int .i64 a0_1, .slice A0_2 l0_2.length c0_2] 76 (0, 0)) (tK BK129) hb)
             have n4_ := Aside0.mk (blk_below (g := gb130) (o := .cells #[.int .i64 0, .int .i64 0, .slice none 0 0] 76 (0, 0)) (tK BK130) hb)
             have n5_ := Aside0.mk (blk_below (g := gb136) (o := .cells #[.int .i64 t131, .int .i64 t132, .slice Ao15 t133.length co15] 76 (0, 0)) (tK BK136) hb)
             have n6_ := Aside0.mk (below_step tB hb)
             clear HO_137002
             clear HO147
             clear BK129
             clear BK130
             clear BK136
             clear HB
             have HO_137002 := n0_
             have HO147 := n1_
             have HO150 := n2_
             have BK129 := n3_
             have BK130 := n4_
             have BK136 := n5_
             have HB := n6_
             clear n0_ n1_ n2_ n3_ n4_ n5_ n6_
             clear hb ho70
             refine hK.out _ _ ⟨(blk_cell BK129.out 0).trans rfl, (blk_cell BK129.out 1).trans rfl, (blk_cell BK129.out 2).trans rfl⟩ (fun hHeld => ?_)
             clear hK K
             refine norm_ (a' := ?_) ?_ ?_
             rotate_left
             ·show Act.put _ (some 38) _ = _
              simp only [Act.put, List.setIfInBounds_toArray, List.set_cons_zero, List.set_cons_succ, i64_w, i32_w]
              rfl
             exact norm_ (by simp only [putAll, Act.put, List.setIfInBounds_toArray, List.set_cons_zero, List.set_cons_succ]) (hCont (v139, v146, v149) _ ⟨hHeld, (by (with_reducible repeat (first | apply Kd.R_alloc | apply Kd.R_drewN | apply Kd.R_drew)); exact Kd.R_mono HO147.out (fun _ hk => ⟨hk.2, hk.1⟩)), (by (with_reducible repeat (first | apply Kd.R_alloc | apply Kd.R_drewN | apply Kd.R_drew)); exact Kd.R_mono HO150.out (fun _ hk => ⟨hk.2, hk.1.2⟩)), (by (with_reducible repeat (first | apply Kd.R_alloc | apply Kd.R_drewN | apply Kd.R_drew)); exact Kd.R_mono HO_137002.out (fun _ hk => ⟨hk.1.2, hk.2⟩)), (tK BK129), (tK BK130), (tK BK136), tB⟩)
            ·skip
             refine Kd.R_lit_step k123 _ 123 ?hg (N := 38) ?hd (xs := ([(⟨a1, a2, 0, false⟩ : S123)] : List (S123))) (inner := [.int .i64 a1, .int .i64 a2, .int .i64 0, .bool false]) (ok := fun _ => True) (okp := fun _ => True) ?hr ?hp (fun _ hk => hk) trivial (Below.refl _ _) (Nat.le_refl _) (by simp) ?_; (case hd => rfl); (case hg => rfl); (case hr => exact tG); (case hp => exact (Reps.c4 (show Kd.M k123 _ _ _ (⟨a1, a2, 0, false⟩ : S123) [.int .i64 a1, .int .i64 a2, .int .i64 0, .bool false] from (k123_mkM _ _ _ (⟨a1, a2, 0, false⟩ : S123) )) (Reps.none _ _)))
             intro v149 w68 ho69 hb hg_ hnew_
             clear hg_ hnew_
             (first | rw [← Ny148.out] at ho69 | (simp only [Int.reduceToNat] at ho69; rw [← Ny148.out] at ho69))
             have n0_ := Aside0.mk (Kd.R_elder' (tR HO_137002) (Kd.R_base ho69) hb)
             have n1_ := Aside0.mk (Kd.R_elder' (tR HO140) (Kd.R_base ho69) hb)
             have n2_ := Aside0.mk (Kd.R_lower (Kd.R_new' (Kd.R_new' ho69 (Kd.R_lt (tR HO_137002))) (Kd.R_lt (tR HO140))) (below_size tB))
             have n3_ := Aside0.mk (blk_below (g := gb129) (o := .cells #[.int .i64 a0_0, .int .i64 a0_1, .slice A0_2 l0_2.length c0_2] 76 (0, 0)) (tK BK129) hb)
             have n4_ := Aside0.mk (blk_below (g := gb130) (o := .cells #[.int .i64 0, .int .i64 0, .slice none 0 0] 76 (0, 0)) (tK BK130) hb)
             have n5_ := Aside0.mk (blk_below (g := gb136) (o := .cells #[.int .i64 t131, .int .i64 t132, .slice Ao15 t133.length co15] 76 (0, 0)) (tK BK136) hb)
             have n6_ := Aside0.mk (below_step tB hb)
             clear HO_137002
             clear HO140
             clear BK129
             clear BK130
             clear BK136
             clear HB
             have HO_137002 := n0_
             have HO140 := n1_
             have HO150 := n2_
             have BK129 := n3_
             have BK130 := n4_
             have BK136 := n5_
             have HB := n6_
             clear n0_ n1_ n2_ n3_ n4_ n5_ n6_
             clear hb ho69
             refine hK.out _ _ ⟨(blk_cell BK129.out 0).trans rfl, (blk_cell BK129.out 1).trans rfl, (blk_cell BK129.out 2).trans rfl⟩ (fun hHeld => ?_)
             clear hK K
             refine norm_ (a' := ?_) ?_ ?_
             rotate_left
             ·show Act.put _ (some 38) _ = _
              simp only [Act.put, List.setIfInBounds_toArray, List.set_cons_zero, List.set_cons_succ, i64_w, i32_w]
              rfl
             refine one_ (i := 5) (N := some 34) #[true, true, true, true, true, true, true, true, true, true, false, true, true, true, true, false, false, false] rfl rfl (one_of HT_.out (by kernel_rfl)) (by decide) (fun K hK => ?_)
             refine Kd.R_append_rows_step k123 (w0 := w) w.heap.size (by rfl) (.tmp 29) (.tmp 33) 74 123 (.agg #[(.int .i64 0), (.int .i64 0), (.int .i64 0), (.bool false)]) 32 rfl Try.underlying74 info123 rfl (by decide) (by omega) v139 y138 y141 _ _ _ (fun k_ => some k_ ≠ (.slice Ao15 t133.length co15 : Value).ownBlock ∧ some k_ ≠ (v149 : Value).ownBlock) (fun _ => False) rfl rfl ?aO ?aR (fun _ _ h => h) (fun _ h => h.elim) ?aF ?aB ?aS ?aL ?_
             (case aR => repeat (first | exact (Kd.C_below HR144.out HB.out) | (with_reducible refine Kd.C_alloc ?_ _) | (with_reducible refine Kd.C_drewN ?_ _) | (with_reducible refine Kd.C_drew ?_)))
             (case aB => exact tB)
             (case aF => exact (fun k_ hk => ⟨Kd.fresh' (Kd.R_lt (tR HO_137002)) k_ hk, Kd.fresh' (Kd.R_lt (tR HO150)) k_ hk⟩))
             (case aO => exact (by (with_reducible repeat (first | apply Kd.R_alloc | apply Kd.R_drewN | apply Kd.R_drew)); exact Kd.R_mono HO140.out (fun _ hk => ⟨hk.1.2, hk.2⟩)))
             (case aS => exact (below_size tB))
             (case aL => have := LMc30.out; omega)
             intro v146 w70 ho hb hg hat
             rw [← Ny145.out] at ho
             have n0_ := Aside0.mk (Kd.R_after (ok := (fun k_ => some k_ ≠ (v149 : Value).ownBlock)) (by (with_reducible repeat (first | apply Kd.R_alloc | apply Kd.R_drewN | apply Kd.R_drew)); exact Kd.R_mono HO_137002.out (fun _ hk => ⟨hk.2, hk.1.2⟩)) hg hat)
             have n1_ := Aside0.mk (blk_grown (g := gb129) (o := .cells #[.int .i64 a0_0, .int .i64 a0_1, .slice A0_2 l0_2.length c0_2] 76 (0, 0)) (tK BK129) hg (Kd.R_ne HO140.out BK129.out (by decide)))
             have n2_ := Aside0.mk (blk_grown (g := gb130) (o := .cells #[.int .i64 0, .int .i64 0, .slice none 0 0] 76 (0, 0)) (tK BK130) hg (Kd.R_ne HO140.out BK130.out (by decide)))
             have n3_ := Aside0.mk (blk_grown (g := gb136) (o := .cells #[.int .i64 t131, .int .i64 t132, .slice Ao15 t133.length co15] 76 (0, 0)) (tK BK136) hg (Kd.R_ne HO140.out BK136.out (by decide)))
             have n4_ := Aside0.mk (Kd.R_after (ok := (fun k_ => some k_ ≠ (.slice Ao15 t133.length co15 : Value).ownBlock)) (by (with_reducible repeat (first | apply Kd.R_alloc | apply Kd.R_drewN | apply Kd.R_drew)); exact Kd.R_mono HO150.out (fun _ hk => ⟨hk.1.2, hk.2⟩)) hg hat)
             have n5_ := Aside0.mk (hb)
             have n6_ := Aside0.mk (ho)
             clear HO_137002
             clear BK129
             clear BK130
             clear BK136
             clear HO150
             clear HB
             clear HO140
             have HO_137002 := n0_
             have BK129 := n1_
             have BK130 := n2_
             have BK136 := n3_
             have HO150 := n4_
             have HB := n5_
             have HO147 := n6_
             clear n0_ n1_ n2_ n3_ n4_ n5_ n6_
             clear ho hb hg hat
             refine hK.out _ _ ⟨(blk_cell BK129.out 0).trans rfl, (blk_cell BK129.out 1).trans rfl, (blk_cell BK129.out 2).trans rfl⟩ (fun hHeld => ?_)
             clear hK K
             refine norm_ (a' := ?_) ?_ ?_
             rotate_left
             ·show Act.put _ (some 34) _ = _
              simp only [Act.put, List.setIfInBounds_toArray, List.set_cons_zero, List.set_cons_succ, i64_w, i32_w]
              rfl
             exact norm_ (by simp only [putAll, Act.put, List.setIfInBounds_toArray, List.set_cons_zero, List.set_cons_succ]) (hCont (v139, v146, v149) _ ⟨hHeld, (by (with_reducible repeat (first | apply Kd.R_alloc | apply Kd.R_drewN | apply Kd.R_drew)); exact Kd.R_mono HO147.out (fun _ hk => ⟨hk.2, hk.1⟩)), (by (with_reducible repeat (first | apply Kd.R_alloc | apply Kd.R_drewN | apply Kd.R_drew)); exact Kd.R_mono HO150.out (fun _ hk => ⟨hk.2, hk.1⟩)), (by (with_reducible repeat (first | apply Kd.R_alloc | apply Kd.R_drewN | apply Kd.R_drew)); exact Kd.R_mono HO_137002.out (fun _ hk => ⟨hk.2, hk.1⟩)), (tK BK129), (tK BK130), (tK BK136), tB⟩)
           ·skip
            refine Kd.R_lit_step k123 _ 123 ?hg (N := 38) ?hd (xs := ([(⟨a1, a2, 0, false⟩ : S123)] : List (S123))) (inner := [.int .i64 a1, .int .i64 a2, .int .i64 0, .bool false]) (ok := fun _ => True) (okp := fun _ => True) ?hr ?hp (fun _ hk => hk) trivial (Below.refl _ _) (Nat.le_refl _) (by simp) ?_; (case hd => rfl); (case hg => rfl); (case hr => exact tG); (case hp => exact (Reps.c4 (show Kd.M k123 _ _ _ (⟨a1, a2, 0, false⟩ : S123) [.int .i64 a1, .int .i64 a2, .int .i64 0, .bool false] from (k123_mkM _ _ _ (⟨a1, a2, 0, false⟩ : S123) )) (Reps.none _ _)))
            intro v149 w66 ho67 hb hg_ hnew_
            clear hg_ hnew_
            (first | rw [← Ny148.out] at ho67 | (simp only [Int.reduceToNat] at ho67; rw [← Ny148.out] at ho67))
            have n0_ := Aside0.mk (Kd.R_elder' (tR HO_137002) (Kd.R_base ho67) hb)
            have n1_ := Aside0.mk (Kd.R_lower (Kd.R_new' ho67 (Kd.R_lt (tR HO_137002))) (below_size tB))
            have n2_ := Aside0.mk (blk_below (g := gb129) (o := .cells #[.int .i64 a0_0, .int .i64 a0_1, .slice A0_2 l0_2.length c0_2] 76 (0, 0)) (tK BK129) hb)
            have n3_ := Aside0.mk (blk_below (g := gb130) (o := .cells #[.int .i64 0, .int .i64 0, .slice none 0 0] 76 (0, 0)) (tK BK130) hb)
            have n4_ := Aside0.mk (blk_below (g := gb136) (o := .cells #[.int .i64 t131, .int .i64 t132, .slice Ao15 t133.length co15] 76 (0, 0)) (tK BK136) hb)
            have n5_ := Aside0.mk (below_step tB hb)
            clear HO_137002
            clear BK129
            clear BK130
            clear BK136
            clear HB
            have HO_137002 := n0_
            have HO150 := n1_
            have BK129 := n2_
            have BK130 := n3_
            have BK136 := n4_
            have HB := n5_
            clear n0_ n1_ n2_ n3_ n4_ n5_
            clear hb ho67
            refine hK.out _ _ ⟨(blk_cell BK129.out 0).trans rfl, (blk_cell BK129.out 1).trans rfl, (blk_cell BK129.out 2).trans rfl⟩ (fun hHeld => ?_)
            clear hK K
            refine norm_ (a' := ?_) ?_ ?_
            rotate_left
            ·show Act.put _ (some 38) _ = _
             simp only [Act.put, List.setIfInBounds_toArray, List.set_cons_zero, List.set_cons_succ, i64_w, i32_w]
             rfl
            refine one_ (i := 0) (N := some 29) #[true, true, true, true, true, false, true, true, true, true, false, true, true, true, true, false, false, false] rfl rfl (one_of HT_.out (by kernel_rfl)) (by decide) (fun K hK => ?_)
            refine Kd.R_lit_step k123 _ 123 ?hg (N := 29) ?hd (xs := ([] : List (S123))) (inner := []) (ok := fun _ => True) (okp := fun _ => True) ?hr ?hp (fun _ hk => hk) trivial (Below.refl _ _) (Nat.le_refl _) (by simp) ?_; (case hd => rfl); (case hg => rfl); (case hr => exact tG); (case hp => exact (Reps.none _ _))
            intro v139 w68 ho69 hb hg_ hnew_
            clear hg_ hnew_
            (first | rw [← Ny138.out] at ho69 | (simp only [Int.reduceToNat] at ho69; rw [← Ny138.out] at ho69))
            have n0_ := Aside0.mk (Kd.R_elder' (tR HO_137002) (Kd.R_base ho69) hb)
            have n1_ := Aside0.mk (Kd.R_elder' (tR HO150) (Kd.R_base ho69) hb)
            have n2_ := Aside0.mk (Kd.R_lower (Kd.R_new' (Kd.R_new' ho69 (Kd.R_lt (tR HO_137002))) (Kd.R_lt (tR HO150))) (below_size tB))
            have n3_ := Aside0.mk (blk_below (g := gb129) (o := .cells #[.int .i64 a0_0, .int .i64 a0_1, .slice A0_2 l0_2.length c0_2] 76 (0, 0)) (tK BK129) hb)
            have n4_ := Aside0.mk (blk_below (g := gb130) (o := .cells #[.int .i64 0, .int .i64 0, .slice none 0 0] 76 (0, 0)) (tK BK130) hb)
            have n5_ := Aside0.mk (blk_below (g := gb136) (o := .cells #[.int .i64 t131, .int .i64 t132, .slice Ao15 t133.length co15] 76 (0, 0)) (tK BK136) hb)
            have n6_ := Aside0.mk (below_step tB hb)
            clear HO_137002
            clear HO150
            clear BK129
            clear BK130
            clear BK136
            clear HB
            have HO_137002 := n0_
            have HO150 := n1_
            have HO140 := n2_
            have BK129 := n3_
            have BK130 := n4_
            have BK136 := n5_
            have HB := n6_
            clear n0_ n1_ n2_ n3_ n4_ n5_ n6_
            clear hb ho69
            refine hK.out _ _ ⟨(blk_cell BK129.out 0).trans rfl, (blk_cell BK129.out 1).trans rfl, (blk_cell BK129.out 2).trans rfl⟩ (fun hHeld => ?_)
            clear hK K
            refine norm_ (a' := ?_) ?_ ?_
            rotate_left
            ·show Act.put _ (some 29) _ = _
             simp only [Act.put, List.setIfInBounds_toArray, List.set_cons_zero, List.set_cons_succ, i64_w, i32_w]
             rfl
            refine one_ (i := 5) (N := some 34) #[true, true, true, true, true, true, true, true, true, true, false, true, true, true, true, false, false, false] rfl rfl (one_of HT_.out (by kernel_rfl)) (by decide) (fun K hK => ?_)
            refine Kd.R_append_rows_step k123 (w0 := w) w.heap.size (by rfl) (.tmp 29) (.tmp 33) 74 123 (.agg #[(.int .i64 0), (.int .i64 0), (.int .i64 0), (.bool false)]) 32 rfl Try.underlying74 info123 rfl (by decide) (by omega) v139 y138 y141 _ _ _ (fun k_ => some k_ ≠ (.slice Ao15 t133.length co15 : Value).ownBlock ∧ some k_ ≠ (v149 : Value).ownBlock) (fun _ => False) rfl rfl ?aO ?aR (fun _ _ h => h) (fun _ h => h.elim) ?aF ?aB ?aS ?aL ?_
            (case aR => repeat (first | exact (Kd.C_below HR144.out HB.out) | (with_reducible refine Kd.C_alloc ?_ _) | (with_reducible refine Kd.C_drewN ?_ _) | (with_reducible refine Kd.C_drew ?_)))
            (case aB => exact tB)
            (case aF => exact (fun k_ hk => ⟨Kd.fresh' (Kd.R_lt (tR HO_137002)) k_ hk, Kd.fresh' (Kd.R_lt (tR HO150)) k_ hk⟩))
            (case aO => exact (by (with_reducible repeat (first | apply Kd.R_alloc | apply Kd.R_drewN | apply Kd.R_drew)); exact Kd.R_mono HO140.out (fun _ hk => ⟨hk.1.2, hk.2⟩)))
            (case aS => exact (below_size tB))
            (case aL => have := LMc30.out; omega)
            intro v146 w70 ho hb hg hat
            rw [← Ny145.out] at ho
            have n0_ := Aside0.mk (Kd.R_after (ok := (fun k_ => some k_ ≠ (v149 : Value).ownBlock)) (by (with_reducible repeat (first | apply Kd.R_alloc | apply Kd.R_drewN | apply Kd.R_drew)); exact Kd.R_mono HO_137002.out (fun _ hk => ⟨hk.1.2, hk.2⟩)) hg hat)
            have n1_ := Aside0.mk (blk_grown (g := gb129) (o := .cells #[.int .i64 a0_0, .int .i64 a0_1, .slice A0_2 l0_2.length c0_2] 76 (0, 0)) (tK BK129) hg (Kd.R_ne HO140.out BK129.out (by decide)))
            have n2_ := Aside0.mk (blk_grown (g := gb130) (o := .cells #[.int .i64 0, .int .i64 0, .slice none 0 0] 76 (0, 0)) (tK BK130) hg (Kd.R_ne HO140.out BK130.out (by decide)))
            have n3_ := Aside0.mk (blk_grown (g := gb136) (o := .cells #[.int .i64 t131, .int .i64 t132, .slice Ao15 t133.length co15] 76 (0, 0)) (tK BK136) hg (Kd.R_ne HO140.out BK136.out (by decide)))
            have n4_ := Aside0.mk (Kd.R_after (ok := (fun k_ => some k_ ≠ (.slice Ao15 t133.length co15 : Value).ownBlock)) (by (with_reducible repeat (first | apply Kd.R_alloc | apply Kd.R_drewN | apply Kd.R_drew)); exact Kd.R_mono HO150.out (fun _ hk => ⟨hk.1.2, hk.2⟩)) hg hat)
            have n5_ := Aside0.mk (hb)
            have n6_ := Aside0.mk (ho)
            clear HO_137002
            clear BK129
            clear BK130
            clear BK136
            clear HO150
            clear HB
            clear HO140
            have HO_137002 := n0_
            have BK129 := n1_
            have BK130 := n2_
            have BK136 := n3_
            have HO150 := n4_
            have HB := n5_
            have HO147 := n6_
            clear n0_ n1_ n2_ n3_ n4_ n5_ n6_
            clear ho hb hg hat
            refine hK.out _ _ ⟨(blk_cell BK129.out 0).trans rfl, (blk_cell BK129.out 1).trans rfl, (blk_cell BK129.out 2).trans rfl⟩ (fun hHeld => ?_)
            clear hK K
            refine norm_ (a' := ?_) ?_ ?_
            rotate_left
            ·show Act.put _ (some 34) _ = _
             simp only [Act.put, List.setIfInBounds_toArray, List.set_cons_zero, List.set_cons_succ, i64_w, i32_w]
             rfl
            exact norm_ (by simp only [putAll, Act.put, List.setIfInBounds_toArray, List.set_cons_zero, List.set_cons_succ]) (hCont (v139, v146, v149) _ ⟨hHeld, (by (with_reducible repeat (first | apply Kd.R_alloc | apply Kd.R_drewN | apply Kd.R_drew)); exact Kd.R_mono HO147.out (fun _ hk => ⟨hk.2, hk.1⟩)), (by (with_reducible repeat (first | apply Kd.R_alloc | apply Kd.R_drewN | apply Kd.R_drew)); exact Kd.R_mono HO150.out (fun _ hk => ⟨hk.2, hk.1⟩)), (by (with_reducible repeat (first | apply Kd.R_alloc | apply Kd.R_drewN | apply Kd.R_drew)); exact Kd.R_mono HO_137002.out (fun _ hk => ⟨hk.2, hk.1⟩)), (tK BK129), (tK BK130), (tK BK136), tB⟩)
          rintro ⟨v139, v146, v149⟩ w71 ⟨hS_, h0_, h1_, h2_, h3_, h4_, h5_, h6_⟩
          have n0_ : Aside0 (Kd.R k123 123 w71 w.heap.size (fun k_ => some k_ ≠ (v149 : Value).ownBlock ∧ some k_ ≠ (.slice Ao15 t133.length co15 : Value).ownBlock) v146 y145) := ⟨h0_⟩
          have n1_ : Aside0 (Kd.R k123 123 w71 w.heap.size (fun k_ => some k_ ≠ (v146 : Value).ownBlock ∧ some k_ ≠ (.slice Ao15 t133.length co15 : Value).ownBlock) v149 y148) := ⟨h1_⟩
          have n2_ : Aside0 (Kd.R k123 123 w71 w.heap.size (fun k_ => some k_ ≠ (v146 : Value).ownBlock ∧ some k_ ≠ (v149 : Value).ownBlock) (.slice Ao15 t133.length co15) t133) := ⟨h2_⟩
          have n3_ : Aside0 (w71.heap[gb129]? = some (.cells #[.int .i64 a0_0, .int .i64 a0_1, .slice A0_2 l0_2.length c0_2] 76 (0, 0))) := ⟨h3_⟩
          have n4_ : Aside0 (w71.heap[gb130]? = some (.cells #[.int .i64 0, .int .i64 0, .slice none 0 0] 76 (0, 0))) := ⟨h4_⟩
          have n5_ : Aside0 (w71.heap[gb136]? = some (.cells #[.int .i64 t131, .int .i64 t132, .slice Ao15 t133.length co15] 76 (0, 0))) := ⟨h5_⟩
          have n6_ : Aside0 (Below w.heap.size w w71) := ⟨h6_⟩
          clear HO_137002
          clear BK129
          clear BK130
          clear BK136
          clear HB
          clear h0_ h1_ h2_ h3_ h4_ h5_ h6_
          have HO147 := n0_
          have HO150 := n1_
          have HO_137002 := n2_
          have BK129 := n3_
          have BK130 := n4_
          have BK136 := n5_
          have HB := n6_
          clear n0_ n1_ n2_ n3_ n4_ n5_ n6_
          have hHeld : w71.cell? ⟨gb129, 0, none⟩ = some (.int .i64 a0_0) ∧ w71.cell? ⟨gb129, 1, none⟩ = some (.int .i64 a0_1) ∧ w71.cell? ⟨gb129, 2, none⟩ = some (.slice A0_2 l0_2.length c0_2) := hS_
          obtain ⟨Ao73, co73, eo73⟩ := Kd.R_slice HO150.out
          (first | subst eo73 | (injection eo73 with f1_ f2_ f3_; have f4_ := f1_.symm; have f5_ := f3_.symm; clear f1_ f2_ f3_; subst f4_; subst f5_))
          refine norm_ (a' := ?_) ?_ ?_
          rotate_left
          ·simp only [putAll, Act.put, List.setIfInBounds_toArray, List.set_cons_zero, List.set_cons_succ]
           rfl
          refine one_ (i := 10) (N := some 39) #[true, true, true, true, true, true, true, true, true, true, true, true, true, true, true, false, false, false] rfl rfl (one_of HT_.out (by kernel_rfl)) (by decide) (fun K hK => ?_)
          refine Kd.R_append_rows_step k123 (w0 := w) w.heap.size (by rfl) (.tmp 34) (.tmp 38) 74 123 (.agg #[(.int .i64 0), (.int .i64 0), (.int .i64 0), (.bool false)]) 32 rfl Try.underlying74 info123 rfl (by decide) (by omega) v146 y145 y148 _ _ _ (fun k_ => some k_ ≠ (.slice Ao15 t133.length co15 : Value).ownBlock ∧ some k_ ≠ (.slice Ao73 y148.length co73 : Value).ownBlock) (fun _ => False) rfl rfl ?aO ?aR (fun _ _ h => h) (fun _ h => h.elim) ?aF ?aB ?aS ?aL ?_
          (case aR => repeat (first | exact (Kd.R_reads' HO150.out).2.2 | (with_reducible refine Kd.C_alloc ?_ _) | (with_reducible refine Kd.C_drewN ?_ _) | (with_reducible refine Kd.C_drew ?_)))
          (case aB => exact tB)
          (case aF => exact (fun k_ hk => ⟨Kd.fresh' (Kd.R_lt (tR HO_137002)) k_ hk, Kd.fresh' (Kd.R_lt (tR HO150)) k_ hk⟩))
          (case aO => exact (by (with_reducible repeat (first | apply Kd.R_alloc | apply Kd.R_drewN | apply Kd.R_drew)); exact Kd.R_mono HO147.out (fun _ hk => ⟨hk.2, hk.1⟩)))
          (case aS => exact (below_size tB))
          (case aL => have := LMc31.out; omega)
          intro v152 w72 ho hb hg hat
          rw [← Ny151.out] at ho
          have n0_ := Aside0.mk (Kd.R_after (ok := (fun k_ => some k_ ≠ (.slice Ao73 y148.length co73 : Value).ownBlock)) (by (with_reducible repeat (first | apply Kd.R_alloc | apply Kd.R_drewN | apply Kd.R_drew)); exact Kd.R_mono HO_137002.out (fun _ hk => ⟨hk.2, hk.1⟩)) hg hat)
          have n1_ := Aside0.mk (blk_grown (g := gb129) (o := .cells #[.int .i64 a0_0, .int .i64 a0_1, .slice A0_2 l0_2.length c0_2] 76 (0, 0)) (tK BK129) hg (Kd.R_ne HO147.out BK129.out (by decide)))
          have n2_ := Aside0.mk (blk_grown (g := gb130) (o := .cells #[.int .i64 0, .int .i64 0, .slice none 0 0] 76 (0, 0)) (tK BK130) hg (Kd.R_ne HO147.out BK130.out (by decide)))
          have n3_ := Aside0.mk (blk_grown (g := gb136) (o := .cells #[.int .i64 t131, .int .i64 t132, .slice Ao15 t133.length co15] 76 (0, 0)) (tK BK136) hg (Kd.R_ne HO147.out BK136.out (by decide)))
          have n4_ := Aside0.mk (Kd.R_after (ok := (fun k_ => some k_ ≠ (.slice Ao15 t133.length co15 : Value).ownBlock)) (by (with_reducible repeat (first | apply Kd.R_alloc | apply Kd.R_drewN | apply Kd.R_drew)); exact Kd.R_mono HO150.out (fun _ hk => ⟨hk.2, hk.1⟩)) hg hat)
          have n5_ := Aside0.mk (hb)
          have n6_ := Aside0.mk (ho)
          clear HO_137002
          clear BK129
          clear BK130
          clear BK136
          clear HO150
          clear HB
          clear HO147
          have HO_137002 := n0_
          have BK129 := n1_
          have BK130 := n2_
          have BK136 := n3_
          have HO150 := n4_
          have HB := n5_
          have HO153 := n6_
          clear n0_ n1_ n2_ n3_ n4_ n5_ n6_
          clear ho hb hg hat
          refine hK.out _ _ ⟨(blk_cell BK129.out 0).trans rfl, (blk_cell BK129.out 1).trans rfl, (blk_cell BK129.out 2).trans rfl⟩ (fun hHeld => ?_)
          clear hK K
          refine norm_ (a' := ?_) ?_ ?_
          rotate_left
          ·show Act.put _ (some 39) _ = _
           simp only [Act.put, List.setIfInBounds_toArray, List.set_cons_zero, List.set_cons_succ, i64_w, i32_w]
           rfl
          refine one_ (i := 15) (N := some 44) #[true, true, true, true, true, true, true, true, true, true, true, true, true, true, true, true, false, false] rfl rfl (one_of HT_.out (by kernel_rfl)) (by decide) (fun K hK => ?_)
          refine Kd.R_append_rows_step k123 (w0 := w) w.heap.size (by rfl) (.tmp 39) (.tmp 43) 74 123 (.agg #[(.int .i64 0), (.int .i64 0), (.int .i64 0), (.bool false)]) 32 rfl Try.underlying74 info123 rfl (by decide) (by omega) v152 y151 y154 _ _ _ (fun k_ => some k_ ≠ (.slice Ao15 t133.length co15 : Value).ownBlock ∧ some k_ ≠ (.slice Ao73 y148.length co73 : Value).ownBlock) (fun _ => False) rfl rfl ?aO ?aR (fun _ _ h => h) (fun _ h => h.elim) ?aF ?aB ?aS ?aL ?_
          (case aR => repeat (first | exact (Kd.C_below HR157.out HB.out) | (with_reducible refine Kd.C_alloc ?_ _) | (with_reducible refine Kd.C_drewN ?_ _) | (with_reducible refine Kd.C_drew ?_)))
          (case aB => exact tB)
          (case aF => exact (fun k_ hk => ⟨Kd.fresh' (Kd.R_lt (tR HO_137002)) k_ hk, Kd.fresh' (Kd.R_lt (tR HO150)) k_ hk⟩))
          (case aO => exact (tR HO153))
          (case aS => exact (below_size tB))
          (case aL => have := LMc34.out; omega)
          intro v159 w74 ho hb hg hat
          rw [← Ny158.out] at ho
          have n0_ := Aside0.mk (Kd.R_after (ok := (fun k_ => some k_ ≠ (.slice Ao73 y148.length co73 : Value).ownBlock)) (tR HO_137002) hg hat)
          have n1_ := Aside0.mk (blk_grown (g := gb129) (o := .cells #[.int .i64 a0_0, .int .i64 a0_1, .slice A0_2 l0_2.length c0_2] 76 (0, 0)) (tK BK129) hg (Kd.R_ne HO153.out BK129.out (by decide)))
          have n2_ := Aside0.mk (blk_grown (g := gb130) (o := .cells #[.int .i64 0, .int .i64 0, .slice none 0 0] 76 (0, 0)) (tK BK130) hg (Kd.R_ne HO153.out BK130.out (by decide)))
          have n3_ := Aside0.mk (blk_grown (g := gb136) (o := .cells #[.int .i64 t131, .int .i64 t132, .slice Ao15 t133.length co15] 76 (0, 0)) (tK BK136) hg (Kd.R_ne HO153.out BK136.out (by decide)))
          have n4_ := Aside0.mk (Kd.R_after (ok := (fun k_ => some k_ ≠ (.slice Ao15 t133.length co15 : Value).ownBlock)) (tR HO150) hg hat)
          have n5_ := Aside0.mk (hb)
          have n6_ := Aside0.mk (ho)
          clear HO_137002
          clear BK129
          clear BK130
          clear BK136
          clear HO150
          clear HB
          clear HO153
          have HO_137002 := n0_
          have BK129 := n1_
          have BK130 := n2_
          have BK136 := n3_
          have HO150 := n4_
          have HB := n5_
          have HO160 := n6_
          clear n0_ n1_ n2_ n3_ n4_ n5_ n6_
          clear ho hb hg hat
          obtain ⟨Ao75, co75, eo75⟩ := Kd.R_slice HO160.out
          (first | subst eo75 | (injection eo75 with f1_ f2_ f3_; have f4_ := f1_.symm; have f5_ := f3_.symm; clear f1_ f2_ f3_; subst f4_; subst f5_))
          refine hK.out _ _ ⟨(blk_cell BK129.out 0).trans rfl, (blk_cell BK129.out 1).trans rfl, (blk_cell BK129.out 2).trans rfl⟩ (fun hHeld => ?_)
          clear hK K
          refine norm_ (a' := ?_) ?_ ?_
          rotate_left
          ·show Act.put _ (some 44) _ = _
           simp only [Act.put, List.setIfInBounds_toArray, List.set_cons_zero, List.set_cons_succ, i64_w, i32_w]
           rfl
          refine pure_ (i := 16) (N := some 45) (v := ?_) (a' := ?_) #[true, true, true, true, true, true, true, true, true, true, true, true, true, true, true, true, true, false] rfl rfl (any_of HT_.out (by kernel_rfl)) (fun _ _ _ h => h) (Or.inl ⟨by rfl, ?_⟩) ?_ ?_
          rotate_left
          ·intro w'
           go_simp
           with_reducible rfl
          rotate_left
          ·simp only [Act.put, List.setIfInBounds_toArray, List.set_cons_zero, List.set_cons_succ, i64_w, i32_w]
           rfl
          refine one_ (i := 17) (N := none) #[true, true, true, true, true, true, true, true, true, true, true, true, true, true, true, true, true, true] rfl rfl (one_of HT_.out (by kernel_rfl)) (by decide) (fun K hK => ?_)
          have hs76 : w74.cell? ⟨gb136, 2, none⟩ = some (.slice Ao15 t133.length co15) := (blk_cell BK136.out 2).trans rfl
          have hfs76 := blk_frozen BK136.out 2
          have hns76_0 := NB129_136.out
          have hns76_1 := NB130_136.out
          have hms76_0 := NB136_129.out
          have hms76_1 := NB136_130.out
          refine skip_ (w1 := ?_) (by rfl) rfl ?_ ?_
          rotate_left
          ·go_simp
           rfl
          refine hK.out _ _ ⟨((cell_far (p := ⟨gb136, _, none⟩) NB129_136.out _).trans (hHeld.1)), ((cell_far (p := ⟨gb136, _, none⟩) NB129_136.out _).trans (hHeld.2.1)), ((cell_far (p := ⟨gb136, _, none⟩) NB129_136.out _).trans (hHeld.2.2))⟩ (fun hHeld => ?_)
          clear hK K
          refine done_ (done_of HT_.out (by kernel_rfl)) ?_
          have hnb77 := NB129_130.out
          have hnc77 := NB130_129.out
          have hnb78 := NB129_136.out
          have hnc78 := NB136_129.out
          obtain ⟨hcz79_0, hcz79_1, hcz79_2, hfz79_0, hfz79_1, hfz79_2⟩ := bc3 BK129.out
          try go_wp2_with (first | ((with_reducible refine gate_callee (f := 103) rfl ?_); refine goesL_ (some 47) rfl rfl Try.func103 (by kernel_rfl) rfl #[.agg #[.int .i64 a0_0, .int .i64 a0_1, .slice A0_2 l0_2.length c0_2]] rfl tL ?_; (with_reducible refine (spec_IsValidAccount.calls kj4 a0_0 a0_1 _ _ l0_2 true _ ?side1 ?side2 A35.out).mono ?_); (case side1 => exact Kd.C_below HR0_2.out tB); (case side2 => exact HC0_2.out); rintro e w80 ⟨rfl, hb⟩; refine ⟨_, rfl, ?_⟩; have n0_ := Aside0.mk (Kd.R_below (by (with_reducible repeat (first | apply Kd.R_alloc | apply Kd.R_drewN | apply Kd.R_drew)); exact (Kd.R_mono (Kd.R_far (p := ⟨gb136, 2, none⟩) (Kd.R_types HO_137002.out BK136.out (by decide)) (fun _ hk => hk.2) (.slice Ao75 y158.length co75)) (fun _ h_ => h_.1))) hb); have n1_ := Aside0.mk (Kd.R_below (by (with_reducible repeat (first | apply Kd.R_alloc | apply Kd.R_drewN | apply Kd.R_drew)); exact (Kd.R_mono (Kd.R_far (p := ⟨gb136, 2, none⟩) (Kd.R_types HO150.out BK136.out (by decide)) (fun _ hk => hk.2) (.slice Ao75 y158.length co75)) (fun _ h_ => h_.1))) hb); have n2_ := Aside0.mk (Kd.R_below (by (with_reducible repeat (first | apply Kd.R_alloc | apply Kd.R_drewN | apply Kd.R_drew)); exact (Kd.R_mono (Kd.R_far (p := ⟨gb136, 2, none⟩) (Kd.R_types HO160.out BK136.out (by decide)) (fun _ hk => hk.2) (.slice Ao75 y158.length co75)) (fun _ h_ => h_.1))) hb); have n3_ := Aside0.mk (blk_below (g := gb129) (o := .cells #[.int .i64 a0_0, .int .i64 a0_1, .slice A0_2 l0_2.length c0_2] 76 (0, 0)) (by (with_reducible repeat (first | refine blk_drewN ?_ _ | refine blk_drew ?_ | refine blk_alloc ?_ _)); refine blk_far ?_ NB129_136.out _; (with_reducible repeat (first | refine blk_drewN ?_ _ | refine blk_drew ?_ | refine blk_alloc ?_ _)); exact BK129.out) hb); have n4_ := Aside0.mk (blk_below (g := gb130) (o := .cells #[.int .i64 0, .int .i64 0, .slice none 0 0] 76 (0, 0)) (by (with_reducible repeat (first | refine blk_drewN ?_ _ | refine blk_drew ?_ | refine blk_alloc ?_ _)); refine blk_far ?_ NB130_136.out _; (with_reducible repeat (first | refine blk_drewN ?_ _ | refine blk_drew ?_ | refine blk_alloc ?_ _)); exact BK130.out) hb); have n5_ := Aside0.mk (blk_below (g := gb136) (o := .cells #[.int .i64 t131, .int .i64 t132, .slice Ao75 y158.length co75] 76 (0, 0)) (by (with_reducible repeat (first | refine blk_drewN ?_ _ | refine blk_drew ?_ | refine blk_alloc ?_ _)); refine blk_put (cs := #[.int .i64 t131, .int .i64 t132, .slice Ao15 t133.length co15]) ?_ 2 _ rfl; (with_reducible repeat (first | refine blk_drewN ?_ _ | refine blk_drew ?_ | refine blk_alloc ?_ _)); exact BK136.out) hb); have n6_ := Aside0.mk (below_step tB hb); clear HO_137002; clear HO150; clear HO160; clear BK129; clear BK130; clear BK136; clear HB; have HO_137002 := n0_; have HO150 := n1_; have HO160 := n2_; have BK129 := n3_; have BK130 := n4_; have BK136 := n5_; have HB := n6_; clear n0_ n1_ n2_ n3_ n4_ n5_ n6_; (try clear hb); (try clear hb2); (try clear hk); (try clear hi); have hnb81 := NB136_130.out; have hnc81 := NB130_136.out; obtain ⟨hcz82_0, hcz82_1, hcz82_2, hfz82_0, hfz82_1, hfz82_2⟩ := bc3 BK136.out) | (go_at_call 103; (with_reducible refine (spec_IsValidAccount.calls kj4 t131 t132 _ _ y158 false _ ?side1 ?side2 A37.out).mono ?_); (case side1 => repeat (first | exact (Kd.R_reads' HO160.out).2.2 | (with_reducible refine Kd.C_alloc ?_ _) | (with_reducible refine Kd.C_drewN ?_ _) | (with_reducible refine Kd.C_drew ?_))); (case side2 => exact (Kd.R_reads' HO160.out).2.1); rintro e w83 ⟨rfl, hb⟩; have n0_ := Aside0.mk (Kd.R_below (tR HO_137002) hb); have n1_ := Aside0.mk (Kd.R_below (tR HO150) hb); have n2_ := Aside0.mk (Kd.R_below (tR HO160) hb); have n3_ := Aside0.mk (blk_below (g := gb129) (o := .cells #[.int .i64 a0_0, .int .i64 a0_1, .slice A0_2 l0_2.length c0_2] 76 (0, 0)) (tK BK129) hb); have n4_ := Aside0.mk (blk_below (g := gb130) (o := .cells #[.int .i64 0, .int .i64 0, .slice none 0 0] 76 (0, 0)) (tK BK130) hb); have n5_ := Aside0.mk (blk_below (g := gb136) (o := .cells #[.int .i64 t131, .int .i64 t132, .slice Ao75 y158.length co75] 76 (0, 0)) (tK BK136) hb); have n6_ := Aside0.mk (below_step tB hb); clear HO_137002; clear HO150; clear HO160; clear BK129; clear BK130; clear BK136; clear HB; have HO_137002 := n0_; have HO150 := n1_; have HO160 := n2_; have BK129 := n3_; have BK130 := n4_; have BK136 := n5_; have HB := n6_; clear n0_ n1_ n2_ n3_ n4_ n5_ n6_; (try clear hb); (try clear hb2); (try clear hk); (try clear hi); obtain ⟨hcz84_0, hcz84_1, hcz84_2, hfz84_0, hfz84_1, hfz84_2⟩ := bc3 BK129.out) | ((with_reducible refine gate_callee (f := 101) rfl ?_); refine goesL_ (some 55) rfl rfl Try.func101 (by kernel_rfl) rfl #[.agg #[.int .i64 a0_0, .int .i64 a0_1, .slice A0_2 l0_2.length c0_2]] rfl tL ?_; (with_reducible refine (spec_l14Copy.calls a0_0 a0_1 _ _ l0_2 t163 t164 t165 _ ?side1 ?side2 A62.out).mono ?_); (case side1 => repeat (first | exact (Kd.C_below HR0_2.out HB.out) | (with_reducible refine Kd.C_alloc ?_ _) | (with_reducible refine Kd.C_drewN ?_ _) | (with_reducible refine Kd.C_drew ?_))); (case side2 => exact HC0_2.out); rintro e w85 ⟨v166, rfl, ho0, hb⟩; refine ⟨_, rfl, ?_⟩; have n0_ := Aside0.mk (Kd.R_elder' (tR HO_137002) (Kd.R_base ho0) hb); have n1_ := Aside0.mk (Kd.R_elder' (tR HO150) (Kd.R_base ho0) hb); have n2_ := Aside0.mk (Kd.R_elder' (tR HO160) (Kd.R_base ho0) hb); have n3_ := Aside0.mk (Kd.R_lower (Kd.R_new' (Kd.R_new' (Kd.R_new' ho0 (Kd.R_lt (tR HO_137002))) (Kd.R_lt (tR HO150))) (Kd.R_lt (tR HO160))) (below_size tB)); have n4_ := Aside0.mk (blk_below (g := gb129) (o := .cells #[.int .i64 a0_0, .int .i64 a0_1, .slice A0_2 l0_2.length c0_2] 76 (0, 0)) (tK BK129) hb); have n5_ := Aside0.mk (blk_below (g := gb130) (o := .cells #[.int .i64 0, .int .i64 0, .slice none 0 0] 76 (0, 0)) (tK BK130) hb); have n6_ := Aside0.mk (blk_below (g := gb136) (o := .cells #[.int .i64 t131, .int .i64 t132, .slice Ao75 y158.length co75] 76 (0, 0)) (tK BK136) hb); have n7_ := Aside0.mk (below_step tB hb); clear HO_137002; clear HO150; clear HO160; clear BK129; clear BK130; clear BK136; clear HB; have HO_137002 := n0_; have HO150 := n1_; have HO160 := n2_; have HO167 := n3_; have BK129 := n4_; have BK130 := n5_; have BK136 := n6_; have HB := n7_; clear n0_ n1_ n2_ n3_ n4_ n5_ n6_ n7_; (try clear hb); (try clear hb2); (try clear hk); (try clear hi); (try clear ho0); obtain ⟨hcz86_0, hcz86_1, hcz86_2, hfz86_0, hfz86_1, hfz86_2⟩ := bc3 BK130.out; obtain ⟨Ao87, co87, eo87⟩ := Kd.R_slice HO167.out; subst eo87))
          refine bodyPost_ret (results_ct rfl _ _ gb130 76 #[.int .i64 t163, .int .i64 t164, .slice Ao87 t165.length co87] (0, 0) _ rfl (by (with_reducible repeat (first | refine blk_drewN ?_ _ | refine blk_drew ?_ | refine blk_alloc ?_ _)); refine blk_put (cs := #[.int .i64 t163, .int .i64 t164, .slice none 0 0]) ?_ 2 _ rfl; (with_reducible repeat (first | refine blk_drewN ?_ _ | refine blk_drew ?_ | refine blk_alloc ?_ _)); refine blk_put (cs := #[.int .i64 t163, .int .i64 0, .slice none 0 0]) ?_ 1 _ rfl; (with_reducible repeat (first | refine blk_drewN ?_ _ | refine blk_drew ?_ | refine blk_alloc ?_ _)); refine blk_put (cs := #[.int .i64 0, .int .i64 0, .slice none 0 0]) ?_ 0 _ rfl; (with_reducible repeat (first | refine blk_drewN ?_ _ | refine blk_drew ?_ | refine blk_alloc ?_ _)); exact BK130.out) Try.underlying76 rfl (by kernel_rfl)) rfl ?_
          exact ⟨_, tE, by (with_reducible repeat (first | apply Kd.R_alloc | apply Kd.R_drewN | apply Kd.R_drew)); exact Kd.R_mono (Kd.R_far (p := ⟨gb130, 2, none⟩) (Kd.R_far (p := ⟨gb130, 1, none⟩) (Kd.R_far (p := ⟨gb130, 0, none⟩) (Kd.R_types HO167.out BK130.out (by decide)) (fun _ hk => hk.2) (.int .i64 t163)) (fun _ hk => hk.2) (.int .i64 t164)) (fun _ hk => hk.2) (.slice Ao87 t165.length co87)) (fun _ hk => trivial), tB⟩
        ·replace c36 := Bool.eq_false_iff.mpr c36
         subst c36
         have H1 : ((spec_l14Copy.f a0_0 a0_1 l0_2).bind fun bt168 => (some (bt168.1, bt168.2.1, bt168.2.2, false))) = some (r1, r2, r3, r4) := by rw [if_neg (show ¬ (false = true) by decide)] at H; exact H
         clear H
         have H := H1
         clear H1
         replace H := Option.bind_eq_some_iff.mp H
         obtain ⟨⟨t168, t169, t170⟩, A880, H⟩ := H
         replace H : (some (t168, t169, t170, false)) = some (r1, r2, r3, r4) := H
         have A88 := Aside0.mk A880
         clear A880
         simp only [Option.some.injEq, Prod.mk.injEq] at H
         obtain ⟨rfl, rfl, rfl, rfl⟩ := H
         try go_wp2
         have n0_ := Aside0.mk (Kd.R_drew HO_137002.out)
         have n1_ := Aside0.mk (blk_drew BK129.out)
         have n2_ := Aside0.mk (blk_drew BK130.out)
         have n3_ := Aside0.mk (blk_drew BK136.out)
         have n4_ := Aside0.mk (below_drew1 HB.out)
         clear HO_137002
         clear BK129
         clear BK130
         clear BK136
         clear HB
         have HO_137002 := n0_
         have BK129 := n1_
         have BK130 := n2_
         have BK136 := n3_
         have HB := n4_
         clear n0_ n1_ n2_ n3_ n4_
         have q90 : (x9_4 : Int) ≤ ((l0_2.length : Int) : Int) := of_decide_eq_true tA
         obtain ⟨i090, hi090, _, hsz90, _⟩ := info_parts info123
         have hroom90 : l0_2.length ≤ c0_2 := HC0_2.out
         have hC90 : Kd.C k123 _ A0_2 l0_2.length l0_2 := HR0_2.out
         have hcut90 := cut_to (P := Try.prog) 74 123 .i64 Try.underlying74 hi090 A0_2 l0_2.length c0_2 x9_4 (of_decide_eq_true tA) q90 hroom90
         have hr90 := Kd.C_take (m := (x9_4 : Int).toNat) hC90 (by omega)
         have hy90 : y141.length = (x9_4 : Int).toNat := (by rw [Ny141.out, List.length_take]; omega)
         rw [← Ny141.out] at hr90
         rw [← hy90] at hcut90
         have HR144 := Aside0.mk hr90
         have HC144 := Aside0.mk (show y141.length ≤ c0_2 from by omega)
         clear hr90 hC90 hroom90 hi090 hsz90
         have KY90 := Aside0.mk hy90
         clear hy90
         replace q90 := eq_true q90
         have q91 : (x9_4 : Int) ≤ ((l0_2.length : Int) : Int) := of_decide_eq_true tA
         obtain ⟨i091, hi091, _, hsz91, _⟩ := info_parts info123
         have hroom91 : l0_2.length ≤ c0_2 := HC0_2.out
         have hC91 : Kd.C k123 _ A0_2 l0_2.length l0_2 := HR0_2.out
         have q091 : (0 : Int) ≤ (x9_4 : Int) := of_decide_eq_true tA
         have hcut91 := cut_from (P := Try.prog) 74 123 .i64 Try.underlying74 hi091 4 hsz91 A0_2 l0_2.length c0_2 x9_4 q091 q91
         have hr91 := Kd.C_drop (m := (x9_4 : Int).toNat) (c := c0_2) hC91 (by omega) hroom91
         obtain ⟨A91, hA91⟩ : ∃ A1, A1 = (if c0_2 = (x9_4 : Int).toNat then A0_2 else (A0_2 : Option Addr).map (·.add ((x9_4 : Int).toNat * 4))) := ⟨_, rfl⟩
         obtain ⟨c91, hc91⟩ : ∃ c1, c1 = c0_2 - (x9_4 : Int).toNat := ⟨_, rfl⟩
         have hy91 : y154.length = l0_2.length - (x9_4 : Int).toNat := (by rw [Ny154.out, List.length_drop] <;> omega)
         rw [show (l0_2).drop (x9_4 : Int).toNat = y154 from Ny154.out.symm] at hr91
         replace hr91 : Kd.C k123 _ A91 y154.length y154 := (by rw [hA91]; exact hr91)
         rw [← hy91, ← hA91, ← hc91] at hcut91
         have HR157 := Aside0.mk hr91
         have HC157 := Aside0.mk (show y154.length ≤ c91 from by rw [hy91, hc91]; exact Nat.sub_le_sub_right hroom91 _)
         clear hr91 hC91 hroom91 hi091 hsz91 hc91
         have KY91 := Aside0.mk hy91
         have KA91 := Aside0.mk hA91
         clear hy91 hA91
         replace q91 := eq_true q91
         refine start_ (n := 18) (S := fun w' => w'.cell? ⟨gb129, 0, none⟩ = some (.int .i64 a0_0) ∧ w'.cell? ⟨gb129, 1, none⟩ = some (.int .i64 a0_1) ∧ w'.cell? ⟨gb129, 2, none⟩ = some (.slice A0_2 l0_2.length c0_2)) (ds := []) #[false, false, false, false, false, false, false, false, false, false, false, false, false, false, false, false, false, false] (by kernel_rfl) rfl rfl ⟨(blk_cell BK129.out 0).trans rfl, (blk_cell BK129.out 1).trans rfl, (blk_cell BK129.out 2).trans rfl⟩ (fun hHeld => ?_); refine with_tabW spec_AddCredential.tab5 spec_AddCredential.bits5 (fun HT_ HW_ => ?_)
         generalize wc.drew = w89 at HO_137002 BK129 BK130 BK136 HB HR144 HR157 hHeld ⊢
         refine pure_ (i := 1) (N := some 30) (v := ?_) (a' := ?_) #[false, true, false, false, false, false, false, false, false, false, false, false, false, false, false, false, false, false] rfl rfl (any_of HT_.out (by kernel_rfl)) (fun _ _ _ h => h) (Or.inl ⟨by rfl, ?_⟩) ?_ ?_
         rotate_left
         ·intro w'
          go_simp
          with_reducible rfl
         rotate_left
         ·simp only [Act.put, List.setIfInBounds_toArray, List.set_cons_zero, List.set_cons_succ, i64_w, i32_w]
          rfl
         refine pure_ (i := 3) (N := some 32) (v := ?_) (a' := ?_) #[false, true, false, true, false, false, false, false, false, false, false, false, false, false, false, false, false, false] rfl rfl (any_of HT_.out (by kernel_rfl)) (fun _ _ _ h => h) (Or.inl ⟨by rfl, ?_⟩) ?_ ?_
         rotate_left
         ·intro w'
          go_simp
          with_reducible rfl
         rotate_left
         ·simp only [Act.put, List.setIfInBounds_toArray, List.set_cons_zero, List.set_cons_succ, i64_w, i32_w]
          rfl
         refine pure_ (i := 6) (N := some 35) (v := ?_) (a' := ?_) #[false, true, false, true, false, false, true, false, false, false, false, false, false, false, false, false, false, false] rfl rfl (any_of HT_.out (by kernel_rfl)) (fun _ _ _ h => h) (Or.inl ⟨by rfl, ?_⟩) ?_ ?_
         rotate_left
         ·intro w'
          go_simp
          with_reducible rfl
         rotate_left
         ·simp only [Act.put, List.setIfInBounds_toArray, List.set_cons_zero, List.set_cons_succ, i64_w, i32_w]
          rfl
         refine pure_ (i := 7) (N := some 36) (v := ?_) (a' := ?_) #[false, true, false, true, false, false, true, true, false, false, false, false, false, false, false, false, false, false] rfl rfl (any_of HT_.out (by kernel_rfl)) (fun _ _ _ h => h) (Or.inl ⟨by rfl, ?_⟩) ?_ ?_
         rotate_left
         ·intro w'
          go_simp
          with_reducible rfl
         rotate_left
         ·simp only [Act.put, List.setIfInBounds_toArray, List.set_cons_zero, List.set_cons_succ, i64_w, i32_w]
          rfl
         refine pure_ (i := 8) (N := some 37) (v := ?_) (a' := ?_) #[false, true, false, true, false, false, true, true, true, false, false, false, false, false, false, false, false, false] rfl rfl (any_of HT_.out (by kernel_rfl)) (fun _ _ _ h => h) (Or.inl ⟨by rfl, ?_⟩) ?_ ?_
         rotate_left
         ·intro w'
          go_simp
          with_reducible rfl
         rotate_left
         ·simp only [Act.put, List.setIfInBounds_toArray, List.set_cons_zero, List.set_cons_succ, i64_w, i32_w]
          rfl
         refine pure_ (i := 11) (N := some 40) (v := ?_) (a' := ?_) #[false, true, false, true, false, false, true, true, true, false, false, true, false, false, false, false, false, false] rfl rfl (any_of HT_.out (by kernel_rfl)) (fun _ _ _ h => h) (Or.inl ⟨by rfl, ?_⟩) ?_ ?_
         rotate_left
         ·intro w'
          go_simp
          with_reducible rfl
         rotate_left
         ·simp only [Act.put, List.setIfInBounds_toArray, List.set_cons_zero, List.set_cons_succ, i64_w, i32_w]
          rfl
         refine pure_ (i := 13) (N := some 42) (v := ?_) (a' := ?_) #[false, true, false, true, false, false, true, true, true, false, false, true, false, true, false, false, false, false] rfl rfl (any_of HT_.out (by kernel_rfl)) (fun _ _ _ h => h) (Or.inl ⟨by rfl, ?_⟩) ?_ ?_
         rotate_left
         ·intro w'
          go_simp
          with_reducible rfl
         rotate_left
         ·simp only [Act.put, List.setIfInBounds_toArray, List.set_cons_zero, List.set_cons_succ, i64_w, i32_w]
          rfl
         refine take_ (i := 2) (N := some 31) (v := ?_) (a' := ?_) #[false, true, true, true, false, false, true, true, true, false, false, true, false, true, false, false, false, false] rfl rfl (take_ofW HT_.out HW_.out (by kernel_rfl)) (fun _ _ _ h => h) (Or.inl ⟨by rfl, ?_⟩) hHeld ?_ ?_
         rotate_left
         ·rintro w' ⟨s0, s1, s2⟩
          go_simp
          with_reducible rfl
         rotate_left
         ·simp only [Act.put, List.setIfInBounds_toArray, List.set_cons_zero, List.set_cons_succ, i64_w, i32_w]
          rfl
         refine pure_ (i := 4) (N := some 33) (v := ?_) (a' := ?_) #[false, true, true, true, true, false, true, true, true, false, false, true, false, true, false, false, false, false] rfl rfl (any_of HT_.out (by kernel_rfl)) (fun _ _ _ h => h) (Or.inl ⟨by rfl, ?_⟩) ?_ ?_
         rotate_left
         ·intro w'
          go_simp
          with_reducible rfl
         rotate_left
         ·simp only [Act.put, List.setIfInBounds_toArray, List.set_cons_zero, List.set_cons_succ, i64_w, i32_w]
          rfl
         refine take_ (i := 12) (N := some 41) (v := ?_) (a' := ?_) #[false, true, true, true, true, false, true, true, true, false, false, true, true, true, false, false, false, false] rfl rfl (take_ofW HT_.out HW_.out (by kernel_rfl)) (fun _ _ _ h => h) (Or.inl ⟨by rfl, ?_⟩) hHeld ?_ ?_
         rotate_left
         ·rintro w' ⟨s0, s1, s2⟩
          go_simp
          with_reducible rfl
         rotate_left
         ·simp only [Act.put, List.setIfInBounds_toArray, List.set_cons_zero, List.set_cons_succ, i64_w, i32_w]
          rfl
         refine pure_ (i := 14) (N := some 43) (v := ?_) (a' := ?_) #[false, true, true, true, true, false, true, true, true, false, false, true, true, true, true, false, false, false] rfl rfl (any_of HT_.out (by kernel_rfl)) (fun _ _ _ h => h) (Or.inl ⟨by rfl, ?_⟩) ?_ ?_
         rotate_left
         ·intro w'
          go_simp
          with_reducible rfl
         rotate_left
         ·simp only [Act.put, List.setIfInBounds_toArray, List.set_cons_zero, List.set_cons_succ, i64_w, i32_w]
          rfl
         refine join_ (σ := Value × Value × Value) 4 #[true, true, true, true, true, true, true, true, true, true, false, true, true, true, true, false, false, false] (fun s_ => [(29, s_.1), (34, s_.2.1), (38, s_.2.2)]) (fun s_ w' => (w'.cell? ⟨gb129, 0, none⟩ = some (.int .i64 a0_0) ∧ w'.cell? ⟨gb129, 1, none⟩ = some (.int .i64 a0_1) ∧ w'.cell? ⟨gb129, 2, none⟩ = some (.slice A0_2 l0_2.length c0_2)) ∧ (Kd.R k123 123 w' w.heap.size (fun k_ => some k_ ≠ (s_.2.2 : Value).ownBlock ∧ some k_ ≠ (.slice Ao15 t133.length co15 : Value).ownBlock) s_.2.1 y145) ∧ (Kd.R k123 123 w' w.heap.size (fun k_ => some k_ ≠ (s_.2.1 : Value).ownBlock ∧ some k_ ≠ (.slice Ao15 t133.length co15 : Value).ownBlock) s_.2.2 y148) ∧ (Kd.R k123 123 w' w.heap.size (fun k_ => some k_ ≠ (s_.2.1 : Value).ownBlock ∧ some k_ ≠ (s_.2.2 : Value).ownBlock) (.slice Ao15 t133.length co15) t133) ∧ (w'.heap[gb129]? = some (.cells #[.int .i64 a0_0, .int .i64 a0_1, .slice A0_2 l0_2.length c0_2] 76 (0, 0))) ∧ (w'.heap[gb130]? = some (.cells #[.int .i64 0, .int .i64 0, .slice none 0 0] 76 (0, 0))) ∧ (w'.heap[gb136]? = some (.cells #[.int .i64 t131, .int .i64 t132, .slice Ao15 t133.length co15] 76 (0, 0))) ∧ (Below w.heap.size w w')) ?_ ?_
         rotate_left
         ·intro hCont
          refine two_ (i := 0) (j := 9) (Ni := some 29) (Nj := some 38) #[true, true, true, true, true, false, true, true, true, false, false, true, true, true, true, false, false, false] #[false, true, true, true, true, false, true, true, true, true, false, true, true, true, true, false, false, false] rfl rfl rfl rfl (two_of HT_.out (by kernel_rfl)) (by decide) (by decide) (fun K hK => ?_) (fun K hK => ?_)
          ·skip
           refine Kd.R_lit_step k123 _ 123 ?hg (N := 29) ?hd (xs := ([] : List (S123))) (inner := []) (ok := fun _ => True) (okp := fun _ => True) ?hr ?hp (fun _ hk => hk) trivial (Below.refl _ _) (Nat.le_refl _) (by simp) ?_; (case hd => rfl); (case hg => rfl); (case hr => exact tG); (case hp => exact (Reps.none _ _))
           intro v139 w92 ho93 hb hg_ hnew_
           clear hg_ hnew_
           (first | rw [← Ny138.out] at ho93 | (simp only [Int.reduceToNat] at ho93; rw [← Ny138.out] at ho93))
           have n0_ := Aside0.mk (Kd.R_elder' (tR HO_137002) (Kd.R_base ho93) hb)
           have n1_ := Aside0.mk (Kd.R_lower (Kd.R_new' ho93 (Kd.R_lt (tR HO_137002))) (below_size tB))
           have n2_ := Aside0.mk (blk_below (g := gb129) (o := .cells #[.int .i64 a0_0, .int .i64 a0_1, .slice A0_2 l0_2.length c0_2] 76 (0, 0)) (tK BK129) hb)
           have n3_ := Aside0.mk (blk_below (g := gb130) (o := .cells #[.int .i64 0, .int .i64 0, .slice none 0 0] 76 (0, 0)) (tK BK130) hb)
           have n4_ := Aside0.mk (blk_below (g := gb136) (o := .cells #[.int .i64 t131, .int .i64 t132, .slice Ao15 t133.length co15] 76 (0, 0)) (tK BK136) hb)
           have n5_ := Aside0.mk (below_step tB hb)
           clear HO_137002
           clear BK129
           clear BK130
           clear BK136
           clear HB
           have HO_137002 := n0_
           have HO140 := n1_
           have BK129 := n2_
           have BK130 := n3_
           have BK136 := n4_
           have HB := n5_
           clear n0_ n1_ n2_ n3_ n4_ n5_
           clear hb ho93
           refine hK.out _ _ ⟨(blk_cell BK129.out 0).trans rfl, (blk_cell BK129.out 1).trans rfl, (blk_cell BK129.out 2).trans rfl⟩ (fun hHeld => ?_)
           clear hK K
           refine norm_ (a' := ?_) ?_ ?_
           rotate_left
           ·show Act.put _ (some 29) _ = _
            simp only [Act.put, List.setIfInBounds_toArray, List.set_cons_zero, List.set_cons_succ, i64_w, i32_w]
            rfl
           refine two_ (i := 5) (j := 9) (Ni := some 34) (Nj := some 38) #[true, true, true, true, true, true, true, true, true, false, false, true, true, true, true, false, false, false] #[true, true, true, true, true, false, true, true, true, true, false, true, true, true, true, false, false, false] rfl rfl rfl rfl (two_of HT_.out (by kernel_rfl)) (by decide) (by decide) (fun K hK => ?_) (fun K hK => ?_)
           ·skip
            refine Kd.R_append_rows_step k123 (w0 := w) w.heap.size (by rfl) (.tmp 29) (.tmp 33) 74 123 (.agg #[(.int .i64 0), (.int .i64 0), (.int .i64 0), (.bool false)]) 32 rfl Try.underlying74 info123 rfl (by decide) (by omega) v139 y138 y141 _ _ _ (fun k_ => some k_ ≠ (.slice Ao15 t133.length co15 : Value).ownBlock) (fun _ => False) rfl rfl ?aO ?aR (fun _ _ h => h) (fun _ h => h.elim) ?aF ?aB ?aS ?aL ?_
            (case aR => repeat (first | exact (Kd.C_below HR144.out HB.out) | (with_reducible refine Kd.C_alloc ?_ _) | (with_reducible refine Kd.C_drewN ?_ _) | (with_reducible refine Kd.C_drew ?_)))
            (case aB => exact tB)
            (case aF => exact (fun k_ hk => Kd.fresh' (Kd.R_lt (tR HO_137002)) k_ hk))
            (case aO => exact (by (with_reducible repeat (first | apply Kd.R_alloc | apply Kd.R_drewN | apply Kd.R_drew)); exact Kd.R_mono HO140.out (fun _ hk => hk.2)))
            (case aS => exact (below_size tB))
            (case aL => have := LMc30.out; omega)
            intro v146 w94 ho hb hg hat
            rw [← Ny145.out] at ho
            have n0_ := Aside0.mk (Kd.R_after (ok := (fun _ => True)) (tR HO_137002) hg hat)
            have n1_ := Aside0.mk (blk_grown (g := gb129) (o := .cells #[.int .i64 a0_0, .int .i64 a0_1, .slice A0_2 l0_2.length c0_2] 76 (0, 0)) (tK BK129) hg (Kd.R_ne HO140.out BK129.out (by decide)))
            have n2_ := Aside0.mk (blk_grown (g := gb130) (o := .cells #[.int .i64 0, .int .i64 0, .slice none 0 0] 76 (0, 0)) (tK BK130) hg (Kd.R_ne HO140.out BK130.out (by decide)))
            have n3_ := Aside0.mk (blk_grown (g := gb136) (o := .cells #[.int .i64 t131, .int .i64 t132, .slice Ao15 t133.length co15] 76 (0, 0)) (tK BK136) hg (Kd.R_ne HO140.out BK136.out (by decide)))
            have n4_ := Aside0.mk (hb)
            have n5_ := Aside0.mk (ho)
            clear HO_137002
            clear BK129
            clear BK130
            clear BK136
            clear HB
            clear HO140
            have HO_137002 := n0_
            have BK129 := n1_
            have BK130 := n2_
            have BK136 := n3_
            have HB := n4_
            have HO147 := n5_
            clear n0_ n1_ n2_ n3_ n4_ n5_
            clear ho hb hg hat
            refine hK.out _ _ ⟨(blk_cell BK129.out 0).trans rfl, (blk_cell BK129.out 1).trans rfl, (blk_cell BK129.out 2).trans rfl⟩ (fun hHeld => ?_)
            clear hK K
            refine norm_ (a' := ?_) ?_ ?_
            rotate_left
            ·show Act.put _ (some 34) _ = _
             simp only [Act.put, List.setIfInBounds_toArray, List.set_cons_zero, List.set_cons_succ, i64_w, i32_w]
             rfl
            refine one_ (i := 9) (N := some 38) #[true, true, true, true, true, true, true, true, true, true, false, true, true, true, true, false, false, false] rfl rfl (one_of HT_.out (by kernel_rfl)) (by decide) (fun K hK => ?_)
            refine Kd.R_lit_step k123 _ 123 ?hg (N := 38) ?hd (xs := ([(⟨a1, a2, 0, false⟩ : S123)] : List (S123))) (inner := [.int .i64 a1, .int .i64 a2, .int .i64 0, .bool false]) (ok := fun _ => True) (okp := fun _ => True) ?hr ?hp (fun _ hk => hk) trivial (Below.refl _ _) (Nat.le_refl _) (by simp) ?_; (case hd => rfl); (case hg => rfl); (case hr => exact tG); (case hp => exact (Reps.c4 (show Kd.M k123 _ _ _ (⟨a1, a2, 0, false⟩ : S123) [.int .i64 a1, .int .i64 a2, .int .i64 0, .bool false] from (k123_mkM _ _ _ (⟨a1, a2, 0, false⟩ : S123) )) (Reps.none _ _)))
            intro v149 w95 ho96 hb hg_ hnew_
            clear hg_ hnew_
            (first | rw [← Ny148.out] at ho96 | (simp only [Int.reduceToNat] at ho96; rw [← Ny148.out] at ho96))
            have n0_ := Aside0.mk (Kd.R_elder' (tR HO_137002) (Kd.R_base ho96) hb)
            have n1_ := Aside0.mk (Kd.R_elder' (tR HO147) (Kd.R_base ho96) hb)
            have n2_ := Aside0.mk (Kd.R_lower (Kd.R_new' (Kd.R_new' ho96 (Kd.R_lt (tR HO_137002))) (Kd.R_lt (tR HO147))) (below_size tB))
            have n3_ := Aside0.mk (blk_below (g := gb129) (o := .cells #[.int .i64 a0_0, .int .i64 a0_1, .slice A0_2 l0_2.length c0_2] 76 (0, 0)) (tK BK129) hb)
            have n4_ := Aside0.mk (blk_below (g := gb130) (o := .cells #[.int .i64 0, .int .i64 0, .slice none 0 0] 76 (0, 0)) (tK BK130) hb)
            have n5_ := Aside0.mk (blk_below (g := gb136) (o := .cells #[.int .i64 t131, .int .i64 t132, .slice Ao15 t133.length co15] 76 (0, 0)) (tK BK136) hb)
            have n6_ := Aside0.mk (below_step tB hb)
            clear HO_137002
            clear HO147
            clear BK129
            clear BK130
            clear BK136
            clear HB
            have HO_137002 := n0_
            have HO147 := n1_
            have HO150 := n2_
            have BK129 := n3_
            have BK130 := n4_
            have BK136 := n5_
            have HB := n6_
            clear n0_ n1_ n2_ n3_ n4_ n5_ n6_
            clear hb ho96
            refine hK.out _ _ ⟨(blk_cell BK129.out 0).trans rfl, (blk_cell BK129.out 1).trans rfl, (blk_cell BK129.out 2).trans rfl⟩ (fun hHeld => ?_)
            clear hK K
            refine norm_ (a' := ?_) ?_ ?_
            rotate_left
            ·show Act.put _ (some 38) _ = _
             simp only [Act.put, List.setIfInBounds_toArray, List.set_cons_zero, List.set_cons_succ, i64_w, i32_w]
             rfl
            exact norm_ (by simp only [putAll, Act.put, List.setIfInBounds_toArray, List.set_cons_zero, List.set_cons_succ]) (hCont (v139, v146, v149) _ ⟨hHeld, (by (with_reducible repeat (first | apply Kd.R_alloc | apply Kd.R_drewN | apply Kd.R_drew)); exact Kd.R_mono HO147.out (fun _ hk => ⟨hk.2, hk.1⟩)), (by (with_reducible repeat (first | apply Kd.R_alloc | apply Kd.R_drewN | apply Kd.R_drew)); exact Kd.R_mono HO150.out (fun _ hk => ⟨hk.2, hk.1.2⟩)), (by (with_reducible repeat (first | apply Kd.R_alloc | apply Kd.R_drewN | apply Kd.R_drew)); exact Kd.R_mono HO_137002.out (fun _ hk => ⟨hk.1.2, hk.2⟩)), (tK BK129), (tK BK130), (tK BK136), tB⟩)
           ·skip
            refine Kd.R_lit_step k123 _ 123 ?hg (N := 38) ?hd (xs := ([(⟨a1, a2, 0, false⟩ : S123)] : List (S123))) (inner := [.int .i64 a1, .int .i64 a2, .int .i64 0, .bool false]) (ok := fun _ => True) (okp := fun _ => True) ?hr ?hp (fun _ hk => hk) trivial (Below.refl _ _) (Nat.le_refl _) (by simp) ?_; (case hd => rfl); (case hg => rfl); (case hr => exact tG); (case hp => exact (Reps.c4 (show Kd.M k123 _ _ _ (⟨a1, a2, 0, false⟩ : S123) [.int .i64 a1, .int .i64 a2, .int .i64 0, .bool false] from (k123_mkM _ _ _ (⟨a1, a2, 0, false⟩ : S123) )) (Reps.none _ _)))
            intro v149 w94 ho95 hb hg_ hnew_
            clear hg_ hnew_
            (first | rw [← Ny148.out] at ho95 | (simp only [Int.reduceToNat] at ho95; rw [← Ny148.out] at ho95))
            have n0_ := Aside0.mk (Kd.R_elder' (tR HO_137002) (Kd.R_base ho95) hb)
            have n1_ := Aside0.mk (Kd.R_elder' (tR HO140) (Kd.R_base ho95) hb)
            have n2_ := Aside0.mk (Kd.R_lower (Kd.R_new' (Kd.R_new' ho95 (Kd.R_lt (tR HO_137002))) (Kd.R_lt (tR HO140))) (below_size tB))
            have n3_ := Aside0.mk (blk_below (g := gb129) (o := .cells #[.int .i64 a0_0, .int .i64 a0_1, .slice A0_2 l0_2.length c0_2] 76 (0, 0)) (tK BK129) hb)
            have n4_ := Aside0.mk (blk_below (g := gb130) (o := .cells #[.int .i64 0, .int .i64 0, .slice none 0 0] 76 (0, 0)) (tK BK130) hb)
            have n5_ := Aside0.mk (blk_below (g := gb136) (o := .cells #[.int .i64 t131, .int .i64 t132, .slice Ao15 t133.length co15] 76 (0, 0)) (tK BK136) hb)
            have n6_ := Aside0.mk (below_step tB hb)
            clear HO_137002
            clear HO140
            clear BK129
            clear BK130
            clear BK136
            clear HB
            have HO_137002 := n0_
            have HO140 := n1_
            have HO150 := n2_
            have BK129 := n3_
            have BK130 := n4_
            have BK136 := n5_
            have HB := n6_
            clear n0_ n1_ n2_ n3_ n4_ n5_ n6_
            clear hb ho95
            refine hK.out _ _ ⟨(blk_cell BK129.out 0).trans rfl, (blk_cell BK129.out 1).trans rfl, (blk_cell BK129.out 2).trans rfl⟩ (fun hHeld => ?_)
            clear hK K
            refine norm_ (a' := ?_) ?_ ?_
            rotate_left
            ·show Act.put _ (some 38) _ = _
             simp only [Act.put, List.setIfInBounds_toArray, List.set_cons_zero, List.set_cons_succ, i64_w, i32_w]
             rfl
            refine one_ (i := 5) (N := some 34) #[true, true, true, true, true, true, true, true, true, true, false, true, true, true, true, false, false, false] rfl rfl (one_of HT_.out (by kernel_rfl)) (by decide) (fun K hK => ?_)
            refine Kd.R_append_rows_step k123 (w0 := w) w.heap.size (by rfl) (.tmp 29) (.tmp 33) 74 123 (.agg #[(.int .i64 0), (.int .i64 0), (.int .i64 0), (.bool false)]) 32 rfl Try.underlying74 info123 rfl (by decide) (by omega) v139 y138 y141 _ _ _ (fun k_ => some k_ ≠ (.slice Ao15 t133.length co15 : Value).ownBlock ∧ some k_ ≠ (v149 : Value).ownBlock) (fun _ => False) rfl rfl ?aO ?aR (fun _ _ h => h) (fun _ h => h.elim) ?aF ?aB ?aS ?aL ?_
            (case aR => repeat (first | exact (Kd.C_below HR144.out HB.out) | (with_reducible refine Kd.C_alloc ?_ _) | (with_reducible refine Kd.C_drewN ?_ _) | (with_reducible refine Kd.C_drew ?_)))
            (case aB => exact tB)
            (case aF => exact (fun k_ hk => ⟨Kd.fresh' (Kd.R_lt (tR HO_137002)) k_ hk, Kd.fresh' (Kd.R_lt (tR HO150)) k_ hk⟩))
            (case aO => exact (by (with_reducible repeat (first | apply Kd.R_alloc | apply Kd.R_drewN | apply Kd.R_drew)); exact Kd.R_mono HO140.out (fun _ hk => ⟨hk.1.2, hk.2⟩)))
            (case aS => exact (below_size tB))
            (case aL => have := LMc30.out; omega)
            intro v146 w96 ho hb hg hat
            rw [← Ny145.out] at ho
            have n0_ := Aside0.mk (Kd.R_after (ok := (fun k_ => some k_ ≠ (v149 : Value).ownBlock)) (by (with_reducible repeat (first | apply Kd.R_alloc | apply Kd.R_drewN | apply Kd.R_drew)); exact Kd.R_mono HO_137002.out (fun _ hk => ⟨hk.2, hk.1.2⟩)) hg hat)
            have n1_ := Aside0.mk (blk_grown (g := gb129) (o := .cells #[.int .i64 a0_0, .int .i64 a0_1, .slice A0_2 l0_2.length c0_2] 76 (0, 0)) (tK BK129) hg (Kd.R_ne HO140.out BK129.out (by decide)))
            have n2_ := Aside0.mk (blk_grown (g := gb130) (o := .cells #[.int .i64 0, .int .i64 0, .slice none 0 0] 76 (0, 0)) (tK BK130) hg (Kd.R_ne HO140.out BK130.out (by decide)))
            have n3_ := Aside0.mk (blk_grown (g := gb136) (o := .cells #[.int .i64 t131, .int .i64 t132, .slice Ao15 t133.length co15] 76 (0, 0)) (tK BK136) hg (Kd.R_ne HO140.out BK136.out (by decide)))
            have n4_ := Aside0.mk (Kd.R_after (ok := (fun k_ => some k_ ≠ (.slice Ao15 t133.length co15 : Value).ownBlock)) (by (with_reducible repeat (first | apply Kd.R_alloc | apply Kd.R_drewN | apply Kd.R_drew)); exact Kd.R_mono HO150.out (fun _ hk => ⟨hk.1.2, hk.2⟩)) hg hat)
            have n5_ := Aside0.mk (hb)
            have n6_ := Aside0.mk (ho)
            clear HO_137002
            clear BK129
            clear BK130
            clear BK136
            clear HO150
            clear HB
            clear HO140
            have HO_137002 := n0_
            have BK129 := n1_
            have BK130 := n2_
            have BK136 := n3_
            have HO150 := n4_
            have HB := n5_
            have HO147 := n6_
            clear n0_ n1_ n2_ n3_ n4_ n5_ n6_
            clear ho hb hg hat
            refine hK.out _ _ ⟨(blk_cell BK129.out 0).trans rfl, (blk_cell BK129.out 1).trans rfl, (blk_cell BK129.out 2).trans rfl⟩ (fun hHeld => ?_)
            clear hK K
            refine norm_ (a' := ?_) ?_ ?_
            rotate_left
            ·show Act.put _ (some 34) _ = _
             simp only [Act.put, List.setIfInBounds_toArray, List.set_cons_zero, List.set_cons_succ, i64_w, i32_w]
             rfl
            exact norm_ (by simp only [putAll, Act.put, List.setIfInBounds_toArray, List.set_cons_zero, List.set_cons_succ]) (hCont (v139, v146, v149) _ ⟨hHeld, (by (with_reducible repeat (first | apply Kd.R_alloc | apply Kd.R_drewN | apply Kd.R_drew)); exact Kd.R_mono HO147.out (fun _ hk => ⟨hk.2, hk.1⟩)), (by (with_reducible repeat (first | apply Kd.R_alloc | apply Kd.R_drewN | apply Kd.R_drew)); exact Kd.R_mono HO150.out (fun _ hk => ⟨hk.2, hk.1⟩)), (by (with_reducible repeat (first | apply Kd.R_alloc | apply Kd.R_drewN | apply Kd.R_drew)); exact Kd.R_mono HO_137002.out (fun _ hk => ⟨hk.2, hk.1⟩)), (tK BK129), (tK BK130), (tK BK136), tB⟩)
          ·skip
           refine Kd.R_lit_step k123 _ 123 ?hg (N := 38) ?hd (xs := ([(⟨a1, a2, 0, false⟩ : S123)] : List (S123))) (inner := [.int .i64 a1, .int .i64 a2, .int .i64 0, .bool false]) (ok := fun _ => True) (okp := fun _ => True) ?hr ?hp (fun _ hk => hk) trivial (Below.refl _ _) (Nat.le_refl _) (by simp) ?_; (case hd => rfl); (case hg => rfl); (case hr => exact tG); (case hp => exact (Reps.c4 (show Kd.M k123 _ _ _ (⟨a1, a2, 0, false⟩ : S123) [.int .i64 a1, .int .i64 a2, .int .i64 0, .bool false] from (k123_mkM _ _ _ (⟨a1, a2, 0, false⟩ : S123) )) (Reps.none _ _)))
           intro v149 w92 ho93 hb hg_ hnew_
           clear hg_ hnew_
           (first | rw [← Ny148.out] at ho93 | (simp only [Int.reduceToNat] at ho93; rw [← Ny148.out] at ho93))
           have n0_ := Aside0.mk (Kd.R_elder' (tR HO_137002) (Kd.R_base ho93) hb)
           have n1_ := Aside0.mk (Kd.R_lower (Kd.R_new' ho93 (Kd.R_lt (tR HO_137002))) (below_size tB))
           have n2_ := Aside0.mk (blk_below (g := gb129) (o := .cells #[.int .i64 a0_0, .int .i64 a0_1, .slice A0_2 l0_2.length c0_2] 76 (0, 0)) (tK BK129) hb)
           have n3_ := Aside0.mk (blk_below (g := gb130) (o := .cells #[.int .i64 0, .int .i64 0, .slice none 0 0] 76 (0, 0)) (tK BK130) hb)
           have n4_ := Aside0.mk (blk_below (g := gb136) (o := .cells #[.int .i64 t131, .int .i64 t132, .slice Ao15 t133.length co15] 76 (0, 0)) (tK BK136) hb)
           have n5_ := Aside0.mk (below_step tB hb)
           clear HO_137002
           clear BK129
           clear BK130
           clear BK136
           clear HB
           have HO_137002 := n0_
           have HO150 := n1_
           have BK129 := n2_
           have BK130 := n3_
           have BK136 := n4_
           have HB := n5_
           clear n0_ n1_ n2_ n3_ n4_ n5_
           clear hb ho93
           refine hK.out _ _ ⟨(blk_cell BK129.out 0).trans rfl, (blk_cell BK129.out 1).trans rfl, (blk_cell BK129.out 2).trans rfl⟩ (fun hHeld => ?_)
           clear hK K
           refine norm_ (a' := ?_) ?_ ?_
           rotate_left
           ·show Act.put _ (some 38) _ = _
            simp only [Act.put, List.setIfInBounds_toArray, List.set_cons_zero, List.set_cons_succ, i64_w, i32_w]
            rfl
           refine one_ (i := 0) (N := some 29) #[true, true, true, true, true, false, true, true, true, true, false, true, true, true, true, false, false, false] rfl rfl (one_of HT_.out (by kernel_rfl)) (by decide) (fun K hK => ?_)
           refine Kd.R_lit_step k123 _ 123 ?hg (N := 29) ?hd (xs := ([] : List (S123))) (inner := []) (ok := fun _ => True) (okp := fun _ => True) ?hr ?hp (fun _ hk => hk) trivial (Below.refl _ _) (Nat.le_refl _) (by simp) ?_; (case hd => rfl); (case hg => rfl); (case hr => exact tG); (case hp => exact (Reps.none _ _))
           intro v139 w94 ho95 hb hg_ hnew_
           clear hg_ hnew_
           (first | rw [← Ny138.out] at ho95 | (simp only [Int.reduceToNat] at ho95; rw [← Ny138.out] at ho95))
           have n0_ := Aside0.mk (Kd.R_elder' (tR HO_137002) (Kd.R_base ho95) hb)
           have n1_ := Aside0.mk (Kd.R_elder' (tR HO150) (Kd.R_base ho95) hb)
           have n2_ := Aside0.mk (Kd.R_lower (Kd.R_new' (Kd.R_new' ho95 (Kd.R_lt (tR HO_137002))) (Kd.R_lt (tR HO150))) (below_size tB))
           have n3_ := Aside0.mk (blk_below (g := gb129) (o := .cells #[.int .i64 a0_0, .int .i64 a0_1, .slice A0_2 l0_2.length c0_2] 76 (0, 0)) (tK BK129) hb)
           have n4_ := Aside0.mk (blk_below (g := gb130) (o := .cells #[.int .i64 0, .int .i64 0, .slice none 0 0] 76 (0, 0)) (tK BK130) hb)
           have n5_ := Aside0.mk (blk_below (g := gb136) (o := .cells #[.int .i64 t131, .int .i64 t132, .slice Ao15 t133.length co15] 76 (0, 0)) (tK BK136) hb)
           have n6_ := Aside0.mk (below_step tB hb)
           clear HO_137002
           clear HO150
           clear BK129
           clear BK130
           clear BK136
           clear HB
           have HO_137002 := n0_
           have HO150 := n1_
           have HO140 := n2_
           have BK129 := n3_
           have BK130 := n4_
           have BK136 := n5_
           have HB := n6_
           clear n0_ n1_ n2_ n3_ n4_ n5_ n6_
           clear hb ho95
           refine hK.out _ _ ⟨(blk_cell BK129.out 0).trans rfl, (blk_cell BK129.out 1).trans rfl, (blk_cell BK129.out 2).trans rfl⟩ (fun hHeld => ?_)
           clear hK K
           refine norm_ (a' := ?_) ?_ ?_
           rotate_left
           ·show Act.put _ (some 29) _ = _
            simp only [Act.put, List.setIfInBounds_toArray, List.set_cons_zero, List.set_cons_succ, i64_w, i32_w]
            rfl
           refine one_ (i := 5) (N := some 34) #[true, true, true, true, true, true, true, true, true, true, false, true, true, true, true, false, false, false] rfl rfl (one_of HT_.out (by kernel_rfl)) (by decide) (fun K hK => ?_)
           refine Kd.R_append_rows_step k123 (w0 := w) w.heap.size (by rfl) (.tmp 29) (.tmp 33) 74 123 (.agg #[(.int .i64 0), (.int .i64 0), (.int .i64 0), (.bool false)]) 32 rfl Try.underlying74 info123 rfl (by decide) (by omega) v139 y138 y141 _ _ _ (fun k_ => some k_ ≠ (.slice Ao15 t133.length co15 : Value).ownBlock ∧ some k_ ≠ (v149 : Value).ownBlock) (fun _ => False) rfl rfl ?aO ?aR (fun _ _ h => h) (fun _ h => h.elim) ?aF ?aB ?aS ?aL ?_
           (case aR => repeat (first | exact (Kd.C_below HR144.out HB.out) | (with_reducible refine Kd.C_alloc ?_ _) | (with_reducible refine Kd.C_drewN ?_ _) | (with_reducible refine Kd.C_drew ?_)))
           (case aB => exact tB)
           (case aF => exact (fun k_ hk => ⟨Kd.fresh' (Kd.R_lt (tR HO_137002)) k_ hk, Kd.fresh' (Kd.R_lt (tR HO150)) k_ hk⟩))
           (case aO => exact (by (with_reducible repeat (first | apply Kd.R_alloc | apply Kd.R_drewN | apply Kd.R_drew)); exact Kd.R_mono HO140.out (fun _ hk => ⟨hk.1.2, hk.2⟩)))
           (case aS => exact (below_size tB))
           (case aL => have := LMc30.out; omega)
           intro v146 w96 ho hb hg hat
           rw [← Ny145.out] at ho
           have n0_ := Aside0.mk (Kd.R_after (ok := (fun k_ => some k_ ≠ (v149 : Value).ownBlock)) (by (with_reducible repeat (first | apply Kd.R_alloc | apply Kd.R_drewN | apply Kd.R_drew)); exact Kd.R_mono HO_137002.out (fun _ hk => ⟨hk.1.2, hk.2⟩)) hg hat)
           have n1_ := Aside0.mk (blk_grown (g := gb129) (o := .cells #[.int .i64 a0_0, .int .i64 a0_1, .slice A0_2 l0_2.length c0_2] 76 (0, 0)) (tK BK129) hg (Kd.R_ne HO140.out BK129.out (by decide)))
           have n2_ := Aside0.mk (blk_grown (g := gb130) (o := .cells #[.int .i64 0, .int .i64 0, .slice none 0 0] 76 (0, 0)) (tK BK130) hg (Kd.R_ne HO140.out BK130.out (by decide)))
           have n3_ := Aside0.mk (blk_grown (g := gb136) (o := .cells #[.int .i64 t131, .int .i64 t132, .slice Ao15 t133.length co15] 76 (0, 0)) (tK BK136) hg (Kd.R_ne HO140.out BK136.out (by decide)))
           have n4_ := Aside0.mk (Kd.R_after (ok := (fun k_ => some k_ ≠ (.slice Ao15 t133.length co15 : Value).ownBlock)) (by (with_reducible repeat (first | apply Kd.R_alloc | apply Kd.R_drewN | apply Kd.R_drew)); exact Kd.R_mono HO150.out (fun _ hk => ⟨hk.1.2, hk.2⟩)) hg hat)
           have n5_ := Aside0.mk (hb)
           have n6_ := Aside0.mk (ho)
           clear HO_137002
           clear BK129
           clear BK130
           clear BK136
           clear HO150
           clear HB
           clear HO140
           have HO_137002 := n0_
           have BK129 := n1_
           have BK130 := n2_
           have BK136 := n3_
           have HO150 := n4_
           have HB := n5_
           have HO147 := n6_
           clear n0_ n1_ n2_ n3_ n4_ n5_ n6_
           clear ho hb hg hat
           refine hK.out _ _ ⟨(blk_cell BK129.out 0).trans rfl, (blk_cell BK129.out 1).trans rfl, (blk_cell BK129.out 2).trans rfl⟩ (fun hHeld => ?_)
           clear hK K
           refine norm_ (a' := ?_) ?_ ?_
           rotate_left
           ·show Act.put _ (some 34) _ = _
            simp only [Act.put, List.setIfInBounds_toArray, List.set_cons_zero, List.set_cons_succ, i64_w, i32_w]
            rfl
           exact norm_ (by simp only [putAll, Act.put, List.setIfInBounds_toArray, List.set_cons_zero, List.set_cons_succ]) (hCont (v139, v146, v149) _ ⟨hHeld, (by (with_reducible repeat (first | apply Kd.R_alloc | apply Kd.R_drewN | apply Kd.R_drew)); exact Kd.R_mono HO147.out (fun _ hk => ⟨hk.2, hk.1⟩)), (by (with_reducible repeat (first | apply Kd.R_alloc | apply Kd.R_drewN | apply Kd.R_drew)); exact Kd.R_mono HO150.out (fun _ hk => ⟨hk.2, hk.1⟩)), (by (with_reducible repeat (first | apply Kd.R_alloc | apply Kd.R_drewN | apply Kd.R_drew)); exact Kd.R_mono HO_137002.out (fun _ hk => ⟨hk.2, hk.1⟩)), (tK BK129), (tK BK130), (tK BK136), tB⟩)
         rintro ⟨v139, v146, v149⟩ w97 ⟨hS_, h0_, h1_, h2_, h3_, h4_, h5_, h6_⟩
         have n0_ : Aside0 (Kd.R k123 123 w97 w.heap.size (fun k_ => some k_ ≠ (v149 : Value).ownBlock ∧ some k_ ≠ (.slice Ao15 t133.length co15 : Value).ownBlock) v146 y145) := ⟨h0_⟩
         have n1_ : Aside0 (Kd.R k123 123 w97 w.heap.size (fun k_ => some k_ ≠ (v146 : Value).ownBlock ∧ some k_ ≠ (.slice Ao15 t133.length co15 : Value).ownBlock) v149 y148) := ⟨h1_⟩
         have n2_ : Aside0 (Kd.R k123 123 w97 w.heap.size (fun k_ => some k_ ≠ (v146 : Value).ownBlock ∧ some k_ ≠ (v149 : Value).ownBlock) (.slice Ao15 t133.length co15) t133) := ⟨h2_⟩
         have n3_ : Aside0 (w97.heap[gb129]? = some (.cells #[.int .i64 a0_0, .int .i64 a0_1, .slice A0_2 l0_2.length c0_2] 76 (0, 0))) := ⟨h3_⟩
         have n4_ : Aside0 (w97.heap[gb130]? = some (.cells #[.int .i64 0, .int .i64 0, .slice none 0 0] 76 (0, 0))) := ⟨h4_⟩
         have n5_ : Aside0 (w97.heap[gb136]? = some (.cells #[.int .i64 t131, .int .i64 t132, .slice Ao15 t133.length co15] 76 (0, 0))) := ⟨h5_⟩
         have n6_ : Aside0 (Below w.heap.size w w97) := ⟨h6_⟩
         clear HO_137002
         clear BK129
         clear BK130
         clear BK136
         clear HB
         clear h0_ h1_ h2_ h3_ h4_ h5_ h6_
         have HO147 := n0_
         have HO150 := n1_
         have HO_137002 := n2_
         have BK129 := n3_
         have BK130 := n4_
         have BK136 := n5_
         have HB := n6_
         clear n0_ n1_ n2_ n3_ n4_ n5_ n6_
         have hHeld : w97.cell? ⟨gb129, 0, none⟩ = some (.int .i64 a0_0) ∧ w97.cell? ⟨gb129, 1, none⟩ = some (.int .i64 a0_1) ∧ w97.cell? ⟨gb129, 2, none⟩ = some (.slice A0_2 l0_2.length c0_2) := hS_
         obtain ⟨Ao99, co99, eo99⟩ := Kd.R_slice HO150.out
         (first | subst eo99 | (injection eo99 with f1_ f2_ f3_; have f4_ := f1_.symm; have f5_ := f3_.symm; clear f1_ f2_ f3_; subst f4_; subst f5_))
         refine norm_ (a' := ?_) ?_ ?_
         rotate_left
         ·simp only [putAll, Act.put, List.setIfInBounds_toArray, List.set_cons_zero, List.set_cons_succ]
          rfl
         refine one_ (i := 10) (N := some 39) #[true, true, true, true, true, true, true, true, true, true, true, true, true, true, true, false, false, false] rfl rfl (one_of HT_.out (by kernel_rfl)) (by decide) (fun K hK => ?_)
         refine Kd.R_append_rows_step k123 (w0 := w) w.heap.size (by rfl) (.tmp 34) (.tmp 38) 74 123 (.agg #[(.int .i64 0), (.int .i64 0), (.int .i64 0), (.bool false)]) 32 rfl Try.underlying74 info123 rfl (by decide) (by omega) v146 y145 y148 _ _ _ (fun k_ => some k_ ≠ (.slice Ao15 t133.length co15 : Value).ownBlock ∧ some k_ ≠ (.slice Ao99 y148.length co99 : Value).ownBlock) (fun _ => False) rfl rfl ?aO ?aR (fun _ _ h => h) (fun _ h => h.elim) ?aF ?aB ?aS ?aL ?_
         (case aR => repeat (first | exact (Kd.R_reads' HO150.out).2.2 | (with_reducible refine Kd.C_alloc ?_ _) | (with_reducible refine Kd.C_drewN ?_ _) | (with_reducible refine Kd.C_drew ?_)))
         (case aB => exact tB)
         (case aF => exact (fun k_ hk => ⟨Kd.fresh' (Kd.R_lt (tR HO_137002)) k_ hk, Kd.fresh' (Kd.R_lt (tR HO150)) k_ hk⟩))
         (case aO => exact (by (with_reducible repeat (first | apply Kd.R_alloc | apply Kd.R_drewN | apply Kd.R_drew)); exact Kd.R_mono HO147.out (fun _ hk => ⟨hk.2, hk.1⟩)))
         (case aS => exact (below_size tB))
         (case aL => have := LMc31.out; omega)
         intro v152 w98 ho hb hg hat
         rw [← Ny151.out] at ho
         have n0_ := Aside0.mk (Kd.R_after (ok := (fun k_ => some k_ ≠ (.slice Ao99 y148.length co99 : Value).ownBlock)) (by (with_reducible repeat (first | apply Kd.R_alloc | apply Kd.R_drewN | apply Kd.R_drew)); exact Kd.R_mono HO_137002.out (fun _ hk => ⟨hk.2, hk.1⟩)) hg hat)
         have n1_ := Aside0.mk (blk_grown (g := gb129) (o := .cells #[.int .i64 a0_0, .int .i64 a0_1, .slice A0_2 l0_2.length c0_2] 76 (0, 0)) (tK BK129) hg (Kd.R_ne HO147.out BK129.out (by decide)))
         have n2_ := Aside0.mk (blk_grown (g := gb130) (o := .cells #[.int .i64 0, .int .i64 0, .slice none 0 0] 76 (0, 0)) (tK BK130) hg (Kd.R_ne HO147.out BK130.out (by decide)))
         have n3_ := Aside0.mk (blk_grown (g := gb136) (o := .cells #[.int .i64 t131, .int .i64 t132, .slice Ao15 t133.length co15] 76 (0, 0)) (tK BK136) hg (Kd.R_ne HO147.out BK136.out (by decide)))
         have n4_ := Aside0.mk (Kd.R_after (ok := (fun k_ => some k_ ≠ (.slice Ao15 t133.length co15 : Value).ownBlock)) (by (with_reducible repeat (first | apply Kd.R_alloc | apply Kd.R_drewN | apply Kd.R_drew)); exact Kd.R_mono HO150.out (fun _ hk => ⟨hk.2, hk.1⟩)) hg hat)
         have n5_ := Aside0.mk (hb)
         have n6_ := Aside0.mk (ho)
         clear HO_137002
         clear BK129
         clear BK130
         clear BK136
         clear HO150
         clear HB
         clear HO147
         have HO_137002 := n0_
         have BK129 := n1_
         have BK130 := n2_
         have BK136 := n3_
         have HO150 := n4_
         have HB := n5_
         have HO153 := n6_
         clear n0_ n1_ n2_ n3_ n4_ n5_ n6_
         clear ho hb hg hat
         refine hK.out _ _ ⟨(blk_cell BK129.out 0).trans rfl, (blk_cell BK129.out 1).trans rfl, (blk_cell BK129.out 2).trans rfl⟩ (fun hHeld => ?_)
         clear hK K
         refine norm_ (a' := ?_) ?_ ?_
         rotate_left
         ·show Act.put _ (some 39) _ = _
          simp only [Act.put, List.setIfInBounds_toArray, List.set_cons_zero, List.set_cons_succ, i64_w, i32_w]
          rfl
         refine one_ (i := 15) (N := some 44) #[true, true, true, true, true, true, true, true, true, true, true, true, true, true, true, true, false, false] rfl rfl (one_of HT_.out (by kernel_rfl)) (by decide) (fun K hK => ?_)
         refine Kd.R_append_rows_step k123 (w0 := w) w.heap.size (by rfl) (.tmp 39) (.tmp 43) 74 123 (.agg #[(.int .i64 0), (.int .i64 0), (.int .i64 0), (.bool false)]) 32 rfl Try.underlying74 info123 rfl (by decide) (by omega) v152 y151 y154 _ _ _ (fun k_ => some k_ ≠ (.slice Ao15 t133.length co15 : Value).ownBlock ∧ some k_ ≠ (.slice Ao99 y148.length co99 : Value).ownBlock) (fun _ => False) rfl rfl ?aO ?aR (fun _ _ h => h) (fun _ h => h.elim) ?aF ?aB ?aS ?aL ?_
         (case aR => repeat (first | exact (Kd.C_below HR157.out HB.out) | (with_reducible refine Kd.C_alloc ?_ _) | (with_reducible refine Kd.C_drewN ?_ _) | (with_reducible refine Kd.C_drew ?_)))
         (case aB => exact tB)
         (case aF => exact (fun k_ hk => ⟨Kd.fresh' (Kd.R_lt (tR HO_137002)) k_ hk, Kd.fresh' (Kd.R_lt (tR HO150)) k_ hk⟩))
         (case aO => exact (tR HO153))
         (case aS => exact (below_size tB))
         (case aL => have := LMc34.out; omega)
         intro v159 w100 ho hb hg hat
         rw [← Ny158.out] at ho
         have n0_ := Aside0.mk (Kd.R_after (ok := (fun k_ => some k_ ≠ (.slice Ao99 y148.length co99 : Value).ownBlock)) (tR HO_137002) hg hat)
         have n1_ := Aside0.mk (blk_grown (g := gb129) (o := .cells #[.int .i64 a0_0, .int .i64 a0_1, .slice A0_2 l0_2.length c0_2] 76 (0, 0)) (tK BK129) hg (Kd.R_ne HO153.out BK129.out (by decide)))
         have n2_ := Aside0.mk (blk_grown (g := gb130) (o := .cells #[.int .i64 0, .int .i64 0, .slice none 0 0] 76 (0, 0)) (tK BK130) hg (Kd.R_ne HO153.out BK130.out (by decide)))
         have n3_ := Aside0.mk (blk_grown (g := gb136) (o := .cells #[.int .i64 t131, .int .i64 t132, .slice Ao15 t133.length co15] 76 (0, 0)) (tK BK136) hg (Kd.R_ne HO153.out BK136.out (by decide)))
         have n4_ := Aside0.mk (Kd.R_after (ok := (fun k_ => some k_ ≠ (.slice Ao15 t133.length co15 : Value).ownBlock)) (tR HO150) hg hat)
         have n5_ := Aside0.mk (hb)
         have n6_ := Aside0.mk (ho)
         clear HO_137002
         clear BK129
         clear BK130
         clear BK136
         clear HO150
         clear HB
         clear HO153
         have HO_137002 := n0_
         have BK129 := n1_
         have BK130 := n2_
         have BK136 := n3_
         have HO150 := n4_
         have HB := n5_
         have HO160 := n6_
         clear n0_ n1_ n2_ n3_ n4_ n5_ n6_
         clear ho hb hg hat
         obtain ⟨Ao101, co101, eo101⟩ := Kd.R_slice HO160.out
         (first | subst eo101 | (injection eo101 with f1_ f2_ f3_; have f4_ := f1_.symm; have f5_ := f3_.symm; clear f1_ f2_ f3_; subst f4_; subst f5_))
         refine hK.out _ _ ⟨(blk_cell BK129.out 0).trans rfl, (blk_cell BK129.out 1).trans rfl, (blk_cell BK129.out 2).trans rfl⟩ (fun hHeld => ?_)
         clear hK K
         refine norm_ (a' := ?_) ?_ ?_
         rotate_left
         ·show Act.put _ (some 44) _ = _
          simp only [Act.put, List.setIfInBounds_toArray, List.set_cons_zero, List.set_cons_succ, i64_w, i32_w]
          rfl
         refine pure_ (i := 16) (N := some 45) (v := ?_) (a' := ?_) #[true, true, true, true, true, true, true, true, true, true, true, true, true, true, true, true, true, false] rfl rfl (any_of HT_.out (by kernel_rfl)) (fun _ _ _ h => h) (Or.inl ⟨by rfl, ?_⟩) ?_ ?_
         rotate_left
         ·intro w'
          go_simp
          with_reducible rfl
         rotate_left
         ·simp only [Act.put, List.setIfInBounds_toArray, List.set_cons_zero, List.set_cons_succ, i64_w, i32_w]
          rfl
         refine one_ (i := 17) (N := none) #[true, true, true, true, true, true, true, true, true, true, true, true, true, true, true, true, true, true] rfl rfl (one_of HT_.out (by kernel_rfl)) (by decide) (fun K hK => ?_)
         have hs102 : w100.cell? ⟨gb136, 2, none⟩ = some (.slice Ao15 t133.length co15) := (blk_cell BK136.out 2).trans rfl
         have hfs102 := blk_frozen BK136.out 2
         have hns102_0 := NB129_136.out
         have hns102_1 := NB130_136.out
         have hms102_0 := NB136_129.out
         have hms102_1 := NB136_130.out
         refine skip_ (w1 := ?_) (by rfl) rfl ?_ ?_
         rotate_left
         ·go_simp
          rfl
         refine hK.out _ _ ⟨((cell_far (p := ⟨gb136, _, none⟩) NB129_136.out _).trans (hHeld.1)), ((cell_far (p := ⟨gb136, _, none⟩) NB129_136.out _).trans (hHeld.2.1)), ((cell_far (p := ⟨gb136, _, none⟩) NB129_136.out _).trans (hHeld.2.2))⟩ (fun hHeld => ?_)
         clear hK K
         refine done_ (done_of HT_.out (by kernel_rfl)) ?_
         have hnb103 := NB129_130.out
         have hnc103 := NB130_129.out
         have hnb104 := NB129_136.out
         have hnc104 := NB136_129.out
         obtain ⟨hcz105_0, hcz105_1, hcz105_2, hfz105_0, hfz105_1, hfz105_2⟩ := bc3 BK129.out
         try go_wp2_with (first | ((with_reducible refine gate_callee (f := 103) rfl ?_); refine goesL_ (some 47) rfl rfl Try.func103 (by kernel_rfl) rfl #[.agg #[.int .i64 a0_0, .int .i64 a0_1, .slice A0_2 l0_2.length c0_2]] rfl tL ?_; (with_reducible refine (spec_IsValidAccount.calls kj4 a0_0 a0_1 _ _ l0_2 false _ ?side1 ?side2 A35.out).mono ?_); (case side1 => exact Kd.C_below HR0_2.out tB); (case side2 => exact HC0_2.out); rintro e w106 ⟨rfl, hb⟩; refine ⟨_, rfl, ?_⟩; have n0_ := Aside0.mk (Kd.R_below (by (with_reducible repeat (first | apply Kd.R_alloc | apply Kd.R_drewN | apply Kd.R_drew)); exact (Kd.R_mono (Kd.R_far (p := ⟨gb136, 2, none⟩) (Kd.R_types HO_137002.out BK136.out (by decide)) (fun _ hk => hk.2) (.slice Ao101 y158.length co101)) (fun _ h_ => h_.1))) hb); have n1_ := Aside0.mk (Kd.R_below (by (with_reducible repeat (first | apply Kd.R_alloc | apply Kd.R_drewN | apply Kd.R_drew)); exact (Kd.R_mono (Kd.R_far (p := ⟨gb136, 2, none⟩) (Kd.R_types HO150.out BK136.out (by decide)) (fun _ hk => hk.2) (.slice Ao101 y158.length co101)) (fun _ h_ => h_.1))) hb); have n2_ := Aside0.mk (Kd.R_below (by (with_reducible repeat (first | apply Kd.R_alloc | apply Kd.R_drewN | apply Kd.R_drew)); exact (Kd.R_mono (Kd.R_far (p := ⟨gb136, 2, none⟩) (Kd.R_types HO160.out BK136.out (by decide)) (fun _ hk => hk.2) (.slice Ao101 y158.length co101)) (fun _ h_ => h_.1))) hb); have n3_ := Aside0.mk (blk_below (g := gb129) (o := .cells #[.int .i64 a0_0, .int .i64 a0_1, .slice A0_2 l0_2.length c0_2] 76 (0, 0)) (by (with_reducible repeat (first | refine blk_drewN ?_ _ | refine blk_drew ?_ | refine blk_alloc ?_ _)); refine blk_far ?_ NB129_136.out _; (with_reducible repeat (first | refine blk_drewN ?_ _ | refine blk_drew ?_ | refine blk_alloc ?_ _)); exact BK129.out) hb); have n4_ := Aside0.mk (blk_below (g := gb130) (o := .cells #[.int .i64 0, .int .i64 0, .slice none 0 0] 76 (0, 0)) (by (with_reducible repeat (first | refine blk_drewN ?_ _ | refine blk_drew ?_ | refine blk_alloc ?_ _)); refine blk_far ?_ NB130_136.out _; (with_reducible repeat (first | refine blk_drewN ?_ _ | refine blk_drew ?_ | refine blk_alloc ?_ _)); exact BK130.out) hb); have n5_ := Aside0.mk (blk_below (g := gb136) (o := .cells #[.int .i64 t131, .int .i64 t132, .slice Ao101 y158.length co101] 76 (0, 0)) (by (with_reducible repeat (first | refine blk_drewN ?_ _ | refine blk_drew ?_ | refine blk_alloc ?_ _)); refine blk_put (cs := #[.int .i64 t131, .int .i64 t132, .slice Ao15 t133.length co15]) ?_ 2 _ rfl; (with_reducible repeat (first | refine blk_drewN ?_ _ | refine blk_drew ?_ | refine blk_alloc ?_ _)); exact BK136.out) hb); have n6_ := Aside0.mk (below_step tB hb); clear HO_137002; clear HO150; clear HO160; clear BK129; clear BK130; clear BK136; clear HB; have HO_137002 := n0_; have HO150 := n1_; have HO160 := n2_; have BK129 := n3_; have BK130 := n4_; have BK136 := n5_; have HB := n6_; clear n0_ n1_ n2_ n3_ n4_ n5_ n6_; (try clear hb); (try clear hb2); (try clear hk); (try clear hi); obtain ⟨hcz107_0, hcz107_1, hcz107_2, hfz107_0, hfz107_1, hfz107_2⟩ := bc3 BK129.out) | ((with_reducible refine gate_callee (f := 101) rfl ?_); refine goesL_ (some 55) rfl rfl Try.func101 (by kernel_rfl) rfl #[.agg #[.int .i64 a0_0, .int .i64 a0_1, .slice A0_2 l0_2.length c0_2]] rfl tL ?_; (with_reducible refine (spec_l14Copy.calls a0_0 a0_1 _ _ l0_2 t168 t169 t170 _ ?side1 ?side2 A88.out).mono ?_); (case side1 => repeat (first | exact (Kd.C_below HR0_2.out HB.out) | (with_reducible refine Kd.C_alloc ?_ _) | (with_reducible refine Kd.C_drewN ?_ _) | (with_reducible refine Kd.C_drew ?_))); (case side2 => exact HC0_2.out); rintro e w108 ⟨v171, rfl, ho0, hb⟩; refine ⟨_, rfl, ?_⟩; have n0_ := Aside0.mk (Kd.R_elder' (tR HO_137002) (Kd.R_base ho0) hb); have n1_ := Aside0.mk (Kd.R_elder' (tR HO150) (Kd.R_base ho0) hb); have n2_ := Aside0.mk (Kd.R_elder' (tR HO160) (Kd.R_base ho0) hb); have n3_ := Aside0.mk (Kd.R_lower (Kd.R_new' (Kd.R_new' (Kd.R_new' ho0 (Kd.R_lt (tR HO_137002))) (Kd.R_lt (tR HO150))) (Kd.R_lt (tR HO160))) (below_size tB)); have n4_ := Aside0.mk (blk_below (g := gb129) (o := .cells #[.int .i64 a0_0, .int .i64 a0_1, .slice A0_2 l0_2.length c0_2] 76 (0, 0)) (tK BK129) hb); have n5_ := Aside0.mk (blk_below (g := gb130) (o := .cells #[.int .i64 0, .int .i64 0, .slice none 0 0] 76 (0, 0)) (tK BK130) hb); have n6_ := Aside0.mk (blk_below (g := gb136) (o := .cells #[.int .i64 t131, .int .i64 t132, .slice Ao101 y158.length co101] 76 (0, 0)) (tK BK136) hb); have n7_ := Aside0.mk (below_step tB hb); clear HO_137002; clear HO150; clear HO160; clear BK129; clear BK130; clear BK136; clear HB; have HO_137002 := n0_; have HO150 := n1_; have HO160 := n2_; have HO172 := n3_; have BK129 := n4_; have BK130 := n5_; have BK136 := n6_; have HB := n7_; clear n0_ n1_ n2_ n3_ n4_ n5_ n6_ n7_; (try clear hb); (try clear hb2); (try clear hk); (try clear hi); (try clear ho0); have hnb109 := NB130_136.out; have hnc109 := NB136_130.out; obtain ⟨hcz110_0, hcz110_1, hcz110_2, hfz110_0, hfz110_1, hfz110_2⟩ := bc3 BK130.out; obtain ⟨Ao111, co111, eo111⟩ := Kd.R_slice HO172.out; subst eo111))
         refine bodyPost_ret (results_ct rfl _ _ gb130 76 #[.int .i64 t168, .int .i64 t169, .slice Ao111 t170.length co111] (0, 0) _ rfl (by (with_reducible repeat (first | refine blk_drewN ?_ _ | refine blk_drew ?_ | refine blk_alloc ?_ _)); refine blk_put (cs := #[.int .i64 t168, .int .i64 t169, .slice none 0 0]) ?_ 2 _ rfl; (with_reducible repeat (first | refine blk_drewN ?_ _ | refine blk_drew ?_ | refine blk_alloc ?_ _)); refine blk_put (cs := #[.int .i64 t168, .int .i64 0, .slice none 0 0]) ?_ 1 _ rfl; (with_reducible repeat (first | refine blk_drewN ?_ _ | refine blk_drew ?_ | refine blk_alloc ?_ _)); refine blk_put (cs := #[.int .i64 0, .int .i64 0, .slice none 0 0]) ?_ 0 _ rfl; (with_reducible repeat (first | refine blk_drewN ?_ _ | refine blk_drew ?_ | refine blk_alloc ?_ _)); exact BK130.out) Try.underlying76 rfl (by kernel_rfl)) rfl ?_
         exact ⟨_, tE, by (with_reducible repeat (first | apply Kd.R_alloc | apply Kd.R_drewN | apply Kd.R_drew)); exact Kd.R_mono (Kd.R_far (p := ⟨gb130, 2, none⟩) (Kd.R_far (p := ⟨gb130, 1, none⟩) (Kd.R_far (p := ⟨gb130, 0, none⟩) (Kd.R_types HO172.out BK130.out (by decide)) (fun _ hk => hk.2) (.int .i64 t168)) (fun _ hk => hk.2) (.int .i64 t169)) (fun _ hk => hk.2) (.slice Ao111 t170.length co111)) (fun _ hk => trivial), tB⟩
       ·rw [if_neg c34] at H
        exact absurd H (by simp)
      ·rw [if_neg c31] at H
       exact absurd H (by simp)
     ·rw [if_neg c30] at H
      exact absurd H (by simp)
    ·rw [if_neg c29] at H
     exact absurd H (by simp)
   ·rw [if_neg c28] at H
    exact absurd H (by simp)

end Go.Proofs.Ytjggdakbphjomaa.ZFnExactTransferAccount
