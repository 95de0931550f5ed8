/- The machine side: for each Go function a Lean function and the contract that the Go code answers as it does; printed by program (wip/tmpl/pprint.sh). -/
import Derived.Test.YtjggdakbphjomaaZFnClaimsx0
import Derived.Test.YtjggdakbphjomaaZFnClaimsx7
import Derived.Test.YtjggdakbphjomaaZFnClaimsx9
import Derived.Test.YtjggdakbphjomaaZFnClaimsx11
import Derived.Test.YtjggdakbphjomaaZFnClaimsx12
namespace Go.Proofs.Ytjggdakbphjomaa.ZFnClaims
open Go.RowKit Go.Proofs.YtjggdakbphjomaaW.PrintWords Go.Proofs.YtjggdakbphjomaaW.PrintLast Go.Proofs.YtjggdakbphjomaaW.PrintMore
attribute [local go_sem] max2_int min2_int max_two min_two max_three min_three max_four min_four   -- for this text's walks alone
set_option linter.unusedVariables false
set_option linter.unusedSimpArgs false

/-! ### spec_l28List: function 135 -/
def spec_l28List.l0 : Nat → Int → List Int → Int → Int → Int → List (S104) → Option (Int × (List (S104)) × Int × Int)
 | 0, _, _, _, _, _, _ => none
 | k + 1, x4, x1000, x1001, x1002, x303000, x303001 => if x4 > 0 then ((spec_l1Below.f x1000 x1001 x1002 5).bind fun bt309 => (if bt309.1 = 0 then ((spec_l1Below.f x1000 bt309.2.1 bt309.2.2 6).bind fun bt312 => ((spec_l1Below.f x1000 bt312.2.1 bt312.2.2 60).bind fun bt315 => ((spec_ObjectTo.f k x303000 x303001 bt312.1 (wrap64 (5 + bt315.1))).bind fun bt318 => (spec_l28List.l0 k (wrap64 (x4 - 1)) x1000 bt315.2.1 bt315.2.2 bt318.1 bt318.2.1)))) else (if bt309.1 = 1 then ((spec_l1Below.f x1000 bt309.2.1 bt309.2.2 6).bind fun bt323 => ((spec_l1Below.f x1000 bt323.2.1 bt323.2.2 120).bind fun bt326 => ((spec_CompleteClaim.f k x303000 x303001 bt323.1 (wrap64 (20 + bt326.1))).bind fun bt329 => (spec_l28List.l0 k (wrap64 (x4 - 1)) x1000 bt326.2.1 bt326.2.2 bt329.1 bt329.2.1)))) else ((spec_l1Below.f x1000 bt309.2.1 bt309.2.2 6).bind fun bt335 => ((spec_l1Below.f x1000 bt335.2.1 bt335.2.2 50).bind fun bt338 => ((spec_PublicKey.f (wrap64 (1 + bt338.1))).bind fun t341 => ((spec_l1Below.f x1000 bt338.2.1 bt338.2.2 30).bind fun bt342 => ((spec_l1Int.f x1000 bt342.2.1 bt342.2.2 (([30, 90] : List Int))).bind fun bt348 => ((spec_FileClaim.f k x303000 x303001 bt335.1 t341 bt342.1 bt348.1).bind fun bt351 => (spec_l28List.l0 k (wrap64 (x4 - 1)) x1000 bt348.2.1 bt348.2.2 bt351.1 bt351.2.1)))))))))) else (some (x303000, x303001, x1001, x1002))
def spec_l28List.f (k : Nat) (s0_0 : List Int) (s0_1 : Int) (s0_2 : Int) : Option (Int × (List (S104)) × Int × Int) := (spec_l1Int.f s0_0 s0_1 s0_2 (([0, 2, 5, 20] : List Int))).bind fun bt306 => (spec_l28List.l0 k bt306.1 s0_0 bt306.2.1 bt306.2.2 0 ([] : List (S104)))
theorem spec_l28List.mono_l : ∀ k, (∀ y0 y1 y2 y3 y4 y5, LeO (spec_l28List.l0 k y0 y1 y2 y3 y4 y5) (spec_l28List.l0 (k + 1) y0 y1 y2 y3 y4 y5))
 | 0 => fun _ _ _ _ _ _ r h => by simp [spec_l28List.l0] at h
 | k + 1 => by
  have ih0 := spec_l28List.mono_l k
  ·intro y0 y1 y2 y3 y4 y5
   unfold spec_l28List.l0
   repeat' first
   | (with_reducible exact ih0 _ _ _ _ _ _)
   | (with_reducible exact spec_CompleteClaim.mono _ _ _ _ _)
   | (with_reducible exact spec_FileClaim.mono _ _ _ _ _ _ _)
   | (with_reducible exact spec_ObjectTo.mono _ _ _ _ _)
   | (with_reducible exact LeO.refl _)
   | (with_reducible exact LeO.none _)
   | (with_reducible refine LeO.ite ?_ ?_)
   | (with_reducible refine LeO.bind ?_ (fun _ => ?_))
   | exact ih0 _ _ _ _ _ _
   | exact spec_CompleteClaim.mono _ _ _ _ _
   | exact spec_FileClaim.mono _ _ _ _ _ _ _
   | exact spec_ObjectTo.mono _ _ _ _ _
   | exact LeO.none _
   | refine LeO.ite ?_ ?_
   | refine LeO.bind ?_ (fun _ => ?_)
theorem spec_l28List.mono : ∀ a0 a1 a2 k, LeO (spec_l28List.f k a0 a1 a2) (spec_l28List.f (k + 1) a0 a1 a2) := by
 intro a0 a1 a2 k
 have ih0 := spec_l28List.mono_l k
 unfold spec_l28List.f
 repeat' first
   | (with_reducible exact ih0 _ _ _ _ _ _)
   | (with_reducible exact spec_CompleteClaim.mono _ _ _ _ _)
   | (with_reducible exact spec_FileClaim.mono _ _ _ _ _ _ _)
   | (with_reducible exact spec_ObjectTo.mono _ _ _ _ _)
   | (with_reducible exact LeO.refl _)
   | (with_reducible exact LeO.none _)
   | (with_reducible refine LeO.ite ?_ ?_)
   | (with_reducible refine LeO.bind ?_ (fun _ => ?_))
   | exact ih0 _ _ _ _ _ _
   | exact spec_CompleteClaim.mono _ _ _ _ _
   | exact spec_FileClaim.mono _ _ _ _ _ _ _
   | exact spec_ObjectTo.mono _ _ _ _ _
   | exact LeO.none _
   | refine LeO.ite ?_ ?_
   | refine LeO.bind ?_ (fun _ => ?_)
def spec_l28List.T6 : Bool × List (List Nat × List Nat) := (true, [([], []), ([], []), ([1], [1]), ([], []), ([3, 2], [3]), ([4], [4]), ([5, 4], [5]), ([], []), ([7, 6], [7]), ([], []), ([], []), ([9, 10, 8], [9, 10]), ([0, 2, 6, 8, 11, 11], [0, 2, 6, 8, 11]), ([12], [12]), ([13], [13]), ([13], [13]), ([14, 12, 0, 1, 2, 3, 4, 5, 6, 7, 8, 9, 10, 11, 12, 13, 14], [14])])
def spec_l28List.B6 : List Nat := [0, 0, 2, 0, 14, 30, 62, 0, 254, 0, 0, 2046, 4095, 8191, 16383, 16383, 32767]
theorem spec_l28List.tab6 : rtab .any (opsOf Try.f135 6) = spec_l28List.T6 := by kernel_rfl
theorem spec_l28List.bits6 : waitsOk spec_l28List.T6.2 spec_l28List.B6 = true := by kernel_rfl
def spec_l28List.T8 : Bool × List (List Nat × List Nat) := (true, [([], []), ([], []), ([1], [1]), ([], []), ([3, 2], [3]), ([4], [4]), ([0, 2, 5, 4], [0, 2, 5]), ([6], [6]), ([7], [7]), ([7], [7]), ([8, 6, 0, 1, 2, 3, 4, 5, 6, 7, 8], [8])])
def spec_l28List.B8 : List Nat := [0, 0, 2, 0, 14, 30, 63, 127, 255, 255, 511]
theorem spec_l28List.tab8 : rtab .any (opsOf Try.f135 8) = spec_l28List.T8 := by kernel_rfl
theorem spec_l28List.bits8 : waitsOk spec_l28List.T8.2 spec_l28List.B8 = true := by kernel_rfl
def spec_l28List.T10 : Bool × List (List Nat × List Nat) := (true, [([], []), ([], []), ([1], [1]), ([], []), ([3, 2], [3]), ([4], [4]), ([0, 2, 5, 4], [0, 2, 5]), ([6], [6]), ([7], [7]), ([7], [7]), ([7], [7]), ([8, 6, 0, 1, 2, 3, 4, 5, 6, 7, 8], [8])])
def spec_l28List.B10 : List Nat := [0, 0, 2, 0, 14, 30, 63, 127, 255, 255, 255, 511]
theorem spec_l28List.tab10 : rtab .any (opsOf Try.f135 10) = spec_l28List.T10 := by kernel_rfl
theorem spec_l28List.bits10 : waitsOk spec_l28List.T10.2 spec_l28List.B10 = true := by kernel_rfl
set_option maxHeartbeats 8000000 in
set_option maxRecDepth 100000 in
theorem spec_l28List.calls (k : Nat) (g : Nat) (s0_0 : List Int) (s0_1 : Int) (s0_2 : Int) (r1 : Int) (r2 : List (S104)) (r3 : Int) (r4 : Int) (w0 w : World) (hI : IsS139 w0 w g s0_0 s0_1 s0_2) (hB : Below w0.heap.size w0 w) (h : spec_l28List.f k s0_0 s0_1 s0_2 = some (r1, r2, r3, r4)) :
  Calls Try.prog 135 #[.pointer (some ⟨g, 0, none⟩)] w fun e w' => ∃ v1_ : Value, e = .returned (.agg #[.int .i64 r1, v1_]) ∧ Kd.R k104 104 w' w.heap.size (fun _ => True) v1_ r2 ∧ IsS139 w0 w' g s0_0 r3 r4 ∧ Below w0.heap.size w0 w' ∧ KeepBut w w' g none := by
 have hu35 := Try.underlying35
 have HI0 := Aside0.mk hI
 have HK := Aside0.mk (KeepBut.refl w g none)
 have HL := Aside0.mk hB.size
 clear hI
 have HW0 := Aside0.mk hB.size
 have HB := Aside0.mk hB
 clear hB
 have H : ((spec_l1Int.f s0_0 s0_1 s0_2 (([0, 2, 5, 20] : List Int))).bind fun bt306 => (spec_l28List.l0 k bt306.1 s0_0 bt306.2.1 bt306.2.2 0 ([] : List (S104)))) = some (r1, r2, r3, r4) := h
 clear h
 obtain ⟨y303, hy303⟩ : ∃ y_ : List Int, y_ = (([0, 2, 5, 20] : List Int)) := ⟨_, rfl⟩
 replace H : ((spec_l1Int.f s0_0 s0_1 s0_2 y303).bind fun bt306 => (spec_l28List.l0 k bt306.1 s0_0 bt306.2.1 bt306.2.2 0 ([] : List (S104)))) = some (r1, r2, r3, r4) := by first | (rw [hy303]; with_reducible exact H) | (have H2_ := (Option.bind_some _ _).symm.trans H; rw [hy303]; with_reducible exact H2_) | (have H2_ := (Option.bind_some _ _).symm.trans H; with_reducible exact H2_) | with_reducible exact H | (rw [hy303]; exact H) | exact H
 have Ny303 := Aside0.mk hy303
 clear hy303
 replace H := Option.bind_eq_some_iff.mp H
 obtain ⟨⟨t306, t307, t308⟩, A20, H⟩ := H
 try dsimp only at H
 have A2 := Aside0.mk A20
 clear A20
 have H' := Aside0.mk H
 clear H
 go_enter Try.func135, Try.ntmps135
 go_wp2_with (first | ((with_reducible refine gate_dst (N := 2) rfl ?_); refine box_event ?hg (N := 2) ?hd (cs := #[.int .i64 0, .slice none 0 0]) (t := 35) ?hr ?_; (case hd => rfl); (case hg => rfl); (case hr => exact tG); intro gb301 hg w3 hbox hb; replace HB := Aside0.mk (below_step (by repeat (first | (with_reducible first | exact HB.out | apply below_alloc | apply pw_below_drewN | apply below_drew1 | refine below_set ?_ (IsS139.ge HI0.out)) | exact HB.out)) hb); have BK301 := Aside0.mk (hbox); have GW301 := Aside0.mk ((by rw [hg]; exact (keep_size (w := w) (g := g) (row := none) (by repeat (first | (with_reducible first | exact HK.out | apply KeepBut.set_ | apply keep_drewN | apply keep_drew | apply keep_alloc) | exact HK.out))) : w.heap.size ≤ gb301)); have GE301 := Aside0.mk ((Nat.le_trans HW0.out (by rw [hg]; exact (keep_size (w := w) (g := g) (row := none) (by repeat (first | (with_reducible first | exact HK.out | apply KeepBut.set_ | apply keep_drewN | apply keep_drew | apply keep_alloc) | exact HK.out))) : w.heap.size ≤ gb301) : w0.heap.size ≤ gb301)); replace HK := Aside0.mk (KeepBut.trans (by repeat (first | (with_reducible first | exact HK.out | apply KeepBut.set_ | apply keep_drewN | apply keep_drew | apply keep_alloc) | exact HK.out)) (KeepBut.of_below hb g none) (.inl rfl)); have NB0_301 := Aside0.mk ((by rw [hg]; exact Nat.ne_of_lt (IsS139.lt (show IsS139 w0 _ g s0_0 s0_1 s0_2 from by repeat (first | (with_reducible first | exact HI0.out | apply IsS139.alloc | apply IsS139.drewN | apply IsS139.drew | apply IsS139.set_1 | apply IsS139.set_2) | exact HI0.out))) : g ≠ gb301)); have NB301_0 := Aside0.mk ((by rw [hg]; exact Nat.ne_of_gt (IsS139.lt (show IsS139 w0 _ g s0_0 s0_1 s0_2 from by repeat (first | (with_reducible first | exact HI0.out | apply IsS139.alloc | apply IsS139.drewN | apply IsS139.drew | apply IsS139.set_1 | apply IsS139.set_2) | exact HI0.out))) : gb301 ≠ g)); replace HI0 := Aside0.mk (IsS139.below (by repeat (first | (with_reducible first | exact HI0.out | apply IsS139.alloc | apply IsS139.drewN | apply IsS139.drew | apply IsS139.set_1 | apply IsS139.set_2) | exact HI0.out)) hb); clear hb hbox hg) | ((with_reducible refine gate_dst (N := 3) rfl ?_); refine box_event ?hg (N := 3) ?hd (cs := #[.int .i64 0, .slice none 0 0]) (t := 35) ?hr ?_; (case hd => rfl); (case hg => rfl); (case hr => exact tG); intro gb302 hg w4 hbox hb; replace HB := Aside0.mk (below_step (by repeat (first | (with_reducible first | exact HB.out | apply below_alloc | apply pw_below_drewN | apply below_drew1 | refine below_set ?_ (IsS139.ge HI0.out) | refine below_set ?_ GE301.out) | exact HB.out)) hb); have BK302 := Aside0.mk (hbox); have GW302 := Aside0.mk ((by rw [hg]; exact (keep_size (w := w) (g := g) (row := none) (by repeat (first | (with_reducible first | exact HK.out | apply KeepBut.set_ | apply keep_drewN | apply keep_drew | apply keep_alloc | refine keep_far ?_ GW301.out _) | exact HK.out))) : w.heap.size ≤ gb302)); have GE302 := Aside0.mk ((Nat.le_trans HW0.out (by rw [hg]; exact (keep_size (w := w) (g := g) (row := none) (by repeat (first | (with_reducible first | exact HK.out | apply KeepBut.set_ | apply keep_drewN | apply keep_drew | apply keep_alloc | refine keep_far ?_ GW301.out _) | exact HK.out))) : w.heap.size ≤ gb302) : w0.heap.size ≤ gb302)); replace HK := Aside0.mk (KeepBut.trans (by repeat (first | (with_reducible first | exact HK.out | apply KeepBut.set_ | apply keep_drewN | apply keep_drew | apply keep_alloc | refine keep_far ?_ GW301.out _) | exact HK.out)) (KeepBut.of_below hb g none) (.inl rfl)); have NB301_302 := nL BK301 hg; have NB302_301 := nR BK301 hg; replace BK301 := bB BK301 hb; have NB0_302 := Aside0.mk ((by rw [hg]; exact Nat.ne_of_lt (IsS139.lt (show IsS139 w0 _ g s0_0 s0_1 s0_2 from by repeat (first | (with_reducible first | exact HI0.out | apply IsS139.alloc | apply IsS139.drewN | apply IsS139.drew | apply IsS139.set_1 | apply IsS139.set_2 | refine IsS139.far ?_ NB0_301.out _) | exact HI0.out))) : g ≠ gb302)); have NB302_0 := Aside0.mk ((by rw [hg]; exact Nat.ne_of_gt (IsS139.lt (show IsS139 w0 _ g s0_0 s0_1 s0_2 from by repeat (first | (with_reducible first | exact HI0.out | apply IsS139.alloc | apply IsS139.drewN | apply IsS139.drew | apply IsS139.set_1 | apply IsS139.set_2 | refine IsS139.far ?_ NB0_301.out _) | exact HI0.out))) : gb302 ≠ g)); replace HI0 := Aside0.mk (IsS139.below (by repeat (first | (with_reducible first | exact HI0.out | apply IsS139.alloc | apply IsS139.drewN | apply IsS139.drew | apply IsS139.set_1 | apply IsS139.set_2 | refine IsS139.far ?_ NB0_301.out _) | exact HI0.out)) hb); clear hb hbox hg; have hnb5 := NB302_301.out; have hnc5 := NB301_302.out; have hnb6 := NB302_0.out; have hnc6 := NB0_302.out; obtain ⟨hcz7_0, hcz7_1, hfz7_0, hfz7_1⟩ := bc2 BK302.out) | ((with_reducible refine gate_dst (N := 7) rfl ?_); refine Kd.R_lit (Kd.int .i64) _ 3 ?hg (N := 7) ?hd (xs := ([0, 2, 5, 20] : List Int)) (inner := [.int .i64 0, .int .i64 2, .int .i64 5, .int .i64 20]) (ok := fun _ => True) (okp := fun _ => True) ?hr ?hp (fun _ hk => hk) trivial (Below.refl _ _) (Nat.le_refl _) (by simp) ?_; (case hd => rfl); (case hg => rfl); (case hr => exact tG); (case hp => exact (Reps.one (show Kd.M (Kd.int .i64) _ _ _ 0 [.int .i64 0] from rfl) (Reps.one (show Kd.M (Kd.int .i64) _ _ _ 2 [.int .i64 2] from rfl) (Reps.one (show Kd.M (Kd.int .i64) _ _ _ 5 [.int .i64 5] from rfl) (Reps.one (show Kd.M (Kd.int .i64) _ _ _ 20 [.int .i64 20] from rfl) (Reps.none _ _)))))); intro v304 w8 ho9 hb hg_ hnew_; clear hg_ hnew_; (first | rw [← Ny303.out] at ho9 | (simp only [Int.reduceToNat] at ho9; rw [← Ny303.out] at ho9)); have HO305 := Aside0.mk (Kd.R_lower ho9 (keep_size (w := w) (g := g) (row := none) (by repeat (first | (with_reducible first | exact HK.out | apply KeepBut.set_ | apply keep_drewN | apply keep_drew | apply keep_alloc | refine keep_far ?_ GW301.out _ | refine keep_far ?_ GW302.out _) | exact HK.out)))); replace BK301 := bF NB301_302 BK301 hb; replace BK302 := Aside0.mk (blk_below (g := gb302) (o := .cells #[.int .i64 0, .slice none 0 0] 35 (0, 0)) (by (with_reducible repeat (first | refine blk_drewN ?_ _ | refine blk_drew ?_ | refine blk_alloc ?_ _)); refine blk_put (cs := #[.int .i64 0, .slice none 0 0]) ?_ 1 _ rfl; (with_reducible repeat (first | refine blk_drewN ?_ _ | refine blk_drew ?_ | refine blk_alloc ?_ _)); refine blk_put (cs := #[.int .i64 0, .slice none 0 0]) ?_ 0 _ rfl; (with_reducible repeat (first | refine blk_drewN ?_ _ | refine blk_drew ?_ | refine blk_alloc ?_ _)); exact BK302.out) hb); replace HK := Aside0.mk (KeepBut.trans (by repeat (first | (with_reducible first | exact HK.out | apply KeepBut.set_ | apply keep_drewN | apply keep_drew | apply keep_alloc | refine keep_far ?_ GW301.out _ | refine keep_far ?_ GW302.out _) | exact HK.out)) (KeepBut.of_below hb g none) (.inl rfl)); replace HB := Aside0.mk (below_step (by repeat (first | (with_reducible first | exact HB.out | apply below_alloc | apply pw_below_drewN | apply below_drew1 | refine below_set ?_ (IsS139.ge HI0.out) | refine below_set ?_ GE301.out | refine below_set ?_ GE302.out) | exact HB.out)) hb); replace HI0 := Aside0.mk (IsS139.below (show IsS139 w0 ((w4.setCell ⟨gb302, 0, none⟩ (.int .i64 0)).setCell ⟨gb302, 1, none⟩ (.slice none 0 0)) g s0_0 s0_1 s0_2 from by repeat (first | (with_reducible first | exact HI0.out | apply IsS139.alloc | apply IsS139.drewN | apply IsS139.drew | apply IsS139.set_1 | apply IsS139.set_2 | refine IsS139.far ?_ NB0_301.out _ | refine IsS139.far ?_ NB0_302.out _) | exact HI0.out)) hb); clear hb ho9; obtain ⟨Ao10, co10, eo10⟩ := Kd.R_slice HO305.out; subst eo10) | ((with_reducible refine gate_callee (f := 112) rfl ?_); refine goesL_ (some 8) rfl rfl Try.func112 (by kernel_rfl) rfl #[.pointer (some ⟨g, 0, none⟩), .slice Ao10 y303.length co10] rfl tL ?_; (with_reducible refine (spec_l1Int.calls g s0_0 s0_1 s0_2 _ _ y303 t306 t307 t308 w0 _ ?side1 ?side2 ?side3 ?side4 ?side5 A2.out).mono ?_); (case side1 => repeat (first | (with_reducible first | exact HI0.out | apply IsS139.alloc | apply IsS139.drewN | apply IsS139.drew | apply IsS139.set_1 | apply IsS139.set_2 | refine IsS139.far ?_ NB0_301.out _ | refine IsS139.far ?_ NB0_302.out _) | exact HI0.out)); (case side2 => repeat (first | (with_reducible first | exact HB.out | apply below_alloc | apply pw_below_drewN | apply below_drew1 | refine below_set ?_ (IsS139.ge HI0.out) | refine below_set ?_ GE301.out | refine below_set ?_ GE302.out) | exact HB.out)); (case side3 => exact tC (Kd.R_reads' HO305.out).2.2); (case side4 => exact (Kd.R_reads' HO305.out).2.1); (case side5 => exact far_slice (IsS139.own_ne HI0.out HO305.out (by decide))); rintro e w11 ⟨rfl, hi, hb, hk⟩; refine ⟨_, rfl, ?_⟩; replace BK301 := Aside0.mk (KeepBut.blk hk (g' := gb301) (o := .cells #[.int .i64 0, .slice none 0 0] 35 (0, 0)) (tK BK301) NB301_0.out (by simp)); replace BK302 := Aside0.mk (KeepBut.blk hk (g' := gb302) (o := .cells #[.int .i64 0, .slice none 0 0] 35 (0, 0)) (tK BK302) NB302_0.out (by simp)); replace HO305 := Aside0.mk (Kd.R_mono (Kd.R_keep (IsS139.apart (show IsS139 w0 _ g s0_0 s0_1 s0_2 from by repeat (first | (with_reducible first | exact HI0.out | apply IsS139.alloc | apply IsS139.drewN | apply IsS139.drew | apply IsS139.set_1 | apply IsS139.set_2 | refine IsS139.far ?_ NB0_301.out _ | refine IsS139.far ?_ NB0_302.out _) | exact HI0.out)) (tR HO305) (by decide)) hk (fun _ h => h.2)) (fun _ h => h.1)); replace HK := Aside0.mk (KeepBut.trans (by repeat (first | (with_reducible first | exact HK.out | apply KeepBut.set_ | apply keep_drewN | apply keep_drew | apply keep_alloc | refine keep_far ?_ GW301.out _ | refine keep_far ?_ GW302.out _) | exact HK.out)) hk (.inl rfl)); replace HB := Aside0.mk (hb); replace HI0 := Aside0.mk (hi); (try clear hb); (try clear hb2); (try clear hk); (try clear hi)))
 go_loopg [4] k (fun kq v4 w' => ∃ (x4_1 : Int) (x1001_1 : Int) (x1002_1 : Int) (x303000_1 : Int) (x303001_1 : List (S104)) (u303001 : Value), v4 = .int .i64 x4_1 ∧ Aside0 (spec_l28List.l0 kq x4_1 s0_0 x1001_1 x1002_1 x303000_1 x303001_1 = some (r1, r2, r3, r4)) ∧ Aside0 (kq ≤ k) ∧ Aside0 (Kd.R k104 104 w' w.heap.size (fun _ => True) u303001 x303001_1) ∧ Aside0 (w'.heap[gb301]? = some (.cells #[.int .i64 0, (.slice none 0 0)] 35 (0, 0))) ∧ Aside0 (w'.heap[gb302]? = some (.cells #[.int .i64 x303000_1, u303001] 35 (0, 0))) ∧ Aside0 (IsS139 w0 w' g s0_0 x1001_1 x1002_1) ∧ Aside0 (KeepBut w w' g none) ∧ Aside0 (Below w0.heap.size w0 w'))
 case atStart => exact ⟨(t306), (t307), (t308), (0), (([] : List (S104))), (.slice none 0 0), tS, H', ⟨Nat.le_refl _⟩, ⟨by first | exact Kd.R_nil _ _ _ _ _ | exact Kd.N_nil _ _ _ _ _ | exact Kd.V_nil _ _ _ _ _ | exact Kd.Q_nil _ _ _ _ _ | exact Kd.S_nil _ _ _ _ _⟩, ⟨tK BK301⟩, ⟨tK BK302⟩, ⟨by repeat (first | (with_reducible first | exact HI0.out | apply IsS139.alloc | apply IsS139.drewN | apply IsS139.drew | apply IsS139.set_1 | apply IsS139.set_2 | refine IsS139.far ?_ NB0_301.out _ | refine IsS139.far ?_ NB0_302.out _) | exact HI0.out)⟩, ⟨by repeat (first | (with_reducible first | exact HK.out | apply KeepBut.set_ | apply keep_drewN | apply keep_drew | apply keep_alloc | refine keep_far ?_ GW301.out _ | refine keep_far ?_ GW302.out _) | exact HK.out)⟩, ⟨by repeat (first | (with_reducible first | exact HB.out | apply below_alloc | apply pw_below_drewN | apply below_drew1 | refine below_set ?_ (IsS139.ge HI0.out) | refine below_set ?_ GE301.out | refine below_set ?_ GE302.out) | exact HB.out)⟩⟩
 case round =>
  clear H'
  try clear c1
  try clear p2
  try clear c5
  try clear c6
  try clear c11
  obtain ⟨x4_1, x1001_1, x1002_1, x303000_1, x303001_1, u303001, rfl, HA, HK1, HO_303001, BK301, BK302, HI0, HK, HB⟩ := hrel
  cases gk with
  | zero => exact absurd HA.out (by simp [spec_l28List.l0])
  | succ k1 =>
   have H := HA.out
   clear HA
   simp only [spec_l28List.l0] at H
   by_cases c12 : x4_1 > 0
   ·rw [if_pos c12] at H
    have c12b0 : decide (0 < x4_1) = true := decide_eq_true c12
    clear c12
    replace H := Option.bind_eq_some_iff.mp H
    obtain ⟨⟨t309, t310, t311⟩, A130, H⟩ := H
    try dsimp only at H
    have A13 := Aside0.mk A130
    clear A130
    by_cases c14 : t309 = 0
    ·rw [if_pos c14] at H
     have c14b0 : (t309 == 0) = true := beq_iff_eq.mpr c14
     have c14b1 : (t309 != 0) = false := bne_eq_false_iff_eq.mpr c14
     clear c14
     replace H := Option.bind_eq_some_iff.mp H
     obtain ⟨⟨t312, t313, t314⟩, A150, H⟩ := H
     try dsimp only at H
     have A15 := Aside0.mk A150
     clear A150
     replace H := Option.bind_eq_some_iff.mp H
     obtain ⟨⟨t315, t316, t317⟩, A160, H⟩ := H
     try dsimp only at H
     have A16 := Aside0.mk A160
     clear A160
     replace H := Option.bind_eq_some_iff.mp H
     obtain ⟨⟨t318, t319, t322⟩, A170, H⟩ := H
     try dsimp only at H
     have A17 := Aside0.mk A170
     clear A170
     have H' := Aside0.mk H
     clear H
     try go_wp2_with (first | ((with_reducible refine gate_callee (f := 96) rfl ?_); refine goesL_ (some 14) rfl rfl Try.func96 (by kernel_rfl) rfl #[.pointer (some ⟨g, 0, none⟩), .int .i64 5] rfl tL ?_; (with_reducible refine (spec_l1Below.calls g s0_0 x1001_1 x1002_1 5 t309 t310 t311 w0 _ ?side1 ?side2 A13.out).mono ?_); (case side1 => repeat (first | (with_reducible first | exact HI0.out | apply IsS139.alloc | apply IsS139.drewN | apply IsS139.drew | apply IsS139.set_1 | apply IsS139.set_2 | refine IsS139.far ?_ NB0_301.out _ | refine IsS139.far ?_ NB0_302.out _) | exact HI0.out)); (case side2 => repeat (first | (with_reducible first | exact HB.out | apply below_alloc | apply pw_below_drewN | apply below_drew1 | refine below_set ?_ (IsS139.ge HI0.out) | refine below_set ?_ GE301.out | refine below_set ?_ GE302.out) | exact HB.out)); rintro e w18 ⟨rfl, hi, hb, hk⟩; refine ⟨_, rfl, ?_⟩; replace HO_303001 := Aside0.mk (Kd.R_mono (Kd.R_keep (IsS139.apart (show IsS139 w0 _ g s0_0 x1001_1 x1002_1 from by repeat (first | (with_reducible first | exact HI0.out | apply IsS139.alloc | apply IsS139.drewN | apply IsS139.drew | apply IsS139.set_1 | apply IsS139.set_2 | refine IsS139.far ?_ NB0_301.out _ | refine IsS139.far ?_ NB0_302.out _) | exact HI0.out)) (tR HO_303001) (by decide)) hk (fun _ h => h.2)) (fun _ h => h.1)); replace BK301 := Aside0.mk (KeepBut.blk hk (g' := gb301) (o := .cells #[.int .i64 0, .slice none 0 0] 35 (0, 0)) (tK BK301) NB301_0.out (by simp)); replace BK302 := Aside0.mk (KeepBut.blk hk (g' := gb302) (o := .cells #[.int .i64 x303000_1, u303001] 35 (0, 0)) (tK BK302) NB302_0.out (by simp)); replace HK := Aside0.mk (KeepBut.trans (by repeat (first | (with_reducible first | exact HK.out | apply KeepBut.set_ | apply keep_drewN | apply keep_drew | apply keep_alloc | refine keep_far ?_ GW301.out _ | refine keep_far ?_ GW302.out _) | exact HK.out)) hk (.inl rfl)); replace HB := Aside0.mk (hb); replace HI0 := Aside0.mk (hi); (try clear hb); (try clear hb2); (try clear hk); (try clear hi)))
     replace HO_303001 := Aside0.mk (Kd.R_drew HO_303001.out)
     replace BK301 := Aside0.mk (blk_drew BK301.out)
     replace BK302 := Aside0.mk (blk_drew BK302.out)
     replace HI0 := Aside0.mk (IsS139.drew HI0.out)
     replace HK := Aside0.mk (keep_drew HK.out)
     replace HB := Aside0.mk (below_drew1 HB.out)
     refine start_ (n := 11) (S := fun w' => w'.cell? ⟨gb302, 0, none⟩ = some (.int .i64 x303000_1) ∧ w'.cell? ⟨gb302, 1, none⟩ = some (u303001)) (ds := [10]) (bm 11 0) (by kernel_rfl) rfl (by kernel_rfl) tH (fun hHeld => ?_); refine with_tabW spec_l28List.tab8 spec_l28List.bits8 (fun HT_ HW_ => ?_)
     generalize w18.drew = w19 at HO_303001 BK301 BK302 HI0 HK HB hHeld ⊢
     refine pI 1 35 (bm 11 2) ?_
     refine pI 3 37 (bm 11 10) ?_
     refine pT 0 34 (bm 11 11) hHeld ?_
     refine one_ (i := 2) (N := some 36) (bm 11 15) rfl rfl (one_of HT_.out (by kernel_rfl)) (by decide) (fun K hK => ?_)
     refine goes_ Try.func96 (by kernel_rfl) rfl #[.pointer (some ⟨g, 0, none⟩), .int .i64 6] (by rfl) rfl rfl tL ?_
     with_reducible refine (spec_l1Below.calls g s0_0 t310 t311 6 t312 t313 t314 w0 _ ?side1 ?side2 A15.out).mono ?_
     (case side1 => repeat (first | (with_reducible first | exact HI0.out | apply IsS139.alloc | apply IsS139.drewN | apply IsS139.drew | apply IsS139.set_1 | apply IsS139.set_2 | refine IsS139.far ?_ NB0_301.out _ | refine IsS139.far ?_ NB0_302.out _) | exact HI0.out))
     (case side2 => repeat (first | (with_reducible first | exact HB.out | apply below_alloc | apply pw_below_drewN | apply below_drew1 | refine below_set ?_ (IsS139.ge HI0.out) | refine below_set ?_ GE301.out | refine below_set ?_ GE302.out) | exact HB.out))
     rintro e w20 ⟨rfl, hi, hb, hk⟩
     refine ⟨_, rfl, ?_⟩
     replace HO_303001 := Aside0.mk (Kd.R_mono (Kd.R_keep (IsS139.apart (show IsS139 w0 _ g s0_0 t310 t311 from by repeat (first | (with_reducible first | exact HI0.out | apply IsS139.alloc | apply IsS139.drewN | apply IsS139.drew | apply IsS139.set_1 | apply IsS139.set_2 | refine IsS139.far ?_ NB0_301.out _ | refine IsS139.far ?_ NB0_302.out _) | exact HI0.out)) (tR HO_303001) (by decide)) hk (fun _ h => h.2)) (fun _ h => h.1))
     replace BK301 := Aside0.mk (KeepBut.blk hk (g' := gb301) (o := .cells #[.int .i64 0, .slice none 0 0] 35 (0, 0)) (tK BK301) NB301_0.out (by simp))
     replace BK302 := Aside0.mk (KeepBut.blk hk (g' := gb302) (o := .cells #[.int .i64 x303000_1, u303001] 35 (0, 0)) (tK BK302) NB302_0.out (by simp))
     replace HK := Aside0.mk (KeepBut.trans (by repeat (first | (with_reducible first | exact HK.out | apply KeepBut.set_ | apply keep_drewN | apply keep_drew | apply keep_alloc | refine keep_far ?_ GW301.out _ | refine keep_far ?_ GW302.out _) | exact HK.out)) hk (.inl rfl))
     replace HB := Aside0.mk (hb)
     replace HI0 := Aside0.mk (hi)
     (try clear hb)
     (try clear hb2)
     (try clear hk)
     (try clear hi)
     refine hK.out _ _ tH (fun hHeld => ?_)
     clear hK K
     refine norm_ (tV : Act.put _ (some 36) _ = _) ?_
     refine one_ (i := 4) (N := some 38) (bm 11 31) rfl rfl (one_of HT_.out (by kernel_rfl)) (by decide) (fun K hK => ?_)
     refine goes_ Try.func96 (by kernel_rfl) rfl #[.pointer (some ⟨g, 0, none⟩), .int .i64 60] (by rfl) rfl rfl tL ?_
     with_reducible refine (spec_l1Below.calls g s0_0 t313 t314 60 t315 t316 t317 w0 _ ?side1 ?side2 A16.out).mono ?_
     (case side1 => repeat (first | (with_reducible first | exact HI0.out | apply IsS139.alloc | apply IsS139.drewN | apply IsS139.drew | apply IsS139.set_1 | apply IsS139.set_2 | refine IsS139.far ?_ NB0_301.out _ | refine IsS139.far ?_ NB0_302.out _) | exact HI0.out))
     (case side2 => repeat (first | (with_reducible first | exact HB.out | apply below_alloc | apply pw_below_drewN | apply below_drew1 | refine below_set ?_ (IsS139.ge HI0.out) | refine below_set ?_ GE301.out | refine below_set ?_ GE302.out) | exact HB.out))
     rintro e w21 ⟨rfl, hi, hb, hk⟩
     refine ⟨_, rfl, ?_⟩
     replace HO_303001 := Aside0.mk (Kd.R_mono (Kd.R_keep (IsS139.apart (show IsS139 w0 _ g s0_0 t313 t314 from by repeat (first | (with_reducible first | exact HI0.out | apply IsS139.alloc | apply IsS139.drewN | apply IsS139.drew | apply IsS139.set_1 | apply IsS139.set_2 | refine IsS139.far ?_ NB0_301.out _ | refine IsS139.far ?_ NB0_302.out _) | exact HI0.out)) (tR HO_303001) (by decide)) hk (fun _ h => h.2)) (fun _ h => h.1))
     replace BK301 := Aside0.mk (KeepBut.blk hk (g' := gb301) (o := .cells #[.int .i64 0, .slice none 0 0] 35 (0, 0)) (tK BK301) NB301_0.out (by simp))
     replace BK302 := Aside0.mk (KeepBut.blk hk (g' := gb302) (o := .cells #[.int .i64 x303000_1, u303001] 35 (0, 0)) (tK BK302) NB302_0.out (by simp))
     replace HK := Aside0.mk (KeepBut.trans (by repeat (first | (with_reducible first | exact HK.out | apply KeepBut.set_ | apply keep_drewN | apply keep_drew | apply keep_alloc | refine keep_far ?_ GW301.out _ | refine keep_far ?_ GW302.out _) | exact HK.out)) hk (.inl rfl))
     replace HB := Aside0.mk (hb)
     replace HI0 := Aside0.mk (hi)
     (try clear hb)
     (try clear hb2)
     (try clear hk)
     (try clear hi)
     obtain ⟨Ao22, co22, eo22⟩ := Kd.R_slice HO_303001.out
     (first | subst eo22 | (injection eo22 with f1_ f2_ f3_; have f4_ := f1_.symm; have f5_ := f3_.symm; clear f1_ f2_ f3_; subst f4_; subst f5_))
     refine hK.out _ _ tH (fun hHeld => ?_)
     clear hK K
     refine norm_ (tV : Act.put _ (some 38) _ = _) ?_
     refine pI 5 39 (bm 11 63) ?_
     refine one_ (i := 6) (N := some 40) (bm 11 127) rfl rfl (one_of HT_.out (by kernel_rfl)) (by decide) (fun K hK => ?_)
     refine goes_ Try.func27 (by kernel_rfl) rfl #[.agg #[.int .i64 x303000_1, .slice Ao22 x303001_1.length co22], .int .i64 t312, .int .i64 (wrap64 (5 + t315))] (by rfl) rfl rfl tL ?_
     with_reducible refine (spec_ObjectTo.calls k1 x303000_1 _ _ x303001_1 t312 (wrap64 (5 + t315)) t318 t319 t322 _ ?side1 ?side2 A17.out).mono ?_
     (case side1 => exact tC (Kd.R_reads' HO_303001.out).2.2)
     (case side2 => exact (Kd.R_reads' HO_303001.out).2.1)
     rintro e w23 ⟨v320, rfl, ho0, hb⟩
     refine ⟨_, rfl, ?_⟩
     have HO321 := Aside0.mk (Kd.R_lower (Kd.R_new' ho0 (Kd.R_lt (tR HO_303001))) (keep_size (w := w) (g := g) (row := none) (by repeat (first | (with_reducible first | exact HK.out | apply KeepBut.set_ | apply keep_drewN | apply keep_drew | apply keep_alloc | refine keep_far ?_ GW301.out _ | refine keep_far ?_ GW302.out _) | exact HK.out))))
     replace HO_303001 := Aside0.mk (Kd.R_elder' (tR HO_303001) (Kd.R_base ho0) hb)
     replace BK301 := bB BK301 hb
     replace BK302 := bB BK302 hb
     replace HK := Aside0.mk (KeepBut.trans (by repeat (first | (with_reducible first | exact HK.out | apply KeepBut.set_ | apply keep_drewN | apply keep_drew | apply keep_alloc | refine keep_far ?_ GW301.out _ | refine keep_far ?_ GW302.out _) | exact HK.out)) (KeepBut.of_below hb g none) (.inl rfl))
     replace HB := Aside0.mk (below_step (by repeat (first | (with_reducible first | exact HB.out | apply below_alloc | apply pw_below_drewN | apply below_drew1 | refine below_set ?_ (IsS139.ge HI0.out) | refine below_set ?_ GE301.out | refine below_set ?_ GE302.out) | exact HB.out)) hb)
     replace HI0 := Aside0.mk (IsS139.below (by repeat (first | (with_reducible first | exact HI0.out | apply IsS139.alloc | apply IsS139.drewN | apply IsS139.drew | apply IsS139.set_1 | apply IsS139.set_2 | refine IsS139.far ?_ NB0_301.out _ | refine IsS139.far ?_ NB0_302.out _) | exact HI0.out)) hb)
     (try clear hb)
     (try clear hb2)
     (try clear hk)
     (try clear hi)
     (try clear ho0)
     obtain ⟨Ao25, co25, eo25⟩ := Kd.R_slice HO321.out
     (first | subst eo25 | (injection eo25 with f1_ f2_ f3_; have f4_ := f1_.symm; have f5_ := f3_.symm; clear f1_ f2_ f3_; subst f4_; subst f5_))
     refine hK.out _ _ tH (fun hHeld => ?_)
     clear hK K
     refine norm_ (tV : Act.put _ (some 40) _ = _) ?_
     refine pI 7 33 (bm 11 255) ?_
     refine pI 8 41 (bm 11 511) ?_
     refine pI 9 42 (bm 11 1023) ?_
     refine last_ (i := 10) (N := none) (bm 11 2047) rfl rfl (one_of HT_.out (by kernel_rfl)) (by decide) (fun K hK => ?_)
     have hs24 : w23.cell? ⟨gb302, 0, none⟩ = some (.int .i64 x303000_1) := (blk_cell BK302.out 0).trans rfl
     have hfs24 := blk_frozen BK302.out 0
     have hns24_0 := NB301_302.out
     have hms24_0 := NB302_301.out
     have hs26 : w23.cell? ⟨gb302, 1, none⟩ = some (.slice Ao22 x303001_1.length co22) := (blk_cell BK302.out 1).trans rfl
     have hfs26 := blk_frozen BK302.out 1
     have hns26_0 := NB301_302.out
     have hms26_0 := NB302_301.out
     refine skip_ (w1 := ?_) (by rfl) rfl ?_ ?_
     rotate_left
     ·go_simp
      rfl
     refine hK.out _ _ ?_
     clear hK K
     refine done_ (done_of HT_.out (by kernel_rfl)) ?_
     try go_wp2
     go_roundg k1
     case measure => have := HK1.out; omega
     case rel => exact ⟨(wrap64 (x4_1 - 1)), (t316), (t317), (t318), (t319), (.slice Ao25 t319.length co25), tS, H', ⟨tI⟩, ⟨by (with_reducible repeat (first | apply Kd.R_alloc | apply Kd.R_drewN | apply Kd.R_drew)); exact Kd.R_mono (Kd.R_far (p := ⟨gb302, 1, none⟩) (Kd.R_far (p := ⟨gb302, 0, none⟩) (Kd.R_types HO321.out BK302.out (by decide)) (fun _ hk => hk.2) (.int .i64 t318)) (fun _ hk => hk.2) (.slice Ao25 t319.length co25)) (fun _ hk => trivial)⟩, ⟨kF NB301_302 BK301⟩, ⟨by (with_reducible repeat (first | refine blk_drewN ?_ _ | refine blk_drew ?_ | refine blk_alloc ?_ _)); refine blk_put (cs := #[.int .i64 t318, .slice Ao22 x303001_1.length co22]) ?_ 1 _ rfl; (with_reducible repeat (first | refine blk_drewN ?_ _ | refine blk_drew ?_ | refine blk_alloc ?_ _)); refine blk_put (cs := #[.int .i64 x303000_1, .slice Ao22 x303001_1.length co22]) ?_ 0 _ rfl; (with_reducible repeat (first | refine blk_drewN ?_ _ | refine blk_drew ?_ | refine blk_alloc ?_ _)); exact BK302.out⟩, ⟨by repeat (first | (with_reducible first | exact HI0.out | apply IsS139.alloc | apply IsS139.drewN | apply IsS139.drew | apply IsS139.set_1 | apply IsS139.set_2 | refine IsS139.far ?_ NB0_301.out _ | refine IsS139.far ?_ NB0_302.out _) | exact HI0.out)⟩, ⟨by repeat (first | (with_reducible first | exact HK.out | apply KeepBut.set_ | apply keep_drewN | apply keep_drew | apply keep_alloc | refine keep_far ?_ GW301.out _ | refine keep_far ?_ GW302.out _) | exact HK.out)⟩, ⟨by repeat (first | (with_reducible first | exact HB.out | apply below_alloc | apply pw_below_drewN | apply below_drew1 | refine below_set ?_ (IsS139.ge HI0.out) | refine below_set ?_ GE301.out | refine below_set ?_ GE302.out) | exact HB.out)⟩⟩
    rw [if_neg c14] at H
    have c14b0 : (t309 == 0) = false := beq_eq_false_iff_ne.mpr c14
    have c14b1 : (t309 != 0) = true := bne_iff_ne.mpr c14
    by_cases c27 : t309 = 1
    ·rw [if_pos c27] at H
     have c27b0 : (t309 == 1) = true := beq_iff_eq.mpr c27
     have c27b1 : (t309 != 1) = false := bne_eq_false_iff_eq.mpr c27
     clear c27
     replace H := Option.bind_eq_some_iff.mp H
     obtain ⟨⟨t323, t324, t325⟩, A280, H⟩ := H
     try dsimp only at H
     have A28 := Aside0.mk A280
     clear A280
     replace H := Option.bind_eq_some_iff.mp H
     obtain ⟨⟨t326, t327, t328⟩, A290, H⟩ := H
     try dsimp only at H
     have A29 := Aside0.mk A290
     clear A290
     replace H := Option.bind_eq_some_iff.mp H
     obtain ⟨⟨t329, t330, t333, t334⟩, A300, H⟩ := H
     try dsimp only at H
     have A30 := Aside0.mk A300
     clear A300
     have H' := Aside0.mk H
     clear H
     try go_wp2_with (first | ((with_reducible refine gate_callee (f := 96) rfl ?_); refine goesL_ (some 14) rfl rfl Try.func96 (by kernel_rfl) rfl #[.pointer (some ⟨g, 0, none⟩), .int .i64 5] rfl tL ?_; (with_reducible refine (spec_l1Below.calls g s0_0 x1001_1 x1002_1 5 t309 t310 t311 w0 _ ?side1 ?side2 A13.out).mono ?_); (case side1 => repeat (first | (with_reducible first | exact HI0.out | apply IsS139.alloc | apply IsS139.drewN | apply IsS139.drew | apply IsS139.set_1 | apply IsS139.set_2 | refine IsS139.far ?_ NB0_301.out _ | refine IsS139.far ?_ NB0_302.out _) | exact HI0.out)); (case side2 => repeat (first | (with_reducible first | exact HB.out | apply below_alloc | apply pw_below_drewN | apply below_drew1 | refine below_set ?_ (IsS139.ge HI0.out) | refine below_set ?_ GE301.out | refine below_set ?_ GE302.out) | exact HB.out)); rintro e w31 ⟨rfl, hi, hb, hk⟩; refine ⟨_, rfl, ?_⟩; replace HO_303001 := Aside0.mk (Kd.R_mono (Kd.R_keep (IsS139.apart (show IsS139 w0 _ g s0_0 x1001_1 x1002_1 from by repeat (first | (with_reducible first | exact HI0.out | apply IsS139.alloc | apply IsS139.drewN | apply IsS139.drew | apply IsS139.set_1 | apply IsS139.set_2 | refine IsS139.far ?_ NB0_301.out _ | refine IsS139.far ?_ NB0_302.out _) | exact HI0.out)) (tR HO_303001) (by decide)) hk (fun _ h => h.2)) (fun _ h => h.1)); replace BK301 := Aside0.mk (KeepBut.blk hk (g' := gb301) (o := .cells #[.int .i64 0, .slice none 0 0] 35 (0, 0)) (tK BK301) NB301_0.out (by simp)); replace BK302 := Aside0.mk (KeepBut.blk hk (g' := gb302) (o := .cells #[.int .i64 x303000_1, u303001] 35 (0, 0)) (tK BK302) NB302_0.out (by simp)); replace HK := Aside0.mk (KeepBut.trans (by repeat (first | (with_reducible first | exact HK.out | apply KeepBut.set_ | apply keep_drewN | apply keep_drew | apply keep_alloc | refine keep_far ?_ GW301.out _ | refine keep_far ?_ GW302.out _) | exact HK.out)) hk (.inl rfl)); replace HB := Aside0.mk (hb); replace HI0 := Aside0.mk (hi); (try clear hb); (try clear hb2); (try clear hk); (try clear hi)))
     replace HO_303001 := Aside0.mk (Kd.R_drew HO_303001.out)
     replace BK301 := Aside0.mk (blk_drew BK301.out)
     replace BK302 := Aside0.mk (blk_drew BK302.out)
     replace HI0 := Aside0.mk (IsS139.drew HI0.out)
     replace HK := Aside0.mk (keep_drew HK.out)
     replace HB := Aside0.mk (below_drew1 HB.out)
     refine start_ (n := 12) (S := fun w' => w'.cell? ⟨gb302, 0, none⟩ = some (.int .i64 x303000_1) ∧ w'.cell? ⟨gb302, 1, none⟩ = some (u303001)) (ds := [11]) (bm 12 0) (by kernel_rfl) rfl (by kernel_rfl) tH (fun hHeld => ?_); refine with_tabW spec_l28List.tab10 spec_l28List.bits10 (fun HT_ HW_ => ?_)
     generalize w31.drew = w32 at HO_303001 BK301 BK302 HI0 HK HB hHeld ⊢
     refine pI 1 47 (bm 12 2) ?_
     refine pI 3 49 (bm 12 10) ?_
     refine pT 0 46 (bm 12 11) hHeld ?_
     refine one_ (i := 2) (N := some 48) (bm 12 15) rfl rfl (one_of HT_.out (by kernel_rfl)) (by decide) (fun K hK => ?_)
     refine goes_ Try.func96 (by kernel_rfl) rfl #[.pointer (some ⟨g, 0, none⟩), .int .i64 6] (by rfl) rfl rfl tL ?_
     with_reducible refine (spec_l1Below.calls g s0_0 t310 t311 6 t323 t324 t325 w0 _ ?side1 ?side2 A28.out).mono ?_
     (case side1 => repeat (first | (with_reducible first | exact HI0.out | apply IsS139.alloc | apply IsS139.drewN | apply IsS139.drew | apply IsS139.set_1 | apply IsS139.set_2 | refine IsS139.far ?_ NB0_301.out _ | refine IsS139.far ?_ NB0_302.out _) | exact HI0.out))
     (case side2 => repeat (first | (with_reducible first | exact HB.out | apply below_alloc | apply pw_below_drewN | apply below_drew1 | refine below_set ?_ (IsS139.ge HI0.out) | refine below_set ?_ GE301.out | refine below_set ?_ GE302.out) | exact HB.out))
     rintro e w33 ⟨rfl, hi, hb, hk⟩
     refine ⟨_, rfl, ?_⟩
     replace HO_303001 := Aside0.mk (Kd.R_mono (Kd.R_keep (IsS139.apart (show IsS139 w0 _ g s0_0 t310 t311 from by repeat (first | (with_reducible first | exact HI0.out | apply IsS139.alloc | apply IsS139.drewN | apply IsS139.drew | apply IsS139.set_1 | apply IsS139.set_2 | refine IsS139.far ?_ NB0_301.out _ | refine IsS139.far ?_ NB0_302.out _) | exact HI0.out)) (tR HO_303001) (by decide)) hk (fun _ h => h.2)) (fun _ h => h.1))
     replace BK301 := Aside0.mk (KeepBut.blk hk (g' := gb301) (o := .cells #[.int .i64 0, .slice none 0 0] 35 (0, 0)) (tK BK301) NB301_0.out (by simp))
     replace BK302 := Aside0.mk (KeepBut.blk hk (g' := gb302) (o := .cells #[.int .i64 x303000_1, u303001] 35 (0, 0)) (tK BK302) NB302_0.out (by simp))
     replace HK := Aside0.mk (KeepBut.trans (by repeat (first | (with_reducible first | exact HK.out | apply KeepBut.set_ | apply keep_drewN | apply keep_drew | apply keep_alloc | refine keep_far ?_ GW301.out _ | refine keep_far ?_ GW302.out _) | exact HK.out)) hk (.inl rfl))
     replace HB := Aside0.mk (hb)
     replace HI0 := Aside0.mk (hi)
     (try clear hb)
     (try clear hb2)
     (try clear hk)
     (try clear hi)
     refine hK.out _ _ tH (fun hHeld => ?_)
     clear hK K
     refine norm_ (tV : Act.put _ (some 48) _ = _) ?_
     refine one_ (i := 4) (N := some 50) (bm 12 31) rfl rfl (one_of HT_.out (by kernel_rfl)) (by decide) (fun K hK => ?_)
     refine goes_ Try.func96 (by kernel_rfl) rfl #[.pointer (some ⟨g, 0, none⟩), .int .i64 120] (by rfl) rfl rfl tL ?_
     with_reducible refine (spec_l1Below.calls g s0_0 t324 t325 120 t326 t327 t328 w0 _ ?side1 ?side2 A29.out).mono ?_
     (case side1 => repeat (first | (with_reducible first | exact HI0.out | apply IsS139.alloc | apply IsS139.drewN | apply IsS139.drew | apply IsS139.set_1 | apply IsS139.set_2 | refine IsS139.far ?_ NB0_301.out _ | refine IsS139.far ?_ NB0_302.out _) | exact HI0.out))
     (case side2 => repeat (first | (with_reducible first | exact HB.out | apply below_alloc | apply pw_below_drewN | apply below_drew1 | refine below_set ?_ (IsS139.ge HI0.out) | refine below_set ?_ GE301.out | refine below_set ?_ GE302.out) | exact HB.out))
     rintro e w34 ⟨rfl, hi, hb, hk⟩
     refine ⟨_, rfl, ?_⟩
     replace HO_303001 := Aside0.mk (Kd.R_mono (Kd.R_keep (IsS139.apart (show IsS139 w0 _ g s0_0 t324 t325 from by repeat (first | (with_reducible first | exact HI0.out | apply IsS139.alloc | apply IsS139.drewN | apply IsS139.drew | apply IsS139.set_1 | apply IsS139.set_2 | refine IsS139.far ?_ NB0_301.out _ | refine IsS139.far ?_ NB0_302.out _) | exact HI0.out)) (tR HO_303001) (by decide)) hk (fun _ h => h.2)) (fun _ h => h.1))
     replace BK301 := Aside0.mk (KeepBut.blk hk (g' := gb301) (o := .cells #[.int .i64 0, .slice none 0 0] 35 (0, 0)) (tK BK301) NB301_0.out (by simp))
     replace BK302 := Aside0.mk (KeepBut.blk hk (g' := gb302) (o := .cells #[.int .i64 x303000_1, u303001] 35 (0, 0)) (tK BK302) NB302_0.out (by simp))
     replace HK := Aside0.mk (KeepBut.trans (by repeat (first | (with_reducible first | exact HK.out | apply KeepBut.set_ | apply keep_drewN | apply keep_drew | apply keep_alloc | refine keep_far ?_ GW301.out _ | refine keep_far ?_ GW302.out _) | exact HK.out)) hk (.inl rfl))
     replace HB := Aside0.mk (hb)
     replace HI0 := Aside0.mk (hi)
     (try clear hb)
     (try clear hb2)
     (try clear hk)
     (try clear hi)
     obtain ⟨Ao35, co35, eo35⟩ := Kd.R_slice HO_303001.out
     (first | subst eo35 | (injection eo35 with f1_ f2_ f3_; have f4_ := f1_.symm; have f5_ := f3_.symm; clear f1_ f2_ f3_; subst f4_; subst f5_))
     refine hK.out _ _ tH (fun hHeld => ?_)
     clear hK K
     refine norm_ (tV : Act.put _ (some 50) _ = _) ?_
     refine pI 5 51 (bm 12 63) ?_
     refine one_ (i := 6) (N := some 52) (bm 12 127) rfl rfl (one_of HT_.out (by kernel_rfl)) (by decide) (fun K hK => ?_)
     refine goes_ Try.func21 (by kernel_rfl) rfl #[.agg #[.int .i64 x303000_1, .slice Ao35 x303001_1.length co35], .int .i64 t323, .int .i64 (wrap64 (20 + t326))] (by rfl) rfl rfl tL ?_
     with_reducible refine (spec_CompleteClaim.calls k1 x303000_1 _ _ x303001_1 t323 (wrap64 (20 + t326)) t329 t330 t333 t334 _ ?side1 ?side2 A30.out).mono ?_
     (case side1 => exact tC (Kd.R_reads' HO_303001.out).2.2)
     (case side2 => exact (Kd.R_reads' HO_303001.out).2.1)
     rintro e w36 ⟨v331, rfl, ho0, hb⟩
     refine ⟨_, rfl, ?_⟩
     have HO332 := Aside0.mk (Kd.R_lower (Kd.R_new' ho0 (Kd.R_lt (tR HO_303001))) (keep_size (w := w) (g := g) (row := none) (by repeat (first | (with_reducible first | exact HK.out | apply KeepBut.set_ | apply keep_drewN | apply keep_drew | apply keep_alloc | refine keep_far ?_ GW301.out _ | refine keep_far ?_ GW302.out _) | exact HK.out))))
     replace HO_303001 := Aside0.mk (Kd.R_elder' (tR HO_303001) (Kd.R_base ho0) hb)
     replace BK301 := bB BK301 hb
     replace BK302 := bB BK302 hb
     replace HK := Aside0.mk (KeepBut.trans (by repeat (first | (with_reducible first | exact HK.out | apply KeepBut.set_ | apply keep_drewN | apply keep_drew | apply keep_alloc | refine keep_far ?_ GW301.out _ | refine keep_far ?_ GW302.out _) | exact HK.out)) (KeepBut.of_below hb g none) (.inl rfl))
     replace HB := Aside0.mk (below_step (by repeat (first | (with_reducible first | exact HB.out | apply below_alloc | apply pw_below_drewN | apply below_drew1 | refine below_set ?_ (IsS139.ge HI0.out) | refine below_set ?_ GE301.out | refine below_set ?_ GE302.out) | exact HB.out)) hb)
     replace HI0 := Aside0.mk (IsS139.below (by repeat (first | (with_reducible first | exact HI0.out | apply IsS139.alloc | apply IsS139.drewN | apply IsS139.drew | apply IsS139.set_1 | apply IsS139.set_2 | refine IsS139.far ?_ NB0_301.out _ | refine IsS139.far ?_ NB0_302.out _) | exact HI0.out)) hb)
     (try clear hb)
     (try clear hb2)
     (try clear hk)
     (try clear hi)
     (try clear ho0)
     obtain ⟨Ao38, co38, eo38⟩ := Kd.R_slice HO332.out
     (first | subst eo38 | (injection eo38 with f1_ f2_ f3_; have f4_ := f1_.symm; have f5_ := f3_.symm; clear f1_ f2_ f3_; subst f4_; subst f5_))
     refine hK.out _ _ tH (fun hHeld => ?_)
     clear hK K
     refine norm_ (tV : Act.put _ (some 52) _ = _) ?_
     refine pI 7 45 (bm 12 255) ?_
     refine pI 8 53 (bm 12 511) ?_
     refine pI 9 54 (bm 12 1023) ?_
     refine pI 10 55 (bm 12 2047) ?_
     refine last_ (i := 11) (N := none) (bm 12 4095) rfl rfl (one_of HT_.out (by kernel_rfl)) (by decide) (fun K hK => ?_)
     have hs37 : w36.cell? ⟨gb302, 0, none⟩ = some (.int .i64 x303000_1) := (blk_cell BK302.out 0).trans rfl
     have hfs37 := blk_frozen BK302.out 0
     have hns37_0 := NB301_302.out
     have hms37_0 := NB302_301.out
     have hs39 : w36.cell? ⟨gb302, 1, none⟩ = some (.slice Ao35 x303001_1.length co35) := (blk_cell BK302.out 1).trans rfl
     have hfs39 := blk_frozen BK302.out 1
     have hns39_0 := NB301_302.out
     have hms39_0 := NB302_301.out
     refine skip_ (w1 := ?_) (by rfl) rfl ?_ ?_
     rotate_left
     ·go_simp
      rfl
     refine hK.out _ _ ?_
     clear hK K
     refine done_ (done_of HT_.out (by kernel_rfl)) ?_
     try go_wp2
     go_roundg k1
     case measure => have := HK1.out; omega
     case rel => exact ⟨(wrap64 (x4_1 - 1)), (t327), (t328), (t329), (t330), (.slice Ao38 t330.length co38), tS, H', ⟨tI⟩, ⟨by (with_reducible repeat (first | apply Kd.R_alloc | apply Kd.R_drewN | apply Kd.R_drew)); exact Kd.R_mono (Kd.R_far (p := ⟨gb302, 1, none⟩) (Kd.R_far (p := ⟨gb302, 0, none⟩) (Kd.R_types HO332.out BK302.out (by decide)) (fun _ hk => hk.2) (.int .i64 t329)) (fun _ hk => hk.2) (.slice Ao38 t330.length co38)) (fun _ hk => trivial)⟩, ⟨kF NB301_302 BK301⟩, ⟨by (with_reducible repeat (first | refine blk_drewN ?_ _ | refine blk_drew ?_ | refine blk_alloc ?_ _)); refine blk_put (cs := #[.int .i64 t329, .slice Ao35 x303001_1.length co35]) ?_ 1 _ rfl; (with_reducible repeat (first | refine blk_drewN ?_ _ | refine blk_drew ?_ | refine blk_alloc ?_ _)); refine blk_put (cs := #[.int .i64 x303000_1, .slice Ao35 x303001_1.length co35]) ?_ 0 _ rfl; (with_reducible repeat (first | refine blk_drewN ?_ _ | refine blk_drew ?_ | refine blk_alloc ?_ _)); exact BK302.out⟩, ⟨by repeat (first | (with_reducible first | exact HI0.out | apply IsS139.alloc | apply IsS139.drewN | apply IsS139.drew | apply IsS139.set_1 | apply IsS139.set_2 | refine IsS139.far ?_ NB0_301.out _ | refine IsS139.far ?_ NB0_302.out _) | exact HI0.out)⟩, ⟨by repeat (first | (with_reducible first | exact HK.out | apply KeepBut.set_ | apply keep_drewN | apply keep_drew | apply keep_alloc | refine keep_far ?_ GW301.out _ | refine keep_far ?_ GW302.out _) | exact HK.out)⟩, ⟨by repeat (first | (with_reducible first | exact HB.out | apply below_alloc | apply pw_below_drewN | apply below_drew1 | refine below_set ?_ (IsS139.ge HI0.out) | refine below_set ?_ GE301.out | refine below_set ?_ GE302.out) | exact HB.out)⟩⟩
    rw [if_neg c27] at H
    have c27b0 : (t309 == 1) = false := beq_eq_false_iff_ne.mpr c27
    have c27b1 : (t309 != 1) = true := bne_iff_ne.mpr c27
    replace H := Option.bind_eq_some_iff.mp H
    obtain ⟨⟨t335, t336, t337⟩, A400, H⟩ := H
    try dsimp only at H
    have A40 := Aside0.mk A400
    clear A400
    replace H := Option.bind_eq_some_iff.mp H
    obtain ⟨⟨t338, t339, t340⟩, A410, H⟩ := H
    try dsimp only at H
    have A41 := Aside0.mk A410
    clear A410
    replace H := Option.bind_eq_some_iff.mp H
    obtain ⟨t341, A420, H⟩ := H
    try dsimp only at H
    have A42 := Aside0.mk A420
    clear A420
    replace H := Option.bind_eq_some_iff.mp H
    obtain ⟨⟨t342, t343, t344⟩, A430, H⟩ := H
    try dsimp only at H
    have A43 := Aside0.mk A430
    clear A430
    obtain ⟨y345, hy345⟩ : ∃ y_ : List Int, y_ = (([30, 90] : List Int)) := ⟨_, rfl⟩
    replace H : ((spec_l1Int.f s0_0 t343 t344 y345).bind fun bt348 => ((spec_FileClaim.f k1 x303000_1 x303001_1 t335 t341 t342 bt348.1).bind fun bt351 => (spec_l28List.l0 k1 (wrap64 (x4_1 - 1)) s0_0 bt348.2.1 bt348.2.2 bt351.1 bt351.2.1))) = some (r1, r2, r3, r4) := by first | (rw [hy345]; with_reducible exact H) | (have H2_ := (Option.bind_some _ _).symm.trans H; rw [hy345]; with_reducible exact H2_) | (have H2_ := (Option.bind_some _ _).symm.trans H; with_reducible exact H2_) | with_reducible exact H | (rw [hy345]; exact H) | exact H
    have Ny345 := Aside0.mk hy345
    clear hy345
    replace H := Option.bind_eq_some_iff.mp H
    obtain ⟨⟨t348, t349, t350⟩, A440, H⟩ := H
    try dsimp only at H
    have A44 := Aside0.mk A440
    clear A440
    replace H := Option.bind_eq_some_iff.mp H
    obtain ⟨⟨t351, t352, t355⟩, A450, H⟩ := H
    try dsimp only at H
    have A45 := Aside0.mk A450
    clear A450
    have H' := Aside0.mk H
    clear H
    try go_wp2_with (first | ((with_reducible refine gate_callee (f := 96) rfl ?_); refine goesL_ (some 14) rfl rfl Try.func96 (by kernel_rfl) rfl #[.pointer (some ⟨g, 0, none⟩), .int .i64 5] rfl tL ?_; (with_reducible refine (spec_l1Below.calls g s0_0 x1001_1 x1002_1 5 t309 t310 t311 w0 _ ?side1 ?side2 A13.out).mono ?_); (case side1 => repeat (first | (with_reducible first | exact HI0.out | apply IsS139.alloc | apply IsS139.drewN | apply IsS139.drew | apply IsS139.set_1 | apply IsS139.set_2 | refine IsS139.far ?_ NB0_301.out _ | refine IsS139.far ?_ NB0_302.out _) | exact HI0.out)); (case side2 => repeat (first | (with_reducible first | exact HB.out | apply below_alloc | apply pw_below_drewN | apply below_drew1 | refine below_set ?_ (IsS139.ge HI0.out) | refine below_set ?_ GE301.out | refine below_set ?_ GE302.out) | exact HB.out)); rintro e w46 ⟨rfl, hi, hb, hk⟩; refine ⟨_, rfl, ?_⟩; replace HO_303001 := Aside0.mk (Kd.R_mono (Kd.R_keep (IsS139.apart (show IsS139 w0 _ g s0_0 x1001_1 x1002_1 from by repeat (first | (with_reducible first | exact HI0.out | apply IsS139.alloc | apply IsS139.drewN | apply IsS139.drew | apply IsS139.set_1 | apply IsS139.set_2 | refine IsS139.far ?_ NB0_301.out _ | refine IsS139.far ?_ NB0_302.out _) | exact HI0.out)) (tR HO_303001) (by decide)) hk (fun _ h => h.2)) (fun _ h => h.1)); replace BK301 := Aside0.mk (KeepBut.blk hk (g' := gb301) (o := .cells #[.int .i64 0, .slice none 0 0] 35 (0, 0)) (tK BK301) NB301_0.out (by simp)); replace BK302 := Aside0.mk (KeepBut.blk hk (g' := gb302) (o := .cells #[.int .i64 x303000_1, u303001] 35 (0, 0)) (tK BK302) NB302_0.out (by simp)); replace HK := Aside0.mk (KeepBut.trans (by repeat (first | (with_reducible first | exact HK.out | apply KeepBut.set_ | apply keep_drewN | apply keep_drew | apply keep_alloc | refine keep_far ?_ GW301.out _ | refine keep_far ?_ GW302.out _) | exact HK.out)) hk (.inl rfl)); replace HB := Aside0.mk (hb); replace HI0 := Aside0.mk (hi); (try clear hb); (try clear hb2); (try clear hk); (try clear hi); obtain ⟨Ao47, co47, eo47⟩ := Kd.R_slice HO_303001.out; subst eo47))
    replace HO_303001 := Aside0.mk (Kd.R_drew HO_303001.out)
    replace BK301 := Aside0.mk (blk_drew BK301.out)
    replace BK302 := Aside0.mk (blk_drew BK302.out)
    replace HI0 := Aside0.mk (IsS139.drew HI0.out)
    replace HK := Aside0.mk (keep_drew HK.out)
    replace HB := Aside0.mk (below_drew1 HB.out)
    refine start_ (n := 17) (S := fun w' => w'.cell? ⟨gb302, 0, none⟩ = some (.int .i64 x303000_1) ∧ w'.cell? ⟨gb302, 1, none⟩ = some (.slice Ao47 x303001_1.length co47)) (ds := [16]) (bm 17 0) (by kernel_rfl) rfl (by kernel_rfl) tH (fun hHeld => ?_); refine with_tabW spec_l28List.tab6 spec_l28List.bits6 (fun HT_ HW_ => ?_)
    generalize w46.drew = w48 at HO_303001 BK301 BK302 HI0 HK HB hHeld ⊢
    refine pI 1 17 (bm 17 2) ?_
    refine pI 3 19 (bm 17 10) ?_
    refine pI 7 23 (bm 17 138) ?_
    refine pI 9 25 (bm 17 650) ?_
    refine pT 0 16 (bm 17 651) hHeld ?_
    refine join_ (σ := Value) 6 (bm 17 2047) (fun s_ => [(18, .int .i64 t335), (20, .int .i64 t338), (22, .int .i64 t341), (24, .int .i64 t342), (26, s_), (21, .int .i64 (wrap64 (1 + t338)))]) (fun s_ w' => (w'.cell? ⟨gb302, 0, none⟩ = some (.int .i64 x303000_1) ∧ w'.cell? ⟨gb302, 1, none⟩ = some (.slice Ao47 x303001_1.length co47)) ∧ (Kd.R (Kd.int .i64) 3 w' w.heap.size (fun _ => True) s_ y345) ∧ (Kd.R k104 104 w' w.heap.size (fun _ => True) (.slice Ao47 x303001_1.length co47) x303001_1) ∧ (w'.heap[gb301]? = some (.cells #[.int .i64 0, .slice none 0 0] 35 (0, 0))) ∧ (w'.heap[gb302]? = some (.cells #[.int .i64 x303000_1, .slice Ao47 x303001_1.length co47] 35 (0, 0))) ∧ (IsS139 w0 w' g s0_0 t343 t344) ∧ (KeepBut w w' g none) ∧ (Below w0.heap.size w0 w')) ?_ ?_
    ·rintro v346 w54 ⟨hHeld, h0_, h1_, h2_, h3_, h4_, h5_, h6_⟩
     have HO347 := Aside0.mk h0_
     replace HO_303001 := Aside0.mk h1_
     replace BK301 := Aside0.mk h2_
     replace BK302 := Aside0.mk h3_
     replace HI0 := Aside0.mk h4_
     replace HK := Aside0.mk h5_
     replace HB := Aside0.mk h6_
     clear h0_ h1_ h2_ h3_ h4_ h5_ h6_
     obtain ⟨Ao55, co55, eo55⟩ := Kd.R_slice HO347.out
     (first | subst eo55 | (injection eo55 with f1_ f2_ f3_; have f4_ := f1_.symm; have f5_ := f3_.symm; clear f1_ f2_ f3_; subst f4_; subst f5_))
     refine norm_ tM ?_
     refine one_ (i := 11) (N := some 27) (bm 17 4095) rfl rfl (one_of HT_.out (by kernel_rfl)) (by decide) (fun K hK => ?_)
     refine goes_ Try.func112 (by kernel_rfl) rfl #[.pointer (some ⟨g, 0, none⟩), .slice Ao55 y345.length co55] (by rfl) rfl rfl tL ?_
     with_reducible refine (spec_l1Int.calls g s0_0 t343 t344 _ _ y345 t348 t349 t350 w0 _ ?side1 ?side2 ?side3 ?side4 ?side5 A44.out).mono ?_
     (case side1 => repeat (first | (with_reducible first | exact HI0.out | apply IsS139.alloc | apply IsS139.drewN | apply IsS139.drew | apply IsS139.set_1 | apply IsS139.set_2 | refine IsS139.far ?_ NB0_301.out _ | refine IsS139.far ?_ NB0_302.out _) | exact HI0.out))
     (case side2 => repeat (first | (with_reducible first | exact HB.out | apply below_alloc | apply pw_below_drewN | apply below_drew1 | refine below_set ?_ (IsS139.ge HI0.out) | refine below_set ?_ GE301.out | refine below_set ?_ GE302.out) | exact HB.out))
     (case side3 => exact tC (Kd.R_reads' HO347.out).2.2)
     (case side4 => exact (Kd.R_reads' HO347.out).2.1)
     (case side5 => exact far_slice (IsS139.own_ne HI0.out HO347.out (by decide)))
     rintro e w56 ⟨rfl, hi, hb, hk⟩
     refine ⟨_, rfl, ?_⟩
     replace HO_303001 := Aside0.mk (Kd.R_mono (Kd.R_keep (IsS139.apart (show IsS139 w0 _ g s0_0 t343 t344 from by repeat (first | (with_reducible first | exact HI0.out | apply IsS139.alloc | apply IsS139.drewN | apply IsS139.drew | apply IsS139.set_1 | apply IsS139.set_2 | refine IsS139.far ?_ NB0_301.out _ | refine IsS139.far ?_ NB0_302.out _) | exact HI0.out)) (tR HO_303001) (by decide)) hk (fun _ h => h.2)) (fun _ h => h.1))
     replace BK301 := Aside0.mk (KeepBut.blk hk (g' := gb301) (o := .cells #[.int .i64 0, .slice none 0 0] 35 (0, 0)) (tK BK301) NB301_0.out (by simp))
     replace BK302 := Aside0.mk (KeepBut.blk hk (g' := gb302) (o := .cells #[.int .i64 x303000_1, .slice Ao47 x303001_1.length co47] 35 (0, 0)) (tK BK302) NB302_0.out (by simp))
     replace HO347 := Aside0.mk (Kd.R_mono (Kd.R_keep (IsS139.apart (show IsS139 w0 _ g s0_0 t343 t344 from by repeat (first | (with_reducible first | exact HI0.out | apply IsS139.alloc | apply IsS139.drewN | apply IsS139.drew | apply IsS139.set_1 | apply IsS139.set_2 | refine IsS139.far ?_ NB0_301.out _ | refine IsS139.far ?_ NB0_302.out _) | exact HI0.out)) (tR HO347) (by decide)) hk (fun _ h => h.2)) (fun _ h => h.1))
     replace HK := Aside0.mk (KeepBut.trans (by repeat (first | (with_reducible first | exact HK.out | apply KeepBut.set_ | apply keep_drewN | apply keep_drew | apply keep_alloc | refine keep_far ?_ GW301.out _ | refine keep_far ?_ GW302.out _) | exact HK.out)) hk (.inl rfl))
     replace HB := Aside0.mk (hb)
     replace HI0 := Aside0.mk (hi)
     (try clear hb)
     (try clear hb2)
     (try clear hk)
     (try clear hi)
     refine hK.out _ _ tH (fun hHeld => ?_)
     clear hK K
     refine norm_ (tV : Act.put _ (some 27) _ = _) ?_
     refine one_ (i := 12) (N := some 28) (bm 17 8191) rfl rfl (one_of HT_.out (by kernel_rfl)) (by decide) (fun K hK => ?_)
     refine goes_ Try.func42 (by kernel_rfl) rfl #[.agg #[.int .i64 x303000_1, .slice Ao47 x303001_1.length co47], .int .i64 t335, .int .i64 t341, .int .i64 t342, .int .i64 t348] (by rfl) rfl rfl tL ?_
     with_reducible refine (spec_FileClaim.calls k1 x303000_1 _ _ x303001_1 t335 t341 t342 t348 t351 t352 t355 _ ?side1 ?side2 A45.out).mono ?_
     (case side1 => exact tC (Kd.R_reads' HO_303001.out).2.2)
     (case side2 => exact (Kd.R_reads' HO_303001.out).2.1)
     rintro e w57 ⟨v353, rfl, ho0, hb⟩
     refine ⟨_, rfl, ?_⟩
     replace HO347 := Aside0.mk (Kd.R_below (tR HO347) hb)
     have HO354 := Aside0.mk (Kd.R_lower (Kd.R_new' ho0 (Kd.R_lt (tR HO_303001))) (keep_size (w := w) (g := g) (row := none) (by repeat (first | (with_reducible first | exact HK.out | apply KeepBut.set_ | apply keep_drewN | apply keep_drew | apply keep_alloc | refine keep_far ?_ GW301.out _ | refine keep_far ?_ GW302.out _) | exact HK.out))))
     replace HO_303001 := Aside0.mk (Kd.R_elder' (tR HO_303001) (Kd.R_base ho0) hb)
     replace BK301 := bB BK301 hb
     replace BK302 := bB BK302 hb
     replace HK := Aside0.mk (KeepBut.trans (by repeat (first | (with_reducible first | exact HK.out | apply KeepBut.set_ | apply keep_drewN | apply keep_drew | apply keep_alloc | refine keep_far ?_ GW301.out _ | refine keep_far ?_ GW302.out _) | exact HK.out)) (KeepBut.of_below hb g none) (.inl rfl))
     replace HB := Aside0.mk (below_step (by repeat (first | (with_reducible first | exact HB.out | apply below_alloc | apply pw_below_drewN | apply below_drew1 | refine below_set ?_ (IsS139.ge HI0.out) | refine below_set ?_ GE301.out | refine below_set ?_ GE302.out) | exact HB.out)) hb)
     replace HI0 := Aside0.mk (IsS139.below (by repeat (first | (with_reducible first | exact HI0.out | apply IsS139.alloc | apply IsS139.drewN | apply IsS139.drew | apply IsS139.set_1 | apply IsS139.set_2 | refine IsS139.far ?_ NB0_301.out _ | refine IsS139.far ?_ NB0_302.out _) | exact HI0.out)) hb)
     (try clear hb)
     (try clear hb2)
     (try clear hk)
     (try clear hi)
     (try clear ho0)
     obtain ⟨Ao59, co59, eo59⟩ := Kd.R_slice HO354.out
     (first | subst eo59 | (injection eo59 with f1_ f2_ f3_; have f4_ := f1_.symm; have f5_ := f3_.symm; clear f1_ f2_ f3_; subst f4_; subst f5_))
     refine hK.out _ _ tH (fun hHeld => ?_)
     clear hK K
     refine norm_ (tV : Act.put _ (some 28) _ = _) ?_
     refine pI 13 15 (bm 17 16383) ?_
     refine pI 14 29 (bm 17 32767) ?_
     refine pI 15 30 (bm 17 65535) ?_
     refine last_ (i := 16) (N := none) (bm 17 131071) rfl rfl (one_of HT_.out (by kernel_rfl)) (by decide) (fun K hK => ?_)
     have hs58 : w57.cell? ⟨gb302, 0, none⟩ = some (.int .i64 x303000_1) := (blk_cell BK302.out 0).trans rfl
     have hfs58 := blk_frozen BK302.out 0
     have hns58_0 := NB301_302.out
     have hms58_0 := NB302_301.out
     have hs60 : w57.cell? ⟨gb302, 1, none⟩ = some (.slice Ao47 x303001_1.length co47) := (blk_cell BK302.out 1).trans rfl
     have hfs60 := blk_frozen BK302.out 1
     have hns60_0 := NB301_302.out
     have hms60_0 := NB302_301.out
     refine skip_ (w1 := ?_) (by rfl) rfl ?_ ?_
     rotate_left
     ·go_simp
      rfl
     refine hK.out _ _ ?_
     clear hK K
     refine done_ (done_of HT_.out (by kernel_rfl)) ?_
     try go_wp2
     go_roundg k1
     case measure => have := HK1.out; omega
     case rel => exact ⟨(wrap64 (x4_1 - 1)), (t349), (t350), (t351), (t352), (.slice Ao59 t352.length co59), tS, H', ⟨tI⟩, ⟨by (with_reducible repeat (first | apply Kd.R_alloc | apply Kd.R_drewN | apply Kd.R_drew)); exact Kd.R_mono (Kd.R_far (p := ⟨gb302, 1, none⟩) (Kd.R_far (p := ⟨gb302, 0, none⟩) (Kd.R_types HO354.out BK302.out (by decide)) (fun _ hk => hk.2) (.int .i64 t351)) (fun _ hk => hk.2) (.slice Ao59 t352.length co59)) (fun _ hk => trivial)⟩, ⟨kF NB301_302 BK301⟩, ⟨by (with_reducible repeat (first | refine blk_drewN ?_ _ | refine blk_drew ?_ | refine blk_alloc ?_ _)); refine blk_put (cs := #[.int .i64 t351, .slice Ao47 x303001_1.length co47]) ?_ 1 _ rfl; (with_reducible repeat (first | refine blk_drewN ?_ _ | refine blk_drew ?_ | refine blk_alloc ?_ _)); refine blk_put (cs := #[.int .i64 x303000_1, .slice Ao47 x303001_1.length co47]) ?_ 0 _ rfl; (with_reducible repeat (first | refine blk_drewN ?_ _ | refine blk_drew ?_ | refine blk_alloc ?_ _)); exact BK302.out⟩, ⟨by repeat (first | (with_reducible first | exact HI0.out | apply IsS139.alloc | apply IsS139.drewN | apply IsS139.drew | apply IsS139.set_1 | apply IsS139.set_2 | refine IsS139.far ?_ NB0_301.out _ | refine IsS139.far ?_ NB0_302.out _) | exact HI0.out)⟩, ⟨by repeat (first | (with_reducible first | exact HK.out | apply KeepBut.set_ | apply keep_drewN | apply keep_drew | apply keep_alloc | refine keep_far ?_ GW301.out _ | refine keep_far ?_ GW302.out _) | exact HK.out)⟩, ⟨by repeat (first | (with_reducible first | exact HB.out | apply below_alloc | apply pw_below_drewN | apply below_drew1 | refine below_set ?_ (IsS139.ge HI0.out) | refine below_set ?_ GE301.out | refine below_set ?_ GE302.out) | exact HB.out)⟩⟩
    intro hJ2_4_6_8_10
    refine join_ (σ := Unit) 7 (bm 17 1023) (fun s_ => [(18, .int .i64 t335), (20, .int .i64 t338), (22, .int .i64 t341), (24, .int .i64 t342), (21, .int .i64 (wrap64 (1 + t338)))]) (fun s_ w' => (w'.cell? ⟨gb302, 0, none⟩ = some (.int .i64 x303000_1) ∧ w'.cell? ⟨gb302, 1, none⟩ = some (.slice Ao47 x303001_1.length co47)) ∧ (Kd.R k104 104 w' w.heap.size (fun _ => True) (.slice Ao47 x303001_1.length co47) x303001_1) ∧ (w'.heap[gb301]? = some (.cells #[.int .i64 0, .slice none 0 0] 35 (0, 0))) ∧ (w'.heap[gb302]? = some (.cells #[.int .i64 x303000_1, .slice Ao47 x303001_1.length co47] 35 (0, 0))) ∧ (IsS139 w0 w' g s0_0 t343 t344) ∧ (KeepBut w w' g none) ∧ (Below w0.heap.size w0 w')) ?_ ?_
    ·rintro _ w52 ⟨hHeld, h0_, h1_, h2_, h3_, h4_, h5_⟩
     replace HO_303001 := Aside0.mk h0_
     replace BK301 := Aside0.mk h1_
     replace BK302 := Aside0.mk h2_
     replace HI0 := Aside0.mk h3_
     replace HK := Aside0.mk h4_
     replace HB := Aside0.mk h5_
     clear h0_ h1_ h2_ h3_ h4_ h5_
     refine norm_ tM ?_
     refine one_ (i := 10) (N := some 26) (bm 17 2047) rfl rfl (one_of HT_.out (by kernel_rfl)) (by decide) (fun K hK => ?_)
     refine Kd.R_lit_step (Kd.int .i64) _ 3 ?hg (N := 26) ?hd (xs := ([30, 90] : List Int)) (inner := [.int .i64 30, .int .i64 90]) (ok := fun _ => True) (okp := fun _ => True) ?hr ?hp (fun _ hk => hk) trivial (Below.refl _ _) (Nat.le_refl _) (by simp) ?_; (case hd => rfl); (case hg => rfl); (case hr => exact tG); (case hp => exact (Reps.one (show Kd.M (Kd.int .i64) _ _ _ 30 [.int .i64 30] from rfl) (Reps.one (show Kd.M (Kd.int .i64) _ _ _ 90 [.int .i64 90] from rfl) (Reps.none _ _))))
     intro v346 w53 ho54 hb hg_ hnew_
     clear hg_ hnew_
     (first | rw [← Ny345.out] at ho54 | (simp only [Int.reduceToNat] at ho54; rw [← Ny345.out] at ho54))
     replace HO_303001 := Aside0.mk (Kd.R_below (tR HO_303001) hb)
     have HO347 := Aside0.mk (Kd.R_lower ho54 (keep_size (w := w) (g := g) (row := none) (by repeat (first | (with_reducible first | exact HK.out | apply KeepBut.set_ | apply keep_drewN | apply keep_drew | apply keep_alloc | refine keep_far ?_ GW301.out _ | refine keep_far ?_ GW302.out _) | exact HK.out))))
     replace BK301 := bB BK301 hb
     replace BK302 := bB BK302 hb
     replace HK := Aside0.mk (KeepBut.trans (by repeat (first | (with_reducible first | exact HK.out | apply KeepBut.set_ | apply keep_drewN | apply keep_drew | apply keep_alloc | refine keep_far ?_ GW301.out _ | refine keep_far ?_ GW302.out _) | exact HK.out)) (KeepBut.of_below hb g none) (.inl rfl))
     replace HB := Aside0.mk (below_step (by repeat (first | (with_reducible first | exact HB.out | apply below_alloc | apply pw_below_drewN | apply below_drew1 | refine below_set ?_ (IsS139.ge HI0.out) | refine below_set ?_ GE301.out | refine below_set ?_ GE302.out) | exact HB.out)) hb)
     replace HI0 := Aside0.mk (IsS139.below (by repeat (first | (with_reducible first | exact HI0.out | apply IsS139.alloc | apply IsS139.drewN | apply IsS139.drew | apply IsS139.set_1 | apply IsS139.set_2 | refine IsS139.far ?_ NB0_301.out _ | refine IsS139.far ?_ NB0_302.out _) | exact HI0.out)) hb)
     clear hb ho54
     refine hK.out _ _ tH (fun hHeld => ?_)
     clear hK K
     refine norm_ (tV : Act.put _ (some 26) _ = _) ?_
     exact norm_ tM (hJ2_4_6_8_10 (v346) _ ⟨hHeld, tR HO347, tR HO_303001, tK BK301, tK BK302, (by repeat (first | (with_reducible first | exact HI0.out | apply IsS139.alloc | apply IsS139.drewN | apply IsS139.drew | apply IsS139.set_1 | apply IsS139.set_2 | refine IsS139.far ?_ NB0_301.out _ | refine IsS139.far ?_ NB0_302.out _) | exact HI0.out)), (by repeat (first | (with_reducible first | exact HK.out | apply KeepBut.set_ | apply keep_drewN | apply keep_drew | apply keep_alloc | refine keep_far ?_ GW301.out _ | refine keep_far ?_ GW302.out _) | exact HK.out)), (by repeat (first | (with_reducible first | exact HB.out | apply below_alloc | apply pw_below_drewN | apply below_drew1 | refine below_set ?_ (IsS139.ge HI0.out) | refine below_set ?_ GE301.out | refine below_set ?_ GE302.out) | exact HB.out))⟩)
    intro hJ2_4_6_8
    refine join_ (σ := Value) 7 (bm 17 1791) (fun s_ => [(18, .int .i64 t335), (20, .int .i64 t338), (22, .int .i64 t341), (26, s_), (21, .int .i64 (wrap64 (1 + t338)))]) (fun s_ w' => (w'.cell? ⟨gb302, 0, none⟩ = some (.int .i64 x303000_1) ∧ w'.cell? ⟨gb302, 1, none⟩ = some (.slice Ao47 x303001_1.length co47)) ∧ (Kd.R (Kd.int .i64) 3 w' w.heap.size (fun _ => True) s_ y345) ∧ (Kd.R k104 104 w' w.heap.size (fun _ => True) (.slice Ao47 x303001_1.length co47) x303001_1) ∧ (w'.heap[gb301]? = some (.cells #[.int .i64 0, .slice none 0 0] 35 (0, 0))) ∧ (w'.heap[gb302]? = some (.cells #[.int .i64 x303000_1, .slice Ao47 x303001_1.length co47] 35 (0, 0))) ∧ (IsS139 w0 w' g s0_0 t339 t340) ∧ (KeepBut w w' g none) ∧ (Below w0.heap.size w0 w')) ?_ ?_
    ·rintro v346 w53 ⟨hHeld, h0_, h1_, h2_, h3_, h4_, h5_, h6_⟩
     have HO347 := Aside0.mk h0_
     replace HO_303001 := Aside0.mk h1_
     replace BK301 := Aside0.mk h2_
     replace BK302 := Aside0.mk h3_
     replace HI0 := Aside0.mk h4_
     replace HK := Aside0.mk h5_
     replace HB := Aside0.mk h6_
     clear h0_ h1_ h2_ h3_ h4_ h5_ h6_
     refine norm_ tM ?_
     refine one_ (i := 8) (N := some 24) (bm 17 2047) rfl rfl (one_of HT_.out (by kernel_rfl)) (by decide) (fun K hK => ?_)
     refine goes_ Try.func96 (by kernel_rfl) rfl #[.pointer (some ⟨g, 0, none⟩), .int .i64 30] (by rfl) rfl rfl tL ?_
     with_reducible refine (spec_l1Below.calls g s0_0 t339 t340 30 t342 t343 t344 w0 _ ?side1 ?side2 A43.out).mono ?_
     (case side1 => repeat (first | (with_reducible first | exact HI0.out | apply IsS139.alloc | apply IsS139.drewN | apply IsS139.drew | apply IsS139.set_1 | apply IsS139.set_2 | refine IsS139.far ?_ NB0_301.out _ | refine IsS139.far ?_ NB0_302.out _) | exact HI0.out))
     (case side2 => repeat (first | (with_reducible first | exact HB.out | apply below_alloc | apply pw_below_drewN | apply below_drew1 | refine below_set ?_ (IsS139.ge HI0.out) | refine below_set ?_ GE301.out | refine below_set ?_ GE302.out) | exact HB.out))
     rintro e w54 ⟨rfl, hi, hb, hk⟩
     refine ⟨_, rfl, ?_⟩
     replace HO_303001 := Aside0.mk (Kd.R_mono (Kd.R_keep (IsS139.apart (show IsS139 w0 _ g s0_0 t339 t340 from by repeat (first | (with_reducible first | exact HI0.out | apply IsS139.alloc | apply IsS139.drewN | apply IsS139.drew | apply IsS139.set_1 | apply IsS139.set_2 | refine IsS139.far ?_ NB0_301.out _ | refine IsS139.far ?_ NB0_302.out _) | exact HI0.out)) (tR HO_303001) (by decide)) hk (fun _ h => h.2)) (fun _ h => h.1))
     replace BK301 := Aside0.mk (KeepBut.blk hk (g' := gb301) (o := .cells #[.int .i64 0, .slice none 0 0] 35 (0, 0)) (tK BK301) NB301_0.out (by simp))
     replace BK302 := Aside0.mk (KeepBut.blk hk (g' := gb302) (o := .cells #[.int .i64 x303000_1, .slice Ao47 x303001_1.length co47] 35 (0, 0)) (tK BK302) NB302_0.out (by simp))
     replace HO347 := Aside0.mk (Kd.R_mono (Kd.R_keep (IsS139.apart (show IsS139 w0 _ g s0_0 t339 t340 from by repeat (first | (with_reducible first | exact HI0.out | apply IsS139.alloc | apply IsS139.drewN | apply IsS139.drew | apply IsS139.set_1 | apply IsS139.set_2 | refine IsS139.far ?_ NB0_301.out _ | refine IsS139.far ?_ NB0_302.out _) | exact HI0.out)) (tR HO347) (by decide)) hk (fun _ h => h.2)) (fun _ h => h.1))
     replace HK := Aside0.mk (KeepBut.trans (by repeat (first | (with_reducible first | exact HK.out | apply KeepBut.set_ | apply keep_drewN | apply keep_drew | apply keep_alloc | refine keep_far ?_ GW301.out _ | refine keep_far ?_ GW302.out _) | exact HK.out)) hk (.inl rfl))
     replace HB := Aside0.mk (hb)
     replace HI0 := Aside0.mk (hi)
     (try clear hb)
     (try clear hb2)
     (try clear hk)
     (try clear hi)
     refine hK.out _ _ tH (fun hHeld => ?_)
     clear hK K
     refine norm_ (tV : Act.put _ (some 24) _ = _) ?_
     exact norm_ tM (hJ2_4_6_8_10 (v346) _ ⟨hHeld, tR HO347, tR HO_303001, tK BK301, tK BK302, (by repeat (first | (with_reducible first | exact HI0.out | apply IsS139.alloc | apply IsS139.drewN | apply IsS139.drew | apply IsS139.set_1 | apply IsS139.set_2 | refine IsS139.far ?_ NB0_301.out _ | refine IsS139.far ?_ NB0_302.out _) | exact HI0.out)), (by repeat (first | (with_reducible first | exact HK.out | apply KeepBut.set_ | apply keep_drewN | apply keep_drew | apply keep_alloc | refine keep_far ?_ GW301.out _ | refine keep_far ?_ GW302.out _) | exact HK.out)), (by repeat (first | (with_reducible first | exact HB.out | apply below_alloc | apply pw_below_drewN | apply below_drew1 | refine below_set ?_ (IsS139.ge HI0.out) | refine below_set ?_ GE301.out | refine below_set ?_ GE302.out) | exact HB.out))⟩)
    intro hJ2_4_6_10
    refine join_ (σ := Unit) 8 (bm 17 767) (fun s_ => [(18, .int .i64 t335), (20, .int .i64 t338), (22, .int .i64 t341), (21, .int .i64 (wrap64 (1 + t338)))]) (fun s_ w' => (w'.cell? ⟨gb302, 0, none⟩ = some (.int .i64 x303000_1) ∧ w'.cell? ⟨gb302, 1, none⟩ = some (.slice Ao47 x303001_1.length co47)) ∧ (Kd.R k104 104 w' w.heap.size (fun _ => True) (.slice Ao47 x303001_1.length co47) x303001_1) ∧ (w'.heap[gb301]? = some (.cells #[.int .i64 0, .slice none 0 0] 35 (0, 0))) ∧ (w'.heap[gb302]? = some (.cells #[.int .i64 x303000_1, .slice Ao47 x303001_1.length co47] 35 (0, 0))) ∧ (IsS139 w0 w' g s0_0 t339 t340) ∧ (KeepBut w w' g none) ∧ (Below w0.heap.size w0 w')) ?_ ?_
    ·rintro _ w51 ⟨hHeld, h0_, h1_, h2_, h3_, h4_, h5_⟩
     replace HO_303001 := Aside0.mk h0_
     replace BK301 := Aside0.mk h1_
     replace BK302 := Aside0.mk h2_
     replace HI0 := Aside0.mk h3_
     replace HK := Aside0.mk h4_
     replace HB := Aside0.mk h5_
     clear h0_ h1_ h2_ h3_ h4_ h5_
     refine norm_ tM ?_
     refine two_ (i := 8) (j := 10) (Ni := some 24) (Nj := some 26) (bm 17 1023) (bm 17 1791) rfl rfl rfl rfl (two_of HT_.out (by kernel_rfl)) (by decide) (by decide) (fun K hK => ?_) (fun K hK => ?_)
     ·refine goes_ Try.func96 (by kernel_rfl) rfl #[.pointer (some ⟨g, 0, none⟩), .int .i64 30] (by rfl) rfl rfl tL ?_
      with_reducible refine (spec_l1Below.calls g s0_0 t339 t340 30 t342 t343 t344 w0 _ ?side1 ?side2 A43.out).mono ?_
      (case side1 => repeat (first | (with_reducible first | exact HI0.out | apply IsS139.alloc | apply IsS139.drewN | apply IsS139.drew | apply IsS139.set_1 | apply IsS139.set_2 | refine IsS139.far ?_ NB0_301.out _ | refine IsS139.far ?_ NB0_302.out _) | exact HI0.out))
      (case side2 => repeat (first | (with_reducible first | exact HB.out | apply below_alloc | apply pw_below_drewN | apply below_drew1 | refine below_set ?_ (IsS139.ge HI0.out) | refine below_set ?_ GE301.out | refine below_set ?_ GE302.out) | exact HB.out))
      rintro e w52 ⟨rfl, hi, hb, hk⟩
      refine ⟨_, rfl, ?_⟩
      replace HO_303001 := Aside0.mk (Kd.R_mono (Kd.R_keep (IsS139.apart (show IsS139 w0 _ g s0_0 t339 t340 from by repeat (first | (with_reducible first | exact HI0.out | apply IsS139.alloc | apply IsS139.drewN | apply IsS139.drew | apply IsS139.set_1 | apply IsS139.set_2 | refine IsS139.far ?_ NB0_301.out _ | refine IsS139.far ?_ NB0_302.out _) | exact HI0.out)) (tR HO_303001) (by decide)) hk (fun _ h => h.2)) (fun _ h => h.1))
      replace BK301 := Aside0.mk (KeepBut.blk hk (g' := gb301) (o := .cells #[.int .i64 0, .slice none 0 0] 35 (0, 0)) (tK BK301) NB301_0.out (by simp))
      replace BK302 := Aside0.mk (KeepBut.blk hk (g' := gb302) (o := .cells #[.int .i64 x303000_1, .slice Ao47 x303001_1.length co47] 35 (0, 0)) (tK BK302) NB302_0.out (by simp))
      replace HK := Aside0.mk (KeepBut.trans (by repeat (first | (with_reducible first | exact HK.out | apply KeepBut.set_ | apply keep_drewN | apply keep_drew | apply keep_alloc | refine keep_far ?_ GW301.out _ | refine keep_far ?_ GW302.out _) | exact HK.out)) hk (.inl rfl))
      replace HB := Aside0.mk (hb)
      replace HI0 := Aside0.mk (hi)
      (try clear hb)
      (try clear hb2)
      (try clear hk)
      (try clear hi)
      refine hK.out _ _ tH (fun hHeld => ?_)
      clear hK K
      refine norm_ (tV : Act.put _ (some 24) _ = _) ?_
      exact norm_ tM (hJ2_4_6_8 () _ ⟨hHeld, tR HO_303001, tK BK301, tK BK302, (by repeat (first | (with_reducible first | exact HI0.out | apply IsS139.alloc | apply IsS139.drewN | apply IsS139.drew | apply IsS139.set_1 | apply IsS139.set_2 | refine IsS139.far ?_ NB0_301.out _ | refine IsS139.far ?_ NB0_302.out _) | exact HI0.out)), (by repeat (first | (with_reducible first | exact HK.out | apply KeepBut.set_ | apply keep_drewN | apply keep_drew | apply keep_alloc | refine keep_far ?_ GW301.out _ | refine keep_far ?_ GW302.out _) | exact HK.out)), (by repeat (first | (with_reducible first | exact HB.out | apply below_alloc | apply pw_below_drewN | apply below_drew1 | refine below_set ?_ (IsS139.ge HI0.out) | refine below_set ?_ GE301.out | refine below_set ?_ GE302.out) | exact HB.out))⟩)
     refine Kd.R_lit_step (Kd.int .i64) _ 3 ?hg (N := 26) ?hd (xs := ([30, 90] : List Int)) (inner := [.int .i64 30, .int .i64 90]) (ok := fun _ => True) (okp := fun _ => True) ?hr ?hp (fun _ hk => hk) trivial (Below.refl _ _) (Nat.le_refl _) (by simp) ?_; (case hd => rfl); (case hg => rfl); (case hr => exact tG); (case hp => exact (Reps.one (show Kd.M (Kd.int .i64) _ _ _ 30 [.int .i64 30] from rfl) (Reps.one (show Kd.M (Kd.int .i64) _ _ _ 90 [.int .i64 90] from rfl) (Reps.none _ _))))
     intro v346 w52 ho53 hb hg_ hnew_
     clear hg_ hnew_
     (first | rw [← Ny345.out] at ho53 | (simp only [Int.reduceToNat] at ho53; rw [← Ny345.out] at ho53))
     replace HO_303001 := Aside0.mk (Kd.R_below (tR HO_303001) hb)
     have HO347 := Aside0.mk (Kd.R_lower ho53 (keep_size (w := w) (g := g) (row := none) (by repeat (first | (with_reducible first | exact HK.out | apply KeepBut.set_ | apply keep_drewN | apply keep_drew | apply keep_alloc | refine keep_far ?_ GW301.out _ | refine keep_far ?_ GW302.out _) | exact HK.out))))
     replace BK301 := bB BK301 hb
     replace BK302 := bB BK302 hb
     replace HK := Aside0.mk (KeepBut.trans (by repeat (first | (with_reducible first | exact HK.out | apply KeepBut.set_ | apply keep_drewN | apply keep_drew | apply keep_alloc | refine keep_far ?_ GW301.out _ | refine keep_far ?_ GW302.out _) | exact HK.out)) (KeepBut.of_below hb g none) (.inl rfl))
     replace HB := Aside0.mk (below_step (by repeat (first | (with_reducible first | exact HB.out | apply below_alloc | apply pw_below_drewN | apply below_drew1 | refine below_set ?_ (IsS139.ge HI0.out) | refine below_set ?_ GE301.out | refine below_set ?_ GE302.out) | exact HB.out)) hb)
     replace HI0 := Aside0.mk (IsS139.below (by repeat (first | (with_reducible first | exact HI0.out | apply IsS139.alloc | apply IsS139.drewN | apply IsS139.drew | apply IsS139.set_1 | apply IsS139.set_2 | refine IsS139.far ?_ NB0_301.out _ | refine IsS139.far ?_ NB0_302.out _) | exact HI0.out)) hb)
     clear hb ho53
     refine hK.out _ _ tH (fun hHeld => ?_)
     clear hK K
     refine norm_ (tV : Act.put _ (some 26) _ = _) ?_
     exact norm_ tM (hJ2_4_6_10 (v346) _ ⟨hHeld, tR HO347, tR HO_303001, tK BK301, tK BK302, (by repeat (first | (with_reducible first | exact HI0.out | apply IsS139.alloc | apply IsS139.drewN | apply IsS139.drew | apply IsS139.set_1 | apply IsS139.set_2 | refine IsS139.far ?_ NB0_301.out _ | refine IsS139.far ?_ NB0_302.out _) | exact HI0.out)), (by repeat (first | (with_reducible first | exact HK.out | apply KeepBut.set_ | apply keep_drewN | apply keep_drew | apply keep_alloc | refine keep_far ?_ GW301.out _ | refine keep_far ?_ GW302.out _) | exact HK.out)), (by repeat (first | (with_reducible first | exact HB.out | apply below_alloc | apply pw_below_drewN | apply below_drew1 | refine below_set ?_ (IsS139.ge HI0.out) | refine below_set ?_ GE301.out | refine below_set ?_ GE302.out) | exact HB.out))⟩)
    intro hJ2_4_6
    refine join_ (σ := Value) 8 (bm 17 1727) (fun s_ => [(18, .int .i64 t335), (20, .int .i64 t338), (26, s_), (21, .int .i64 (wrap64 (1 + t338)))]) (fun s_ w' => (w'.cell? ⟨gb302, 0, none⟩ = some (.int .i64 x303000_1) ∧ w'.cell? ⟨gb302, 1, none⟩ = some (.slice Ao47 x303001_1.length co47)) ∧ (Kd.R (Kd.int .i64) 3 w' w.heap.size (fun _ => True) s_ y345) ∧ (Kd.R k104 104 w' w.heap.size (fun _ => True) (.slice Ao47 x303001_1.length co47) x303001_1) ∧ (w'.heap[gb301]? = some (.cells #[.int .i64 0, .slice none 0 0] 35 (0, 0))) ∧ (w'.heap[gb302]? = some (.cells #[.int .i64 x303000_1, .slice Ao47 x303001_1.length co47] 35 (0, 0))) ∧ (IsS139 w0 w' g s0_0 t339 t340) ∧ (KeepBut w w' g none) ∧ (Below w0.heap.size w0 w')) ?_ ?_
    ·rintro v346 w53 ⟨hHeld, h0_, h1_, h2_, h3_, h4_, h5_, h6_⟩
     have HO347 := Aside0.mk h0_
     replace HO_303001 := Aside0.mk h1_
     replace BK301 := Aside0.mk h2_
     replace BK302 := Aside0.mk h3_
     replace HI0 := Aside0.mk h4_
     replace HK := Aside0.mk h5_
     replace HB := Aside0.mk h6_
     clear h0_ h1_ h2_ h3_ h4_ h5_ h6_
     refine norm_ tM ?_
     refine one_ (i := 6) (N := some 22) (bm 17 1791) rfl rfl (one_of HT_.out (by kernel_rfl)) (by decide) (fun K hK => ?_)
     refine goes_ Try.func94 (by kernel_rfl) rfl #[.int .i64 (wrap64 (1 + t338))] (by rfl) rfl rfl tL ?_
     with_reducible refine (spec_PublicKey.calls (wrap64 (1 + t338)) t341 _ A42.out).mono ?_
     rintro e w' ⟨rfl, ⟨nd, rfl⟩⟩
     refine ⟨_, rfl, ?_⟩
     refine hK.out _ _ tH (fun hHeld => ?_)
     clear hK K
     refine norm_ (tV : Act.put _ (some 22) _ = _) ?_
     exact norm_ tM (hJ2_4_6_10 (v346) _ ⟨hHeld, tR HO347, tR HO_303001, tK BK301, tK BK302, (by repeat (first | (with_reducible first | exact HI0.out | apply IsS139.alloc | apply IsS139.drewN | apply IsS139.drew | apply IsS139.set_1 | apply IsS139.set_2 | refine IsS139.far ?_ NB0_301.out _ | refine IsS139.far ?_ NB0_302.out _) | exact HI0.out)), (by repeat (first | (with_reducible first | exact HK.out | apply KeepBut.set_ | apply keep_drewN | apply keep_drew | apply keep_alloc | refine keep_far ?_ GW301.out _ | refine keep_far ?_ GW302.out _) | exact HK.out)), (by repeat (first | (with_reducible first | exact HB.out | apply below_alloc | apply pw_below_drewN | apply below_drew1 | refine below_set ?_ (IsS139.ge HI0.out) | refine below_set ?_ GE301.out | refine below_set ?_ GE302.out) | exact HB.out))⟩)
    intro hJ2_4_10
    refine join_ (σ := Unit) 9 (bm 17 703) (fun s_ => [(18, .int .i64 t335), (20, .int .i64 t338), (21, .int .i64 (wrap64 (1 + t338)))]) (fun s_ w' => (w'.cell? ⟨gb302, 0, none⟩ = some (.int .i64 x303000_1) ∧ w'.cell? ⟨gb302, 1, none⟩ = some (.slice Ao47 x303001_1.length co47)) ∧ (Kd.R k104 104 w' w.heap.size (fun _ => True) (.slice Ao47 x303001_1.length co47) x303001_1) ∧ (w'.heap[gb301]? = some (.cells #[.int .i64 0, .slice none 0 0] 35 (0, 0))) ∧ (w'.heap[gb302]? = some (.cells #[.int .i64 x303000_1, .slice Ao47 x303001_1.length co47] 35 (0, 0))) ∧ (IsS139 w0 w' g s0_0 t339 t340) ∧ (KeepBut w w' g none) ∧ (Below w0.heap.size w0 w')) ?_ ?_
    ·rintro _ w51 ⟨hHeld, h0_, h1_, h2_, h3_, h4_, h5_⟩
     replace HO_303001 := Aside0.mk h0_
     replace BK301 := Aside0.mk h1_
     replace BK302 := Aside0.mk h2_
     replace HI0 := Aside0.mk h3_
     replace HK := Aside0.mk h4_
     replace HB := Aside0.mk h5_
     clear h0_ h1_ h2_ h3_ h4_ h5_
     refine norm_ tM ?_
     refine two_ (i := 6) (j := 10) (Ni := some 22) (Nj := some 26) (bm 17 767) (bm 17 1727) rfl rfl rfl rfl (two_of HT_.out (by kernel_rfl)) (by decide) (by decide) (fun K hK => ?_) (fun K hK => ?_)
     ·refine goes_ Try.func94 (by kernel_rfl) rfl #[.int .i64 (wrap64 (1 + t338))] (by rfl) rfl rfl tL ?_
      with_reducible refine (spec_PublicKey.calls (wrap64 (1 + t338)) t341 _ A42.out).mono ?_
      rintro e w' ⟨rfl, ⟨nd, rfl⟩⟩
      refine ⟨_, rfl, ?_⟩
      refine hK.out _ _ tH (fun hHeld => ?_)
      clear hK K
      refine norm_ (tV : Act.put _ (some 22) _ = _) ?_
      exact norm_ tM (hJ2_4_6 () _ ⟨hHeld, tR HO_303001, tK BK301, tK BK302, (by repeat (first | (with_reducible first | exact HI0.out | apply IsS139.alloc | apply IsS139.drewN | apply IsS139.drew | apply IsS139.set_1 | apply IsS139.set_2 | refine IsS139.far ?_ NB0_301.out _ | refine IsS139.far ?_ NB0_302.out _) | exact HI0.out)), (by repeat (first | (with_reducible first | exact HK.out | apply KeepBut.set_ | apply keep_drewN | apply keep_drew | apply keep_alloc | refine keep_far ?_ GW301.out _ | refine keep_far ?_ GW302.out _) | exact HK.out)), (by repeat (first | (with_reducible first | exact HB.out | apply below_alloc | apply pw_below_drewN | apply below_drew1 | refine below_set ?_ (IsS139.ge HI0.out) | refine below_set ?_ GE301.out | refine below_set ?_ GE302.out) | exact HB.out))⟩)
     refine Kd.R_lit_step (Kd.int .i64) _ 3 ?hg (N := 26) ?hd (xs := ([30, 90] : List Int)) (inner := [.int .i64 30, .int .i64 90]) (ok := fun _ => True) (okp := fun _ => True) ?hr ?hp (fun _ hk => hk) trivial (Below.refl _ _) (Nat.le_refl _) (by simp) ?_; (case hd => rfl); (case hg => rfl); (case hr => exact tG); (case hp => exact (Reps.one (show Kd.M (Kd.int .i64) _ _ _ 30 [.int .i64 30] from rfl) (Reps.one (show Kd.M (Kd.int .i64) _ _ _ 90 [.int .i64 90] from rfl) (Reps.none _ _))))
     intro v346 w52 ho53 hb hg_ hnew_
     clear hg_ hnew_
     (first | rw [← Ny345.out] at ho53 | (simp only [Int.reduceToNat] at ho53; rw [← Ny345.out] at ho53))
     replace HO_303001 := Aside0.mk (Kd.R_below (tR HO_303001) hb)
     have HO347 := Aside0.mk (Kd.R_lower ho53 (keep_size (w := w) (g := g) (row := none) (by repeat (first | (with_reducible first | exact HK.out | apply KeepBut.set_ | apply keep_drewN | apply keep_drew | apply keep_alloc | refine keep_far ?_ GW301.out _ | refine keep_far ?_ GW302.out _) | exact HK.out))))
     replace BK301 := bB BK301 hb
     replace BK302 := bB BK302 hb
     replace HK := Aside0.mk (KeepBut.trans (by repeat (first | (with_reducible first | exact HK.out | apply KeepBut.set_ | apply keep_drewN | apply keep_drew | apply keep_alloc | refine keep_far ?_ GW301.out _ | refine keep_far ?_ GW302.out _) | exact HK.out)) (KeepBut.of_below hb g none) (.inl rfl))
     replace HB := Aside0.mk (below_step (by repeat (first | (with_reducible first | exact HB.out | apply below_alloc | apply pw_below_drewN | apply below_drew1 | refine below_set ?_ (IsS139.ge HI0.out) | refine below_set ?_ GE301.out | refine below_set ?_ GE302.out) | exact HB.out)) hb)
     replace HI0 := Aside0.mk (IsS139.below (by repeat (first | (with_reducible first | exact HI0.out | apply IsS139.alloc | apply IsS139.drewN | apply IsS139.drew | apply IsS139.set_1 | apply IsS139.set_2 | refine IsS139.far ?_ NB0_301.out _ | refine IsS139.far ?_ NB0_302.out _) | exact HI0.out)) hb)
     clear hb ho53
     refine hK.out _ _ tH (fun hHeld => ?_)
     clear hK K
     refine norm_ (tV : Act.put _ (some 26) _ = _) ?_
     exact norm_ tM (hJ2_4_10 (v346) _ ⟨hHeld, tR HO347, tR HO_303001, tK BK301, tK BK302, (by repeat (first | (with_reducible first | exact HI0.out | apply IsS139.alloc | apply IsS139.drewN | apply IsS139.drew | apply IsS139.set_1 | apply IsS139.set_2 | refine IsS139.far ?_ NB0_301.out _ | refine IsS139.far ?_ NB0_302.out _) | exact HI0.out)), (by repeat (first | (with_reducible first | exact HK.out | apply KeepBut.set_ | apply keep_drewN | apply keep_drew | apply keep_alloc | refine keep_far ?_ GW301.out _ | refine keep_far ?_ GW302.out _) | exact HK.out)), (by repeat (first | (with_reducible first | exact HB.out | apply below_alloc | apply pw_below_drewN | apply below_drew1 | refine below_set ?_ (IsS139.ge HI0.out) | refine below_set ?_ GE301.out | refine below_set ?_ GE302.out) | exact HB.out))⟩)
    intro hJ2_4
    refine join_ (σ := Value) 10 (bm 17 1679) (fun s_ => [(18, .int .i64 t335), (26, s_)]) (fun s_ w' => (w'.cell? ⟨gb302, 0, none⟩ = some (.int .i64 x303000_1) ∧ w'.cell? ⟨gb302, 1, none⟩ = some (.slice Ao47 x303001_1.length co47)) ∧ (Kd.R (Kd.int .i64) 3 w' w.heap.size (fun _ => True) s_ y345) ∧ (Kd.R k104 104 w' w.heap.size (fun _ => True) (.slice Ao47 x303001_1.length co47) x303001_1) ∧ (w'.heap[gb301]? = some (.cells #[.int .i64 0, .slice none 0 0] 35 (0, 0))) ∧ (w'.heap[gb302]? = some (.cells #[.int .i64 x303000_1, .slice Ao47 x303001_1.length co47] 35 (0, 0))) ∧ (IsS139 w0 w' g s0_0 t336 t337) ∧ (KeepBut w w' g none) ∧ (Below w0.heap.size w0 w')) ?_ ?_
    ·rintro v346 w52 ⟨hHeld, h0_, h1_, h2_, h3_, h4_, h5_, h6_⟩
     have HO347 := Aside0.mk h0_
     replace HO_303001 := Aside0.mk h1_
     replace BK301 := Aside0.mk h2_
     replace BK302 := Aside0.mk h3_
     replace HI0 := Aside0.mk h4_
     replace HK := Aside0.mk h5_
     replace HB := Aside0.mk h6_
     clear h0_ h1_ h2_ h3_ h4_ h5_ h6_
     refine norm_ tM ?_
     refine one_ (i := 4) (N := some 20) (bm 17 1695) rfl rfl (one_of HT_.out (by kernel_rfl)) (by decide) (fun K hK => ?_)
     refine goes_ Try.func96 (by kernel_rfl) rfl #[.pointer (some ⟨g, 0, none⟩), .int .i64 50] (by rfl) rfl rfl tL ?_
     with_reducible refine (spec_l1Below.calls g s0_0 t336 t337 50 t338 t339 t340 w0 _ ?side1 ?side2 A41.out).mono ?_
     (case side1 => repeat (first | (with_reducible first | exact HI0.out | apply IsS139.alloc | apply IsS139.drewN | apply IsS139.drew | apply IsS139.set_1 | apply IsS139.set_2 | refine IsS139.far ?_ NB0_301.out _ | refine IsS139.far ?_ NB0_302.out _) | exact HI0.out))
     (case side2 => repeat (first | (with_reducible first | exact HB.out | apply below_alloc | apply pw_below_drewN | apply below_drew1 | refine below_set ?_ (IsS139.ge HI0.out) | refine below_set ?_ GE301.out | refine below_set ?_ GE302.out) | exact HB.out))
     rintro e w53 ⟨rfl, hi, hb, hk⟩
     refine ⟨_, rfl, ?_⟩
     replace HO_303001 := Aside0.mk (Kd.R_mono (Kd.R_keep (IsS139.apart (show IsS139 w0 _ g s0_0 t336 t337 from by repeat (first | (with_reducible first | exact HI0.out | apply IsS139.alloc | apply IsS139.drewN | apply IsS139.drew | apply IsS139.set_1 | apply IsS139.set_2 | refine IsS139.far ?_ NB0_301.out _ | refine IsS139.far ?_ NB0_302.out _) | exact HI0.out)) (tR HO_303001) (by decide)) hk (fun _ h => h.2)) (fun _ h => h.1))
     replace BK301 := Aside0.mk (KeepBut.blk hk (g' := gb301) (o := .cells #[.int .i64 0, .slice none 0 0] 35 (0, 0)) (tK BK301) NB301_0.out (by simp))
     replace BK302 := Aside0.mk (KeepBut.blk hk (g' := gb302) (o := .cells #[.int .i64 x303000_1, .slice Ao47 x303001_1.length co47] 35 (0, 0)) (tK BK302) NB302_0.out (by simp))
     replace HO347 := Aside0.mk (Kd.R_mono (Kd.R_keep (IsS139.apart (show IsS139 w0 _ g s0_0 t336 t337 from by repeat (first | (with_reducible first | exact HI0.out | apply IsS139.alloc | apply IsS139.drewN | apply IsS139.drew | apply IsS139.set_1 | apply IsS139.set_2 | refine IsS139.far ?_ NB0_301.out _ | refine IsS139.far ?_ NB0_302.out _) | exact HI0.out)) (tR HO347) (by decide)) hk (fun _ h => h.2)) (fun _ h => h.1))
     replace HK := Aside0.mk (KeepBut.trans (by repeat (first | (with_reducible first | exact HK.out | apply KeepBut.set_ | apply keep_drewN | apply keep_drew | apply keep_alloc | refine keep_far ?_ GW301.out _ | refine keep_far ?_ GW302.out _) | exact HK.out)) hk (.inl rfl))
     replace HB := Aside0.mk (hb)
     replace HI0 := Aside0.mk (hi)
     (try clear hb)
     (try clear hb2)
     (try clear hk)
     (try clear hi)
     refine hK.out _ _ tH (fun hHeld => ?_)
     clear hK K
     refine norm_ (tV : Act.put _ (some 20) _ = _) ?_
     refine pI 5 21 (bm 17 1727) ?_
     exact norm_ tM (hJ2_4_10 (v346) _ ⟨hHeld, tR HO347, tR HO_303001, tK BK301, tK BK302, (by repeat (first | (with_reducible first | exact HI0.out | apply IsS139.alloc | apply IsS139.drewN | apply IsS139.drew | apply IsS139.set_1 | apply IsS139.set_2 | refine IsS139.far ?_ NB0_301.out _ | refine IsS139.far ?_ NB0_302.out _) | exact HI0.out)), (by repeat (first | (with_reducible first | exact HK.out | apply KeepBut.set_ | apply keep_drewN | apply keep_drew | apply keep_alloc | refine keep_far ?_ GW301.out _ | refine keep_far ?_ GW302.out _) | exact HK.out)), (by repeat (first | (with_reducible first | exact HB.out | apply below_alloc | apply pw_below_drewN | apply below_drew1 | refine below_set ?_ (IsS139.ge HI0.out) | refine below_set ?_ GE301.out | refine below_set ?_ GE302.out) | exact HB.out))⟩)
    intro hJ2_10
    refine join_ (σ := Unit) 11 (bm 17 655) (fun s_ => [(18, .int .i64 t335)]) (fun s_ w' => (w'.cell? ⟨gb302, 0, none⟩ = some (.int .i64 x303000_1) ∧ w'.cell? ⟨gb302, 1, none⟩ = some (.slice Ao47 x303001_1.length co47)) ∧ (Kd.R k104 104 w' w.heap.size (fun _ => True) (.slice Ao47 x303001_1.length co47) x303001_1) ∧ (w'.heap[gb301]? = some (.cells #[.int .i64 0, .slice none 0 0] 35 (0, 0))) ∧ (w'.heap[gb302]? = some (.cells #[.int .i64 x303000_1, .slice Ao47 x303001_1.length co47] 35 (0, 0))) ∧ (IsS139 w0 w' g s0_0 t336 t337) ∧ (KeepBut w w' g none) ∧ (Below w0.heap.size w0 w')) ?_ ?_
    ·rintro _ w50 ⟨hHeld, h0_, h1_, h2_, h3_, h4_, h5_⟩
     replace HO_303001 := Aside0.mk h0_
     replace BK301 := Aside0.mk h1_
     replace BK302 := Aside0.mk h2_
     replace HI0 := Aside0.mk h3_
     replace HK := Aside0.mk h4_
     replace HB := Aside0.mk h5_
     clear h0_ h1_ h2_ h3_ h4_ h5_
     refine norm_ tM ?_
     refine two_ (i := 4) (j := 10) (Ni := some 20) (Nj := some 26) (bm 17 671) (bm 17 1679) rfl rfl rfl rfl (two_of HT_.out (by kernel_rfl)) (by decide) (by decide) (fun K hK => ?_) (fun K hK => ?_)
     ·refine goes_ Try.func96 (by kernel_rfl) rfl #[.pointer (some ⟨g, 0, none⟩), .int .i64 50] (by rfl) rfl rfl tL ?_
      with_reducible refine (spec_l1Below.calls g s0_0 t336 t337 50 t338 t339 t340 w0 _ ?side1 ?side2 A41.out).mono ?_
      (case side1 => repeat (first | (with_reducible first | exact HI0.out | apply IsS139.alloc | apply IsS139.drewN | apply IsS139.drew | apply IsS139.set_1 | apply IsS139.set_2 | refine IsS139.far ?_ NB0_301.out _ | refine IsS139.far ?_ NB0_302.out _) | exact HI0.out))
      (case side2 => repeat (first | (with_reducible first | exact HB.out | apply below_alloc | apply pw_below_drewN | apply below_drew1 | refine below_set ?_ (IsS139.ge HI0.out) | refine below_set ?_ GE301.out | refine below_set ?_ GE302.out) | exact HB.out))
      rintro e w51 ⟨rfl, hi, hb, hk⟩
      refine ⟨_, rfl, ?_⟩
      replace HO_303001 := Aside0.mk (Kd.R_mono (Kd.R_keep (IsS139.apart (show IsS139 w0 _ g s0_0 t336 t337 from by repeat (first | (with_reducible first | exact HI0.out | apply IsS139.alloc | apply IsS139.drewN | apply IsS139.drew | apply IsS139.set_1 | apply IsS139.set_2 | refine IsS139.far ?_ NB0_301.out _ | refine IsS139.far ?_ NB0_302.out _) | exact HI0.out)) (tR HO_303001) (by decide)) hk (fun _ h => h.2)) (fun _ h => h.1))
      replace BK301 := Aside0.mk (KeepBut.blk hk (g' := gb301) (o := .cells #[.int .i64 0, .slice none 0 0] 35 (0, 0)) (tK BK301) NB301_0.out (by simp))
      replace BK302 := Aside0.mk (KeepBut.blk hk (g' := gb302) (o := .cells #[.int .i64 x303000_1, .slice Ao47 x303001_1.length co47] 35 (0, 0)) (tK BK302) NB302_0.out (by simp))
      replace HK := Aside0.mk (KeepBut.trans (by repeat (first | (with_reducible first | exact HK.out | apply KeepBut.set_ | apply keep_drewN | apply keep_drew | apply keep_alloc | refine keep_far ?_ GW301.out _ | refine keep_far ?_ GW302.out _) | exact HK.out)) hk (.inl rfl))
      replace HB := Aside0.mk (hb)
      replace HI0 := Aside0.mk (hi)
      (try clear hb)
      (try clear hb2)
      (try clear hk)
      (try clear hi)
      refine hK.out _ _ tH (fun hHeld => ?_)
      clear hK K
      refine norm_ (tV : Act.put _ (some 20) _ = _) ?_
      refine pI 5 21 (bm 17 703) ?_
      exact norm_ tM (hJ2_4 () _ ⟨hHeld, tR HO_303001, tK BK301, tK BK302, (by repeat (first | (with_reducible first | exact HI0.out | apply IsS139.alloc | apply IsS139.drewN | apply IsS139.drew | apply IsS139.set_1 | apply IsS139.set_2 | refine IsS139.far ?_ NB0_301.out _ | refine IsS139.far ?_ NB0_302.out _) | exact HI0.out)), (by repeat (first | (with_reducible first | exact HK.out | apply KeepBut.set_ | apply keep_drewN | apply keep_drew | apply keep_alloc | refine keep_far ?_ GW301.out _ | refine keep_far ?_ GW302.out _) | exact HK.out)), (by repeat (first | (with_reducible first | exact HB.out | apply below_alloc | apply pw_below_drewN | apply below_drew1 | refine below_set ?_ (IsS139.ge HI0.out) | refine below_set ?_ GE301.out | refine below_set ?_ GE302.out) | exact HB.out))⟩)
     refine Kd.R_lit_step (Kd.int .i64) _ 3 ?hg (N := 26) ?hd (xs := ([30, 90] : List Int)) (inner := [.int .i64 30, .int .i64 90]) (ok := fun _ => True) (okp := fun _ => True) ?hr ?hp (fun _ hk => hk) trivial (Below.refl _ _) (Nat.le_refl _) (by simp) ?_; (case hd => rfl); (case hg => rfl); (case hr => exact tG); (case hp => exact (Reps.one (show Kd.M (Kd.int .i64) _ _ _ 30 [.int .i64 30] from rfl) (Reps.one (show Kd.M (Kd.int .i64) _ _ _ 90 [.int .i64 90] from rfl) (Reps.none _ _))))
     intro v346 w51 ho52 hb hg_ hnew_
     clear hg_ hnew_
     (first | rw [← Ny345.out] at ho52 | (simp only [Int.reduceToNat] at ho52; rw [← Ny345.out] at ho52))
     replace HO_303001 := Aside0.mk (Kd.R_below (tR HO_303001) hb)
     have HO347 := Aside0.mk (Kd.R_lower ho52 (keep_size (w := w) (g := g) (row := none) (by repeat (first | (with_reducible first | exact HK.out | apply KeepBut.set_ | apply keep_drewN | apply keep_drew | apply keep_alloc | refine keep_far ?_ GW301.out _ | refine keep_far ?_ GW302.out _) | exact HK.out))))
     replace BK301 := bB BK301 hb
     replace BK302 := bB BK302 hb
     replace HK := Aside0.mk (KeepBut.trans (by repeat (first | (with_reducible first | exact HK.out | apply KeepBut.set_ | apply keep_drewN | apply keep_drew | apply keep_alloc | refine keep_far ?_ GW301.out _ | refine keep_far ?_ GW302.out _) | exact HK.out)) (KeepBut.of_below hb g none) (.inl rfl))
     replace HB := Aside0.mk (below_step (by repeat (first | (with_reducible first | exact HB.out | apply below_alloc | apply pw_below_drewN | apply below_drew1 | refine below_set ?_ (IsS139.ge HI0.out) | refine below_set ?_ GE301.out | refine below_set ?_ GE302.out) | exact HB.out)) hb)
     replace HI0 := Aside0.mk (IsS139.below (by repeat (first | (with_reducible first | exact HI0.out | apply IsS139.alloc | apply IsS139.drewN | apply IsS139.drew | apply IsS139.set_1 | apply IsS139.set_2 | refine IsS139.far ?_ NB0_301.out _ | refine IsS139.far ?_ NB0_302.out _) | exact HI0.out)) hb)
     clear hb ho52
     refine hK.out _ _ tH (fun hHeld => ?_)
     clear hK K
     refine norm_ (tV : Act.put _ (some 26) _ = _) ?_
     exact norm_ tM (hJ2_10 (v346) _ ⟨hHeld, tR HO347, tR HO_303001, tK BK301, tK BK302, (by repeat (first | (with_reducible first | exact HI0.out | apply IsS139.alloc | apply IsS139.drewN | apply IsS139.drew | apply IsS139.set_1 | apply IsS139.set_2 | refine IsS139.far ?_ NB0_301.out _ | refine IsS139.far ?_ NB0_302.out _) | exact HI0.out)), (by repeat (first | (with_reducible first | exact HK.out | apply KeepBut.set_ | apply keep_drewN | apply keep_drew | apply keep_alloc | refine keep_far ?_ GW301.out _ | refine keep_far ?_ GW302.out _) | exact HK.out)), (by repeat (first | (with_reducible first | exact HB.out | apply below_alloc | apply pw_below_drewN | apply below_drew1 | refine below_set ?_ (IsS139.ge HI0.out) | refine below_set ?_ GE301.out | refine below_set ?_ GE302.out) | exact HB.out))⟩)
    intro hJ2
    refine join_ (σ := Value) 11 (bm 17 1675) (fun s_ => [(26, s_)]) (fun s_ w' => (w'.cell? ⟨gb302, 0, none⟩ = some (.int .i64 x303000_1) ∧ w'.cell? ⟨gb302, 1, none⟩ = some (.slice Ao47 x303001_1.length co47)) ∧ (Kd.R (Kd.int .i64) 3 w' w.heap.size (fun _ => True) s_ y345) ∧ (Kd.R k104 104 w' w.heap.size (fun _ => True) (.slice Ao47 x303001_1.length co47) x303001_1) ∧ (w'.heap[gb301]? = some (.cells #[.int .i64 0, .slice none 0 0] 35 (0, 0))) ∧ (w'.heap[gb302]? = some (.cells #[.int .i64 x303000_1, .slice Ao47 x303001_1.length co47] 35 (0, 0))) ∧ (IsS139 w0 w' g s0_0 t310 t311) ∧ (KeepBut w w' g none) ∧ (Below w0.heap.size w0 w')) ?_ ?_
    ·rintro v346 w51 ⟨hHeld, h0_, h1_, h2_, h3_, h4_, h5_, h6_⟩
     have HO347 := Aside0.mk h0_
     replace HO_303001 := Aside0.mk h1_
     replace BK301 := Aside0.mk h2_
     replace BK302 := Aside0.mk h3_
     replace HI0 := Aside0.mk h4_
     replace HK := Aside0.mk h5_
     replace HB := Aside0.mk h6_
     clear h0_ h1_ h2_ h3_ h4_ h5_ h6_
     refine norm_ tM ?_
     refine one_ (i := 2) (N := some 18) (bm 17 1679) rfl rfl (one_of HT_.out (by kernel_rfl)) (by decide) (fun K hK => ?_)
     refine goes_ Try.func96 (by kernel_rfl) rfl #[.pointer (some ⟨g, 0, none⟩), .int .i64 6] (by rfl) rfl rfl tL ?_
     with_reducible refine (spec_l1Below.calls g s0_0 t310 t311 6 t335 t336 t337 w0 _ ?side1 ?side2 A40.out).mono ?_
     (case side1 => repeat (first | (with_reducible first | exact HI0.out | apply IsS139.alloc | apply IsS139.drewN | apply IsS139.drew | apply IsS139.set_1 | apply IsS139.set_2 | refine IsS139.far ?_ NB0_301.out _ | refine IsS139.far ?_ NB0_302.out _) | exact HI0.out))
     (case side2 => repeat (first | (with_reducible first | exact HB.out | apply below_alloc | apply pw_below_drewN | apply below_drew1 | refine below_set ?_ (IsS139.ge HI0.out) | refine below_set ?_ GE301.out | refine below_set ?_ GE302.out) | exact HB.out))
     rintro e w52 ⟨rfl, hi, hb, hk⟩
     refine ⟨_, rfl, ?_⟩
     replace HO_303001 := Aside0.mk (Kd.R_mono (Kd.R_keep (IsS139.apart (show IsS139 w0 _ g s0_0 t310 t311 from by repeat (first | (with_reducible first | exact HI0.out | apply IsS139.alloc | apply IsS139.drewN | apply IsS139.drew | apply IsS139.set_1 | apply IsS139.set_2 | refine IsS139.far ?_ NB0_301.out _ | refine IsS139.far ?_ NB0_302.out _) | exact HI0.out)) (tR HO_303001) (by decide)) hk (fun _ h => h.2)) (fun _ h => h.1))
     replace BK301 := Aside0.mk (KeepBut.blk hk (g' := gb301) (o := .cells #[.int .i64 0, .slice none 0 0] 35 (0, 0)) (tK BK301) NB301_0.out (by simp))
     replace BK302 := Aside0.mk (KeepBut.blk hk (g' := gb302) (o := .cells #[.int .i64 x303000_1, .slice Ao47 x303001_1.length co47] 35 (0, 0)) (tK BK302) NB302_0.out (by simp))
     replace HO347 := Aside0.mk (Kd.R_mono (Kd.R_keep (IsS139.apart (show IsS139 w0 _ g s0_0 t310 t311 from by repeat (first | (with_reducible first | exact HI0.out | apply IsS139.alloc | apply IsS139.drewN | apply IsS139.drew | apply IsS139.set_1 | apply IsS139.set_2 | refine IsS139.far ?_ NB0_301.out _ | refine IsS139.far ?_ NB0_302.out _) | exact HI0.out)) (tR HO347) (by decide)) hk (fun _ h => h.2)) (fun _ h => h.1))
     replace HK := Aside0.mk (KeepBut.trans (by repeat (first | (with_reducible first | exact HK.out | apply KeepBut.set_ | apply keep_drewN | apply keep_drew | apply keep_alloc | refine keep_far ?_ GW301.out _ | refine keep_far ?_ GW302.out _) | exact HK.out)) hk (.inl rfl))
     replace HB := Aside0.mk (hb)
     replace HI0 := Aside0.mk (hi)
     (try clear hb)
     (try clear hb2)
     (try clear hk)
     (try clear hi)
     refine hK.out _ _ tH (fun hHeld => ?_)
     clear hK K
     refine norm_ (tV : Act.put _ (some 18) _ = _) ?_
     exact norm_ tM (hJ2_10 (v346) _ ⟨hHeld, tR HO347, tR HO_303001, tK BK301, tK BK302, (by repeat (first | (with_reducible first | exact HI0.out | apply IsS139.alloc | apply IsS139.drewN | apply IsS139.drew | apply IsS139.set_1 | apply IsS139.set_2 | refine IsS139.far ?_ NB0_301.out _ | refine IsS139.far ?_ NB0_302.out _) | exact HI0.out)), (by repeat (first | (with_reducible first | exact HK.out | apply KeepBut.set_ | apply keep_drewN | apply keep_drew | apply keep_alloc | refine keep_far ?_ GW301.out _ | refine keep_far ?_ GW302.out _) | exact HK.out)), (by repeat (first | (with_reducible first | exact HB.out | apply below_alloc | apply pw_below_drewN | apply below_drew1 | refine below_set ?_ (IsS139.ge HI0.out) | refine below_set ?_ GE301.out | refine below_set ?_ GE302.out) | exact HB.out))⟩)
    intro hJ10
    refine two_ (i := 2) (j := 10) (Ni := some 18) (Nj := some 26) (bm 17 655) (bm 17 1675) rfl rfl rfl rfl (two_of HT_.out (by kernel_rfl)) (by decide) (by decide) (fun K hK => ?_) (fun K hK => ?_)
    ·refine goes_ Try.func96 (by kernel_rfl) rfl #[.pointer (some ⟨g, 0, none⟩), .int .i64 6] (by rfl) rfl rfl tL ?_
     with_reducible refine (spec_l1Below.calls g s0_0 t310 t311 6 t335 t336 t337 w0 _ ?side1 ?side2 A40.out).mono ?_
     (case side1 => repeat (first | (with_reducible first | exact HI0.out | apply IsS139.alloc | apply IsS139.drewN | apply IsS139.drew | apply IsS139.set_1 | apply IsS139.set_2 | refine IsS139.far ?_ NB0_301.out _ | refine IsS139.far ?_ NB0_302.out _) | exact HI0.out))
     (case side2 => repeat (first | (with_reducible first | exact HB.out | apply below_alloc | apply pw_below_drewN | apply below_drew1 | refine below_set ?_ (IsS139.ge HI0.out) | refine below_set ?_ GE301.out | refine below_set ?_ GE302.out) | exact HB.out))
     rintro e w49 ⟨rfl, hi, hb, hk⟩
     refine ⟨_, rfl, ?_⟩
     replace HO_303001 := Aside0.mk (Kd.R_mono (Kd.R_keep (IsS139.apart (show IsS139 w0 _ g s0_0 t310 t311 from by repeat (first | (with_reducible first | exact HI0.out | apply IsS139.alloc | apply IsS139.drewN | apply IsS139.drew | apply IsS139.set_1 | apply IsS139.set_2 | refine IsS139.far ?_ NB0_301.out _ | refine IsS139.far ?_ NB0_302.out _) | exact HI0.out)) (tR HO_303001) (by decide)) hk (fun _ h => h.2)) (fun _ h => h.1))
     replace BK301 := Aside0.mk (KeepBut.blk hk (g' := gb301) (o := .cells #[.int .i64 0, .slice none 0 0] 35 (0, 0)) (tK BK301) NB301_0.out (by simp))
     replace BK302 := Aside0.mk (KeepBut.blk hk (g' := gb302) (o := .cells #[.int .i64 x303000_1, .slice Ao47 x303001_1.length co47] 35 (0, 0)) (tK BK302) NB302_0.out (by simp))
     replace HK := Aside0.mk (KeepBut.trans (by repeat (first | (with_reducible first | exact HK.out | apply KeepBut.set_ | apply keep_drewN | apply keep_drew | apply keep_alloc | refine keep_far ?_ GW301.out _ | refine keep_far ?_ GW302.out _) | exact HK.out)) hk (.inl rfl))
     replace HB := Aside0.mk (hb)
     replace HI0 := Aside0.mk (hi)
     (try clear hb)
     (try clear hb2)
     (try clear hk)
     (try clear hi)
     refine hK.out _ _ tH (fun hHeld => ?_)
     clear hK K
     refine norm_ (tV : Act.put _ (some 18) _ = _) ?_
     exact norm_ tM (hJ2 () _ ⟨hHeld, tR HO_303001, tK BK301, tK BK302, (by repeat (first | (with_reducible first | exact HI0.out | apply IsS139.alloc | apply IsS139.drewN | apply IsS139.drew | apply IsS139.set_1 | apply IsS139.set_2 | refine IsS139.far ?_ NB0_301.out _ | refine IsS139.far ?_ NB0_302.out _) | exact HI0.out)), (by repeat (first | (with_reducible first | exact HK.out | apply KeepBut.set_ | apply keep_drewN | apply keep_drew | apply keep_alloc | refine keep_far ?_ GW301.out _ | refine keep_far ?_ GW302.out _) | exact HK.out)), (by repeat (first | (with_reducible first | exact HB.out | apply below_alloc | apply pw_below_drewN | apply below_drew1 | refine below_set ?_ (IsS139.ge HI0.out) | refine below_set ?_ GE301.out | refine below_set ?_ GE302.out) | exact HB.out))⟩)
    refine Kd.R_lit_step (Kd.int .i64) _ 3 ?hg (N := 26) ?hd (xs := ([30, 90] : List Int)) (inner := [.int .i64 30, .int .i64 90]) (ok := fun _ => True) (okp := fun _ => True) ?hr ?hp (fun _ hk => hk) trivial (Below.refl _ _) (Nat.le_refl _) (by simp) ?_; (case hd => rfl); (case hg => rfl); (case hr => exact tG); (case hp => exact (Reps.one (show Kd.M (Kd.int .i64) _ _ _ 30 [.int .i64 30] from rfl) (Reps.one (show Kd.M (Kd.int .i64) _ _ _ 90 [.int .i64 90] from rfl) (Reps.none _ _))))
    intro v346 w49 ho50 hb hg_ hnew_
    clear hg_ hnew_
    (first | rw [← Ny345.out] at ho50 | (simp only [Int.reduceToNat] at ho50; rw [← Ny345.out] at ho50))
    replace HO_303001 := Aside0.mk (Kd.R_below (tR HO_303001) hb)
    have HO347 := Aside0.mk (Kd.R_lower ho50 (keep_size (w := w) (g := g) (row := none) (by repeat (first | (with_reducible first | exact HK.out | apply KeepBut.set_ | apply keep_drewN | apply keep_drew | apply keep_alloc | refine keep_far ?_ GW301.out _ | refine keep_far ?_ GW302.out _) | exact HK.out))))
    replace BK301 := bB BK301 hb
    replace BK302 := bB BK302 hb
    replace HK := Aside0.mk (KeepBut.trans (by repeat (first | (with_reducible first | exact HK.out | apply KeepBut.set_ | apply keep_drewN | apply keep_drew | apply keep_alloc | refine keep_far ?_ GW301.out _ | refine keep_far ?_ GW302.out _) | exact HK.out)) (KeepBut.of_below hb g none) (.inl rfl))
    replace HB := Aside0.mk (below_step (by repeat (first | (with_reducible first | exact HB.out | apply below_alloc | apply pw_below_drewN | apply below_drew1 | refine below_set ?_ (IsS139.ge HI0.out) | refine below_set ?_ GE301.out | refine below_set ?_ GE302.out) | exact HB.out)) hb)
    replace HI0 := Aside0.mk (IsS139.below (by repeat (first | (with_reducible first | exact HI0.out | apply IsS139.alloc | apply IsS139.drewN | apply IsS139.drew | apply IsS139.set_1 | apply IsS139.set_2 | refine IsS139.far ?_ NB0_301.out _ | refine IsS139.far ?_ NB0_302.out _) | exact HI0.out)) hb)
    clear hb ho50
    refine hK.out _ _ tH (fun hHeld => ?_)
    clear hK K
    refine norm_ (tV : Act.put _ (some 26) _ = _) ?_
    exact norm_ tM (hJ10 (v346) _ ⟨hHeld, tR HO347, tR HO_303001, tK BK301, tK BK302, (by repeat (first | (with_reducible first | exact HI0.out | apply IsS139.alloc | apply IsS139.drewN | apply IsS139.drew | apply IsS139.set_1 | apply IsS139.set_2 | refine IsS139.far ?_ NB0_301.out _ | refine IsS139.far ?_ NB0_302.out _) | exact HI0.out)), (by repeat (first | (with_reducible first | exact HK.out | apply KeepBut.set_ | apply keep_drewN | apply keep_drew | apply keep_alloc | refine keep_far ?_ GW301.out _ | refine keep_far ?_ GW302.out _) | exact HK.out)), (by repeat (first | (with_reducible first | exact HB.out | apply below_alloc | apply pw_below_drewN | apply below_drew1 | refine below_set ?_ (IsS139.ge HI0.out) | refine below_set ?_ GE301.out | refine below_set ?_ GE302.out) | exact HB.out))⟩)
   rw [if_neg c12] at H
   have c12b0 : decide (0 < x4_1) = false := decide_eq_false c12
   clear c12
   simp only [Option.some.injEq, Prod.mk.injEq] at H
   obtain ⟨rfl, rfl, rfl, rfl⟩ := H
   have hnb61 := NB302_301.out
   have hnc61 := NB301_302.out
   have hnb62 := NB302_0.out
   have hnc62 := NB0_302.out
   obtain ⟨hcz63_0, hcz63_1, hfz63_0, hfz63_1⟩ := bc2 BK302.out
   have hnb64 := NB301_0.out
   have hnc64 := NB0_301.out
   obtain ⟨hcz65_0, hcz65_1, hfz65_0, hfz65_1⟩ := bc2 BK301.out
   obtain ⟨Ao66, co66, eo66⟩ := Kd.R_slice HO_303001.out
   subst eo66
   go_wp2
   refine bodyPost_ret (results_cell_row rfl _ _ gb301 35 #[.int .i64 x303000_1, .slice Ao66 x303001_1.length co66] (0, 0) _ rfl (by (with_reducible repeat (first | refine blk_drewN ?_ _ | refine blk_drew ?_ | refine blk_alloc ?_ _)); refine blk_put (cs := #[.int .i64 x303000_1, .slice none 0 0]) ?_ 1 _ rfl; (with_reducible repeat (first | refine blk_drewN ?_ _ | refine blk_drew ?_ | refine blk_alloc ?_ _)); refine blk_put (cs := #[.int .i64 0, .slice none 0 0]) ?_ 0 _ rfl; (with_reducible repeat (first | refine blk_drewN ?_ _ | refine blk_drew ?_ | refine blk_alloc ?_ _)); exact BK301.out) Try.underlying35 rfl (by kernel_rfl)) rfl ?_
   exact ⟨_, tE, by (with_reducible repeat (first | apply Kd.R_alloc | apply Kd.R_drewN | apply Kd.R_drew)); exact Kd.R_mono (Kd.R_far (p := ⟨gb301, 1, none⟩) (Kd.R_far (p := ⟨gb301, 0, none⟩) (Kd.R_types HO_303001.out BK301.out (by decide)) (fun _ hk => hk.2) (.int .i64 x303000_1)) (fun _ hk => hk.2) (.slice Ao66 x303001_1.length co66)) (fun _ hk => trivial), by repeat (first | (with_reducible first | exact HI0.out | apply IsS139.alloc | apply IsS139.drewN | apply IsS139.drew | apply IsS139.set_1 | apply IsS139.set_2 | refine IsS139.far ?_ NB0_301.out _ | refine IsS139.far ?_ NB0_302.out _) | exact HI0.out), by repeat (first | (with_reducible first | exact HB.out | apply below_alloc | apply pw_below_drewN | apply below_drew1 | refine below_set ?_ (IsS139.ge HI0.out) | refine below_set ?_ GE301.out | refine below_set ?_ GE302.out) | exact HB.out), by repeat (first | (with_reducible first | exact HK.out | apply KeepBut.set_ | apply keep_drewN | apply keep_drew | apply keep_alloc | refine keep_far ?_ GW301.out _ | refine keep_far ?_ GW302.out _) | exact HK.out)⟩

end Go.Proofs.Ytjggdakbphjomaa.ZFnClaims
