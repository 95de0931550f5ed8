/- The machine side: for each Go function a Lean function and the contract that the Go code answers as it does; printed by program (wip/tmpl/pprint.sh). -/
import Derived.Test.YtanoaneoanpkkaaZFnNoticesx0
import Derived.Test.YtanoaneoanpkkaaZFnNoticesx3
import Derived.Test.YtanoaneoanpkkaaZFnNoticesx6
namespace Go.Proofs.Ytanoaneoanpkkaa.ZFnNotices
open Go.RowKit Go.Proofs.YtanoaneoanpkkaaW.PrintWords Go.Proofs.YtanoaneoanpkkaaW.PrintLast Go.Proofs.YtanoaneoanpkkaaW.PrintMore
attribute [local go_sem] max2_int min2_int max_two min_two max_three min_three max_four min_four   -- for this text's walks alone
set_option linter.unusedVariables false
set_option linter.unusedSimpArgs false

/-! ### spec_l31Mailbox: function 110 -/
def spec_l31Mailbox.l0 : Nat → Int → Int → List Int → Int → Int → List (S108) → Option ((List (S108)) × Int × Int)
 | 0, _, _, _, _, _, _ => none
 | k + 1, x4, x5, x1000, x1001, x1002, x279000 => if x5 > 0 then ((spec_l1Below.f x1000 x1001 x1002 3).bind fun bt285 => ((spec_l1Below.f x1000 bt285.2.1 bt285.2.2 5).bind fun bt288 => ((spec_l1Below.f x1000 bt288.2.1 bt288.2.2 4).bind fun bt291 => ((spec_SendNotice.f k x279000 (wrap64 (1 + bt288.1)) bt291.1 (wrap64 (x4 + bt285.1))).bind fun bt294 => ((spec_l1Once.f x1000 bt291.2.1 bt291.2.2 6).bind fun bt298 => (if bt298.1 = true then ((spec_ReadNotices.f k bt294.1).bind fun bt301 => (spec_l31Mailbox.l0 k (wrap64 (x4 + bt285.1)) (wrap64 (x5 - 1)) x1000 bt298.2.1 bt298.2.2 bt301.1)) else (spec_l31Mailbox.l0 k (wrap64 (x4 + bt285.1)) (wrap64 (x5 - 1)) x1000 bt298.2.1 bt298.2.2 bt294.1))))))) else ((spec_l1Below.f x1000 x1001 x1002 10).bind fun bt307 => (if bt307.1 = 0 then ((spec_l1Int.f x1000 bt307.2.1 bt307.2.2 (([0, 1, 6] : List Int))).bind fun bt313 => ((spec_l1Int.f x1000 bt313.2.1 bt313.2.2 (([(-1), 0] : List Int))).bind fun bt319 => ((spec_l1Int.f x1000 bt319.2.1 bt319.2.2 (([0, 1000000, 1000001] : List Int))).bind fun bt325 => (if x279000.length < 4398046511104 then (some ((x279000 ++ [(⟨bt313.1, bt319.1, bt325.1, false⟩ : S108)]), bt325.2.1, bt325.2.2)) else (none))))) else (some (x279000, bt307.2.1, bt307.2.2))))
def spec_l31Mailbox.f (k : Nat) (s0_0 : List Int) (s0_1 : Int) (s0_2 : Int) : Option ((List (S108)) × Int × Int) := (spec_l1Int.f s0_0 s0_1 s0_2 (([0, 2, 5, 32] : List Int))).bind fun bt282 => (spec_l31Mailbox.l0 k 0 bt282.1 s0_0 bt282.2.1 bt282.2.2 ([] : List (S108)))
theorem spec_l31Mailbox.mono_l : ∀ k, (∀ y0 y1 y2 y3 y4 y5, LeO (spec_l31Mailbox.l0 k y0 y1 y2 y3 y4 y5) (spec_l31Mailbox.l0 (k + 1) y0 y1 y2 y3 y4 y5))
 | 0 => fun _ _ _ _ _ _ r h => by simp [spec_l31Mailbox.l0] at h
 | k + 1 => by
  have ih0 := spec_l31Mailbox.mono_l k
  ·intro y0 y1 y2 y3 y4 y5
   unfold spec_l31Mailbox.l0
   repeat' first
   | (with_reducible exact ih0 _ _ _ _ _ _)
   | (with_reducible exact spec_ReadNotices.mono _ _)
   | (with_reducible exact spec_SendNotice.mono _ _ _ _ _)
   | (with_reducible exact LeO.refl _)
   | (with_reducible exact LeO.none _)
   | (with_reducible refine LeO.ite ?_ ?_)
   | (with_reducible refine LeO.bind ?_ (fun _ => ?_))
   | exact ih0 _ _ _ _ _ _
   | exact spec_ReadNotices.mono _ _
   | exact spec_SendNotice.mono _ _ _ _ _
   | exact LeO.none _
   | refine LeO.ite ?_ ?_
   | refine LeO.bind ?_ (fun _ => ?_)
theorem spec_l31Mailbox.mono : ∀ a0 a1 a2 k, LeO (spec_l31Mailbox.f k a0 a1 a2) (spec_l31Mailbox.f (k + 1) a0 a1 a2) := by
 intro a0 a1 a2 k
 have ih0 := spec_l31Mailbox.mono_l k
 unfold spec_l31Mailbox.f
 repeat' first
   | (with_reducible exact ih0 _ _ _ _ _ _)
   | (with_reducible exact spec_ReadNotices.mono _ _)
   | (with_reducible exact spec_SendNotice.mono _ _ _ _ _)
   | (with_reducible exact LeO.refl _)
   | (with_reducible exact LeO.none _)
   | (with_reducible refine LeO.ite ?_ ?_)
   | (with_reducible refine LeO.bind ?_ (fun _ => ?_))
   | exact ih0 _ _ _ _ _ _
   | exact spec_ReadNotices.mono _ _
   | exact spec_SendNotice.mono _ _ _ _ _
   | exact LeO.none _
   | refine LeO.ite ?_ ?_
   | refine LeO.bind ?_ (fun _ => ?_)
def spec_l31Mailbox.T7 : Bool × List (List Nat × List Nat) := (true, [([], []), ([], []), ([1], [1]), ([2], [2]), ([], []), ([4, 2], [4]), ([], []), ([0, 3, 5, 6, 5], [0, 3, 5, 6]), ([7], [7]), ([8], [8]), ([8], [8]), ([9, 7, 0, 1, 2, 3, 4, 5, 6, 7, 8, 9], [9])])
def spec_l31Mailbox.B7 : List Nat := [0, 0, 2, 6, 0, 22, 0, 127, 255, 511, 511, 1023]
theorem spec_l31Mailbox.tab7 : rtab .any (opsOf Try.f110 7) = spec_l31Mailbox.T7 := by kernel_rfl
theorem spec_l31Mailbox.bits7 : waitsOk spec_l31Mailbox.T7.2 spec_l31Mailbox.B7 = true := by kernel_rfl
def spec_l31Mailbox.T12 : Bool × List (List Nat × List Nat) := (true, [([], []), ([0], [0]), ([], []), ([], []), ([2, 3], [2, 3]), ([], []), ([], []), ([5, 6, 4], [5, 6]), ([], []), ([], []), ([8, 9, 7], [8, 9]), ([4, 7, 10], [4, 7, 10]), ([11], [11]), ([1, 12, 10], [1, 12]), ([0, 1, 2, 3, 4, 5, 6, 7, 8, 9, 10, 11, 12, 13], []), ([14, 13, 13, 0, 1, 2, 3, 4, 5, 6, 7, 8, 9, 10, 11, 12, 13], [13, 14])])
def spec_l31Mailbox.B12 : List Nat := [0, 1, 0, 0, 12, 0, 0, 124, 0, 0, 1020, 2044, 4092, 8191, 16383, 32767]
theorem spec_l31Mailbox.tab12 : rtab .any (opsOf Try.f110 12) = spec_l31Mailbox.T12 := by kernel_rfl
theorem spec_l31Mailbox.bits12 : waitsOk spec_l31Mailbox.T12.2 spec_l31Mailbox.B12 = true := by kernel_rfl
set_option maxHeartbeats 8000000 in
set_option maxRecDepth 100000 in
theorem spec_l31Mailbox.calls (k : Nat) (g : Nat) (s0_0 : List Int) (s0_1 : Int) (s0_2 : Int) (r1 : List (S108)) (r2 : Int) (r3 : Int) (w0 w : World) (hI : IsS159 w0 w g s0_0 s0_1 s0_2) (hB : Below w0.heap.size w0 w) (h : spec_l31Mailbox.f k s0_0 s0_1 s0_2 = some (r1, r2, r3)) :
  Calls Try.prog 110 #[.pointer (some ⟨g, 0, none⟩)] w fun e w' => ∃ v0_ : Value, e = .returned (.agg #[v0_]) ∧ Kd.R k108 108 w' w.heap.size (fun _ => True) v0_ r1 ∧ IsS159 w0 w' g s0_0 r2 r3 ∧ Below w0.heap.size w0 w' ∧ KeepBut w w' g none := by
 have hu65 := Try.underlying65
 have hu108 := Try.underlying108
 have HI0 := Aside0.mk hI
 have HK := Aside0.mk (KeepBut.refl w g none)
 have HL := Aside0.mk hB.size
 clear hI
 have HW0 := Aside0.mk hB.size
 have HB := Aside0.mk hB
 clear hB
 have H : ((spec_l1Int.f s0_0 s0_1 s0_2 (([0, 2, 5, 32] : List Int))).bind fun bt282 => (spec_l31Mailbox.l0 k 0 bt282.1 s0_0 bt282.2.1 bt282.2.2 ([] : List (S108)))) = some (r1, r2, r3) := h
 clear h
 obtain ⟨y279, hy279⟩ : ∃ y_ : List Int, y_ = (([0, 2, 5, 32] : List Int)) := ⟨_, rfl⟩
 replace H : ((spec_l1Int.f s0_0 s0_1 s0_2 y279).bind fun bt282 => (spec_l31Mailbox.l0 k 0 bt282.1 s0_0 bt282.2.1 bt282.2.2 ([] : List (S108)))) = some (r1, r2, r3) := by first | (rw [hy279]; with_reducible exact H) | (have H2_ := (Option.bind_some _ _).symm.trans H; rw [hy279]; with_reducible exact H2_) | (have H2_ := (Option.bind_some _ _).symm.trans H; with_reducible exact H2_) | with_reducible exact H | (rw [hy279]; exact H) | exact H
 have Ny279 := Aside0.mk hy279
 clear hy279
 replace H := Option.bind_eq_some_iff.mp H
 obtain ⟨⟨t282, t283, t284⟩, A20, H⟩ := H
 try dsimp only at H
 have A2 := Aside0.mk A20
 clear A20
 have H' := Aside0.mk H
 clear H
 go_enter Try.func110, Try.ntmps110
 go_wp2_with (first | ((with_reducible refine gate_dst (N := 2) rfl ?_); refine box_event ?hg (N := 2) ?hd (cs := #[.slice none 0 0]) (t := 65) ?hr ?_; (case hd => rfl); (case hg => rfl); (case hr => exact tG); intro gb277 hg w3 hbox hb; replace HB := Aside0.mk (below_step (by repeat (first | (with_reducible first | exact HB.out | apply below_alloc | apply pw_below_drewN | apply below_drew1 | refine below_set ?_ (IsS159.ge HI0.out)) | exact HB.out)) hb); have BK277 := Aside0.mk (hbox); have GW277 := Aside0.mk ((by rw [hg]; exact (keep_size (w := w) (g := g) (row := none) (by repeat (first | (with_reducible first | exact HK.out | apply KeepBut.set_ | apply keep_drewN | apply keep_drew | apply keep_alloc) | exact HK.out))) : w.heap.size ≤ gb277)); have GE277 := Aside0.mk ((Nat.le_trans HW0.out (by rw [hg]; exact (keep_size (w := w) (g := g) (row := none) (by repeat (first | (with_reducible first | exact HK.out | apply KeepBut.set_ | apply keep_drewN | apply keep_drew | apply keep_alloc) | exact HK.out))) : w.heap.size ≤ gb277) : w0.heap.size ≤ gb277)); replace HK := Aside0.mk (KeepBut.trans (by repeat (first | (with_reducible first | exact HK.out | apply KeepBut.set_ | apply keep_drewN | apply keep_drew | apply keep_alloc) | exact HK.out)) (KeepBut.of_below hb g none) (.inl rfl)); have NB0_277 := Aside0.mk ((by rw [hg]; exact Nat.ne_of_lt (IsS159.lt (show IsS159 w0 _ g s0_0 s0_1 s0_2 from by repeat (first | (with_reducible first | exact HI0.out | apply IsS159.alloc | apply IsS159.drewN | apply IsS159.drew | apply IsS159.set_1 | apply IsS159.set_2) | exact HI0.out))) : g ≠ gb277)); have NB277_0 := Aside0.mk ((by rw [hg]; exact Nat.ne_of_gt (IsS159.lt (show IsS159 w0 _ g s0_0 s0_1 s0_2 from by repeat (first | (with_reducible first | exact HI0.out | apply IsS159.alloc | apply IsS159.drewN | apply IsS159.drew | apply IsS159.set_1 | apply IsS159.set_2) | exact HI0.out))) : gb277 ≠ g)); replace HI0 := Aside0.mk (IsS159.below (by repeat (first | (with_reducible first | exact HI0.out | apply IsS159.alloc | apply IsS159.drewN | apply IsS159.drew | apply IsS159.set_1 | apply IsS159.set_2) | exact HI0.out)) hb); clear hb hbox hg) | ((with_reducible refine gate_dst (N := 3) rfl ?_); refine box_event ?hg (N := 3) ?hd (cs := #[.slice none 0 0]) (t := 65) ?hr ?_; (case hd => rfl); (case hg => rfl); (case hr => exact tG); intro gb278 hg w4 hbox hb; replace HB := Aside0.mk (below_step (by repeat (first | (with_reducible first | exact HB.out | apply below_alloc | apply pw_below_drewN | apply below_drew1 | refine below_set ?_ (IsS159.ge HI0.out) | refine below_set ?_ GE277.out) | exact HB.out)) hb); have BK278 := Aside0.mk (hbox); have GW278 := Aside0.mk ((by rw [hg]; exact (keep_size (w := w) (g := g) (row := none) (by repeat (first | (with_reducible first | exact HK.out | apply KeepBut.set_ | apply keep_drewN | apply keep_drew | apply keep_alloc | refine keep_far ?_ GW277.out _) | exact HK.out))) : w.heap.size ≤ gb278)); have GE278 := Aside0.mk ((Nat.le_trans HW0.out (by rw [hg]; exact (keep_size (w := w) (g := g) (row := none) (by repeat (first | (with_reducible first | exact HK.out | apply KeepBut.set_ | apply keep_drewN | apply keep_drew | apply keep_alloc | refine keep_far ?_ GW277.out _) | exact HK.out))) : w.heap.size ≤ gb278) : w0.heap.size ≤ gb278)); replace HK := Aside0.mk (KeepBut.trans (by repeat (first | (with_reducible first | exact HK.out | apply KeepBut.set_ | apply keep_drewN | apply keep_drew | apply keep_alloc | refine keep_far ?_ GW277.out _) | exact HK.out)) (KeepBut.of_below hb g none) (.inl rfl)); have NB277_278 := nL BK277 hg; have NB278_277 := nR BK277 hg; replace BK277 := bB BK277 hb; have NB0_278 := Aside0.mk ((by rw [hg]; exact Nat.ne_of_lt (IsS159.lt (show IsS159 w0 _ g s0_0 s0_1 s0_2 from by repeat (first | (with_reducible first | exact HI0.out | apply IsS159.alloc | apply IsS159.drewN | apply IsS159.drew | apply IsS159.set_1 | apply IsS159.set_2 | refine IsS159.far ?_ NB0_277.out _) | exact HI0.out))) : g ≠ gb278)); have NB278_0 := Aside0.mk ((by rw [hg]; exact Nat.ne_of_gt (IsS159.lt (show IsS159 w0 _ g s0_0 s0_1 s0_2 from by repeat (first | (with_reducible first | exact HI0.out | apply IsS159.alloc | apply IsS159.drewN | apply IsS159.drew | apply IsS159.set_1 | apply IsS159.set_2 | refine IsS159.far ?_ NB0_277.out _) | exact HI0.out))) : gb278 ≠ g)); replace HI0 := Aside0.mk (IsS159.below (by repeat (first | (with_reducible first | exact HI0.out | apply IsS159.alloc | apply IsS159.drewN | apply IsS159.drew | apply IsS159.set_1 | apply IsS159.set_2 | refine IsS159.far ?_ NB0_277.out _) | exact HI0.out)) hb); clear hb hbox hg; have hnb5 := NB278_277.out; have hnc5 := NB277_278.out; have hnb6 := NB278_0.out; have hnc6 := NB0_278.out; obtain ⟨hcz7_0, hfz7_0⟩ := bc1 BK278.out) | ((with_reducible refine gate_dst (N := 8) rfl ?_); refine Kd.R_lit (Kd.int .i64) _ 3 ?hg (N := 8) ?hd (xs := ([0, 2, 5, 32] : List Int)) (inner := [.int .i64 0, .int .i64 2, .int .i64 5, .int .i64 32]) (ok := fun _ => True) (okp := fun _ => True) ?hr ?hp (fun _ hk => hk) trivial (Below.refl _ _) (Nat.le_refl _) (by simp) ?_; (case hd => rfl); (case hg => rfl); (case hr => exact tG); (case hp => exact (Reps.one (show Kd.M (Kd.int .i64) _ _ _ 0 [.int .i64 0] from rfl) (Reps.one (show Kd.M (Kd.int .i64) _ _ _ 2 [.int .i64 2] from rfl) (Reps.one (show Kd.M (Kd.int .i64) _ _ _ 5 [.int .i64 5] from rfl) (Reps.one (show Kd.M (Kd.int .i64) _ _ _ 32 [.int .i64 32] from rfl) (Reps.none _ _)))))); intro v280 w8 ho9 hb hg_ hnew_; clear hg_ hnew_; (first | rw [← Ny279.out] at ho9 | (simp only [Int.reduceToNat] at ho9; rw [← Ny279.out] at ho9)); have HO281 := Aside0.mk (Kd.R_lower ho9 (keep_size (w := w) (g := g) (row := none) (by repeat (first | (with_reducible first | exact HK.out | apply KeepBut.set_ | apply keep_drewN | apply keep_drew | apply keep_alloc | refine keep_far ?_ GW277.out _ | refine keep_far ?_ GW278.out _) | exact HK.out)))); replace BK277 := Aside0.mk (blk_below (g := gb277) (o := .cells #[.slice none 0 0] 65 (0, 0)) (kF NB277_278 BK277) hb); replace BK278 := Aside0.mk (blk_below (g := gb278) (o := .cells #[.slice none 0 0] 65 (0, 0)) (by (with_reducible repeat (first | refine blk_drewN ?_ _ | refine blk_drew ?_ | refine blk_alloc ?_ _)); refine blk_put (cs := #[.slice none 0 0]) ?_ 0 _ rfl; (with_reducible repeat (first | refine blk_drewN ?_ _ | refine blk_drew ?_ | refine blk_alloc ?_ _)); exact BK278.out) hb); replace HK := Aside0.mk (KeepBut.trans (by repeat (first | (with_reducible first | exact HK.out | apply KeepBut.set_ | apply keep_drewN | apply keep_drew | apply keep_alloc | refine keep_far ?_ GW277.out _ | refine keep_far ?_ GW278.out _) | exact HK.out)) (KeepBut.of_below hb g none) (.inl rfl)); replace HB := Aside0.mk (below_step (by repeat (first | (with_reducible first | exact HB.out | apply below_alloc | apply pw_below_drewN | apply below_drew1 | refine below_set ?_ (IsS159.ge HI0.out) | refine below_set ?_ GE277.out | refine below_set ?_ GE278.out) | exact HB.out)) hb); replace HI0 := Aside0.mk (IsS159.below (show IsS159 w0 (w4.setCell ⟨gb278, 0, none⟩ (.slice none 0 0)) g s0_0 s0_1 s0_2 from by repeat (first | (with_reducible first | exact HI0.out | apply IsS159.alloc | apply IsS159.drewN | apply IsS159.drew | apply IsS159.set_1 | apply IsS159.set_2 | refine IsS159.far ?_ NB0_277.out _ | refine IsS159.far ?_ NB0_278.out _) | exact HI0.out)) hb); clear hb ho9; obtain ⟨Ao10, co10, eo10⟩ := Kd.R_slice HO281.out; subst eo10) | ((with_reducible refine gate_callee (f := 112) rfl ?_); refine goesL_ (some 9) rfl rfl Try.func112 (by kernel_rfl) rfl #[.pointer (some ⟨g, 0, none⟩), .slice Ao10 y279.length co10] rfl tL ?_; (with_reducible refine (spec_l1Int.calls g s0_0 s0_1 s0_2 _ _ y279 t282 t283 t284 w0 _ ?side1 ?side2 ?side3 ?side4 ?side5 A2.out).mono ?_); (case side1 => repeat (first | (with_reducible first | exact HI0.out | apply IsS159.alloc | apply IsS159.drewN | apply IsS159.drew | apply IsS159.set_1 | apply IsS159.set_2 | refine IsS159.far ?_ NB0_277.out _ | refine IsS159.far ?_ NB0_278.out _) | exact HI0.out)); (case side2 => repeat (first | (with_reducible first | exact HB.out | apply below_alloc | apply pw_below_drewN | apply below_drew1 | refine below_set ?_ (IsS159.ge HI0.out) | refine below_set ?_ GE277.out | refine below_set ?_ GE278.out) | exact HB.out)); (case side3 => repeat (first | exact (Kd.R_reads' HO281.out).2.2 | (with_reducible refine Kd.C_alloc ?_ _) | (with_reducible refine Kd.C_drewN ?_ _) | (with_reducible refine Kd.C_drew ?_))); (case side4 => exact (Kd.R_reads' HO281.out).2.1); (case side5 => exact far_slice (IsS159.own_ne HI0.out HO281.out (by decide))); rintro e w11 ⟨rfl, hi, hb, hk⟩; refine ⟨_, rfl, ?_⟩; replace BK277 := Aside0.mk (KeepBut.blk hk (g' := gb277) (o := .cells #[.slice none 0 0] 65 (0, 0)) (tK BK277) NB277_0.out (by simp)); replace BK278 := Aside0.mk (KeepBut.blk hk (g' := gb278) (o := .cells #[.slice none 0 0] 65 (0, 0)) (tK BK278) NB278_0.out (by simp)); replace HO281 := Aside0.mk (Kd.R_mono (Kd.R_keep (IsS159.apart (show IsS159 w0 _ g s0_0 s0_1 s0_2 from by repeat (first | (with_reducible first | exact HI0.out | apply IsS159.alloc | apply IsS159.drewN | apply IsS159.drew | apply IsS159.set_1 | apply IsS159.set_2 | refine IsS159.far ?_ NB0_277.out _ | refine IsS159.far ?_ NB0_278.out _) | exact HI0.out)) (tR HO281) (by decide)) hk (fun _ h => h.2)) (fun _ h => h.1)); replace HK := Aside0.mk (KeepBut.trans (by repeat (first | (with_reducible first | exact HK.out | apply KeepBut.set_ | apply keep_drewN | apply keep_drew | apply keep_alloc | refine keep_far ?_ GW277.out _ | refine keep_far ?_ GW278.out _) | exact HK.out)) hk (.inl rfl)); replace HB := Aside0.mk (hb); replace HI0 := Aside0.mk (hi); (try clear hb); (try clear hb2); (try clear hk); (try clear hi)))
 go_loopg [4, 5] k (fun kq v4 v5 w' => ∃ (x4_1 : Int) (x5_1 : Int) (x1001_1 : Int) (x1002_1 : Int) (x279000_1 : List (S108)) (u279000 : Value), v4 = .int .i64 x4_1 ∧ v5 = .int .i64 x5_1 ∧ Aside0 (spec_l31Mailbox.l0 kq x4_1 x5_1 s0_0 x1001_1 x1002_1 x279000_1 = some (r1, r2, r3)) ∧ Aside0 (kq ≤ k) ∧ Aside0 (Kd.R k108 108 w' w.heap.size (fun _ => True) u279000 x279000_1) ∧ Aside0 (w'.heap[gb277]? = some (.cells #[(.slice none 0 0)] 65 (0, 0))) ∧ Aside0 (w'.heap[gb278]? = some (.cells #[u279000] 65 (0, 0))) ∧ Aside0 (IsS159 w0 w' g s0_0 x1001_1 x1002_1) ∧ Aside0 (KeepBut w w' g none) ∧ Aside0 (Below w0.heap.size w0 w'))
 case atStart => exact ⟨(0), (t282), (t283), (t284), (([] : List (S108))), (.slice none 0 0), tS, tS, H', ⟨Nat.le_refl _⟩, ⟨by first | exact Kd.R_nil _ _ _ _ _ | exact Kd.N_nil _ _ _ _ _ | exact Kd.V_nil _ _ _ _ _ | exact Kd.Q_nil _ _ _ _ _ | exact Kd.S_nil _ _ _ _ _⟩, ⟨tK BK277⟩, ⟨tK BK278⟩, ⟨by repeat (first | (with_reducible first | exact HI0.out | apply IsS159.alloc | apply IsS159.drewN | apply IsS159.drew | apply IsS159.set_1 | apply IsS159.set_2 | refine IsS159.far ?_ NB0_277.out _ | refine IsS159.far ?_ NB0_278.out _) | exact HI0.out)⟩, ⟨by repeat (first | (with_reducible first | exact HK.out | apply KeepBut.set_ | apply keep_drewN | apply keep_drew | apply keep_alloc | refine keep_far ?_ GW277.out _ | refine keep_far ?_ GW278.out _) | exact HK.out)⟩, ⟨by repeat (first | (with_reducible first | exact HB.out | apply below_alloc | apply pw_below_drewN | apply below_drew1 | refine below_set ?_ (IsS159.ge HI0.out) | refine below_set ?_ GE277.out | refine below_set ?_ GE278.out) | exact HB.out)⟩⟩
 case round =>
  clear H'
  try clear c1
  try clear p2
  try clear c5
  try clear c6
  try clear c11
  try clear hcz7_0
  try clear hfz7_0
  obtain ⟨x4_1, x5_1, x1001_1, x1002_1, x279000_1, u279000, rfl, rfl, HA, HK1, HO_279000, BK277, BK278, HI0, HK, HB⟩ := hrel
  cases gk with
  | zero => exact absurd HA.out (by simp [spec_l31Mailbox.l0])
  | succ k1 =>
   have H := HA.out
   clear HA
   simp only [spec_l31Mailbox.l0] at H
   by_cases c12 : x5_1 > 0
   ·rw [if_pos c12] at H
    have c12b0 : decide (0 < x5_1) = true := decide_eq_true c12
    clear c12
    replace H := Option.bind_eq_some_iff.mp H
    obtain ⟨⟨t285, t286, t287⟩, A130, H⟩ := H
    try dsimp only at H
    have A13 := Aside0.mk A130
    clear A130
    replace H := Option.bind_eq_some_iff.mp H
    obtain ⟨⟨t288, t289, t290⟩, A140, H⟩ := H
    try dsimp only at H
    have A14 := Aside0.mk A140
    clear A140
    replace H := Option.bind_eq_some_iff.mp H
    obtain ⟨⟨t291, t292, t293⟩, A150, H⟩ := H
    try dsimp only at H
    have A15 := Aside0.mk A150
    clear A150
    replace H := Option.bind_eq_some_iff.mp H
    obtain ⟨⟨t294, t297⟩, A160, H⟩ := H
    try dsimp only at H
    have A16 := Aside0.mk A160
    clear A160
    replace H := Option.bind_eq_some_iff.mp H
    obtain ⟨⟨t298, t299, t300⟩, A170, H⟩ := H
    try dsimp only at H
    have A17 := Aside0.mk A170
    clear A170
    by_cases c18 : t298 = true
    ·subst c18
     have H1 : ((spec_ReadNotices.f k1 t294).bind fun bt301 => (spec_l31Mailbox.l0 k1 (wrap64 (x4_1 + t285)) (wrap64 (x5_1 - 1)) s0_0 t299 t300 bt301.1)) = some (r1, r2, r3) := by rw [if_pos rfl] at H; exact H
     clear H
     have H := H1
     clear H1
     replace H := Option.bind_eq_some_iff.mp H
     obtain ⟨⟨t301, t304⟩, A190, H⟩ := H
     try dsimp only at H
     have A19 := Aside0.mk A190
     clear A190
     have H' := Aside0.mk H
     clear H
     try go_wp2_with (first | ((with_reducible refine gate_callee (f := 111) rfl ?_); refine goesL_ (some 16) rfl rfl Try.func111 (by kernel_rfl) rfl #[.pointer (some ⟨g, 0, none⟩), .int .i64 3] rfl tL ?_; (with_reducible refine (spec_l1Below.calls g s0_0 x1001_1 x1002_1 3 t285 t286 t287 w0 _ ?side1 ?side2 A13.out).mono ?_); (case side1 => repeat (first | (with_reducible first | exact HI0.out | apply IsS159.alloc | apply IsS159.drewN | apply IsS159.drew | apply IsS159.set_1 | apply IsS159.set_2 | refine IsS159.far ?_ NB0_277.out _ | refine IsS159.far ?_ NB0_278.out _) | exact HI0.out)); (case side2 => repeat (first | (with_reducible first | exact HB.out | apply below_alloc | apply pw_below_drewN | apply below_drew1 | refine below_set ?_ (IsS159.ge HI0.out) | refine below_set ?_ GE277.out | refine below_set ?_ GE278.out) | exact HB.out)); rintro e w20 ⟨rfl, hi, hb, hk⟩; refine ⟨_, rfl, ?_⟩; replace HO_279000 := Aside0.mk (Kd.R_mono (Kd.R_keep (IsS159.apart (show IsS159 w0 _ g s0_0 x1001_1 x1002_1 from by repeat (first | (with_reducible first | exact HI0.out | apply IsS159.alloc | apply IsS159.drewN | apply IsS159.drew | apply IsS159.set_1 | apply IsS159.set_2 | refine IsS159.far ?_ NB0_277.out _ | refine IsS159.far ?_ NB0_278.out _) | exact HI0.out)) (tR HO_279000) (by decide)) hk (fun _ h => h.2)) (fun _ h => h.1)); replace BK277 := Aside0.mk (KeepBut.blk hk (g' := gb277) (o := .cells #[.slice none 0 0] 65 (0, 0)) (tK BK277) NB277_0.out (by simp)); replace BK278 := Aside0.mk (KeepBut.blk hk (g' := gb278) (o := .cells #[u279000] 65 (0, 0)) (tK BK278) NB278_0.out (by simp)); replace HK := Aside0.mk (KeepBut.trans (by repeat (first | (with_reducible first | exact HK.out | apply KeepBut.set_ | apply keep_drewN | apply keep_drew | apply keep_alloc | refine keep_far ?_ GW277.out _ | refine keep_far ?_ GW278.out _) | exact HK.out)) hk (.inl rfl)); replace HB := Aside0.mk (hb); replace HI0 := Aside0.mk (hi); (try clear hb); (try clear hb2); (try clear hk); (try clear hi)))
     replace HO_279000 := Aside0.mk (Kd.R_drew HO_279000.out)
     replace BK277 := Aside0.mk (blk_drew BK277.out)
     replace BK278 := Aside0.mk (blk_drew BK278.out)
     replace HI0 := Aside0.mk (IsS159.drew HI0.out)
     replace HK := Aside0.mk (keep_drew HK.out)
     replace HB := Aside0.mk (below_drew1 HB.out)
     refine start_ (n := 12) (S := fun w' => w'.cell? ⟨gb278, 0, none⟩ = some (u279000)) (ds := [11]) #[N_,N_,N_,N_,N_,N_,N_,N_,N_,N_,N_,N_] (by kernel_rfl) rfl rfl ((blk_cell BK278.out 0).trans rfl) (fun hHeld => ?_); refine with_tabW spec_l31Mailbox.tab7 spec_l31Mailbox.bits7 (fun HT_ HW_ => ?_)
     generalize w20.drew = w21 at HO_279000 BK277 BK278 HI0 HK HB hHeld ⊢
     refine pure_ (i := 1) (N := some 20) #[N_,Y_,N_,N_,N_,N_,N_,N_,N_,N_,N_,N_] rfl rfl (any_of HT_.out (by kernel_rfl)) (fun _ _ _ h => h) (Or.inl ⟨by rfl, tX⟩) tV ?_
     refine pure_ (i := 4) (N := some 23) #[N_,Y_,N_,N_,Y_,N_,N_,N_,N_,N_,N_,N_] rfl rfl (any_of HT_.out (by kernel_rfl)) (fun _ _ _ h => h) (Or.inl ⟨by rfl, tX⟩) tV ?_
     refine pure_ (i := 6) (N := some 25) #[N_,Y_,N_,N_,Y_,N_,Y_,N_,N_,N_,N_,N_] rfl rfl (any_of HT_.out (by kernel_rfl)) (fun _ _ _ h => h) (Or.inl ⟨by rfl, tX⟩) tV ?_
     refine take_ (i := 0) (N := some 19) (v := ?_) (a' := ?_) #[Y_,Y_,N_,N_,Y_,N_,Y_,N_,N_,N_,N_,N_] rfl rfl (take_ofW HT_.out HW_.out (by kernel_rfl)) (fun _ _ _ h => h) (Or.inl ⟨by rfl, ?_⟩) hHeld ?_ ?_
     rotate_left
     ·intro w' s0
      go_simp
      with_reducible rfl
     rotate_left
     ·simp only [Act.put, List.setIfInBounds_toArray, List.set_cons_zero, List.set_cons_succ, i64_w, i32_w]
      rfl
     refine one_ (i := 2) (N := some 21) #[Y_,Y_,Y_,N_,Y_,N_,Y_,N_,N_,N_,N_,N_] rfl rfl (one_of HT_.out (by kernel_rfl)) (by decide) (fun K hK => ?_)
     refine goes_ Try.func111 (by kernel_rfl) rfl #[.pointer (some ⟨g, 0, none⟩), .int .i64 5] (by rfl) rfl rfl tL ?_
     with_reducible refine (spec_l1Below.calls g s0_0 t286 t287 5 t288 t289 t290 w0 _ ?side1 ?side2 A14.out).mono ?_
     (case side1 => repeat (first | (with_reducible first | exact HI0.out | apply IsS159.alloc | apply IsS159.drewN | apply IsS159.drew | apply IsS159.set_1 | apply IsS159.set_2 | refine IsS159.far ?_ NB0_277.out _ | refine IsS159.far ?_ NB0_278.out _) | exact HI0.out))
     (case side2 => repeat (first | (with_reducible first | exact HB.out | apply below_alloc | apply pw_below_drewN | apply below_drew1 | refine below_set ?_ (IsS159.ge HI0.out) | refine below_set ?_ GE277.out | refine below_set ?_ GE278.out) | exact HB.out))
     rintro e w22 ⟨rfl, hi, hb, hk⟩
     refine ⟨_, rfl, ?_⟩
     replace HO_279000 := Aside0.mk (Kd.R_mono (Kd.R_keep (IsS159.apart (show IsS159 w0 _ g s0_0 t286 t287 from by repeat (first | (with_reducible first | exact HI0.out | apply IsS159.alloc | apply IsS159.drewN | apply IsS159.drew | apply IsS159.set_1 | apply IsS159.set_2 | refine IsS159.far ?_ NB0_277.out _ | refine IsS159.far ?_ NB0_278.out _) | exact HI0.out)) (tR HO_279000) (by decide)) hk (fun _ h => h.2)) (fun _ h => h.1))
     replace BK277 := Aside0.mk (KeepBut.blk hk (g' := gb277) (o := .cells #[.slice none 0 0] 65 (0, 0)) (tK BK277) NB277_0.out (by simp))
     replace BK278 := Aside0.mk (KeepBut.blk hk (g' := gb278) (o := .cells #[u279000] 65 (0, 0)) (tK BK278) NB278_0.out (by simp))
     replace HK := Aside0.mk (KeepBut.trans (by repeat (first | (with_reducible first | exact HK.out | apply KeepBut.set_ | apply keep_drewN | apply keep_drew | apply keep_alloc | refine keep_far ?_ GW277.out _ | refine keep_far ?_ GW278.out _) | exact HK.out)) hk (.inl rfl))
     replace HB := Aside0.mk (hb)
     replace HI0 := Aside0.mk (hi)
     (try clear hb)
     (try clear hb2)
     (try clear hk)
     (try clear hi)
     refine hK.out _ _ ((blk_cell BK278.out 0).trans rfl) (fun hHeld => ?_)
     clear hK K
     refine norm_ (tV : Act.put _ (some 21) _ = _) ?_
     refine pure_ (i := 3) (N := some 22) #[Y_,Y_,Y_,Y_,Y_,N_,Y_,N_,N_,N_,N_,N_] rfl rfl (any_of HT_.out (by kernel_rfl)) (fun _ _ _ h => h) (Or.inl ⟨by rfl, tX⟩) tV ?_
     refine one_ (i := 5) (N := some 24) #[Y_,Y_,Y_,Y_,Y_,Y_,Y_,N_,N_,N_,N_,N_] rfl rfl (one_of HT_.out (by kernel_rfl)) (by decide) (fun K hK => ?_)
     refine goes_ Try.func111 (by kernel_rfl) rfl #[.pointer (some ⟨g, 0, none⟩), .int .i64 4] (by rfl) rfl rfl tL ?_
     with_reducible refine (spec_l1Below.calls g s0_0 t289 t290 4 t291 t292 t293 w0 _ ?side1 ?side2 A15.out).mono ?_
     (case side1 => repeat (first | (with_reducible first | exact HI0.out | apply IsS159.alloc | apply IsS159.drewN | apply IsS159.drew | apply IsS159.set_1 | apply IsS159.set_2 | refine IsS159.far ?_ NB0_277.out _ | refine IsS159.far ?_ NB0_278.out _) | exact HI0.out))
     (case side2 => repeat (first | (with_reducible first | exact HB.out | apply below_alloc | apply pw_below_drewN | apply below_drew1 | refine below_set ?_ (IsS159.ge HI0.out) | refine below_set ?_ GE277.out | refine below_set ?_ GE278.out) | exact HB.out))
     rintro e w23 ⟨rfl, hi, hb, hk⟩
     refine ⟨_, rfl, ?_⟩
     replace HO_279000 := Aside0.mk (Kd.R_mono (Kd.R_keep (IsS159.apart (show IsS159 w0 _ g s0_0 t289 t290 from by repeat (first | (with_reducible first | exact HI0.out | apply IsS159.alloc | apply IsS159.drewN | apply IsS159.drew | apply IsS159.set_1 | apply IsS159.set_2 | refine IsS159.far ?_ NB0_277.out _ | refine IsS159.far ?_ NB0_278.out _) | exact HI0.out)) (tR HO_279000) (by decide)) hk (fun _ h => h.2)) (fun _ h => h.1))
     replace BK277 := Aside0.mk (KeepBut.blk hk (g' := gb277) (o := .cells #[.slice none 0 0] 65 (0, 0)) (tK BK277) NB277_0.out (by simp))
     replace BK278 := Aside0.mk (KeepBut.blk hk (g' := gb278) (o := .cells #[u279000] 65 (0, 0)) (tK BK278) NB278_0.out (by simp))
     replace HK := Aside0.mk (KeepBut.trans (by repeat (first | (with_reducible first | exact HK.out | apply KeepBut.set_ | apply keep_drewN | apply keep_drew | apply keep_alloc | refine keep_far ?_ GW277.out _ | refine keep_far ?_ GW278.out _) | exact HK.out)) hk (.inl rfl))
     replace HB := Aside0.mk (hb)
     replace HI0 := Aside0.mk (hi)
     (try clear hb)
     (try clear hb2)
     (try clear hk)
     (try clear hi)
     obtain ⟨Ao24, co24, eo24⟩ := Kd.R_slice HO_279000.out
     (first | subst eo24 | (injection eo24 with f1_ f2_ f3_; have f4_ := f1_.symm; have f5_ := f3_.symm; clear f1_ f2_ f3_; subst f4_; subst f5_))
     refine hK.out _ _ ((blk_cell BK278.out 0).trans rfl) (fun hHeld => ?_)
     clear hK K
     refine norm_ (tV : Act.put _ (some 24) _ = _) ?_
     refine one_ (i := 7) (N := some 26) #[Y_,Y_,Y_,Y_,Y_,Y_,Y_,Y_,N_,N_,N_,N_] rfl rfl (one_of HT_.out (by kernel_rfl)) (by decide) (fun K hK => ?_)
     refine goes_ Try.func57 (by kernel_rfl) rfl #[.agg #[.slice Ao24 x279000_1.length co24], .int .i64 (wrap64 (1 + t288)), .int .i64 t291, .int .i64 (wrap64 (x4_1 + t285))] (by rfl) rfl rfl tL ?_
     with_reducible refine (spec_SendNotice.calls k1 _ _ x279000_1 (wrap64 (1 + t288)) t291 (wrap64 (x4_1 + t285)) t294 t297 _ ?side1 ?side2 A16.out).mono ?_
     (case side1 => repeat (first | exact (Kd.R_reads' HO_279000.out).2.2 | (with_reducible refine Kd.C_alloc ?_ _) | (with_reducible refine Kd.C_drewN ?_ _) | (with_reducible refine Kd.C_drew ?_)))
     (case side2 => exact (Kd.R_reads' HO_279000.out).2.1)
     rintro e w25 ⟨v295, rfl, ho0, hb⟩
     refine ⟨_, rfl, ?_⟩
     have HO296 := Aside0.mk (Kd.R_lower (Kd.R_new' ho0 (Kd.R_lt (tR HO_279000))) (keep_size (w := w) (g := g) (row := none) (by repeat (first | (with_reducible first | exact HK.out | apply KeepBut.set_ | apply keep_drewN | apply keep_drew | apply keep_alloc | refine keep_far ?_ GW277.out _ | refine keep_far ?_ GW278.out _) | exact HK.out))))
     replace HO_279000 := Aside0.mk (Kd.R_elder' (tR HO_279000) (Kd.R_base ho0) hb)
     replace BK277 := bB BK277 hb
     replace BK278 := bB BK278 hb
     replace HK := Aside0.mk (KeepBut.trans (by repeat (first | (with_reducible first | exact HK.out | apply KeepBut.set_ | apply keep_drewN | apply keep_drew | apply keep_alloc | refine keep_far ?_ GW277.out _ | refine keep_far ?_ GW278.out _) | exact HK.out)) (KeepBut.of_below hb g none) (.inl rfl))
     replace HB := Aside0.mk (below_step (by repeat (first | (with_reducible first | exact HB.out | apply below_alloc | apply pw_below_drewN | apply below_drew1 | refine below_set ?_ (IsS159.ge HI0.out) | refine below_set ?_ GE277.out | refine below_set ?_ GE278.out) | exact HB.out)) hb)
     replace HI0 := Aside0.mk (IsS159.below (by repeat (first | (with_reducible first | exact HI0.out | apply IsS159.alloc | apply IsS159.drewN | apply IsS159.drew | apply IsS159.set_1 | apply IsS159.set_2 | refine IsS159.far ?_ NB0_277.out _ | refine IsS159.far ?_ NB0_278.out _) | exact HI0.out)) hb)
     (try clear hb)
     (try clear hb2)
     (try clear hk)
     (try clear hi)
     (try clear ho0)
     obtain ⟨Ao26, co26, eo26⟩ := Kd.R_slice HO296.out
     (first | subst eo26 | (injection eo26 with f1_ f2_ f3_; have f4_ := f1_.symm; have f5_ := f3_.symm; clear f1_ f2_ f3_; subst f4_; subst f5_))
     refine hK.out _ _ ((blk_cell BK278.out 0).trans rfl) (fun hHeld => ?_)
     clear hK K
     refine norm_ (tV : Act.put _ (some 26) _ = _) ?_
     refine pure_ (i := 8) (N := some 18) #[Y_,Y_,Y_,Y_,Y_,Y_,Y_,Y_,Y_,N_,N_,N_] rfl rfl (any_of HT_.out (by kernel_rfl)) (fun _ _ _ h => h) (Or.inl ⟨by rfl, tX⟩) tV ?_
     refine pure_ (i := 9) (N := some 27) #[Y_,Y_,Y_,Y_,Y_,Y_,Y_,Y_,Y_,Y_,N_,N_] rfl rfl (any_of HT_.out (by kernel_rfl)) (fun _ _ _ h => h) (Or.inl ⟨by rfl, tX⟩) tV ?_
     refine pure_ (i := 10) (N := some 28) #[Y_,Y_,Y_,Y_,Y_,Y_,Y_,Y_,Y_,Y_,Y_,N_] rfl rfl (any_of HT_.out (by kernel_rfl)) (fun _ _ _ h => h) (Or.inl ⟨by rfl, tX⟩) tV ?_
     refine last_ (i := 11) (N := none) #[Y_,Y_,Y_,Y_,Y_,Y_,Y_,Y_,Y_,Y_,Y_,Y_] rfl rfl (one_of HT_.out (by kernel_rfl)) (by decide) (fun K hK => ?_)
     have hs27 : w25.cell? ⟨gb278, 0, none⟩ = some (.slice Ao24 x279000_1.length co24) := (blk_cell BK278.out 0).trans rfl
     have hfs27 := blk_frozen BK278.out 0
     have hns27_0 := NB277_278.out
     have hms27_0 := NB278_277.out
     refine skip_ (w1 := ?_) (by rfl) rfl ?_ ?_
     rotate_left
     ·go_simp
      rfl
     refine hK.out _ _ ?_
     clear hK K
     refine done_ (done_of HT_.out (by kernel_rfl)) ?_
     try go_wp2_with (first | ((with_reducible refine gate_callee (f := 126) rfl ?_); refine goesL_ (some 30) rfl rfl Try.func126 (by kernel_rfl) rfl #[.pointer (some ⟨g, 0, none⟩), .int .i64 6] rfl tL ?_; (with_reducible refine (spec_l1Once.calls g s0_0 t292 t293 6 true t299 t300 w0 _ ?side1 ?side2 A17.out).mono ?_); (case side1 => repeat (first | (with_reducible first | exact HI0.out | apply IsS159.alloc | apply IsS159.drewN | apply IsS159.drew | apply IsS159.set_1 | apply IsS159.set_2 | refine IsS159.far ?_ NB0_277.out _ | refine IsS159.far ?_ NB0_278.out _) | exact HI0.out)); (case side2 => repeat (first | (with_reducible first | exact HB.out | apply below_alloc | apply pw_below_drewN | apply below_drew1 | refine below_set ?_ (IsS159.ge HI0.out) | refine below_set ?_ GE277.out | refine below_set ?_ GE278.out) | exact HB.out)); rintro e w28 ⟨rfl, hi, hb, hk⟩; refine ⟨_, rfl, ?_⟩; replace HO_279000 := Aside0.mk (Kd.R_mono (Kd.R_keep (IsS159.apart (show IsS159 w0 _ g s0_0 t292 t293 from by repeat (first | (with_reducible first | exact HI0.out | apply IsS159.alloc | apply IsS159.drewN | apply IsS159.drew | apply IsS159.set_1 | apply IsS159.set_2 | refine IsS159.far ?_ NB0_277.out _ | refine IsS159.far ?_ NB0_278.out _) | exact HI0.out)) (by (with_reducible repeat (first | apply Kd.R_alloc | apply Kd.R_drewN | apply Kd.R_drew)); exact (Kd.R_mono (Kd.R_far (p := ⟨gb278, 0, none⟩) (Kd.R_types HO_279000.out BK278.out (by decide)) (fun _ hk => hk.2) (.slice Ao26 t294.length co26)) (fun _ h_ => h_.1))) (by decide)) hk (fun _ h => h.2)) (fun _ h => h.1)); replace BK277 := Aside0.mk (KeepBut.blk hk (g' := gb277) (o := .cells #[.slice none 0 0] 65 (0, 0)) (kF NB277_278 BK277) NB277_0.out (by simp)); replace HO296 := Aside0.mk (Kd.R_mono (Kd.R_keep (IsS159.apart (show IsS159 w0 _ g s0_0 t292 t293 from by repeat (first | (with_reducible first | exact HI0.out | apply IsS159.alloc | apply IsS159.drewN | apply IsS159.drew | apply IsS159.set_1 | apply IsS159.set_2 | refine IsS159.far ?_ NB0_277.out _ | refine IsS159.far ?_ NB0_278.out _) | exact HI0.out)) (by (with_reducible repeat (first | apply Kd.R_alloc | apply Kd.R_drewN | apply Kd.R_drew)); exact (Kd.R_mono (Kd.R_far (p := ⟨gb278, 0, none⟩) (Kd.R_types HO296.out BK278.out (by decide)) (fun _ hk => hk.2) (.slice Ao26 t294.length co26)) (fun _ h_ => h_.1))) (by decide)) hk (fun _ h => h.2)) (fun _ h => h.1)); replace BK278 := Aside0.mk (KeepBut.blk hk (g' := gb278) (o := .cells #[.slice Ao26 t294.length co26] 65 (0, 0)) (by (with_reducible repeat (first | refine blk_drewN ?_ _ | refine blk_drew ?_ | refine blk_alloc ?_ _)); refine blk_put (cs := #[.slice Ao24 x279000_1.length co24]) ?_ 0 _ rfl; (with_reducible repeat (first | refine blk_drewN ?_ _ | refine blk_drew ?_ | refine blk_alloc ?_ _)); exact BK278.out) NB278_0.out (by simp)); replace HK := Aside0.mk (KeepBut.trans (by repeat (first | (with_reducible first | exact HK.out | apply KeepBut.set_ | apply keep_drewN | apply keep_drew | apply keep_alloc | refine keep_far ?_ GW277.out _ | refine keep_far ?_ GW278.out _) | exact HK.out)) hk (.inl rfl)); replace HB := Aside0.mk (hb); replace HI0 := Aside0.mk (hi); (try clear hb); (try clear hb2); (try clear hk); (try clear hi); have hnb29 := NB278_277.out; have hnc29 := NB277_278.out; have hnb30 := NB278_0.out; have hnc30 := NB0_278.out; obtain ⟨hcz31_0, hfz31_0⟩ := bc1 BK278.out) | ((with_reducible refine gate_callee (f := 40) rfl ?_); refine goesL_ (some 33) rfl rfl Try.func40 (by kernel_rfl) rfl #[.agg #[.slice Ao26 t294.length co26]] rfl tL ?_; (with_reducible refine (spec_ReadNotices.calls k1 _ _ t294 t301 t304 _ ?side1 ?side2 A19.out).mono ?_); (case side1 => repeat (first | exact (Kd.R_reads' HO296.out).2.2 | (with_reducible refine Kd.C_alloc ?_ _) | (with_reducible refine Kd.C_drewN ?_ _) | (with_reducible refine Kd.C_drew ?_))); (case side2 => exact (Kd.R_reads' HO296.out).2.1); rintro e w32 ⟨v302, v305, rfl, ho0, ho1, hb⟩; refine ⟨_, rfl, ?_⟩; have HO303 := Aside0.mk (Kd.R_lower (Kd.R_new' (Kd.R_new' ho0 (Kd.R_lt (tR HO_279000))) (Kd.R_lt (tR HO296))) (keep_size (w := w) (g := g) (row := none) (by repeat (first | (with_reducible first | exact HK.out | apply KeepBut.set_ | apply keep_drewN | apply keep_drew | apply keep_alloc | refine keep_far ?_ GW277.out _ | refine keep_far ?_ GW278.out _) | exact HK.out)))); have HO306 := Aside0.mk (Kd.R_lower (Kd.R_new' (Kd.R_new' ho1 (Kd.R_lt (tR HO_279000))) (Kd.R_lt (tR HO296))) (keep_size (w := w) (g := g) (row := none) (by repeat (first | (with_reducible first | exact HK.out | apply KeepBut.set_ | apply keep_drewN | apply keep_drew | apply keep_alloc | refine keep_far ?_ GW277.out _ | refine keep_far ?_ GW278.out _) | exact HK.out)))); replace HO_279000 := Aside0.mk (Kd.R_mono (Kd.R_told (Kd.R_told (Kd.R_old (tR HO_279000) hb) (Kd.R_base ho0)) (Kd.R_base ho1)) (fun _ h_ => h_.1)); replace HO296 := Aside0.mk (Kd.R_mono (Kd.R_told (Kd.R_told (Kd.R_old (tR HO296) hb) (Kd.R_base ho0)) (Kd.R_base ho1)) (fun _ h_ => h_.1)); replace BK277 := bB BK277 hb; replace BK278 := bB BK278 hb; replace HK := Aside0.mk (KeepBut.trans (by repeat (first | (with_reducible first | exact HK.out | apply KeepBut.set_ | apply keep_drewN | apply keep_drew | apply keep_alloc | refine keep_far ?_ GW277.out _ | refine keep_far ?_ GW278.out _) | exact HK.out)) (KeepBut.of_below hb g none) (.inl rfl)); replace HB := Aside0.mk (below_step (by repeat (first | (with_reducible first | exact HB.out | apply below_alloc | apply pw_below_drewN | apply below_drew1 | refine below_set ?_ (IsS159.ge HI0.out) | refine below_set ?_ GE277.out | refine below_set ?_ GE278.out) | exact HB.out)) hb); replace HI0 := Aside0.mk (IsS159.below (by repeat (first | (with_reducible first | exact HI0.out | apply IsS159.alloc | apply IsS159.drewN | apply IsS159.drew | apply IsS159.set_1 | apply IsS159.set_2 | refine IsS159.far ?_ NB0_277.out _ | refine IsS159.far ?_ NB0_278.out _) | exact HI0.out)) hb); (try clear hb); (try clear hb2); (try clear hk); (try clear hi); (try clear ho0); (try clear ho1); obtain ⟨Ao33, co33, eo33⟩ := Kd.R_slice HO303.out; subst eo33; obtain ⟨hcz34_0, hfz34_0⟩ := bc1 BK278.out))
     go_roundg k1
     case measure => have := HK1.out; omega
     case rel => exact ⟨(wrap64 (x4_1 + t285)), (wrap64 (x5_1 - 1)), (t299), (t300), (t301), (.slice Ao33 t301.length co33), tS, tS, H', ⟨tI⟩, ⟨by (with_reducible repeat (first | apply Kd.R_alloc | apply Kd.R_drewN | apply Kd.R_drew)); exact Kd.R_mono (Kd.R_far (p := ⟨gb278, 0, none⟩) (Kd.R_types HO303.out BK278.out (by decide)) (fun _ hk => hk.2) (.slice Ao33 t301.length co33)) (fun _ hk => trivial)⟩, ⟨kF NB277_278 BK277⟩, ⟨by (with_reducible repeat (first | refine blk_drewN ?_ _ | refine blk_drew ?_ | refine blk_alloc ?_ _)); refine blk_put (cs := #[.slice Ao26 t294.length co26]) ?_ 0 _ rfl; (with_reducible repeat (first | refine blk_drewN ?_ _ | refine blk_drew ?_ | refine blk_alloc ?_ _)); exact BK278.out⟩, ⟨by repeat (first | (with_reducible first | exact HI0.out | apply IsS159.alloc | apply IsS159.drewN | apply IsS159.drew | apply IsS159.set_1 | apply IsS159.set_2 | refine IsS159.far ?_ NB0_277.out _ | refine IsS159.far ?_ NB0_278.out _) | exact HI0.out)⟩, ⟨by repeat (first | (with_reducible first | exact HK.out | apply KeepBut.set_ | apply keep_drewN | apply keep_drew | apply keep_alloc | refine keep_far ?_ GW277.out _ | refine keep_far ?_ GW278.out _) | exact HK.out)⟩, ⟨by repeat (first | (with_reducible first | exact HB.out | apply below_alloc | apply pw_below_drewN | apply below_drew1 | refine below_set ?_ (IsS159.ge HI0.out) | refine below_set ?_ GE277.out | refine below_set ?_ GE278.out) | exact HB.out)⟩⟩
    replace c18 := Bool.eq_false_iff.mpr c18
    subst c18
    have H1 : (spec_l31Mailbox.l0 k1 (wrap64 (x4_1 + t285)) (wrap64 (x5_1 - 1)) s0_0 t299 t300 t294) = some (r1, r2, r3) := by rw [if_neg (show ¬ (false = true) by decide)] at H; exact H
    clear H
    have H := H1
    clear H1
    have H' := Aside0.mk H
    clear H
    try go_wp2_with (first | ((with_reducible refine gate_callee (f := 111) rfl ?_); refine goesL_ (some 16) rfl rfl Try.func111 (by kernel_rfl) rfl #[.pointer (some ⟨g, 0, none⟩), .int .i64 3] rfl tL ?_; (with_reducible refine (spec_l1Below.calls g s0_0 x1001_1 x1002_1 3 t285 t286 t287 w0 _ ?side1 ?side2 A13.out).mono ?_); (case side1 => repeat (first | (with_reducible first | exact HI0.out | apply IsS159.alloc | apply IsS159.drewN | apply IsS159.drew | apply IsS159.set_1 | apply IsS159.set_2 | refine IsS159.far ?_ NB0_277.out _ | refine IsS159.far ?_ NB0_278.out _) | exact HI0.out)); (case side2 => repeat (first | (with_reducible first | exact HB.out | apply below_alloc | apply pw_below_drewN | apply below_drew1 | refine below_set ?_ (IsS159.ge HI0.out) | refine below_set ?_ GE277.out | refine below_set ?_ GE278.out) | exact HB.out)); rintro e w35 ⟨rfl, hi, hb, hk⟩; refine ⟨_, rfl, ?_⟩; replace HO_279000 := Aside0.mk (Kd.R_mono (Kd.R_keep (IsS159.apart (show IsS159 w0 _ g s0_0 x1001_1 x1002_1 from by repeat (first | (with_reducible first | exact HI0.out | apply IsS159.alloc | apply IsS159.drewN | apply IsS159.drew | apply IsS159.set_1 | apply IsS159.set_2 | refine IsS159.far ?_ NB0_277.out _ | refine IsS159.far ?_ NB0_278.out _) | exact HI0.out)) (tR HO_279000) (by decide)) hk (fun _ h => h.2)) (fun _ h => h.1)); replace BK277 := Aside0.mk (KeepBut.blk hk (g' := gb277) (o := .cells #[.slice none 0 0] 65 (0, 0)) (tK BK277) NB277_0.out (by simp)); replace BK278 := Aside0.mk (KeepBut.blk hk (g' := gb278) (o := .cells #[u279000] 65 (0, 0)) (tK BK278) NB278_0.out (by simp)); replace HK := Aside0.mk (KeepBut.trans (by repeat (first | (with_reducible first | exact HK.out | apply KeepBut.set_ | apply keep_drewN | apply keep_drew | apply keep_alloc | refine keep_far ?_ GW277.out _ | refine keep_far ?_ GW278.out _) | exact HK.out)) hk (.inl rfl)); replace HB := Aside0.mk (hb); replace HI0 := Aside0.mk (hi); (try clear hb); (try clear hb2); (try clear hk); (try clear hi)))
    replace HO_279000 := Aside0.mk (Kd.R_drew HO_279000.out)
    replace BK277 := Aside0.mk (blk_drew BK277.out)
    replace BK278 := Aside0.mk (blk_drew BK278.out)
    replace HI0 := Aside0.mk (IsS159.drew HI0.out)
    replace HK := Aside0.mk (keep_drew HK.out)
    replace HB := Aside0.mk (below_drew1 HB.out)
    refine start_ (n := 12) (S := fun w' => w'.cell? ⟨gb278, 0, none⟩ = some (u279000)) (ds := [11]) #[N_,N_,N_,N_,N_,N_,N_,N_,N_,N_,N_,N_] (by kernel_rfl) rfl rfl ((blk_cell BK278.out 0).trans rfl) (fun hHeld => ?_); refine with_tabW spec_l31Mailbox.tab7 spec_l31Mailbox.bits7 (fun HT_ HW_ => ?_)
    generalize w35.drew = w36 at HO_279000 BK277 BK278 HI0 HK HB hHeld ⊢
    refine pure_ (i := 1) (N := some 20) #[N_,Y_,N_,N_,N_,N_,N_,N_,N_,N_,N_,N_] rfl rfl (any_of HT_.out (by kernel_rfl)) (fun _ _ _ h => h) (Or.inl ⟨by rfl, tX⟩) tV ?_
    refine pure_ (i := 4) (N := some 23) #[N_,Y_,N_,N_,Y_,N_,N_,N_,N_,N_,N_,N_] rfl rfl (any_of HT_.out (by kernel_rfl)) (fun _ _ _ h => h) (Or.inl ⟨by rfl, tX⟩) tV ?_
    refine pure_ (i := 6) (N := some 25) #[N_,Y_,N_,N_,Y_,N_,Y_,N_,N_,N_,N_,N_] rfl rfl (any_of HT_.out (by kernel_rfl)) (fun _ _ _ h => h) (Or.inl ⟨by rfl, tX⟩) tV ?_
    refine take_ (i := 0) (N := some 19) (v := ?_) (a' := ?_) #[Y_,Y_,N_,N_,Y_,N_,Y_,N_,N_,N_,N_,N_] rfl rfl (take_ofW HT_.out HW_.out (by kernel_rfl)) (fun _ _ _ h => h) (Or.inl ⟨by rfl, ?_⟩) hHeld ?_ ?_
    rotate_left
    ·intro w' s0
     go_simp
     with_reducible rfl
    rotate_left
    ·simp only [Act.put, List.setIfInBounds_toArray, List.set_cons_zero, List.set_cons_succ, i64_w, i32_w]
     rfl
    refine one_ (i := 2) (N := some 21) #[Y_,Y_,Y_,N_,Y_,N_,Y_,N_,N_,N_,N_,N_] rfl rfl (one_of HT_.out (by kernel_rfl)) (by decide) (fun K hK => ?_)
    refine goes_ Try.func111 (by kernel_rfl) rfl #[.pointer (some ⟨g, 0, none⟩), .int .i64 5] (by rfl) rfl rfl tL ?_
    with_reducible refine (spec_l1Below.calls g s0_0 t286 t287 5 t288 t289 t290 w0 _ ?side1 ?side2 A14.out).mono ?_
    (case side1 => repeat (first | (with_reducible first | exact HI0.out | apply IsS159.alloc | apply IsS159.drewN | apply IsS159.drew | apply IsS159.set_1 | apply IsS159.set_2 | refine IsS159.far ?_ NB0_277.out _ | refine IsS159.far ?_ NB0_278.out _) | exact HI0.out))
    (case side2 => repeat (first | (with_reducible first | exact HB.out | apply below_alloc | apply pw_below_drewN | apply below_drew1 | refine below_set ?_ (IsS159.ge HI0.out) | refine below_set ?_ GE277.out | refine below_set ?_ GE278.out) | exact HB.out))
    rintro e w37 ⟨rfl, hi, hb, hk⟩
    refine ⟨_, rfl, ?_⟩
    replace HO_279000 := Aside0.mk (Kd.R_mono (Kd.R_keep (IsS159.apart (show IsS159 w0 _ g s0_0 t286 t287 from by repeat (first | (with_reducible first | exact HI0.out | apply IsS159.alloc | apply IsS159.drewN | apply IsS159.drew | apply IsS159.set_1 | apply IsS159.set_2 | refine IsS159.far ?_ NB0_277.out _ | refine IsS159.far ?_ NB0_278.out _) | exact HI0.out)) (tR HO_279000) (by decide)) hk (fun _ h => h.2)) (fun _ h => h.1))
    replace BK277 := Aside0.mk (KeepBut.blk hk (g' := gb277) (o := .cells #[.slice none 0 0] 65 (0, 0)) (tK BK277) NB277_0.out (by simp))
    replace BK278 := Aside0.mk (KeepBut.blk hk (g' := gb278) (o := .cells #[u279000] 65 (0, 0)) (tK BK278) NB278_0.out (by simp))
    replace HK := Aside0.mk (KeepBut.trans (by repeat (first | (with_reducible first | exact HK.out | apply KeepBut.set_ | apply keep_drewN | apply keep_drew | apply keep_alloc | refine keep_far ?_ GW277.out _ | refine keep_far ?_ GW278.out _) | exact HK.out)) hk (.inl rfl))
    replace HB := Aside0.mk (hb)
    replace HI0 := Aside0.mk (hi)
    (try clear hb)
    (try clear hb2)
    (try clear hk)
    (try clear hi)
    refine hK.out _ _ ((blk_cell BK278.out 0).trans rfl) (fun hHeld => ?_)
    clear hK K
    refine norm_ (tV : Act.put _ (some 21) _ = _) ?_
    refine pure_ (i := 3) (N := some 22) #[Y_,Y_,Y_,Y_,Y_,N_,Y_,N_,N_,N_,N_,N_] rfl rfl (any_of HT_.out (by kernel_rfl)) (fun _ _ _ h => h) (Or.inl ⟨by rfl, tX⟩) tV ?_
    refine one_ (i := 5) (N := some 24) #[Y_,Y_,Y_,Y_,Y_,Y_,Y_,N_,N_,N_,N_,N_] rfl rfl (one_of HT_.out (by kernel_rfl)) (by decide) (fun K hK => ?_)
    refine goes_ Try.func111 (by kernel_rfl) rfl #[.pointer (some ⟨g, 0, none⟩), .int .i64 4] (by rfl) rfl rfl tL ?_
    with_reducible refine (spec_l1Below.calls g s0_0 t289 t290 4 t291 t292 t293 w0 _ ?side1 ?side2 A15.out).mono ?_
    (case side1 => repeat (first | (with_reducible first | exact HI0.out | apply IsS159.alloc | apply IsS159.drewN | apply IsS159.drew | apply IsS159.set_1 | apply IsS159.set_2 | refine IsS159.far ?_ NB0_277.out _ | refine IsS159.far ?_ NB0_278.out _) | exact HI0.out))
    (case side2 => repeat (first | (with_reducible first | exact HB.out | apply below_alloc | apply pw_below_drewN | apply below_drew1 | refine below_set ?_ (IsS159.ge HI0.out) | refine below_set ?_ GE277.out | refine below_set ?_ GE278.out) | exact HB.out))
    rintro e w38 ⟨rfl, hi, hb, hk⟩
    refine ⟨_, rfl, ?_⟩
    replace HO_279000 := Aside0.mk (Kd.R_mono (Kd.R_keep (IsS159.apart (show IsS159 w0 _ g s0_0 t289 t290 from by repeat (first | (with_reducible first | exact HI0.out | apply IsS159.alloc | apply IsS159.drewN | apply IsS159.drew | apply IsS159.set_1 | apply IsS159.set_2 | refine IsS159.far ?_ NB0_277.out _ | refine IsS159.far ?_ NB0_278.out _) | exact HI0.out)) (tR HO_279000) (by decide)) hk (fun _ h => h.2)) (fun _ h => h.1))
    replace BK277 := Aside0.mk (KeepBut.blk hk (g' := gb277) (o := .cells #[.slice none 0 0] 65 (0, 0)) (tK BK277) NB277_0.out (by simp))
    replace BK278 := Aside0.mk (KeepBut.blk hk (g' := gb278) (o := .cells #[u279000] 65 (0, 0)) (tK BK278) NB278_0.out (by simp))
    replace HK := Aside0.mk (KeepBut.trans (by repeat (first | (with_reducible first | exact HK.out | apply KeepBut.set_ | apply keep_drewN | apply keep_drew | apply keep_alloc | refine keep_far ?_ GW277.out _ | refine keep_far ?_ GW278.out _) | exact HK.out)) hk (.inl rfl))
    replace HB := Aside0.mk (hb)
    replace HI0 := Aside0.mk (hi)
    (try clear hb)
    (try clear hb2)
    (try clear hk)
    (try clear hi)
    obtain ⟨Ao39, co39, eo39⟩ := Kd.R_slice HO_279000.out
    (first | subst eo39 | (injection eo39 with f1_ f2_ f3_; have f4_ := f1_.symm; have f5_ := f3_.symm; clear f1_ f2_ f3_; subst f4_; subst f5_))
    refine hK.out _ _ ((blk_cell BK278.out 0).trans rfl) (fun hHeld => ?_)
    clear hK K
    refine norm_ (tV : Act.put _ (some 24) _ = _) ?_
    refine one_ (i := 7) (N := some 26) #[Y_,Y_,Y_,Y_,Y_,Y_,Y_,Y_,N_,N_,N_,N_] rfl rfl (one_of HT_.out (by kernel_rfl)) (by decide) (fun K hK => ?_)
    refine goes_ Try.func57 (by kernel_rfl) rfl #[.agg #[.slice Ao39 x279000_1.length co39], .int .i64 (wrap64 (1 + t288)), .int .i64 t291, .int .i64 (wrap64 (x4_1 + t285))] (by rfl) rfl rfl tL ?_
    with_reducible refine (spec_SendNotice.calls k1 _ _ x279000_1 (wrap64 (1 + t288)) t291 (wrap64 (x4_1 + t285)) t294 t297 _ ?side1 ?side2 A16.out).mono ?_
    (case side1 => repeat (first | exact (Kd.R_reads' HO_279000.out).2.2 | (with_reducible refine Kd.C_alloc ?_ _) | (with_reducible refine Kd.C_drewN ?_ _) | (with_reducible refine Kd.C_drew ?_)))
    (case side2 => exact (Kd.R_reads' HO_279000.out).2.1)
    rintro e w40 ⟨v295, rfl, ho0, hb⟩
    refine ⟨_, rfl, ?_⟩
    have HO296 := Aside0.mk (Kd.R_lower (Kd.R_new' ho0 (Kd.R_lt (tR HO_279000))) (keep_size (w := w) (g := g) (row := none) (by repeat (first | (with_reducible first | exact HK.out | apply KeepBut.set_ | apply keep_drewN | apply keep_drew | apply keep_alloc | refine keep_far ?_ GW277.out _ | refine keep_far ?_ GW278.out _) | exact HK.out))))
    replace HO_279000 := Aside0.mk (Kd.R_elder' (tR HO_279000) (Kd.R_base ho0) hb)
    replace BK277 := bB BK277 hb
    replace BK278 := bB BK278 hb
    replace HK := Aside0.mk (KeepBut.trans (by repeat (first | (with_reducible first | exact HK.out | apply KeepBut.set_ | apply keep_drewN | apply keep_drew | apply keep_alloc | refine keep_far ?_ GW277.out _ | refine keep_far ?_ GW278.out _) | exact HK.out)) (KeepBut.of_below hb g none) (.inl rfl))
    replace HB := Aside0.mk (below_step (by repeat (first | (with_reducible first | exact HB.out | apply below_alloc | apply pw_below_drewN | apply below_drew1 | refine below_set ?_ (IsS159.ge HI0.out) | refine below_set ?_ GE277.out | refine below_set ?_ GE278.out) | exact HB.out)) hb)
    replace HI0 := Aside0.mk (IsS159.below (by repeat (first | (with_reducible first | exact HI0.out | apply IsS159.alloc | apply IsS159.drewN | apply IsS159.drew | apply IsS159.set_1 | apply IsS159.set_2 | refine IsS159.far ?_ NB0_277.out _ | refine IsS159.far ?_ NB0_278.out _) | exact HI0.out)) hb)
    (try clear hb)
    (try clear hb2)
    (try clear hk)
    (try clear hi)
    (try clear ho0)
    obtain ⟨Ao41, co41, eo41⟩ := Kd.R_slice HO296.out
    (first | subst eo41 | (injection eo41 with f1_ f2_ f3_; have f4_ := f1_.symm; have f5_ := f3_.symm; clear f1_ f2_ f3_; subst f4_; subst f5_))
    refine hK.out _ _ ((blk_cell BK278.out 0).trans rfl) (fun hHeld => ?_)
    clear hK K
    refine norm_ (tV : Act.put _ (some 26) _ = _) ?_
    refine pure_ (i := 8) (N := some 18) #[Y_,Y_,Y_,Y_,Y_,Y_,Y_,Y_,Y_,N_,N_,N_] rfl rfl (any_of HT_.out (by kernel_rfl)) (fun _ _ _ h => h) (Or.inl ⟨by rfl, tX⟩) tV ?_
    refine pure_ (i := 9) (N := some 27) #[Y_,Y_,Y_,Y_,Y_,Y_,Y_,Y_,Y_,Y_,N_,N_] rfl rfl (any_of HT_.out (by kernel_rfl)) (fun _ _ _ h => h) (Or.inl ⟨by rfl, tX⟩) tV ?_
    refine pure_ (i := 10) (N := some 28) #[Y_,Y_,Y_,Y_,Y_,Y_,Y_,Y_,Y_,Y_,Y_,N_] rfl rfl (any_of HT_.out (by kernel_rfl)) (fun _ _ _ h => h) (Or.inl ⟨by rfl, tX⟩) tV ?_
    refine last_ (i := 11) (N := none) #[Y_,Y_,Y_,Y_,Y_,Y_,Y_,Y_,Y_,Y_,Y_,Y_] rfl rfl (one_of HT_.out (by kernel_rfl)) (by decide) (fun K hK => ?_)
    have hs42 : w40.cell? ⟨gb278, 0, none⟩ = some (.slice Ao39 x279000_1.length co39) := (blk_cell BK278.out 0).trans rfl
    have hfs42 := blk_frozen BK278.out 0
    have hns42_0 := NB277_278.out
    have hms42_0 := NB278_277.out
    refine skip_ (w1 := ?_) (by rfl) rfl ?_ ?_
    rotate_left
    ·go_simp
     rfl
    refine hK.out _ _ ?_
    clear hK K
    refine done_ (done_of HT_.out (by kernel_rfl)) ?_
    try go_wp2_with (first | ((with_reducible refine gate_callee (f := 126) rfl ?_); refine goesL_ (some 30) rfl rfl Try.func126 (by kernel_rfl) rfl #[.pointer (some ⟨g, 0, none⟩), .int .i64 6] rfl tL ?_; (with_reducible refine (spec_l1Once.calls g s0_0 t292 t293 6 false t299 t300 w0 _ ?side1 ?side2 A17.out).mono ?_); (case side1 => repeat (first | (with_reducible first | exact HI0.out | apply IsS159.alloc | apply IsS159.drewN | apply IsS159.drew | apply IsS159.set_1 | apply IsS159.set_2 | refine IsS159.far ?_ NB0_277.out _ | refine IsS159.far ?_ NB0_278.out _) | exact HI0.out)); (case side2 => repeat (first | (with_reducible first | exact HB.out | apply below_alloc | apply pw_below_drewN | apply below_drew1 | refine below_set ?_ (IsS159.ge HI0.out) | refine below_set ?_ GE277.out | refine below_set ?_ GE278.out) | exact HB.out)); rintro e w43 ⟨rfl, hi, hb, hk⟩; refine ⟨_, rfl, ?_⟩; replace HO_279000 := Aside0.mk (Kd.R_mono (Kd.R_keep (IsS159.apart (show IsS159 w0 _ g s0_0 t292 t293 from by repeat (first | (with_reducible first | exact HI0.out | apply IsS159.alloc | apply IsS159.drewN | apply IsS159.drew | apply IsS159.set_1 | apply IsS159.set_2 | refine IsS159.far ?_ NB0_277.out _ | refine IsS159.far ?_ NB0_278.out _) | exact HI0.out)) (by (with_reducible repeat (first | apply Kd.R_alloc | apply Kd.R_drewN | apply Kd.R_drew)); exact (Kd.R_mono (Kd.R_far (p := ⟨gb278, 0, none⟩) (Kd.R_types HO_279000.out BK278.out (by decide)) (fun _ hk => hk.2) (.slice Ao41 t294.length co41)) (fun _ h_ => h_.1))) (by decide)) hk (fun _ h => h.2)) (fun _ h => h.1)); replace BK277 := Aside0.mk (KeepBut.blk hk (g' := gb277) (o := .cells #[.slice none 0 0] 65 (0, 0)) (kF NB277_278 BK277) NB277_0.out (by simp)); replace HO296 := Aside0.mk (Kd.R_mono (Kd.R_keep (IsS159.apart (show IsS159 w0 _ g s0_0 t292 t293 from by repeat (first | (with_reducible first | exact HI0.out | apply IsS159.alloc | apply IsS159.drewN | apply IsS159.drew | apply IsS159.set_1 | apply IsS159.set_2 | refine IsS159.far ?_ NB0_277.out _ | refine IsS159.far ?_ NB0_278.out _) | exact HI0.out)) (by (with_reducible repeat (first | apply Kd.R_alloc | apply Kd.R_drewN | apply Kd.R_drew)); exact (Kd.R_mono (Kd.R_far (p := ⟨gb278, 0, none⟩) (Kd.R_types HO296.out BK278.out (by decide)) (fun _ hk => hk.2) (.slice Ao41 t294.length co41)) (fun _ h_ => h_.1))) (by decide)) hk (fun _ h => h.2)) (fun _ h => h.1)); replace BK278 := Aside0.mk (KeepBut.blk hk (g' := gb278) (o := .cells #[.slice Ao41 t294.length co41] 65 (0, 0)) (by (with_reducible repeat (first | refine blk_drewN ?_ _ | refine blk_drew ?_ | refine blk_alloc ?_ _)); refine blk_put (cs := #[.slice Ao39 x279000_1.length co39]) ?_ 0 _ rfl; (with_reducible repeat (first | refine blk_drewN ?_ _ | refine blk_drew ?_ | refine blk_alloc ?_ _)); exact BK278.out) NB278_0.out (by simp)); replace HK := Aside0.mk (KeepBut.trans (by repeat (first | (with_reducible first | exact HK.out | apply KeepBut.set_ | apply keep_drewN | apply keep_drew | apply keep_alloc | refine keep_far ?_ GW277.out _ | refine keep_far ?_ GW278.out _) | exact HK.out)) hk (.inl rfl)); replace HB := Aside0.mk (hb); replace HI0 := Aside0.mk (hi); (try clear hb); (try clear hb2); (try clear hk); (try clear hi)))
    go_roundg k1
    case measure => have := HK1.out; omega
    case rel => exact ⟨(wrap64 (x4_1 + t285)), (wrap64 (x5_1 - 1)), (t299), (t300), (t294), (.slice Ao41 t294.length co41), tS, tS, H', ⟨tI⟩, ⟨by (with_reducible repeat (first | apply Kd.R_alloc | apply Kd.R_drewN | apply Kd.R_drew)); exact Kd.R_mono HO296.out (fun _ hk => trivial)⟩, ⟨tK BK277⟩, ⟨tK BK278⟩, ⟨by repeat (first | (with_reducible first | exact HI0.out | apply IsS159.alloc | apply IsS159.drewN | apply IsS159.drew | apply IsS159.set_1 | apply IsS159.set_2 | refine IsS159.far ?_ NB0_277.out _ | refine IsS159.far ?_ NB0_278.out _) | exact HI0.out)⟩, ⟨by repeat (first | (with_reducible first | exact HK.out | apply KeepBut.set_ | apply keep_drewN | apply keep_drew | apply keep_alloc | refine keep_far ?_ GW277.out _ | refine keep_far ?_ GW278.out _) | exact HK.out)⟩, ⟨by repeat (first | (with_reducible first | exact HB.out | apply below_alloc | apply pw_below_drewN | apply below_drew1 | refine below_set ?_ (IsS159.ge HI0.out) | refine below_set ?_ GE277.out | refine below_set ?_ GE278.out) | exact HB.out)⟩⟩
   rw [if_neg c12] at H
   have c12b0 : decide (0 < x5_1) = false := decide_eq_false c12
   clear c12
   replace H := Option.bind_eq_some_iff.mp H
   obtain ⟨⟨t307, t308, t309⟩, A440, H⟩ := H
   try dsimp only at H
   have A44 := Aside0.mk A440
   clear A440
   by_cases c45 : t307 = 0
   ·rw [if_pos c45] at H
    have c45b0 : (t307 == 0) = true := beq_iff_eq.mpr c45
    have c45b1 : (t307 != 0) = false := bne_eq_false_iff_eq.mpr c45
    clear c45
    obtain ⟨y310, hy310⟩ : ∃ y_ : List Int, y_ = (([0, 1, 6] : List Int)) := ⟨_, rfl⟩
    replace H : ((spec_l1Int.f s0_0 t308 t309 y310).bind fun bt313 => ((spec_l1Int.f s0_0 bt313.2.1 bt313.2.2 (([(-1), 0] : List Int))).bind fun bt319 => ((spec_l1Int.f s0_0 bt319.2.1 bt319.2.2 (([0, 1000000, 1000001] : List Int))).bind fun bt325 => (if x279000_1.length < 4398046511104 then (some ((x279000_1 ++ [(⟨bt313.1, bt319.1, bt325.1, false⟩ : S108)]), bt325.2.1, bt325.2.2)) else (none))))) = some (r1, r2, r3) := by first | (rw [hy310]; with_reducible exact H) | (have H2_ := (Option.bind_some _ _).symm.trans H; rw [hy310]; with_reducible exact H2_) | (have H2_ := (Option.bind_some _ _).symm.trans H; with_reducible exact H2_) | with_reducible exact H | (rw [hy310]; exact H) | exact H
    have Ny310 := Aside0.mk hy310
    clear hy310
    replace H := Option.bind_eq_some_iff.mp H
    obtain ⟨⟨t313, t314, t315⟩, A460, H⟩ := H
    try dsimp only at H
    have A46 := Aside0.mk A460
    clear A460
    obtain ⟨y316, hy316⟩ : ∃ y_ : List Int, y_ = (([(-1), 0] : List Int)) := ⟨_, rfl⟩
    replace H : ((spec_l1Int.f s0_0 t314 t315 y316).bind fun bt319 => ((spec_l1Int.f s0_0 bt319.2.1 bt319.2.2 (([0, 1000000, 1000001] : List Int))).bind fun bt325 => (if x279000_1.length < 4398046511104 then (some ((x279000_1 ++ [(⟨t313, bt319.1, bt325.1, false⟩ : S108)]), bt325.2.1, bt325.2.2)) else (none)))) = some (r1, r2, r3) := by first | (rw [hy316]; with_reducible exact H) | (have H2_ := (Option.bind_some _ _).symm.trans H; rw [hy316]; with_reducible exact H2_) | (have H2_ := (Option.bind_some _ _).symm.trans H; with_reducible exact H2_) | with_reducible exact H | (rw [hy316]; exact H) | exact H
    have Ny316 := Aside0.mk hy316
    clear hy316
    replace H := Option.bind_eq_some_iff.mp H
    obtain ⟨⟨t319, t320, t321⟩, A470, H⟩ := H
    try dsimp only at H
    have A47 := Aside0.mk A470
    clear A470
    obtain ⟨y322, hy322⟩ : ∃ y_ : List Int, y_ = (([0, 1000000, 1000001] : List Int)) := ⟨_, rfl⟩
    replace H : ((spec_l1Int.f s0_0 t320 t321 y322).bind fun bt325 => (if x279000_1.length < 4398046511104 then (some ((x279000_1 ++ [(⟨t313, t319, bt325.1, false⟩ : S108)]), bt325.2.1, bt325.2.2)) else (none))) = some (r1, r2, r3) := by first | (rw [hy322]; with_reducible exact H) | (have H2_ := (Option.bind_some _ _).symm.trans H; rw [hy322]; with_reducible exact H2_) | (have H2_ := (Option.bind_some _ _).symm.trans H; with_reducible exact H2_) | with_reducible exact H | (rw [hy322]; exact H) | exact H
    have Ny322 := Aside0.mk hy322
    clear hy322
    replace H := Option.bind_eq_some_iff.mp H
    obtain ⟨⟨t325, t326, t327⟩, A480, H⟩ := H
    try dsimp only at H
    have A48 := Aside0.mk A480
    clear A480
    by_cases c49 : x279000_1.length < 4398046511104
    ·rw [if_pos c49] at H
     have LMc49 := Aside0.mk c49
     clear c49
     obtain ⟨y328, hy328⟩ : ∃ y_ : List (S108), y_ = (x279000_1 ++ [(⟨t313, t319, t325, false⟩ : S108)]) := ⟨_, rfl⟩
     replace H : (some (y328, t326, t327)) = some (r1, r2, r3) := by first | (rw [hy328]; with_reducible exact H) | (have H2_ := (Option.bind_some _ _).symm.trans H; rw [hy328]; with_reducible exact H2_) | (have H2_ := (Option.bind_some _ _).symm.trans H; with_reducible exact H2_) | with_reducible exact H | (rw [hy328]; exact H) | exact H
     have Ny328 := Aside0.mk hy328
     clear hy328
     simp only [Option.some.injEq, Prod.mk.injEq] at H
     obtain ⟨rfl, rfl, rfl⟩ := H
     try go_wp2_with (first | ((with_reducible refine gate_callee (f := 111) rfl ?_); refine goesL_ (some 37) rfl rfl Try.func111 (by kernel_rfl) rfl #[.pointer (some ⟨g, 0, none⟩), .int .i64 10] rfl tL ?_; (with_reducible refine (spec_l1Below.calls g s0_0 x1001_1 x1002_1 10 t307 t308 t309 w0 _ ?side1 ?side2 A44.out).mono ?_); (case side1 => repeat (first | (with_reducible first | exact HI0.out | apply IsS159.alloc | apply IsS159.drewN | apply IsS159.drew | apply IsS159.set_1 | apply IsS159.set_2 | refine IsS159.far ?_ NB0_277.out _ | refine IsS159.far ?_ NB0_278.out _) | exact HI0.out)); (case side2 => repeat (first | (with_reducible first | exact HB.out | apply below_alloc | apply pw_below_drewN | apply below_drew1 | refine below_set ?_ (IsS159.ge HI0.out) | refine below_set ?_ GE277.out | refine below_set ?_ GE278.out) | exact HB.out)); rintro e w50 ⟨rfl, hi, hb, hk⟩; refine ⟨_, rfl, ?_⟩; replace HO_279000 := Aside0.mk (Kd.R_mono (Kd.R_keep (IsS159.apart (show IsS159 w0 _ g s0_0 x1001_1 x1002_1 from by repeat (first | (with_reducible first | exact HI0.out | apply IsS159.alloc | apply IsS159.drewN | apply IsS159.drew | apply IsS159.set_1 | apply IsS159.set_2 | refine IsS159.far ?_ NB0_277.out _ | refine IsS159.far ?_ NB0_278.out _) | exact HI0.out)) (tR HO_279000) (by decide)) hk (fun _ h => h.2)) (fun _ h => h.1)); replace BK277 := Aside0.mk (KeepBut.blk hk (g' := gb277) (o := .cells #[.slice none 0 0] 65 (0, 0)) (tK BK277) NB277_0.out (by simp)); replace BK278 := Aside0.mk (KeepBut.blk hk (g' := gb278) (o := .cells #[u279000] 65 (0, 0)) (tK BK278) NB278_0.out (by simp)); replace HK := Aside0.mk (KeepBut.trans (by repeat (first | (with_reducible first | exact HK.out | apply KeepBut.set_ | apply keep_drewN | apply keep_drew | apply keep_alloc | refine keep_far ?_ GW277.out _ | refine keep_far ?_ GW278.out _) | exact HK.out)) hk (.inl rfl)); replace HB := Aside0.mk (hb); replace HI0 := Aside0.mk (hi); (try clear hb); (try clear hb2); (try clear hk); (try clear hi); obtain ⟨Ao51, co51, eo51⟩ := Kd.R_slice HO_279000.out; subst eo51))
     replace HO_279000 := Aside0.mk (Kd.R_drew HO_279000.out)
     replace BK277 := Aside0.mk (blk_drew BK277.out)
     replace BK278 := Aside0.mk (blk_drew BK278.out)
     replace HI0 := Aside0.mk (IsS159.drew HI0.out)
     replace HK := Aside0.mk (keep_drew HK.out)
     replace HB := Aside0.mk (below_drew1 HB.out)
     refine start_ (n := 16) (S := fun w' => w'.cell? ⟨gb278, 0, none⟩ = some (.slice Ao51 x279000_1.length co51)) (ds := [15]) #[N_,N_,N_,N_,N_,N_,N_,N_,N_,N_,N_,N_,N_,N_,N_,N_] (by kernel_rfl) rfl rfl ((blk_cell BK278.out 0).trans rfl) (fun hHeld => ?_); refine with_tabW spec_l31Mailbox.tab12 spec_l31Mailbox.bits12 (fun HT_ HW_ => ?_)
     generalize w50.drew = w52 at HO_279000 BK277 BK278 HI0 HK HB hHeld ⊢
     refine pure_ (i := 0) (N := some 40) #[Y_,N_,N_,N_,N_,N_,N_,N_,N_,N_,N_,N_,N_,N_,N_,N_] rfl rfl (any_of HT_.out (by kernel_rfl)) (fun _ _ _ h => h) (Or.inl ⟨by rfl, tX⟩) tV ?_
     refine pure_ (i := 2) (N := some 42) #[Y_,N_,Y_,N_,N_,N_,N_,N_,N_,N_,N_,N_,N_,N_,N_,N_] rfl rfl (any_of HT_.out (by kernel_rfl)) (fun _ _ _ h => h) (Or.inl ⟨by rfl, tX⟩) tV ?_
     refine pure_ (i := 5) (N := some 45) #[Y_,N_,Y_,N_,N_,Y_,N_,N_,N_,N_,N_,N_,N_,N_,N_,N_] rfl rfl (any_of HT_.out (by kernel_rfl)) (fun _ _ _ h => h) (Or.inl ⟨by rfl, tX⟩) tV ?_
     refine pure_ (i := 8) (N := some 48) #[Y_,N_,Y_,N_,N_,Y_,N_,N_,Y_,N_,N_,N_,N_,N_,N_,N_] rfl rfl (any_of HT_.out (by kernel_rfl)) (fun _ _ _ h => h) (Or.inl ⟨by rfl, tX⟩) tV ?_
     refine take_ (i := 1) (N := some 41) (v := ?_) (a' := ?_) #[Y_,Y_,Y_,N_,N_,Y_,N_,N_,Y_,N_,N_,N_,N_,N_,N_,N_] rfl rfl (take_ofW HT_.out HW_.out (by kernel_rfl)) (fun _ _ _ h => h) (Or.inl ⟨by rfl, ?_⟩) hHeld ?_ ?_
     rotate_left
     ·intro w' s0
      go_simp
      with_reducible rfl
     rotate_left
     ·simp only [Act.put, List.setIfInBounds_toArray, List.set_cons_zero, List.set_cons_succ, i64_w, i32_w]
      rfl
     refine join_ (σ := Value × Value × Value) 6 #[Y_,Y_,Y_,Y_,Y_,Y_,Y_,Y_,Y_,Y_,N_,N_,N_,N_,N_,N_] (fun s_ => [(43, s_.1), (44, .int .i64 t313), (46, s_.2.1), (47, .int .i64 t319), (49, s_.2.2)]) (fun s_ w' => (w'.cell? ⟨gb278, 0, none⟩ = some (.slice Ao51 x279000_1.length co51)) ∧ (Kd.R (Kd.int .i64) 3 w' w.heap.size (fun k_ => some k_ ≠ (s_.2.1 : Value).ownBlock ∧ some k_ ≠ (s_.2.2 : Value).ownBlock) s_.1 y310) ∧ (Kd.R (Kd.int .i64) 3 w' w.heap.size (fun k_ => some k_ ≠ (s_.1 : Value).ownBlock ∧ some k_ ≠ (s_.2.2 : Value).ownBlock) s_.2.1 y316) ∧ (Kd.R (Kd.int .i64) 3 w' w.heap.size (fun k_ => some k_ ≠ (s_.1 : Value).ownBlock ∧ some k_ ≠ (s_.2.1 : Value).ownBlock) s_.2.2 y322) ∧ (Kd.R k108 108 w' w.heap.size (fun _ => True) (.slice Ao51 x279000_1.length co51) x279000_1) ∧ (w'.heap[gb277]? = some (.cells #[.slice none 0 0] 65 (0, 0))) ∧ (w'.heap[gb278]? = some (.cells #[.slice Ao51 x279000_1.length co51] 65 (0, 0))) ∧ (IsS159 w0 w' g s0_0 t320 t321) ∧ (KeepBut w w' g none) ∧ (Below w0.heap.size w0 w')) ?_ ?_
     ·rintro ⟨v311, v317, v323⟩ w63 hS_
      dsimp only at hS_
      obtain ⟨hHeld, h0_, h1_, h2_, h3_, h4_, h5_, h6_, h7_, h8_⟩ := hS_
      have HO312 := Aside0.mk h0_
      have HO318 := Aside0.mk h1_
      have HO324 := Aside0.mk h2_
      replace HO_279000 := Aside0.mk h3_
      replace BK277 := Aside0.mk h4_
      replace BK278 := Aside0.mk h5_
      replace HI0 := Aside0.mk h6_
      replace HK := Aside0.mk h7_
      replace HB := Aside0.mk h8_
      clear h0_ h1_ h2_ h3_ h4_ h5_ h6_ h7_ h8_
      obtain ⟨Ao64, co64, eo64⟩ := Kd.R_slice HO324.out
      (first | subst eo64 | (injection eo64 with f1_ f2_ f3_; have f4_ := f1_.symm; have f5_ := f3_.symm; clear f1_ f2_ f3_; subst f4_; subst f5_))
      refine norm_ tM ?_
      refine one_ (i := 10) (N := some 50) #[Y_,Y_,Y_,Y_,Y_,Y_,Y_,Y_,Y_,Y_,Y_,N_,N_,N_,N_,N_] rfl rfl (one_of HT_.out (by kernel_rfl)) (by decide) (fun K hK => ?_)
      refine goes_ Try.func112 (by kernel_rfl) rfl #[.pointer (some ⟨g, 0, none⟩), .slice Ao64 y322.length co64] (by rfl) rfl rfl tL ?_
      with_reducible refine (spec_l1Int.calls g s0_0 t320 t321 _ _ y322 t325 t326 t327 w0 _ ?side1 ?side2 ?side3 ?side4 ?side5 A48.out).mono ?_
      (case side1 => repeat (first | (with_reducible first | exact HI0.out | apply IsS159.alloc | apply IsS159.drewN | apply IsS159.drew | apply IsS159.set_1 | apply IsS159.set_2 | refine IsS159.far ?_ NB0_277.out _ | refine IsS159.far ?_ NB0_278.out _) | exact HI0.out))
      (case side2 => repeat (first | (with_reducible first | exact HB.out | apply below_alloc | apply pw_below_drewN | apply below_drew1 | refine below_set ?_ (IsS159.ge HI0.out) | refine below_set ?_ GE277.out | refine below_set ?_ GE278.out) | exact HB.out))
      (case side3 => repeat (first | exact (Kd.R_reads' HO324.out).2.2 | (with_reducible refine Kd.C_alloc ?_ _) | (with_reducible refine Kd.C_drewN ?_ _) | (with_reducible refine Kd.C_drew ?_)))
      (case side4 => exact (Kd.R_reads' HO324.out).2.1)
      (case side5 => exact far_slice (IsS159.own_ne HI0.out HO324.out (by decide)))
      rintro e w65 ⟨rfl, hi, hb, hk⟩
      refine ⟨_, rfl, ?_⟩
      replace HO_279000 := Aside0.mk (Kd.R_mono (Kd.R_keep (IsS159.apart (show IsS159 w0 _ g s0_0 t320 t321 from by repeat (first | (with_reducible first | exact HI0.out | apply IsS159.alloc | apply IsS159.drewN | apply IsS159.drew | apply IsS159.set_1 | apply IsS159.set_2 | refine IsS159.far ?_ NB0_277.out _ | refine IsS159.far ?_ NB0_278.out _) | exact HI0.out)) (tR HO_279000) (by decide)) hk (fun _ h => h.2)) (fun _ h => h.1))
      replace BK277 := Aside0.mk (KeepBut.blk hk (g' := gb277) (o := .cells #[.slice none 0 0] 65 (0, 0)) (tK BK277) NB277_0.out (by simp))
      replace BK278 := Aside0.mk (KeepBut.blk hk (g' := gb278) (o := .cells #[.slice Ao51 x279000_1.length co51] 65 (0, 0)) (tK BK278) NB278_0.out (by simp))
      replace HO312 := Aside0.mk (Kd.R_mono (Kd.R_keep (IsS159.apart (show IsS159 w0 _ g s0_0 t320 t321 from by repeat (first | (with_reducible first | exact HI0.out | apply IsS159.alloc | apply IsS159.drewN | apply IsS159.drew | apply IsS159.set_1 | apply IsS159.set_2 | refine IsS159.far ?_ NB0_277.out _ | refine IsS159.far ?_ NB0_278.out _) | exact HI0.out)) (tR HO312) (by decide)) hk (fun _ h => h.2)) (fun _ h => h.1))
      replace HO318 := Aside0.mk (Kd.R_mono (Kd.R_keep (IsS159.apart (show IsS159 w0 _ g s0_0 t320 t321 from by repeat (first | (with_reducible first | exact HI0.out | apply IsS159.alloc | apply IsS159.drewN | apply IsS159.drew | apply IsS159.set_1 | apply IsS159.set_2 | refine IsS159.far ?_ NB0_277.out _ | refine IsS159.far ?_ NB0_278.out _) | exact HI0.out)) (tR HO318) (by decide)) hk (fun _ h => h.2)) (fun _ h => h.1))
      replace HO324 := Aside0.mk (Kd.R_mono (Kd.R_keep (IsS159.apart (show IsS159 w0 _ g s0_0 t320 t321 from by repeat (first | (with_reducible first | exact HI0.out | apply IsS159.alloc | apply IsS159.drewN | apply IsS159.drew | apply IsS159.set_1 | apply IsS159.set_2 | refine IsS159.far ?_ NB0_277.out _ | refine IsS159.far ?_ NB0_278.out _) | exact HI0.out)) (tR HO324) (by decide)) hk (fun _ h => h.2)) (fun _ h => h.1))
      replace HK := Aside0.mk (KeepBut.trans (by repeat (first | (with_reducible first | exact HK.out | apply KeepBut.set_ | apply keep_drewN | apply keep_drew | apply keep_alloc | refine keep_far ?_ GW277.out _ | refine keep_far ?_ GW278.out _) | exact HK.out)) hk (.inl rfl))
      replace HB := Aside0.mk (hb)
      replace HI0 := Aside0.mk (hi)
      (try clear hb)
      (try clear hb2)
      (try clear hk)
      (try clear hi)
      refine hK.out _ _ ((blk_cell BK278.out 0).trans rfl) (fun hHeld => ?_)
      clear hK K
      refine norm_ (tV : Act.put _ (some 50) _ = _) ?_
      refine pure_ (i := 11) (N := some 51) #[Y_,Y_,Y_,Y_,Y_,Y_,Y_,Y_,Y_,Y_,Y_,Y_,N_,N_,N_,N_] rfl rfl (any_of HT_.out (by kernel_rfl)) (fun _ _ _ h => h) (Or.inl ⟨by rfl, tX⟩) tV ?_
      refine one_ (i := 12) (N := some 52) #[Y_,Y_,Y_,Y_,Y_,Y_,Y_,Y_,Y_,Y_,Y_,Y_,Y_,N_,N_,N_] rfl rfl (one_of HT_.out (by kernel_rfl)) (by decide) (fun K hK => ?_)
      refine value_ (w1 := ?_) (v := ?_) (by rfl) rfl ?_ ?_
      rotate_left 2
      ·go_simp
       constructor
       ·rfl
       rfl
      refine hK.out _ _ ((blk_cell (blk_alloc BK278.out _) 0).trans rfl) (fun hHeld => ?_)
      clear hK K
      refine norm_ (tV : Act.put _ (some 52) _ = _) ?_
      refine one_ (i := 13) (N := some 53) #[Y_,Y_,Y_,Y_,Y_,Y_,Y_,Y_,Y_,Y_,Y_,Y_,Y_,Y_,N_,N_] rfl rfl (one_of HT_.out (by kernel_rfl)) (by decide) (fun K hK => ?_)
      refine Kd.R_append_step k108 w.heap.size (by rfl) (.tmp 41) (.tmp 52) 63 108 (.agg #[(.int .i64 0), (.int .i64 0), (.int .i64 0), (.bool false)]) 32 rfl Try.underlying63 info108 rfl (by decide) (by omega) (.slice Ao51 x279000_1.length co51) x279000_1 (⟨t313, t319, t325, false⟩ : S108) [.int .i64 t313, .int .i64 t319, .int .i64 t325, .bool false] (fun _ => True) (fun _ => False) rfl rfl ?aP (fun _ hk => hk.elim) ?aF ?aO (Below.refl _ _) ?aS ?aL ?_
      (case aP => exact k108_mkM _ _ _ (⟨t313, t319, t325, false⟩ : S108))
      (case aF => exact (fun _ _ => trivial))
      (case aO => exact (tR HO_279000))
      (case aS => exact (keep_size (w := w) (g := g) (row := none) (by repeat (first | (with_reducible first | exact HK.out | apply KeepBut.set_ | apply keep_drewN | apply keep_drew | apply keep_alloc | refine keep_far ?_ GW277.out _ | refine keep_far ?_ GW278.out _) | exact HK.out))))
      (case aL => have := LMc49.out; omega)
      intro v329 w66 ho hb hg hat
      rw [← Ny328.out] at ho
      replace BK277 := Aside0.mk (blk_grown (g := gb277) (o := .cells #[.slice none 0 0] 65 (0, 0)) (tK BK277) hg (Kd.R_ne HO_279000.out BK277.out (by decide)))
      replace BK278 := Aside0.mk (blk_grown (g := gb278) (o := .cells #[.slice Ao51 x279000_1.length co51] 65 (0, 0)) (tK BK278) hg (Kd.R_ne HO_279000.out BK278.out (by decide)))
      replace HO312 := Aside0.mk (Kd.R_over' (tR HO312) (Kd.R_typed (tR HO_279000)) (by decide) hg)
      replace HO318 := Aside0.mk (Kd.R_over' (tR HO318) (Kd.R_typed (tR HO_279000)) (by decide) hg)
      replace HO324 := Aside0.mk (Kd.R_over' (tR HO324) (Kd.R_typed (tR HO_279000)) (by decide) hg)
      replace HB := Aside0.mk (below_weaken (by repeat (first | (with_reducible first | exact HB.out | apply below_alloc | apply pw_below_drewN | apply below_drew1 | refine below_set ?_ (IsS159.ge HI0.out) | refine below_set ?_ GE277.out | refine below_set ?_ GE278.out) | exact HB.out)) HL.out hb)
      replace HI0 := Aside0.mk (IsS159.grown' HI0 hg (IsS159.own_ne HI0.out HO_279000.out (by decide)) (by intro q_; repeat (first | (with_reducible first | exact q_ | apply IsS159.alloc | apply IsS159.drewN | apply IsS159.drew | apply IsS159.set_1 | apply IsS159.set_2 | refine IsS159.far ?_ NB0_277.out _ | refine IsS159.far ?_ NB0_278.out _) | exact q_)))
      replace HK := Aside0.mk (KeepBut.trans (by repeat (first | (with_reducible first | exact HK.out | apply KeepBut.set_ | apply keep_drewN | apply keep_drew | apply keep_alloc | refine keep_far ?_ GW277.out _ | refine keep_far ?_ GW278.out _) | exact HK.out)) (KeepBut.of_grown hg g) (Kd.R_base2 HO_279000.out))
      have HO330 := Aside0.mk (ho)
      clear HO_279000
      clear ho hb hg hat
      obtain ⟨Ao67, co67, eo67⟩ := Kd.R_slice HO330.out
      (first | subst eo67 | (injection eo67 with f1_ f2_ f3_; have f4_ := f1_.symm; have f5_ := f3_.symm; clear f1_ f2_ f3_; subst f4_; subst f5_))
      refine hK.out _ _ ((blk_cell BK278.out 0).trans rfl) (fun hHeld => ?_)
      clear hK K
      refine norm_ (tV : Act.put _ (some 53) _ = _) ?_
      refine pure_ (i := 14) (N := some 54) #[Y_,Y_,Y_,Y_,Y_,Y_,Y_,Y_,Y_,Y_,Y_,Y_,Y_,Y_,Y_,N_] rfl rfl (any_of HT_.out (by kernel_rfl)) (fun _ _ _ h => h) (Or.inl ⟨by rfl, tX⟩) tV ?_
      refine last_ (i := 15) (N := none) #[Y_,Y_,Y_,Y_,Y_,Y_,Y_,Y_,Y_,Y_,Y_,Y_,Y_,Y_,Y_,Y_] rfl rfl (one_of HT_.out (by kernel_rfl)) (by decide) (fun K hK => ?_)
      have hs68 : w66.cell? ⟨gb278, 0, none⟩ = some (.slice Ao51 x279000_1.length co51) := (blk_cell BK278.out 0).trans rfl
      have hfs68 := blk_frozen BK278.out 0
      have hns68_0 := NB277_278.out
      have hms68_0 := NB278_277.out
      refine skip_ (w1 := ?_) (by rfl) rfl ?_ ?_
      rotate_left
      ·go_simp
       rfl
      refine hK.out _ _ ?_
      clear hK K
      refine done_ (done_of HT_.out (by kernel_rfl)) ?_
      have hnb69 := NB278_277.out
      have hnc69 := NB277_278.out
      have hnb70 := NB278_0.out
      have hnc70 := NB0_278.out
      obtain ⟨hcz71_0, hfz71_0⟩ := bc1 BK278.out
      have hnb72 := NB277_0.out
      have hnc72 := NB0_277.out
      obtain ⟨hcz73_0, hfz73_0⟩ := bc1 BK277.out
      try go_wp2
      refine bodyPost_ret (results_cell_row rfl _ _ gb277 65 #[.slice Ao67 y328.length co67] (0, 0) _ rfl (by (with_reducible repeat (first | refine blk_drewN ?_ _ | refine blk_drew ?_ | refine blk_alloc ?_ _)); refine blk_put (cs := #[.slice none 0 0]) ?_ 0 _ rfl; exact kF NB277_278 BK277) Try.underlying65 rfl (by kernel_rfl)) rfl ?_
      exact ⟨_, tE, by (with_reducible repeat (first | apply Kd.R_alloc | apply Kd.R_drewN | apply Kd.R_drew)); exact Kd.R_mono (Kd.R_far (p := ⟨gb277, 0, none⟩) (Kd.R_far (p := ⟨gb278, 0, none⟩) (Kd.R_types (Kd.R_types HO330.out BK278.out (by decide)) BK277.out (by decide)) (fun _ hk => hk.1.2) (.slice Ao67 y328.length co67)) (fun _ hk => hk.2) (.slice Ao67 y328.length co67)) (fun _ hk => trivial), by repeat (first | (with_reducible first | exact HI0.out | apply IsS159.alloc | apply IsS159.drewN | apply IsS159.drew | apply IsS159.set_1 | apply IsS159.set_2 | refine IsS159.far ?_ NB0_277.out _ | refine IsS159.far ?_ NB0_278.out _) | exact HI0.out), by repeat (first | (with_reducible first | exact HB.out | apply below_alloc | apply pw_below_drewN | apply below_drew1 | refine below_set ?_ (IsS159.ge HI0.out) | refine below_set ?_ GE277.out | refine below_set ?_ GE278.out) | exact HB.out), by repeat (first | (with_reducible first | exact HK.out | apply KeepBut.set_ | apply keep_drewN | apply keep_drew | apply keep_alloc | refine keep_far ?_ GW277.out _ | refine keep_far ?_ GW278.out _) | exact HK.out)⟩
     intro hJ3_4_6_7_9
     refine join_ (σ := Value × Value) 7 #[Y_,Y_,Y_,Y_,Y_,Y_,Y_,Y_,Y_,N_,N_,N_,N_,N_,N_,N_] (fun s_ => [(43, s_.1), (44, .int .i64 t313), (46, s_.2), (47, .int .i64 t319)]) (fun s_ w' => (w'.cell? ⟨gb278, 0, none⟩ = some (.slice Ao51 x279000_1.length co51)) ∧ (Kd.R (Kd.int .i64) 3 w' w.heap.size (fun k_ => some k_ ≠ (s_.2 : Value).ownBlock) s_.1 y310) ∧ (Kd.R (Kd.int .i64) 3 w' w.heap.size (fun k_ => some k_ ≠ (s_.1 : Value).ownBlock) s_.2 y316) ∧ (Kd.R k108 108 w' w.heap.size (fun _ => True) (.slice Ao51 x279000_1.length co51) x279000_1) ∧ (w'.heap[gb277]? = some (.cells #[.slice none 0 0] 65 (0, 0))) ∧ (w'.heap[gb278]? = some (.cells #[.slice Ao51 x279000_1.length co51] 65 (0, 0))) ∧ (IsS159 w0 w' g s0_0 t320 t321) ∧ (KeepBut w w' g none) ∧ (Below w0.heap.size w0 w')) ?_ ?_
     ·rintro ⟨v311, v317⟩ w61 hS_
      dsimp only at hS_
      obtain ⟨hHeld, h0_, h1_, h2_, h3_, h4_, h5_, h6_, h7_⟩ := hS_
      have HO312 := Aside0.mk h0_
      have HO318 := Aside0.mk h1_
      replace HO_279000 := Aside0.mk h2_
      replace BK277 := Aside0.mk h3_
      replace BK278 := Aside0.mk h4_
      replace HI0 := Aside0.mk h5_
      replace HK := Aside0.mk h6_
      replace HB := Aside0.mk h7_
      clear h0_ h1_ h2_ h3_ h4_ h5_ h6_ h7_
      refine norm_ tM ?_
      refine one_ (i := 9) (N := some 49) #[Y_,Y_,Y_,Y_,Y_,Y_,Y_,Y_,Y_,Y_,N_,N_,N_,N_,N_,N_] rfl rfl (one_of HT_.out (by kernel_rfl)) (by decide) (fun K hK => ?_)
      refine Kd.R_lit_step (Kd.int .i64) _ 3 ?hg (N := 49) ?hd (xs := ([0, 1000000, 1000001] : List Int)) (inner := [.int .i64 0, .int .i64 1000000, .int .i64 1000001]) (ok := fun _ => True) (okp := fun _ => True) ?hr ?hp (fun _ hk => hk) trivial (Below.refl _ _) (Nat.le_refl _) (by simp) ?_; (case hd => rfl); (case hg => rfl); (case hr => exact tG); (case hp => exact (Reps.one (show Kd.M (Kd.int .i64) _ _ _ 0 [.int .i64 0] from rfl) (Reps.one (show Kd.M (Kd.int .i64) _ _ _ 1000000 [.int .i64 1000000] from rfl) (Reps.one (show Kd.M (Kd.int .i64) _ _ _ 1000001 [.int .i64 1000001] from rfl) (Reps.none _ _)))))
      intro v323 w62 ho63 hb hg_ hnew_
      clear hg_ hnew_
      (first | rw [← Ny322.out] at ho63 | (simp only [Int.reduceToNat] at ho63; rw [← Ny322.out] at ho63))
      replace HO_279000 := Aside0.mk (Kd.R_below (tR HO_279000) hb)
      have HO324 := Aside0.mk (Kd.R_lower (Kd.R_new' (Kd.R_new' ho63 (Kd.R_lt (tR HO312))) (Kd.R_lt (tR HO318))) (keep_size (w := w) (g := g) (row := none) (by repeat (first | (with_reducible first | exact HK.out | apply KeepBut.set_ | apply keep_drewN | apply keep_drew | apply keep_alloc | refine keep_far ?_ GW277.out _ | refine keep_far ?_ GW278.out _) | exact HK.out))))
      replace HO312 := Aside0.mk (Kd.R_elder' (tR HO312) (Kd.R_base ho63) hb)
      replace HO318 := Aside0.mk (Kd.R_elder' (tR HO318) (Kd.R_base ho63) hb)
      replace BK277 := bB BK277 hb
      replace BK278 := bB BK278 hb
      replace HK := Aside0.mk (KeepBut.trans (by repeat (first | (with_reducible first | exact HK.out | apply KeepBut.set_ | apply keep_drewN | apply keep_drew | apply keep_alloc | refine keep_far ?_ GW277.out _ | refine keep_far ?_ GW278.out _) | exact HK.out)) (KeepBut.of_below hb g none) (.inl rfl))
      replace HB := Aside0.mk (below_step (by repeat (first | (with_reducible first | exact HB.out | apply below_alloc | apply pw_below_drewN | apply below_drew1 | refine below_set ?_ (IsS159.ge HI0.out) | refine below_set ?_ GE277.out | refine below_set ?_ GE278.out) | exact HB.out)) hb)
      replace HI0 := Aside0.mk (IsS159.below (by repeat (first | (with_reducible first | exact HI0.out | apply IsS159.alloc | apply IsS159.drewN | apply IsS159.drew | apply IsS159.set_1 | apply IsS159.set_2 | refine IsS159.far ?_ NB0_277.out _ | refine IsS159.far ?_ NB0_278.out _) | exact HI0.out)) hb)
      clear hb ho63
      refine hK.out _ _ ((blk_cell BK278.out 0).trans rfl) (fun hHeld => ?_)
      clear hK K
      refine norm_ (tV : Act.put _ (some 49) _ = _) ?_
      exact norm_ tM (hJ3_4_6_7_9 (v311, v317, v323) _ ⟨hHeld, tR HO312, tR HO318, (by (with_reducible repeat (first | apply Kd.R_alloc | apply Kd.R_drewN | apply Kd.R_drew)); exact Kd.R_mono HO324.out (fun _ hk => ⟨hk.1.2, hk.2⟩)), tR HO_279000, tK BK277, tK BK278, (by repeat (first | (with_reducible first | exact HI0.out | apply IsS159.alloc | apply IsS159.drewN | apply IsS159.drew | apply IsS159.set_1 | apply IsS159.set_2 | refine IsS159.far ?_ NB0_277.out _ | refine IsS159.far ?_ NB0_278.out _) | exact HI0.out)), (by repeat (first | (with_reducible first | exact HK.out | apply KeepBut.set_ | apply keep_drewN | apply keep_drew | apply keep_alloc | refine keep_far ?_ GW277.out _ | refine keep_far ?_ GW278.out _) | exact HK.out)), (by repeat (first | (with_reducible first | exact HB.out | apply below_alloc | apply pw_below_drewN | apply below_drew1 | refine below_set ?_ (IsS159.ge HI0.out) | refine below_set ?_ GE277.out | refine below_set ?_ GE278.out) | exact HB.out))⟩)
     intro hJ3_4_6_7
     refine join_ (σ := Value × Value × Value) 7 #[Y_,Y_,Y_,Y_,Y_,Y_,Y_,N_,Y_,Y_,N_,N_,N_,N_,N_,N_] (fun s_ => [(43, s_.1), (44, .int .i64 t313), (46, s_.2.1), (49, s_.2.2)]) (fun s_ w' => (w'.cell? ⟨gb278, 0, none⟩ = some (.slice Ao51 x279000_1.length co51)) ∧ (Kd.R (Kd.int .i64) 3 w' w.heap.size (fun k_ => some k_ ≠ (s_.2.1 : Value).ownBlock ∧ some k_ ≠ (s_.2.2 : Value).ownBlock) s_.1 y310) ∧ (Kd.R (Kd.int .i64) 3 w' w.heap.size (fun k_ => some k_ ≠ (s_.1 : Value).ownBlock ∧ some k_ ≠ (s_.2.2 : Value).ownBlock) s_.2.1 y316) ∧ (Kd.R (Kd.int .i64) 3 w' w.heap.size (fun k_ => some k_ ≠ (s_.1 : Value).ownBlock ∧ some k_ ≠ (s_.2.1 : Value).ownBlock) s_.2.2 y322) ∧ (Kd.R k108 108 w' w.heap.size (fun _ => True) (.slice Ao51 x279000_1.length co51) x279000_1) ∧ (w'.heap[gb277]? = some (.cells #[.slice none 0 0] 65 (0, 0))) ∧ (w'.heap[gb278]? = some (.cells #[.slice Ao51 x279000_1.length co51] 65 (0, 0))) ∧ (IsS159 w0 w' g s0_0 t314 t315) ∧ (KeepBut w w' g none) ∧ (Below w0.heap.size w0 w')) ?_ ?_
     ·rintro ⟨v311, v317, v323⟩ w61 hS_
      dsimp only at hS_
      obtain ⟨hHeld, h0_, h1_, h2_, h3_, h4_, h5_, h6_, h7_, h8_⟩ := hS_
      have HO312 := Aside0.mk h0_
      have HO318 := Aside0.mk h1_
      have HO324 := Aside0.mk h2_
      replace HO_279000 := Aside0.mk h3_
      replace BK277 := Aside0.mk h4_
      replace BK278 := Aside0.mk h5_
      replace HI0 := Aside0.mk h6_
      replace HK := Aside0.mk h7_
      replace HB := Aside0.mk h8_
      clear h0_ h1_ h2_ h3_ h4_ h5_ h6_ h7_ h8_
      obtain ⟨Ao62, co62, eo62⟩ := Kd.R_slice HO318.out
      (first | subst eo62 | (injection eo62 with f1_ f2_ f3_; have f4_ := f1_.symm; have f5_ := f3_.symm; clear f1_ f2_ f3_; subst f4_; subst f5_))
      refine norm_ tM ?_
      refine one_ (i := 7) (N := some 47) #[Y_,Y_,Y_,Y_,Y_,Y_,Y_,Y_,Y_,Y_,N_,N_,N_,N_,N_,N_] rfl rfl (one_of HT_.out (by kernel_rfl)) (by decide) (fun K hK => ?_)
      refine goes_ Try.func112 (by kernel_rfl) rfl #[.pointer (some ⟨g, 0, none⟩), .slice Ao62 y316.length co62] (by rfl) rfl rfl tL ?_
      with_reducible refine (spec_l1Int.calls g s0_0 t314 t315 _ _ y316 t319 t320 t321 w0 _ ?side1 ?side2 ?side3 ?side4 ?side5 A47.out).mono ?_
      (case side1 => repeat (first | (with_reducible first | exact HI0.out | apply IsS159.alloc | apply IsS159.drewN | apply IsS159.drew | apply IsS159.set_1 | apply IsS159.set_2 | refine IsS159.far ?_ NB0_277.out _ | refine IsS159.far ?_ NB0_278.out _) | exact HI0.out))
      (case side2 => repeat (first | (with_reducible first | exact HB.out | apply below_alloc | apply pw_below_drewN | apply below_drew1 | refine below_set ?_ (IsS159.ge HI0.out) | refine below_set ?_ GE277.out | refine below_set ?_ GE278.out) | exact HB.out))
      (case side3 => repeat (first | exact (Kd.R_reads' HO318.out).2.2 | (with_reducible refine Kd.C_alloc ?_ _) | (with_reducible refine Kd.C_drewN ?_ _) | (with_reducible refine Kd.C_drew ?_)))
      (case side4 => exact (Kd.R_reads' HO318.out).2.1)
      (case side5 => exact far_slice (IsS159.own_ne HI0.out HO318.out (by decide)))
      rintro e w63 ⟨rfl, hi, hb, hk⟩
      refine ⟨_, rfl, ?_⟩
      replace HO_279000 := Aside0.mk (Kd.R_mono (Kd.R_keep (IsS159.apart (show IsS159 w0 _ g s0_0 t314 t315 from by repeat (first | (with_reducible first | exact HI0.out | apply IsS159.alloc | apply IsS159.drewN | apply IsS159.drew | apply IsS159.set_1 | apply IsS159.set_2 | refine IsS159.far ?_ NB0_277.out _ | refine IsS159.far ?_ NB0_278.out _) | exact HI0.out)) (tR HO_279000) (by decide)) hk (fun _ h => h.2)) (fun _ h => h.1))
      replace BK277 := Aside0.mk (KeepBut.blk hk (g' := gb277) (o := .cells #[.slice none 0 0] 65 (0, 0)) (tK BK277) NB277_0.out (by simp))
      replace BK278 := Aside0.mk (KeepBut.blk hk (g' := gb278) (o := .cells #[.slice Ao51 x279000_1.length co51] 65 (0, 0)) (tK BK278) NB278_0.out (by simp))
      replace HO312 := Aside0.mk (Kd.R_mono (Kd.R_keep (IsS159.apart (show IsS159 w0 _ g s0_0 t314 t315 from by repeat (first | (with_reducible first | exact HI0.out | apply IsS159.alloc | apply IsS159.drewN | apply IsS159.drew | apply IsS159.set_1 | apply IsS159.set_2 | refine IsS159.far ?_ NB0_277.out _ | refine IsS159.far ?_ NB0_278.out _) | exact HI0.out)) (tR HO312) (by decide)) hk (fun _ h => h.2)) (fun _ h => h.1))
      replace HO318 := Aside0.mk (Kd.R_mono (Kd.R_keep (IsS159.apart (show IsS159 w0 _ g s0_0 t314 t315 from by repeat (first | (with_reducible first | exact HI0.out | apply IsS159.alloc | apply IsS159.drewN | apply IsS159.drew | apply IsS159.set_1 | apply IsS159.set_2 | refine IsS159.far ?_ NB0_277.out _ | refine IsS159.far ?_ NB0_278.out _) | exact HI0.out)) (tR HO318) (by decide)) hk (fun _ h => h.2)) (fun _ h => h.1))
      replace HO324 := Aside0.mk (Kd.R_mono (Kd.R_keep (IsS159.apart (show IsS159 w0 _ g s0_0 t314 t315 from by repeat (first | (with_reducible first | exact HI0.out | apply IsS159.alloc | apply IsS159.drewN | apply IsS159.drew | apply IsS159.set_1 | apply IsS159.set_2 | refine IsS159.far ?_ NB0_277.out _ | refine IsS159.far ?_ NB0_278.out _) | exact HI0.out)) (tR HO324) (by decide)) hk (fun _ h => h.2)) (fun _ h => h.1))
      replace HK := Aside0.mk (KeepBut.trans (by repeat (first | (with_reducible first | exact HK.out | apply KeepBut.set_ | apply keep_drewN | apply keep_drew | apply keep_alloc | refine keep_far ?_ GW277.out _ | refine keep_far ?_ GW278.out _) | exact HK.out)) hk (.inl rfl))
      replace HB := Aside0.mk (hb)
      replace HI0 := Aside0.mk (hi)
      (try clear hb)
      (try clear hb2)
      (try clear hk)
      (try clear hi)
      refine hK.out _ _ ((blk_cell BK278.out 0).trans rfl) (fun hHeld => ?_)
      clear hK K
      refine norm_ (tV : Act.put _ (some 47) _ = _) ?_
      exact norm_ tM (hJ3_4_6_7_9 (v311, .slice Ao62 y316.length co62, v323) _ ⟨hHeld, tR HO312, tR HO318, tR HO324, tR HO_279000, tK BK277, tK BK278, (by repeat (first | (with_reducible first | exact HI0.out | apply IsS159.alloc | apply IsS159.drewN | apply IsS159.drew | apply IsS159.set_1 | apply IsS159.set_2 | refine IsS159.far ?_ NB0_277.out _ | refine IsS159.far ?_ NB0_278.out _) | exact HI0.out)), (by repeat (first | (with_reducible first | exact HK.out | apply KeepBut.set_ | apply keep_drewN | apply keep_drew | apply keep_alloc | refine keep_far ?_ GW277.out _ | refine keep_far ?_ GW278.out _) | exact HK.out)), (by repeat (first | (with_reducible first | exact HB.out | apply below_alloc | apply pw_below_drewN | apply below_drew1 | refine below_set ?_ (IsS159.ge HI0.out) | refine below_set ?_ GE277.out | refine below_set ?_ GE278.out) | exact HB.out))⟩)
     intro hJ3_4_6_9
     refine join_ (σ := Value × Value) 8 #[Y_,Y_,Y_,Y_,Y_,Y_,Y_,N_,Y_,N_,N_,N_,N_,N_,N_,N_] (fun s_ => [(43, s_.1), (44, .int .i64 t313), (46, s_.2)]) (fun s_ w' => (w'.cell? ⟨gb278, 0, none⟩ = some (.slice Ao51 x279000_1.length co51)) ∧ (Kd.R (Kd.int .i64) 3 w' w.heap.size (fun k_ => some k_ ≠ (s_.2 : Value).ownBlock) s_.1 y310) ∧ (Kd.R (Kd.int .i64) 3 w' w.heap.size (fun k_ => some k_ ≠ (s_.1 : Value).ownBlock) s_.2 y316) ∧ (Kd.R k108 108 w' w.heap.size (fun _ => True) (.slice Ao51 x279000_1.length co51) x279000_1) ∧ (w'.heap[gb277]? = some (.cells #[.slice none 0 0] 65 (0, 0))) ∧ (w'.heap[gb278]? = some (.cells #[.slice Ao51 x279000_1.length co51] 65 (0, 0))) ∧ (IsS159 w0 w' g s0_0 t314 t315) ∧ (KeepBut w w' g none) ∧ (Below w0.heap.size w0 w')) ?_ ?_
     ·rintro ⟨v311, v317⟩ w59 hS_
      dsimp only at hS_
      obtain ⟨hHeld, h0_, h1_, h2_, h3_, h4_, h5_, h6_, h7_⟩ := hS_
      have HO312 := Aside0.mk h0_
      have HO318 := Aside0.mk h1_
      replace HO_279000 := Aside0.mk h2_
      replace BK277 := Aside0.mk h3_
      replace BK278 := Aside0.mk h4_
      replace HI0 := Aside0.mk h5_
      replace HK := Aside0.mk h6_
      replace HB := Aside0.mk h7_
      clear h0_ h1_ h2_ h3_ h4_ h5_ h6_ h7_
      obtain ⟨Ao60, co60, eo60⟩ := Kd.R_slice HO318.out
      (first | subst eo60 | (injection eo60 with f1_ f2_ f3_; have f4_ := f1_.symm; have f5_ := f3_.symm; clear f1_ f2_ f3_; subst f4_; subst f5_))
      refine norm_ tM ?_
      refine two_ (i := 7) (j := 9) (Ni := some 47) (Nj := some 49) #[Y_,Y_,Y_,Y_,Y_,Y_,Y_,Y_,Y_,N_,N_,N_,N_,N_,N_,N_] #[Y_,Y_,Y_,Y_,Y_,Y_,Y_,N_,Y_,Y_,N_,N_,N_,N_,N_,N_] rfl rfl rfl rfl (two_of HT_.out (by kernel_rfl)) (by decide) (by decide) (fun K hK => ?_) (fun K hK => ?_)
      ·refine goes_ Try.func112 (by kernel_rfl) rfl #[.pointer (some ⟨g, 0, none⟩), .slice Ao60 y316.length co60] (by rfl) rfl rfl tL ?_
       with_reducible refine (spec_l1Int.calls g s0_0 t314 t315 _ _ y316 t319 t320 t321 w0 _ ?side1 ?side2 ?side3 ?side4 ?side5 A47.out).mono ?_
       (case side1 => repeat (first | (with_reducible first | exact HI0.out | apply IsS159.alloc | apply IsS159.drewN | apply IsS159.drew | apply IsS159.set_1 | apply IsS159.set_2 | refine IsS159.far ?_ NB0_277.out _ | refine IsS159.far ?_ NB0_278.out _) | exact HI0.out))
       (case side2 => repeat (first | (with_reducible first | exact HB.out | apply below_alloc | apply pw_below_drewN | apply below_drew1 | refine below_set ?_ (IsS159.ge HI0.out) | refine below_set ?_ GE277.out | refine below_set ?_ GE278.out) | exact HB.out))
       (case side3 => repeat (first | exact (Kd.R_reads' HO318.out).2.2 | (with_reducible refine Kd.C_alloc ?_ _) | (with_reducible refine Kd.C_drewN ?_ _) | (with_reducible refine Kd.C_drew ?_)))
       (case side4 => exact (Kd.R_reads' HO318.out).2.1)
       (case side5 => exact far_slice (IsS159.own_ne HI0.out HO318.out (by decide)))
       rintro e w61 ⟨rfl, hi, hb, hk⟩
       refine ⟨_, rfl, ?_⟩
       replace HO_279000 := Aside0.mk (Kd.R_mono (Kd.R_keep (IsS159.apart (show IsS159 w0 _ g s0_0 t314 t315 from by repeat (first | (with_reducible first | exact HI0.out | apply IsS159.alloc | apply IsS159.drewN | apply IsS159.drew | apply IsS159.set_1 | apply IsS159.set_2 | refine IsS159.far ?_ NB0_277.out _ | refine IsS159.far ?_ NB0_278.out _) | exact HI0.out)) (tR HO_279000) (by decide)) hk (fun _ h => h.2)) (fun _ h => h.1))
       replace BK277 := Aside0.mk (KeepBut.blk hk (g' := gb277) (o := .cells #[.slice none 0 0] 65 (0, 0)) (tK BK277) NB277_0.out (by simp))
       replace BK278 := Aside0.mk (KeepBut.blk hk (g' := gb278) (o := .cells #[.slice Ao51 x279000_1.length co51] 65 (0, 0)) (tK BK278) NB278_0.out (by simp))
       replace HO312 := Aside0.mk (Kd.R_mono (Kd.R_keep (IsS159.apart (show IsS159 w0 _ g s0_0 t314 t315 from by repeat (first | (with_reducible first | exact HI0.out | apply IsS159.alloc | apply IsS159.drewN | apply IsS159.drew | apply IsS159.set_1 | apply IsS159.set_2 | refine IsS159.far ?_ NB0_277.out _ | refine IsS159.far ?_ NB0_278.out _) | exact HI0.out)) (tR HO312) (by decide)) hk (fun _ h => h.2)) (fun _ h => h.1))
       replace HO318 := Aside0.mk (Kd.R_mono (Kd.R_keep (IsS159.apart (show IsS159 w0 _ g s0_0 t314 t315 from by repeat (first | (with_reducible first | exact HI0.out | apply IsS159.alloc | apply IsS159.drewN | apply IsS159.drew | apply IsS159.set_1 | apply IsS159.set_2 | refine IsS159.far ?_ NB0_277.out _ | refine IsS159.far ?_ NB0_278.out _) | exact HI0.out)) (tR HO318) (by decide)) hk (fun _ h => h.2)) (fun _ h => h.1))
       replace HK := Aside0.mk (KeepBut.trans (by repeat (first | (with_reducible first | exact HK.out | apply KeepBut.set_ | apply keep_drewN | apply keep_drew | apply keep_alloc | refine keep_far ?_ GW277.out _ | refine keep_far ?_ GW278.out _) | exact HK.out)) hk (.inl rfl))
       replace HB := Aside0.mk (hb)
       replace HI0 := Aside0.mk (hi)
       (try clear hb)
       (try clear hb2)
       (try clear hk)
       (try clear hi)
       refine hK.out _ _ ((blk_cell BK278.out 0).trans rfl) (fun hHeld => ?_)
       clear hK K
       refine norm_ (tV : Act.put _ (some 47) _ = _) ?_
       exact norm_ tM (hJ3_4_6_7 (v311, .slice Ao60 y316.length co60) _ ⟨hHeld, tR HO312, tR HO318, tR HO_279000, tK BK277, tK BK278, (by repeat (first | (with_reducible first | exact HI0.out | apply IsS159.alloc | apply IsS159.drewN | apply IsS159.drew | apply IsS159.set_1 | apply IsS159.set_2 | refine IsS159.far ?_ NB0_277.out _ | refine IsS159.far ?_ NB0_278.out _) | exact HI0.out)), (by repeat (first | (with_reducible first | exact HK.out | apply KeepBut.set_ | apply keep_drewN | apply keep_drew | apply keep_alloc | refine keep_far ?_ GW277.out _ | refine keep_far ?_ GW278.out _) | exact HK.out)), (by repeat (first | (with_reducible first | exact HB.out | apply below_alloc | apply pw_below_drewN | apply below_drew1 | refine below_set ?_ (IsS159.ge HI0.out) | refine below_set ?_ GE277.out | refine below_set ?_ GE278.out) | exact HB.out))⟩)
      refine Kd.R_lit_step (Kd.int .i64) _ 3 ?hg (N := 49) ?hd (xs := ([0, 1000000, 1000001] : List Int)) (inner := [.int .i64 0, .int .i64 1000000, .int .i64 1000001]) (ok := fun _ => True) (okp := fun _ => True) ?hr ?hp (fun _ hk => hk) trivial (Below.refl _ _) (Nat.le_refl _) (by simp) ?_; (case hd => rfl); (case hg => rfl); (case hr => exact tG); (case hp => exact (Reps.one (show Kd.M (Kd.int .i64) _ _ _ 0 [.int .i64 0] from rfl) (Reps.one (show Kd.M (Kd.int .i64) _ _ _ 1000000 [.int .i64 1000000] from rfl) (Reps.one (show Kd.M (Kd.int .i64) _ _ _ 1000001 [.int .i64 1000001] from rfl) (Reps.none _ _)))))
      intro v323 w60 ho61 hb hg_ hnew_
      clear hg_ hnew_
      (first | rw [← Ny322.out] at ho61 | (simp only [Int.reduceToNat] at ho61; rw [← Ny322.out] at ho61))
      replace HO_279000 := Aside0.mk (Kd.R_below (tR HO_279000) hb)
      have HO324 := Aside0.mk (Kd.R_lower (Kd.R_new' (Kd.R_new' ho61 (Kd.R_lt (tR HO312))) (Kd.R_lt (tR HO318))) (keep_size (w := w) (g := g) (row := none) (by repeat (first | (with_reducible first | exact HK.out | apply KeepBut.set_ | apply keep_drewN | apply keep_drew | apply keep_alloc | refine keep_far ?_ GW277.out _ | refine keep_far ?_ GW278.out _) | exact HK.out))))
      replace HO312 := Aside0.mk (Kd.R_elder' (tR HO312) (Kd.R_base ho61) hb)
      replace HO318 := Aside0.mk (Kd.R_elder' (tR HO318) (Kd.R_base ho61) hb)
      replace BK277 := bB BK277 hb
      replace BK278 := bB BK278 hb
      replace HK := Aside0.mk (KeepBut.trans (by repeat (first | (with_reducible first | exact HK.out | apply KeepBut.set_ | apply keep_drewN | apply keep_drew | apply keep_alloc | refine keep_far ?_ GW277.out _ | refine keep_far ?_ GW278.out _) | exact HK.out)) (KeepBut.of_below hb g none) (.inl rfl))
      replace HB := Aside0.mk (below_step (by repeat (first | (with_reducible first | exact HB.out | apply below_alloc | apply pw_below_drewN | apply below_drew1 | refine below_set ?_ (IsS159.ge HI0.out) | refine below_set ?_ GE277.out | refine below_set ?_ GE278.out) | exact HB.out)) hb)
      replace HI0 := Aside0.mk (IsS159.below (by repeat (first | (with_reducible first | exact HI0.out | apply IsS159.alloc | apply IsS159.drewN | apply IsS159.drew | apply IsS159.set_1 | apply IsS159.set_2 | refine IsS159.far ?_ NB0_277.out _ | refine IsS159.far ?_ NB0_278.out _) | exact HI0.out)) hb)
      clear hb ho61
      refine hK.out _ _ ((blk_cell BK278.out 0).trans rfl) (fun hHeld => ?_)
      clear hK K
      refine norm_ (tV : Act.put _ (some 49) _ = _) ?_
      exact norm_ tM (hJ3_4_6_9 (v311, (.slice Ao60 y316.length co60), v323) _ ⟨hHeld, tR HO312, tR HO318, (by (with_reducible repeat (first | apply Kd.R_alloc | apply Kd.R_drewN | apply Kd.R_drew)); exact Kd.R_mono HO324.out (fun _ hk => ⟨hk.1.2, hk.2⟩)), tR HO_279000, tK BK277, tK BK278, (by repeat (first | (with_reducible first | exact HI0.out | apply IsS159.alloc | apply IsS159.drewN | apply IsS159.drew | apply IsS159.set_1 | apply IsS159.set_2 | refine IsS159.far ?_ NB0_277.out _ | refine IsS159.far ?_ NB0_278.out _) | exact HI0.out)), (by repeat (first | (with_reducible first | exact HK.out | apply KeepBut.set_ | apply keep_drewN | apply keep_drew | apply keep_alloc | refine keep_far ?_ GW277.out _ | refine keep_far ?_ GW278.out _) | exact HK.out)), (by repeat (first | (with_reducible first | exact HB.out | apply below_alloc | apply pw_below_drewN | apply below_drew1 | refine below_set ?_ (IsS159.ge HI0.out) | refine below_set ?_ GE277.out | refine below_set ?_ GE278.out) | exact HB.out))⟩)
     intro hJ3_4_6
     refine join_ (σ := Value × Value) 8 #[Y_,Y_,Y_,Y_,Y_,Y_,N_,N_,Y_,Y_,N_,N_,N_,N_,N_,N_] (fun s_ => [(43, s_.1), (44, .int .i64 t313), (49, s_.2)]) (fun s_ w' => (w'.cell? ⟨gb278, 0, none⟩ = some (.slice Ao51 x279000_1.length co51)) ∧ (Kd.R (Kd.int .i64) 3 w' w.heap.size (fun k_ => some k_ ≠ (s_.2 : Value).ownBlock) s_.1 y310) ∧ (Kd.R (Kd.int .i64) 3 w' w.heap.size (fun k_ => some k_ ≠ (s_.1 : Value).ownBlock) s_.2 y322) ∧ (Kd.R k108 108 w' w.heap.size (fun _ => True) (.slice Ao51 x279000_1.length co51) x279000_1) ∧ (w'.heap[gb277]? = some (.cells #[.slice none 0 0] 65 (0, 0))) ∧ (w'.heap[gb278]? = some (.cells #[.slice Ao51 x279000_1.length co51] 65 (0, 0))) ∧ (IsS159 w0 w' g s0_0 t314 t315) ∧ (KeepBut w w' g none) ∧ (Below w0.heap.size w0 w')) ?_ ?_
     ·rintro ⟨v311, v323⟩ w59 hS_
      dsimp only at hS_
      obtain ⟨hHeld, h0_, h1_, h2_, h3_, h4_, h5_, h6_, h7_⟩ := hS_
      have HO312 := Aside0.mk h0_
      have HO324 := Aside0.mk h1_
      replace HO_279000 := Aside0.mk h2_
      replace BK277 := Aside0.mk h3_
      replace BK278 := Aside0.mk h4_
      replace HI0 := Aside0.mk h5_
      replace HK := Aside0.mk h6_
      replace HB := Aside0.mk h7_
      clear h0_ h1_ h2_ h3_ h4_ h5_ h6_ h7_
      refine norm_ tM ?_
      refine one_ (i := 6) (N := some 46) #[Y_,Y_,Y_,Y_,Y_,Y_,Y_,N_,Y_,Y_,N_,N_,N_,N_,N_,N_] rfl rfl (one_of HT_.out (by kernel_rfl)) (by decide) (fun K hK => ?_)
      refine Kd.R_lit_step (Kd.int .i64) _ 3 ?hg (N := 46) ?hd (xs := ([(-1), 0] : List Int)) (inner := [.int .i64 (-1), .int .i64 0]) (ok := fun _ => True) (okp := fun _ => True) ?hr ?hp (fun _ hk => hk) trivial (Below.refl _ _) (Nat.le_refl _) (by simp) ?_; (case hd => rfl); (case hg => rfl); (case hr => exact tG); (case hp => exact (Reps.one (show Kd.M (Kd.int .i64) _ _ _ (-1) [.int .i64 (-1)] from rfl) (Reps.one (show Kd.M (Kd.int .i64) _ _ _ 0 [.int .i64 0] from rfl) (Reps.none _ _))))
      intro v317 w60 ho61 hb hg_ hnew_
      clear hg_ hnew_
      (first | rw [← Ny316.out] at ho61 | (simp only [Int.reduceToNat] at ho61; rw [← Ny316.out] at ho61))
      replace HO_279000 := Aside0.mk (Kd.R_below (tR HO_279000) hb)
      have HO318 := Aside0.mk (Kd.R_lower (Kd.R_new' (Kd.R_new' ho61 (Kd.R_lt (tR HO312))) (Kd.R_lt (tR HO324))) (keep_size (w := w) (g := g) (row := none) (by repeat (first | (with_reducible first | exact HK.out | apply KeepBut.set_ | apply keep_drewN | apply keep_drew | apply keep_alloc | refine keep_far ?_ GW277.out _ | refine keep_far ?_ GW278.out _) | exact HK.out))))
      replace HO312 := Aside0.mk (Kd.R_elder' (tR HO312) (Kd.R_base ho61) hb)
      replace HO324 := Aside0.mk (Kd.R_elder' (tR HO324) (Kd.R_base ho61) hb)
      replace BK277 := bB BK277 hb
      replace BK278 := bB BK278 hb
      replace HK := Aside0.mk (KeepBut.trans (by repeat (first | (with_reducible first | exact HK.out | apply KeepBut.set_ | apply keep_drewN | apply keep_drew | apply keep_alloc | refine keep_far ?_ GW277.out _ | refine keep_far ?_ GW278.out _) | exact HK.out)) (KeepBut.of_below hb g none) (.inl rfl))
      replace HB := Aside0.mk (below_step (by repeat (first | (with_reducible first | exact HB.out | apply below_alloc | apply pw_below_drewN | apply below_drew1 | refine below_set ?_ (IsS159.ge HI0.out) | refine below_set ?_ GE277.out | refine below_set ?_ GE278.out) | exact HB.out)) hb)
      replace HI0 := Aside0.mk (IsS159.below (by repeat (first | (with_reducible first | exact HI0.out | apply IsS159.alloc | apply IsS159.drewN | apply IsS159.drew | apply IsS159.set_1 | apply IsS159.set_2 | refine IsS159.far ?_ NB0_277.out _ | refine IsS159.far ?_ NB0_278.out _) | exact HI0.out)) hb)
      clear hb ho61
      refine hK.out _ _ ((blk_cell BK278.out 0).trans rfl) (fun hHeld => ?_)
      clear hK K
      refine norm_ (tV : Act.put _ (some 46) _ = _) ?_
      exact norm_ tM (hJ3_4_6_9 (v311, v317, v323) _ ⟨hHeld, (by (with_reducible repeat (first | apply Kd.R_alloc | apply Kd.R_drewN | apply Kd.R_drew)); exact Kd.R_mono HO312.out (fun _ hk => ⟨hk.2, hk.1⟩)), (by (with_reducible repeat (first | apply Kd.R_alloc | apply Kd.R_drewN | apply Kd.R_drew)); exact Kd.R_mono HO318.out (fun _ hk => ⟨hk.1.2, hk.2⟩)), tR HO324, tR HO_279000, tK BK277, tK BK278, (by repeat (first | (with_reducible first | exact HI0.out | apply IsS159.alloc | apply IsS159.drewN | apply IsS159.drew | apply IsS159.set_1 | apply IsS159.set_2 | refine IsS159.far ?_ NB0_277.out _ | refine IsS159.far ?_ NB0_278.out _) | exact HI0.out)), (by repeat (first | (with_reducible first | exact HK.out | apply KeepBut.set_ | apply keep_drewN | apply keep_drew | apply keep_alloc | refine keep_far ?_ GW277.out _ | refine keep_far ?_ GW278.out _) | exact HK.out)), (by repeat (first | (with_reducible first | exact HB.out | apply below_alloc | apply pw_below_drewN | apply below_drew1 | refine below_set ?_ (IsS159.ge HI0.out) | refine below_set ?_ GE277.out | refine below_set ?_ GE278.out) | exact HB.out))⟩)
     intro hJ3_4_9
     refine join_ (σ := Value × Value × Value) 8 #[Y_,Y_,Y_,Y_,N_,Y_,Y_,N_,Y_,Y_,N_,N_,N_,N_,N_,N_] (fun s_ => [(43, s_.1), (46, s_.2.1), (49, s_.2.2)]) (fun s_ w' => (w'.cell? ⟨gb278, 0, none⟩ = some (.slice Ao51 x279000_1.length co51)) ∧ (Kd.R (Kd.int .i64) 3 w' w.heap.size (fun k_ => some k_ ≠ (s_.2.1 : Value).ownBlock ∧ some k_ ≠ (s_.2.2 : Value).ownBlock) s_.1 y310) ∧ (Kd.R (Kd.int .i64) 3 w' w.heap.size (fun k_ => some k_ ≠ (s_.1 : Value).ownBlock ∧ some k_ ≠ (s_.2.2 : Value).ownBlock) s_.2.1 y316) ∧ (Kd.R (Kd.int .i64) 3 w' w.heap.size (fun k_ => some k_ ≠ (s_.1 : Value).ownBlock ∧ some k_ ≠ (s_.2.1 : Value).ownBlock) s_.2.2 y322) ∧ (Kd.R k108 108 w' w.heap.size (fun _ => True) (.slice Ao51 x279000_1.length co51) x279000_1) ∧ (w'.heap[gb277]? = some (.cells #[.slice none 0 0] 65 (0, 0))) ∧ (w'.heap[gb278]? = some (.cells #[.slice Ao51 x279000_1.length co51] 65 (0, 0))) ∧ (IsS159 w0 w' g s0_0 t308 t309) ∧ (KeepBut w w' g none) ∧ (Below w0.heap.size w0 w')) ?_ ?_
     ·rintro ⟨v311, v317, v323⟩ w59 hS_
      dsimp only at hS_
      obtain ⟨hHeld, h0_, h1_, h2_, h3_, h4_, h5_, h6_, h7_, h8_⟩ := hS_
      have HO312 := Aside0.mk h0_
      have HO318 := Aside0.mk h1_
      have HO324 := Aside0.mk h2_
      replace HO_279000 := Aside0.mk h3_
      replace BK277 := Aside0.mk h4_
      replace BK278 := Aside0.mk h5_
      replace HI0 := Aside0.mk h6_
      replace HK := Aside0.mk h7_
      replace HB := Aside0.mk h8_
      clear h0_ h1_ h2_ h3_ h4_ h5_ h6_ h7_ h8_
      obtain ⟨Ao60, co60, eo60⟩ := Kd.R_slice HO312.out
      (first | subst eo60 | (injection eo60 with f1_ f2_ f3_; have f4_ := f1_.symm; have f5_ := f3_.symm; clear f1_ f2_ f3_; subst f4_; subst f5_))
      refine norm_ tM ?_
      refine one_ (i := 4) (N := some 44) #[Y_,Y_,Y_,Y_,Y_,Y_,Y_,N_,Y_,Y_,N_,N_,N_,N_,N_,N_] rfl rfl (one_of HT_.out (by kernel_rfl)) (by decide) (fun K hK => ?_)
      refine goes_ Try.func112 (by kernel_rfl) rfl #[.pointer (some ⟨g, 0, none⟩), .slice Ao60 y310.length co60] (by rfl) rfl rfl tL ?_
      with_reducible refine (spec_l1Int.calls g s0_0 t308 t309 _ _ y310 t313 t314 t315 w0 _ ?side1 ?side2 ?side3 ?side4 ?side5 A46.out).mono ?_
      (case side1 => repeat (first | (with_reducible first | exact HI0.out | apply IsS159.alloc | apply IsS159.drewN | apply IsS159.drew | apply IsS159.set_1 | apply IsS159.set_2 | refine IsS159.far ?_ NB0_277.out _ | refine IsS159.far ?_ NB0_278.out _) | exact HI0.out))
      (case side2 => repeat (first | (with_reducible first | exact HB.out | apply below_alloc | apply pw_below_drewN | apply below_drew1 | refine below_set ?_ (IsS159.ge HI0.out) | refine below_set ?_ GE277.out | refine below_set ?_ GE278.out) | exact HB.out))
      (case side3 => repeat (first | exact (Kd.R_reads' HO312.out).2.2 | (with_reducible refine Kd.C_alloc ?_ _) | (with_reducible refine Kd.C_drewN ?_ _) | (with_reducible refine Kd.C_drew ?_)))
      (case side4 => exact (Kd.R_reads' HO312.out).2.1)
      (case side5 => exact far_slice (IsS159.own_ne HI0.out HO312.out (by decide)))
      rintro e w61 ⟨rfl, hi, hb, hk⟩
      refine ⟨_, rfl, ?_⟩
      replace HO_279000 := Aside0.mk (Kd.R_mono (Kd.R_keep (IsS159.apart (show IsS159 w0 _ g s0_0 t308 t309 from by repeat (first | (with_reducible first | exact HI0.out | apply IsS159.alloc | apply IsS159.drewN | apply IsS159.drew | apply IsS159.set_1 | apply IsS159.set_2 | refine IsS159.far ?_ NB0_277.out _ | refine IsS159.far ?_ NB0_278.out _) | exact HI0.out)) (tR HO_279000) (by decide)) hk (fun _ h => h.2)) (fun _ h => h.1))
      replace BK277 := Aside0.mk (KeepBut.blk hk (g' := gb277) (o := .cells #[.slice none 0 0] 65 (0, 0)) (tK BK277) NB277_0.out (by simp))
      replace BK278 := Aside0.mk (KeepBut.blk hk (g' := gb278) (o := .cells #[.slice Ao51 x279000_1.length co51] 65 (0, 0)) (tK BK278) NB278_0.out (by simp))
      replace HO312 := Aside0.mk (Kd.R_mono (Kd.R_keep (IsS159.apart (show IsS159 w0 _ g s0_0 t308 t309 from by repeat (first | (with_reducible first | exact HI0.out | apply IsS159.alloc | apply IsS159.drewN | apply IsS159.drew | apply IsS159.set_1 | apply IsS159.set_2 | refine IsS159.far ?_ NB0_277.out _ | refine IsS159.far ?_ NB0_278.out _) | exact HI0.out)) (tR HO312) (by decide)) hk (fun _ h => h.2)) (fun _ h => h.1))
      replace HO318 := Aside0.mk (Kd.R_mono (Kd.R_keep (IsS159.apart (show IsS159 w0 _ g s0_0 t308 t309 from by repeat (first | (with_reducible first | exact HI0.out | apply IsS159.alloc | apply IsS159.drewN | apply IsS159.drew | apply IsS159.set_1 | apply IsS159.set_2 | refine IsS159.far ?_ NB0_277.out _ | refine IsS159.far ?_ NB0_278.out _) | exact HI0.out)) (tR HO318) (by decide)) hk (fun _ h => h.2)) (fun _ h => h.1))
      replace HO324 := Aside0.mk (Kd.R_mono (Kd.R_keep (IsS159.apart (show IsS159 w0 _ g s0_0 t308 t309 from by repeat (first | (with_reducible first | exact HI0.out | apply IsS159.alloc | apply IsS159.drewN | apply IsS159.drew | apply IsS159.set_1 | apply IsS159.set_2 | refine IsS159.far ?_ NB0_277.out _ | refine IsS159.far ?_ NB0_278.out _) | exact HI0.out)) (tR HO324) (by decide)) hk (fun _ h => h.2)) (fun _ h => h.1))
      replace HK := Aside0.mk (KeepBut.trans (by repeat (first | (with_reducible first | exact HK.out | apply KeepBut.set_ | apply keep_drewN | apply keep_drew | apply keep_alloc | refine keep_far ?_ GW277.out _ | refine keep_far ?_ GW278.out _) | exact HK.out)) hk (.inl rfl))
      replace HB := Aside0.mk (hb)
      replace HI0 := Aside0.mk (hi)
      (try clear hb)
      (try clear hb2)
      (try clear hk)
      (try clear hi)
      refine hK.out _ _ ((blk_cell BK278.out 0).trans rfl) (fun hHeld => ?_)
      clear hK K
      refine norm_ (tV : Act.put _ (some 44) _ = _) ?_
      exact norm_ tM (hJ3_4_6_9 (.slice Ao60 y310.length co60, v317, v323) _ ⟨hHeld, tR HO312, tR HO318, tR HO324, tR HO_279000, tK BK277, tK BK278, (by repeat (first | (with_reducible first | exact HI0.out | apply IsS159.alloc | apply IsS159.drewN | apply IsS159.drew | apply IsS159.set_1 | apply IsS159.set_2 | refine IsS159.far ?_ NB0_277.out _ | refine IsS159.far ?_ NB0_278.out _) | exact HI0.out)), (by repeat (first | (with_reducible first | exact HK.out | apply KeepBut.set_ | apply keep_drewN | apply keep_drew | apply keep_alloc | refine keep_far ?_ GW277.out _ | refine keep_far ?_ GW278.out _) | exact HK.out)), (by repeat (first | (with_reducible first | exact HB.out | apply below_alloc | apply pw_below_drewN | apply below_drew1 | refine below_set ?_ (IsS159.ge HI0.out) | refine below_set ?_ GE277.out | refine below_set ?_ GE278.out) | exact HB.out))⟩)
     intro hJ3_6_9
     refine join_ (σ := Value) 9 #[Y_,Y_,Y_,Y_,Y_,Y_,N_,N_,Y_,N_,N_,N_,N_,N_,N_,N_] (fun s_ => [(43, s_), (44, .int .i64 t313)]) (fun s_ w' => (w'.cell? ⟨gb278, 0, none⟩ = some (.slice Ao51 x279000_1.length co51)) ∧ (Kd.R (Kd.int .i64) 3 w' w.heap.size (fun _ => True) s_ y310) ∧ (Kd.R k108 108 w' w.heap.size (fun _ => True) (.slice Ao51 x279000_1.length co51) x279000_1) ∧ (w'.heap[gb277]? = some (.cells #[.slice none 0 0] 65 (0, 0))) ∧ (w'.heap[gb278]? = some (.cells #[.slice Ao51 x279000_1.length co51] 65 (0, 0))) ∧ (IsS159 w0 w' g s0_0 t314 t315) ∧ (KeepBut w w' g none) ∧ (Below w0.heap.size w0 w')) ?_ ?_
     ·rintro v311 w57 ⟨hHeld, h0_, h1_, h2_, h3_, h4_, h5_, h6_⟩
      have HO312 := Aside0.mk h0_
      replace HO_279000 := Aside0.mk h1_
      replace BK277 := Aside0.mk h2_
      replace BK278 := Aside0.mk h3_
      replace HI0 := Aside0.mk h4_
      replace HK := Aside0.mk h5_
      replace HB := Aside0.mk h6_
      clear h0_ h1_ h2_ h3_ h4_ h5_ h6_
      refine norm_ tM ?_
      refine two_ (i := 6) (j := 9) (Ni := some 46) (Nj := some 49) #[Y_,Y_,Y_,Y_,Y_,Y_,Y_,N_,Y_,N_,N_,N_,N_,N_,N_,N_] #[Y_,Y_,Y_,Y_,Y_,Y_,N_,N_,Y_,Y_,N_,N_,N_,N_,N_,N_] rfl rfl rfl rfl (two_of HT_.out (by kernel_rfl)) (by decide) (by decide) (fun K hK => ?_) (fun K hK => ?_)
      ·refine Kd.R_lit_step (Kd.int .i64) _ 3 ?hg (N := 46) ?hd (xs := ([(-1), 0] : List Int)) (inner := [.int .i64 (-1), .int .i64 0]) (ok := fun _ => True) (okp := fun _ => True) ?hr ?hp (fun _ hk => hk) trivial (Below.refl _ _) (Nat.le_refl _) (by simp) ?_; (case hd => rfl); (case hg => rfl); (case hr => exact tG); (case hp => exact (Reps.one (show Kd.M (Kd.int .i64) _ _ _ (-1) [.int .i64 (-1)] from rfl) (Reps.one (show Kd.M (Kd.int .i64) _ _ _ 0 [.int .i64 0] from rfl) (Reps.none _ _))))
       intro v317 w58 ho59 hb hg_ hnew_
       clear hg_ hnew_
       (first | rw [← Ny316.out] at ho59 | (simp only [Int.reduceToNat] at ho59; rw [← Ny316.out] at ho59))
       replace HO_279000 := Aside0.mk (Kd.R_below (tR HO_279000) hb)
       have HO318 := Aside0.mk (Kd.R_lower (Kd.R_new' ho59 (Kd.R_lt (tR HO312))) (keep_size (w := w) (g := g) (row := none) (by repeat (first | (with_reducible first | exact HK.out | apply KeepBut.set_ | apply keep_drewN | apply keep_drew | apply keep_alloc | refine keep_far ?_ GW277.out _ | refine keep_far ?_ GW278.out _) | exact HK.out))))
       replace HO312 := Aside0.mk (Kd.R_elder' (tR HO312) (Kd.R_base ho59) hb)
       replace BK277 := bB BK277 hb
       replace BK278 := bB BK278 hb
       replace HK := Aside0.mk (KeepBut.trans (by repeat (first | (with_reducible first | exact HK.out | apply KeepBut.set_ | apply keep_drewN | apply keep_drew | apply keep_alloc | refine keep_far ?_ GW277.out _ | refine keep_far ?_ GW278.out _) | exact HK.out)) (KeepBut.of_below hb g none) (.inl rfl))
       replace HB := Aside0.mk (below_step (by repeat (first | (with_reducible first | exact HB.out | apply below_alloc | apply pw_below_drewN | apply below_drew1 | refine below_set ?_ (IsS159.ge HI0.out) | refine below_set ?_ GE277.out | refine below_set ?_ GE278.out) | exact HB.out)) hb)
       replace HI0 := Aside0.mk (IsS159.below (by repeat (first | (with_reducible first | exact HI0.out | apply IsS159.alloc | apply IsS159.drewN | apply IsS159.drew | apply IsS159.set_1 | apply IsS159.set_2 | refine IsS159.far ?_ NB0_277.out _ | refine IsS159.far ?_ NB0_278.out _) | exact HI0.out)) hb)
       clear hb ho59
       refine hK.out _ _ ((blk_cell BK278.out 0).trans rfl) (fun hHeld => ?_)
       clear hK K
       refine norm_ (tV : Act.put _ (some 46) _ = _) ?_
       exact norm_ tM (hJ3_4_6 (v311, v317) _ ⟨hHeld, (by (with_reducible repeat (first | apply Kd.R_alloc | apply Kd.R_drewN | apply Kd.R_drew)); exact Kd.R_mono HO312.out (fun _ hk => hk.2)), (by (with_reducible repeat (first | apply Kd.R_alloc | apply Kd.R_drewN | apply Kd.R_drew)); exact Kd.R_mono HO318.out (fun _ hk => hk.2)), tR HO_279000, tK BK277, tK BK278, (by repeat (first | (with_reducible first | exact HI0.out | apply IsS159.alloc | apply IsS159.drewN | apply IsS159.drew | apply IsS159.set_1 | apply IsS159.set_2 | refine IsS159.far ?_ NB0_277.out _ | refine IsS159.far ?_ NB0_278.out _) | exact HI0.out)), (by repeat (first | (with_reducible first | exact HK.out | apply KeepBut.set_ | apply keep_drewN | apply keep_drew | apply keep_alloc | refine keep_far ?_ GW277.out _ | refine keep_far ?_ GW278.out _) | exact HK.out)), (by repeat (first | (with_reducible first | exact HB.out | apply below_alloc | apply pw_below_drewN | apply below_drew1 | refine below_set ?_ (IsS159.ge HI0.out) | refine below_set ?_ GE277.out | refine below_set ?_ GE278.out) | exact HB.out))⟩)
      refine Kd.R_lit_step (Kd.int .i64) _ 3 ?hg (N := 49) ?hd (xs := ([0, 1000000, 1000001] : List Int)) (inner := [.int .i64 0, .int .i64 1000000, .int .i64 1000001]) (ok := fun _ => True) (okp := fun _ => True) ?hr ?hp (fun _ hk => hk) trivial (Below.refl _ _) (Nat.le_refl _) (by simp) ?_; (case hd => rfl); (case hg => rfl); (case hr => exact tG); (case hp => exact (Reps.one (show Kd.M (Kd.int .i64) _ _ _ 0 [.int .i64 0] from rfl) (Reps.one (show Kd.M (Kd.int .i64) _ _ _ 1000000 [.int .i64 1000000] from rfl) (Reps.one (show Kd.M (Kd.int .i64) _ _ _ 1000001 [.int .i64 1000001] from rfl) (Reps.none _ _)))))
      intro v323 w58 ho59 hb hg_ hnew_
      clear hg_ hnew_
      (first | rw [← Ny322.out] at ho59 | (simp only [Int.reduceToNat] at ho59; rw [← Ny322.out] at ho59))
      replace HO_279000 := Aside0.mk (Kd.R_below (tR HO_279000) hb)
      have HO324 := Aside0.mk (Kd.R_lower (Kd.R_new' ho59 (Kd.R_lt (tR HO312))) (keep_size (w := w) (g := g) (row := none) (by repeat (first | (with_reducible first | exact HK.out | apply KeepBut.set_ | apply keep_drewN | apply keep_drew | apply keep_alloc | refine keep_far ?_ GW277.out _ | refine keep_far ?_ GW278.out _) | exact HK.out))))
      replace HO312 := Aside0.mk (Kd.R_elder' (tR HO312) (Kd.R_base ho59) hb)
      replace BK277 := bB BK277 hb
      replace BK278 := bB BK278 hb
      replace HK := Aside0.mk (KeepBut.trans (by repeat (first | (with_reducible first | exact HK.out | apply KeepBut.set_ | apply keep_drewN | apply keep_drew | apply keep_alloc | refine keep_far ?_ GW277.out _ | refine keep_far ?_ GW278.out _) | exact HK.out)) (KeepBut.of_below hb g none) (.inl rfl))
      replace HB := Aside0.mk (below_step (by repeat (first | (with_reducible first | exact HB.out | apply below_alloc | apply pw_below_drewN | apply below_drew1 | refine below_set ?_ (IsS159.ge HI0.out) | refine below_set ?_ GE277.out | refine below_set ?_ GE278.out) | exact HB.out)) hb)
      replace HI0 := Aside0.mk (IsS159.below (by repeat (first | (with_reducible first | exact HI0.out | apply IsS159.alloc | apply IsS159.drewN | apply IsS159.drew | apply IsS159.set_1 | apply IsS159.set_2 | refine IsS159.far ?_ NB0_277.out _ | refine IsS159.far ?_ NB0_278.out _) | exact HI0.out)) hb)
      clear hb ho59
      refine hK.out _ _ ((blk_cell BK278.out 0).trans rfl) (fun hHeld => ?_)
      clear hK K
      refine norm_ (tV : Act.put _ (some 49) _ = _) ?_
      exact norm_ tM (hJ3_4_9 (v311, v323) _ ⟨hHeld, (by (with_reducible repeat (first | apply Kd.R_alloc | apply Kd.R_drewN | apply Kd.R_drew)); exact Kd.R_mono HO312.out (fun _ hk => hk.2)), (by (with_reducible repeat (first | apply Kd.R_alloc | apply Kd.R_drewN | apply Kd.R_drew)); exact Kd.R_mono HO324.out (fun _ hk => hk.2)), tR HO_279000, tK BK277, tK BK278, (by repeat (first | (with_reducible first | exact HI0.out | apply IsS159.alloc | apply IsS159.drewN | apply IsS159.drew | apply IsS159.set_1 | apply IsS159.set_2 | refine IsS159.far ?_ NB0_277.out _ | refine IsS159.far ?_ NB0_278.out _) | exact HI0.out)), (by repeat (first | (with_reducible first | exact HK.out | apply KeepBut.set_ | apply keep_drewN | apply keep_drew | apply keep_alloc | refine keep_far ?_ GW277.out _ | refine keep_far ?_ GW278.out _) | exact HK.out)), (by repeat (first | (with_reducible first | exact HB.out | apply below_alloc | apply pw_below_drewN | apply below_drew1 | refine below_set ?_ (IsS159.ge HI0.out) | refine below_set ?_ GE277.out | refine below_set ?_ GE278.out) | exact HB.out))⟩)
     intro hJ3_4
     refine join_ (σ := Value × Value) 9 #[Y_,Y_,Y_,Y_,N_,Y_,Y_,N_,Y_,N_,N_,N_,N_,N_,N_,N_] (fun s_ => [(43, s_.1), (46, s_.2)]) (fun s_ w' => (w'.cell? ⟨gb278, 0, none⟩ = some (.slice Ao51 x279000_1.length co51)) ∧ (Kd.R (Kd.int .i64) 3 w' w.heap.size (fun k_ => some k_ ≠ (s_.2 : Value).ownBlock) s_.1 y310) ∧ (Kd.R (Kd.int .i64) 3 w' w.heap.size (fun k_ => some k_ ≠ (s_.1 : Value).ownBlock) s_.2 y316) ∧ (Kd.R k108 108 w' w.heap.size (fun _ => True) (.slice Ao51 x279000_1.length co51) x279000_1) ∧ (w'.heap[gb277]? = some (.cells #[.slice none 0 0] 65 (0, 0))) ∧ (w'.heap[gb278]? = some (.cells #[.slice Ao51 x279000_1.length co51] 65 (0, 0))) ∧ (IsS159 w0 w' g s0_0 t308 t309) ∧ (KeepBut w w' g none) ∧ (Below w0.heap.size w0 w')) ?_ ?_
     ·rintro ⟨v311, v317⟩ w57 hS_
      dsimp only at hS_
      obtain ⟨hHeld, h0_, h1_, h2_, h3_, h4_, h5_, h6_, h7_⟩ := hS_
      have HO312 := Aside0.mk h0_
      have HO318 := Aside0.mk h1_
      replace HO_279000 := Aside0.mk h2_
      replace BK277 := Aside0.mk h3_
      replace BK278 := Aside0.mk h4_
      replace HI0 := Aside0.mk h5_
      replace HK := Aside0.mk h6_
      replace HB := Aside0.mk h7_
      clear h0_ h1_ h2_ h3_ h4_ h5_ h6_ h7_
      obtain ⟨Ao58, co58, eo58⟩ := Kd.R_slice HO312.out
      (first | subst eo58 | (injection eo58 with f1_ f2_ f3_; have f4_ := f1_.symm; have f5_ := f3_.symm; clear f1_ f2_ f3_; subst f4_; subst f5_))
      refine norm_ tM ?_
      refine two_ (i := 4) (j := 9) (Ni := some 44) (Nj := some 49) #[Y_,Y_,Y_,Y_,Y_,Y_,Y_,N_,Y_,N_,N_,N_,N_,N_,N_,N_] #[Y_,Y_,Y_,Y_,N_,Y_,Y_,N_,Y_,Y_,N_,N_,N_,N_,N_,N_] rfl rfl rfl rfl (two_of HT_.out (by kernel_rfl)) (by decide) (by decide) (fun K hK => ?_) (fun K hK => ?_)
      ·refine goes_ Try.func112 (by kernel_rfl) rfl #[.pointer (some ⟨g, 0, none⟩), .slice Ao58 y310.length co58] (by rfl) rfl rfl tL ?_
       with_reducible refine (spec_l1Int.calls g s0_0 t308 t309 _ _ y310 t313 t314 t315 w0 _ ?side1 ?side2 ?side3 ?side4 ?side5 A46.out).mono ?_
       (case side1 => repeat (first | (with_reducible first | exact HI0.out | apply IsS159.alloc | apply IsS159.drewN | apply IsS159.drew | apply IsS159.set_1 | apply IsS159.set_2 | refine IsS159.far ?_ NB0_277.out _ | refine IsS159.far ?_ NB0_278.out _) | exact HI0.out))
       (case side2 => repeat (first | (with_reducible first | exact HB.out | apply below_alloc | apply pw_below_drewN | apply below_drew1 | refine below_set ?_ (IsS159.ge HI0.out) | refine below_set ?_ GE277.out | refine below_set ?_ GE278.out) | exact HB.out))
       (case side3 => repeat (first | exact (Kd.R_reads' HO312.out).2.2 | (with_reducible refine Kd.C_alloc ?_ _) | (with_reducible refine Kd.C_drewN ?_ _) | (with_reducible refine Kd.C_drew ?_)))
       (case side4 => exact (Kd.R_reads' HO312.out).2.1)
       (case side5 => exact far_slice (IsS159.own_ne HI0.out HO312.out (by decide)))
       rintro e w59 ⟨rfl, hi, hb, hk⟩
       refine ⟨_, rfl, ?_⟩
       replace HO_279000 := Aside0.mk (Kd.R_mono (Kd.R_keep (IsS159.apart (show IsS159 w0 _ g s0_0 t308 t309 from by repeat (first | (with_reducible first | exact HI0.out | apply IsS159.alloc | apply IsS159.drewN | apply IsS159.drew | apply IsS159.set_1 | apply IsS159.set_2 | refine IsS159.far ?_ NB0_277.out _ | refine IsS159.far ?_ NB0_278.out _) | exact HI0.out)) (tR HO_279000) (by decide)) hk (fun _ h => h.2)) (fun _ h => h.1))
       replace BK277 := Aside0.mk (KeepBut.blk hk (g' := gb277) (o := .cells #[.slice none 0 0] 65 (0, 0)) (tK BK277) NB277_0.out (by simp))
       replace BK278 := Aside0.mk (KeepBut.blk hk (g' := gb278) (o := .cells #[.slice Ao51 x279000_1.length co51] 65 (0, 0)) (tK BK278) NB278_0.out (by simp))
       replace HO312 := Aside0.mk (Kd.R_mono (Kd.R_keep (IsS159.apart (show IsS159 w0 _ g s0_0 t308 t309 from by repeat (first | (with_reducible first | exact HI0.out | apply IsS159.alloc | apply IsS159.drewN | apply IsS159.drew | apply IsS159.set_1 | apply IsS159.set_2 | refine IsS159.far ?_ NB0_277.out _ | refine IsS159.far ?_ NB0_278.out _) | exact HI0.out)) (tR HO312) (by decide)) hk (fun _ h => h.2)) (fun _ h => h.1))
       replace HO318 := Aside0.mk (Kd.R_mono (Kd.R_keep (IsS159.apart (show IsS159 w0 _ g s0_0 t308 t309 from by repeat (first | (with_reducible first | exact HI0.out | apply IsS159.alloc | apply IsS159.drewN | apply IsS159.drew | apply IsS159.set_1 | apply IsS159.set_2 | refine IsS159.far ?_ NB0_277.out _ | refine IsS159.far ?_ NB0_278.out _) | exact HI0.out)) (tR HO318) (by decide)) hk (fun _ h => h.2)) (fun _ h => h.1))
       replace HK := Aside0.mk (KeepBut.trans (by repeat (first | (with_reducible first | exact HK.out | apply KeepBut.set_ | apply keep_drewN | apply keep_drew | apply keep_alloc | refine keep_far ?_ GW277.out _ | refine keep_far ?_ GW278.out _) | exact HK.out)) hk (.inl rfl))
       replace HB := Aside0.mk (hb)
       replace HI0 := Aside0.mk (hi)
       (try clear hb)
       (try clear hb2)
       (try clear hk)
       (try clear hi)
       refine hK.out _ _ ((blk_cell BK278.out 0).trans rfl) (fun hHeld => ?_)
       clear hK K
       refine norm_ (tV : Act.put _ (some 44) _ = _) ?_
       exact norm_ tM (hJ3_4_6 (.slice Ao58 y310.length co58, v317) _ ⟨hHeld, tR HO312, tR HO318, tR HO_279000, tK BK277, tK BK278, (by repeat (first | (with_reducible first | exact HI0.out | apply IsS159.alloc | apply IsS159.drewN | apply IsS159.drew | apply IsS159.set_1 | apply IsS159.set_2 | refine IsS159.far ?_ NB0_277.out _ | refine IsS159.far ?_ NB0_278.out _) | exact HI0.out)), (by repeat (first | (with_reducible first | exact HK.out | apply KeepBut.set_ | apply keep_drewN | apply keep_drew | apply keep_alloc | refine keep_far ?_ GW277.out _ | refine keep_far ?_ GW278.out _) | exact HK.out)), (by repeat (first | (with_reducible first | exact HB.out | apply below_alloc | apply pw_below_drewN | apply below_drew1 | refine below_set ?_ (IsS159.ge HI0.out) | refine below_set ?_ GE277.out | refine below_set ?_ GE278.out) | exact HB.out))⟩)
      refine Kd.R_lit_step (Kd.int .i64) _ 3 ?hg (N := 49) ?hd (xs := ([0, 1000000, 1000001] : List Int)) (inner := [.int .i64 0, .int .i64 1000000, .int .i64 1000001]) (ok := fun _ => True) (okp := fun _ => True) ?hr ?hp (fun _ hk => hk) trivial (Below.refl _ _) (Nat.le_refl _) (by simp) ?_; (case hd => rfl); (case hg => rfl); (case hr => exact tG); (case hp => exact (Reps.one (show Kd.M (Kd.int .i64) _ _ _ 0 [.int .i64 0] from rfl) (Reps.one (show Kd.M (Kd.int .i64) _ _ _ 1000000 [.int .i64 1000000] from rfl) (Reps.one (show Kd.M (Kd.int .i64) _ _ _ 1000001 [.int .i64 1000001] from rfl) (Reps.none _ _)))))
      intro v323 w58 ho59 hb hg_ hnew_
      clear hg_ hnew_
      (first | rw [← Ny322.out] at ho59 | (simp only [Int.reduceToNat] at ho59; rw [← Ny322.out] at ho59))
      replace HO_279000 := Aside0.mk (Kd.R_below (tR HO_279000) hb)
      have HO324 := Aside0.mk (Kd.R_lower (Kd.R_new' (Kd.R_new' ho59 (Kd.R_lt (tR HO312))) (Kd.R_lt (tR HO318))) (keep_size (w := w) (g := g) (row := none) (by repeat (first | (with_reducible first | exact HK.out | apply KeepBut.set_ | apply keep_drewN | apply keep_drew | apply keep_alloc | refine keep_far ?_ GW277.out _ | refine keep_far ?_ GW278.out _) | exact HK.out))))
      replace HO312 := Aside0.mk (Kd.R_elder' (tR HO312) (Kd.R_base ho59) hb)
      replace HO318 := Aside0.mk (Kd.R_elder' (tR HO318) (Kd.R_base ho59) hb)
      replace BK277 := bB BK277 hb
      replace BK278 := bB BK278 hb
      replace HK := Aside0.mk (KeepBut.trans (by repeat (first | (with_reducible first | exact HK.out | apply KeepBut.set_ | apply keep_drewN | apply keep_drew | apply keep_alloc | refine keep_far ?_ GW277.out _ | refine keep_far ?_ GW278.out _) | exact HK.out)) (KeepBut.of_below hb g none) (.inl rfl))
      replace HB := Aside0.mk (below_step (by repeat (first | (with_reducible first | exact HB.out | apply below_alloc | apply pw_below_drewN | apply below_drew1 | refine below_set ?_ (IsS159.ge HI0.out) | refine below_set ?_ GE277.out | refine below_set ?_ GE278.out) | exact HB.out)) hb)
      replace HI0 := Aside0.mk (IsS159.below (by repeat (first | (with_reducible first | exact HI0.out | apply IsS159.alloc | apply IsS159.drewN | apply IsS159.drew | apply IsS159.set_1 | apply IsS159.set_2 | refine IsS159.far ?_ NB0_277.out _ | refine IsS159.far ?_ NB0_278.out _) | exact HI0.out)) hb)
      clear hb ho59
      refine hK.out _ _ ((blk_cell BK278.out 0).trans rfl) (fun hHeld => ?_)
      clear hK K
      refine norm_ (tV : Act.put _ (some 49) _ = _) ?_
      exact norm_ tM (hJ3_6_9 ((.slice Ao58 y310.length co58), v317, v323) _ ⟨hHeld, tR HO312, tR HO318, (by (with_reducible repeat (first | apply Kd.R_alloc | apply Kd.R_drewN | apply Kd.R_drew)); exact Kd.R_mono HO324.out (fun _ hk => ⟨hk.1.2, hk.2⟩)), tR HO_279000, tK BK277, tK BK278, (by repeat (first | (with_reducible first | exact HI0.out | apply IsS159.alloc | apply IsS159.drewN | apply IsS159.drew | apply IsS159.set_1 | apply IsS159.set_2 | refine IsS159.far ?_ NB0_277.out _ | refine IsS159.far ?_ NB0_278.out _) | exact HI0.out)), (by repeat (first | (with_reducible first | exact HK.out | apply KeepBut.set_ | apply keep_drewN | apply keep_drew | apply keep_alloc | refine keep_far ?_ GW277.out _ | refine keep_far ?_ GW278.out _) | exact HK.out)), (by repeat (first | (with_reducible first | exact HB.out | apply below_alloc | apply pw_below_drewN | apply below_drew1 | refine below_set ?_ (IsS159.ge HI0.out) | refine below_set ?_ GE277.out | refine below_set ?_ GE278.out) | exact HB.out))⟩)
     intro hJ3_6
     refine join_ (σ := Value × Value) 9 #[Y_,Y_,Y_,Y_,N_,Y_,N_,N_,Y_,Y_,N_,N_,N_,N_,N_,N_] (fun s_ => [(43, s_.1), (49, s_.2)]) (fun s_ w' => (w'.cell? ⟨gb278, 0, none⟩ = some (.slice Ao51 x279000_1.length co51)) ∧ (Kd.R (Kd.int .i64) 3 w' w.heap.size (fun k_ => some k_ ≠ (s_.2 : Value).ownBlock) s_.1 y310) ∧ (Kd.R (Kd.int .i64) 3 w' w.heap.size (fun k_ => some k_ ≠ (s_.1 : Value).ownBlock) s_.2 y322) ∧ (Kd.R k108 108 w' w.heap.size (fun _ => True) (.slice Ao51 x279000_1.length co51) x279000_1) ∧ (w'.heap[gb277]? = some (.cells #[.slice none 0 0] 65 (0, 0))) ∧ (w'.heap[gb278]? = some (.cells #[.slice Ao51 x279000_1.length co51] 65 (0, 0))) ∧ (IsS159 w0 w' g s0_0 t308 t309) ∧ (KeepBut w w' g none) ∧ (Below w0.heap.size w0 w')) ?_ ?_
     ·rintro ⟨v311, v323⟩ w57 hS_
      dsimp only at hS_
      obtain ⟨hHeld, h0_, h1_, h2_, h3_, h4_, h5_, h6_, h7_⟩ := hS_
      have HO312 := Aside0.mk h0_
      have HO324 := Aside0.mk h1_
      replace HO_279000 := Aside0.mk h2_
      replace BK277 := Aside0.mk h3_
      replace BK278 := Aside0.mk h4_
      replace HI0 := Aside0.mk h5_
      replace HK := Aside0.mk h6_
      replace HB := Aside0.mk h7_
      clear h0_ h1_ h2_ h3_ h4_ h5_ h6_ h7_
      obtain ⟨Ao58, co58, eo58⟩ := Kd.R_slice HO312.out
      (first | subst eo58 | (injection eo58 with f1_ f2_ f3_; have f4_ := f1_.symm; have f5_ := f3_.symm; clear f1_ f2_ f3_; subst f4_; subst f5_))
      refine norm_ tM ?_
      refine two_ (i := 4) (j := 6) (Ni := some 44) (Nj := some 46) #[Y_,Y_,Y_,Y_,Y_,Y_,N_,N_,Y_,Y_,N_,N_,N_,N_,N_,N_] #[Y_,Y_,Y_,Y_,N_,Y_,Y_,N_,Y_,Y_,N_,N_,N_,N_,N_,N_] rfl rfl rfl rfl (two_of HT_.out (by kernel_rfl)) (by decide) (by decide) (fun K hK => ?_) (fun K hK => ?_)
      ·refine goes_ Try.func112 (by kernel_rfl) rfl #[.pointer (some ⟨g, 0, none⟩), .slice Ao58 y310.length co58] (by rfl) rfl rfl tL ?_
       with_reducible refine (spec_l1Int.calls g s0_0 t308 t309 _ _ y310 t313 t314 t315 w0 _ ?side1 ?side2 ?side3 ?side4 ?side5 A46.out).mono ?_
       (case side1 => repeat (first | (with_reducible first | exact HI0.out | apply IsS159.alloc | apply IsS159.drewN | apply IsS159.drew | apply IsS159.set_1 | apply IsS159.set_2 | refine IsS159.far ?_ NB0_277.out _ | refine IsS159.far ?_ NB0_278.out _) | exact HI0.out))
       (case side2 => repeat (first | (with_reducible first | exact HB.out | apply below_alloc | apply pw_below_drewN | apply below_drew1 | refine below_set ?_ (IsS159.ge HI0.out) | refine below_set ?_ GE277.out | refine below_set ?_ GE278.out) | exact HB.out))
       (case side3 => repeat (first | exact (Kd.R_reads' HO312.out).2.2 | (with_reducible refine Kd.C_alloc ?_ _) | (with_reducible refine Kd.C_drewN ?_ _) | (with_reducible refine Kd.C_drew ?_)))
       (case side4 => exact (Kd.R_reads' HO312.out).2.1)
       (case side5 => exact far_slice (IsS159.own_ne HI0.out HO312.out (by decide)))
       rintro e w59 ⟨rfl, hi, hb, hk⟩
       refine ⟨_, rfl, ?_⟩
       replace HO_279000 := Aside0.mk (Kd.R_mono (Kd.R_keep (IsS159.apart (show IsS159 w0 _ g s0_0 t308 t309 from by repeat (first | (with_reducible first | exact HI0.out | apply IsS159.alloc | apply IsS159.drewN | apply IsS159.drew | apply IsS159.set_1 | apply IsS159.set_2 | refine IsS159.far ?_ NB0_277.out _ | refine IsS159.far ?_ NB0_278.out _) | exact HI0.out)) (tR HO_279000) (by decide)) hk (fun _ h => h.2)) (fun _ h => h.1))
       replace BK277 := Aside0.mk (KeepBut.blk hk (g' := gb277) (o := .cells #[.slice none 0 0] 65 (0, 0)) (tK BK277) NB277_0.out (by simp))
       replace BK278 := Aside0.mk (KeepBut.blk hk (g' := gb278) (o := .cells #[.slice Ao51 x279000_1.length co51] 65 (0, 0)) (tK BK278) NB278_0.out (by simp))
       replace HO312 := Aside0.mk (Kd.R_mono (Kd.R_keep (IsS159.apart (show IsS159 w0 _ g s0_0 t308 t309 from by repeat (first | (with_reducible first | exact HI0.out | apply IsS159.alloc | apply IsS159.drewN | apply IsS159.drew | apply IsS159.set_1 | apply IsS159.set_2 | refine IsS159.far ?_ NB0_277.out _ | refine IsS159.far ?_ NB0_278.out _) | exact HI0.out)) (tR HO312) (by decide)) hk (fun _ h => h.2)) (fun _ h => h.1))
       replace HO324 := Aside0.mk (Kd.R_mono (Kd.R_keep (IsS159.apart (show IsS159 w0 _ g s0_0 t308 t309 from by repeat (first | (with_reducible first | exact HI0.out | apply IsS159.alloc | apply IsS159.drewN | apply IsS159.drew | apply IsS159.set_1 | apply IsS159.set_2 | refine IsS159.far ?_ NB0_277.out _ | refine IsS159.far ?_ NB0_278.out _) | exact HI0.out)) (tR HO324) (by decide)) hk (fun _ h => h.2)) (fun _ h => h.1))
       replace HK := Aside0.mk (KeepBut.trans (by repeat (first | (with_reducible first | exact HK.out | apply KeepBut.set_ | apply keep_drewN | apply keep_drew | apply keep_alloc | refine keep_far ?_ GW277.out _ | refine keep_far ?_ GW278.out _) | exact HK.out)) hk (.inl rfl))
       replace HB := Aside0.mk (hb)
       replace HI0 := Aside0.mk (hi)
       (try clear hb)
       (try clear hb2)
       (try clear hk)
       (try clear hi)
       refine hK.out _ _ ((blk_cell BK278.out 0).trans rfl) (fun hHeld => ?_)
       clear hK K
       refine norm_ (tV : Act.put _ (some 44) _ = _) ?_
       exact norm_ tM (hJ3_4_9 (.slice Ao58 y310.length co58, v323) _ ⟨hHeld, tR HO312, tR HO324, tR HO_279000, tK BK277, tK BK278, (by repeat (first | (with_reducible first | exact HI0.out | apply IsS159.alloc | apply IsS159.drewN | apply IsS159.drew | apply IsS159.set_1 | apply IsS159.set_2 | refine IsS159.far ?_ NB0_277.out _ | refine IsS159.far ?_ NB0_278.out _) | exact HI0.out)), (by repeat (first | (with_reducible first | exact HK.out | apply KeepBut.set_ | apply keep_drewN | apply keep_drew | apply keep_alloc | refine keep_far ?_ GW277.out _ | refine keep_far ?_ GW278.out _) | exact HK.out)), (by repeat (first | (with_reducible first | exact HB.out | apply below_alloc | apply pw_below_drewN | apply below_drew1 | refine below_set ?_ (IsS159.ge HI0.out) | refine below_set ?_ GE277.out | refine below_set ?_ GE278.out) | exact HB.out))⟩)
      refine Kd.R_lit_step (Kd.int .i64) _ 3 ?hg (N := 46) ?hd (xs := ([(-1), 0] : List Int)) (inner := [.int .i64 (-1), .int .i64 0]) (ok := fun _ => True) (okp := fun _ => True) ?hr ?hp (fun _ hk => hk) trivial (Below.refl _ _) (Nat.le_refl _) (by simp) ?_; (case hd => rfl); (case hg => rfl); (case hr => exact tG); (case hp => exact (Reps.one (show Kd.M (Kd.int .i64) _ _ _ (-1) [.int .i64 (-1)] from rfl) (Reps.one (show Kd.M (Kd.int .i64) _ _ _ 0 [.int .i64 0] from rfl) (Reps.none _ _))))
      intro v317 w58 ho59 hb hg_ hnew_
      clear hg_ hnew_
      (first | rw [← Ny316.out] at ho59 | (simp only [Int.reduceToNat] at ho59; rw [← Ny316.out] at ho59))
      replace HO_279000 := Aside0.mk (Kd.R_below (tR HO_279000) hb)
      have HO318 := Aside0.mk (Kd.R_lower (Kd.R_new' (Kd.R_new' ho59 (Kd.R_lt (tR HO312))) (Kd.R_lt (tR HO324))) (keep_size (w := w) (g := g) (row := none) (by repeat (first | (with_reducible first | exact HK.out | apply KeepBut.set_ | apply keep_drewN | apply keep_drew | apply keep_alloc | refine keep_far ?_ GW277.out _ | refine keep_far ?_ GW278.out _) | exact HK.out))))
      replace HO312 := Aside0.mk (Kd.R_elder' (tR HO312) (Kd.R_base ho59) hb)
      replace HO324 := Aside0.mk (Kd.R_elder' (tR HO324) (Kd.R_base ho59) hb)
      replace BK277 := bB BK277 hb
      replace BK278 := bB BK278 hb
      replace HK := Aside0.mk (KeepBut.trans (by repeat (first | (with_reducible first | exact HK.out | apply KeepBut.set_ | apply keep_drewN | apply keep_drew | apply keep_alloc | refine keep_far ?_ GW277.out _ | refine keep_far ?_ GW278.out _) | exact HK.out)) (KeepBut.of_below hb g none) (.inl rfl))
      replace HB := Aside0.mk (below_step (by repeat (first | (with_reducible first | exact HB.out | apply below_alloc | apply pw_below_drewN | apply below_drew1 | refine below_set ?_ (IsS159.ge HI0.out) | refine below_set ?_ GE277.out | refine below_set ?_ GE278.out) | exact HB.out)) hb)
      replace HI0 := Aside0.mk (IsS159.below (by repeat (first | (with_reducible first | exact HI0.out | apply IsS159.alloc | apply IsS159.drewN | apply IsS159.drew | apply IsS159.set_1 | apply IsS159.set_2 | refine IsS159.far ?_ NB0_277.out _ | refine IsS159.far ?_ NB0_278.out _) | exact HI0.out)) hb)
      clear hb ho59
      refine hK.out _ _ ((blk_cell BK278.out 0).trans rfl) (fun hHeld => ?_)
      clear hK K
      refine norm_ (tV : Act.put _ (some 46) _ = _) ?_
      exact norm_ tM (hJ3_6_9 ((.slice Ao58 y310.length co58), v317, v323) _ ⟨hHeld, (by (with_reducible repeat (first | apply Kd.R_alloc | apply Kd.R_drewN | apply Kd.R_drew)); exact Kd.R_mono HO312.out (fun _ hk => ⟨hk.2, hk.1⟩)), (by (with_reducible repeat (first | apply Kd.R_alloc | apply Kd.R_drewN | apply Kd.R_drew)); exact Kd.R_mono HO318.out (fun _ hk => ⟨hk.1.2, hk.2⟩)), tR HO324, tR HO_279000, tK BK277, tK BK278, (by repeat (first | (with_reducible first | exact HI0.out | apply IsS159.alloc | apply IsS159.drewN | apply IsS159.drew | apply IsS159.set_1 | apply IsS159.set_2 | refine IsS159.far ?_ NB0_277.out _ | refine IsS159.far ?_ NB0_278.out _) | exact HI0.out)), (by repeat (first | (with_reducible first | exact HK.out | apply KeepBut.set_ | apply keep_drewN | apply keep_drew | apply keep_alloc | refine keep_far ?_ GW277.out _ | refine keep_far ?_ GW278.out _) | exact HK.out)), (by repeat (first | (with_reducible first | exact HB.out | apply below_alloc | apply pw_below_drewN | apply below_drew1 | refine below_set ?_ (IsS159.ge HI0.out) | refine below_set ?_ GE277.out | refine below_set ?_ GE278.out) | exact HB.out))⟩)
     intro hJ3_9
     refine join_ (σ := Value × Value) 9 #[Y_,Y_,Y_,N_,N_,Y_,Y_,N_,Y_,Y_,N_,N_,N_,N_,N_,N_] (fun s_ => [(46, s_.1), (49, s_.2)]) (fun s_ w' => (w'.cell? ⟨gb278, 0, none⟩ = some (.slice Ao51 x279000_1.length co51)) ∧ (Kd.R (Kd.int .i64) 3 w' w.heap.size (fun k_ => some k_ ≠ (s_.2 : Value).ownBlock) s_.1 y316) ∧ (Kd.R (Kd.int .i64) 3 w' w.heap.size (fun k_ => some k_ ≠ (s_.1 : Value).ownBlock) s_.2 y322) ∧ (Kd.R k108 108 w' w.heap.size (fun _ => True) (.slice Ao51 x279000_1.length co51) x279000_1) ∧ (w'.heap[gb277]? = some (.cells #[.slice none 0 0] 65 (0, 0))) ∧ (w'.heap[gb278]? = some (.cells #[.slice Ao51 x279000_1.length co51] 65 (0, 0))) ∧ (IsS159 w0 w' g s0_0 t308 t309) ∧ (KeepBut w w' g none) ∧ (Below w0.heap.size w0 w')) ?_ ?_
     ·rintro ⟨v317, v323⟩ w57 hS_
      dsimp only at hS_
      obtain ⟨hHeld, h0_, h1_, h2_, h3_, h4_, h5_, h6_, h7_⟩ := hS_
      have HO318 := Aside0.mk h0_
      have HO324 := Aside0.mk h1_
      replace HO_279000 := Aside0.mk h2_
      replace BK277 := Aside0.mk h3_
      replace BK278 := Aside0.mk h4_
      replace HI0 := Aside0.mk h5_
      replace HK := Aside0.mk h6_
      replace HB := Aside0.mk h7_
      clear h0_ h1_ h2_ h3_ h4_ h5_ h6_ h7_
      refine norm_ tM ?_
      refine one_ (i := 3) (N := some 43) #[Y_,Y_,Y_,Y_,N_,Y_,Y_,N_,Y_,Y_,N_,N_,N_,N_,N_,N_] rfl rfl (one_of HT_.out (by kernel_rfl)) (by decide) (fun K hK => ?_)
      refine Kd.R_lit_step (Kd.int .i64) _ 3 ?hg (N := 43) ?hd (xs := ([0, 1, 6] : List Int)) (inner := [.int .i64 0, .int .i64 1, .int .i64 6]) (ok := fun _ => True) (okp := fun _ => True) ?hr ?hp (fun _ hk => hk) trivial (Below.refl _ _) (Nat.le_refl _) (by simp) ?_; (case hd => rfl); (case hg => rfl); (case hr => exact tG); (case hp => exact (Reps.one (show Kd.M (Kd.int .i64) _ _ _ 0 [.int .i64 0] from rfl) (Reps.one (show Kd.M (Kd.int .i64) _ _ _ 1 [.int .i64 1] from rfl) (Reps.one (show Kd.M (Kd.int .i64) _ _ _ 6 [.int .i64 6] from rfl) (Reps.none _ _)))))
      intro v311 w58 ho59 hb hg_ hnew_
      clear hg_ hnew_
      (first | rw [← Ny310.out] at ho59 | (simp only [Int.reduceToNat] at ho59; rw [← Ny310.out] at ho59))
      replace HO_279000 := Aside0.mk (Kd.R_below (tR HO_279000) hb)
      have HO312 := Aside0.mk (Kd.R_lower (Kd.R_new' (Kd.R_new' ho59 (Kd.R_lt (tR HO318))) (Kd.R_lt (tR HO324))) (keep_size (w := w) (g := g) (row := none) (by repeat (first | (with_reducible first | exact HK.out | apply KeepBut.set_ | apply keep_drewN | apply keep_drew | apply keep_alloc | refine keep_far ?_ GW277.out _ | refine keep_far ?_ GW278.out _) | exact HK.out))))
      replace HO318 := Aside0.mk (Kd.R_elder' (tR HO318) (Kd.R_base ho59) hb)
      replace HO324 := Aside0.mk (Kd.R_elder' (tR HO324) (Kd.R_base ho59) hb)
      replace BK277 := bB BK277 hb
      replace BK278 := bB BK278 hb
      replace HK := Aside0.mk (KeepBut.trans (by repeat (first | (with_reducible first | exact HK.out | apply KeepBut.set_ | apply keep_drewN | apply keep_drew | apply keep_alloc | refine keep_far ?_ GW277.out _ | refine keep_far ?_ GW278.out _) | exact HK.out)) (KeepBut.of_below hb g none) (.inl rfl))
      replace HB := Aside0.mk (below_step (by repeat (first | (with_reducible first | exact HB.out | apply below_alloc | apply pw_below_drewN | apply below_drew1 | refine below_set ?_ (IsS159.ge HI0.out) | refine below_set ?_ GE277.out | refine below_set ?_ GE278.out) | exact HB.out)) hb)
      replace HI0 := Aside0.mk (IsS159.below (by repeat (first | (with_reducible first | exact HI0.out | apply IsS159.alloc | apply IsS159.drewN | apply IsS159.drew | apply IsS159.set_1 | apply IsS159.set_2 | refine IsS159.far ?_ NB0_277.out _ | refine IsS159.far ?_ NB0_278.out _) | exact HI0.out)) hb)
      clear hb ho59
      refine hK.out _ _ ((blk_cell BK278.out 0).trans rfl) (fun hHeld => ?_)
      clear hK K
      refine norm_ (tV : Act.put _ (some 43) _ = _) ?_
      exact norm_ tM (hJ3_6_9 (v311, v317, v323) _ ⟨hHeld, (by (with_reducible repeat (first | apply Kd.R_alloc | apply Kd.R_drewN | apply Kd.R_drew)); exact Kd.R_mono HO312.out (fun _ hk => ⟨hk.1.2, hk.2⟩)), (by (with_reducible repeat (first | apply Kd.R_alloc | apply Kd.R_drewN | apply Kd.R_drew)); exact Kd.R_mono HO318.out (fun _ hk => ⟨hk.2, hk.1⟩)), (by (with_reducible repeat (first | apply Kd.R_alloc | apply Kd.R_drewN | apply Kd.R_drew)); exact Kd.R_mono HO324.out (fun _ hk => ⟨hk.2, hk.1⟩)), tR HO_279000, tK BK277, tK BK278, (by repeat (first | (with_reducible first | exact HI0.out | apply IsS159.alloc | apply IsS159.drewN | apply IsS159.drew | apply IsS159.set_1 | apply IsS159.set_2 | refine IsS159.far ?_ NB0_277.out _ | refine IsS159.far ?_ NB0_278.out _) | exact HI0.out)), (by repeat (first | (with_reducible first | exact HK.out | apply KeepBut.set_ | apply keep_drewN | apply keep_drew | apply keep_alloc | refine keep_far ?_ GW277.out _ | refine keep_far ?_ GW278.out _) | exact HK.out)), (by repeat (first | (with_reducible first | exact HB.out | apply below_alloc | apply pw_below_drewN | apply below_drew1 | refine below_set ?_ (IsS159.ge HI0.out) | refine below_set ?_ GE277.out | refine below_set ?_ GE278.out) | exact HB.out))⟩)
     intro hJ6_9
     refine join_ (σ := Value) 10 #[Y_,Y_,Y_,Y_,N_,Y_,N_,N_,Y_,N_,N_,N_,N_,N_,N_,N_] (fun s_ => [(43, s_)]) (fun s_ w' => (w'.cell? ⟨gb278, 0, none⟩ = some (.slice Ao51 x279000_1.length co51)) ∧ (Kd.R (Kd.int .i64) 3 w' w.heap.size (fun _ => True) s_ y310) ∧ (Kd.R k108 108 w' w.heap.size (fun _ => True) (.slice Ao51 x279000_1.length co51) x279000_1) ∧ (w'.heap[gb277]? = some (.cells #[.slice none 0 0] 65 (0, 0))) ∧ (w'.heap[gb278]? = some (.cells #[.slice Ao51 x279000_1.length co51] 65 (0, 0))) ∧ (IsS159 w0 w' g s0_0 t308 t309) ∧ (KeepBut w w' g none) ∧ (Below w0.heap.size w0 w')) ?_ ?_
     ·rintro v311 w55 ⟨hHeld, h0_, h1_, h2_, h3_, h4_, h5_, h6_⟩
      have HO312 := Aside0.mk h0_
      replace HO_279000 := Aside0.mk h1_
      replace BK277 := Aside0.mk h2_
      replace BK278 := Aside0.mk h3_
      replace HI0 := Aside0.mk h4_
      replace HK := Aside0.mk h5_
      replace HB := Aside0.mk h6_
      clear h0_ h1_ h2_ h3_ h4_ h5_ h6_
      obtain ⟨Ao56, co56, eo56⟩ := Kd.R_slice HO312.out
      (first | subst eo56 | (injection eo56 with f1_ f2_ f3_; have f4_ := f1_.symm; have f5_ := f3_.symm; clear f1_ f2_ f3_; subst f4_; subst f5_))
      refine norm_ tM ?_
      refine three_ (i := 4) (j := 6) (k := 9) (Ni := some 44) (Nj := some 46) (Nk := some 49) #[Y_,Y_,Y_,Y_,Y_,Y_,N_,N_,Y_,N_,N_,N_,N_,N_,N_,N_] #[Y_,Y_,Y_,Y_,N_,Y_,Y_,N_,Y_,N_,N_,N_,N_,N_,N_,N_] #[Y_,Y_,Y_,Y_,N_,Y_,N_,N_,Y_,Y_,N_,N_,N_,N_,N_,N_] rfl rfl rfl rfl rfl rfl (three_of HT_.out (by kernel_rfl)) (by decide) (by decide) (by decide) (fun K hK => ?_) (fun K hK => ?_) (fun K hK => ?_)
      ·refine goes_ Try.func112 (by kernel_rfl) rfl #[.pointer (some ⟨g, 0, none⟩), .slice Ao56 y310.length co56] (by rfl) rfl rfl tL ?_
       with_reducible refine (spec_l1Int.calls g s0_0 t308 t309 _ _ y310 t313 t314 t315 w0 _ ?side1 ?side2 ?side3 ?side4 ?side5 A46.out).mono ?_
       (case side1 => repeat (first | (with_reducible first | exact HI0.out | apply IsS159.alloc | apply IsS159.drewN | apply IsS159.drew | apply IsS159.set_1 | apply IsS159.set_2 | refine IsS159.far ?_ NB0_277.out _ | refine IsS159.far ?_ NB0_278.out _) | exact HI0.out))
       (case side2 => repeat (first | (with_reducible first | exact HB.out | apply below_alloc | apply pw_below_drewN | apply below_drew1 | refine below_set ?_ (IsS159.ge HI0.out) | refine below_set ?_ GE277.out | refine below_set ?_ GE278.out) | exact HB.out))
       (case side3 => repeat (first | exact (Kd.R_reads' HO312.out).2.2 | (with_reducible refine Kd.C_alloc ?_ _) | (with_reducible refine Kd.C_drewN ?_ _) | (with_reducible refine Kd.C_drew ?_)))
       (case side4 => exact (Kd.R_reads' HO312.out).2.1)
       (case side5 => exact far_slice (IsS159.own_ne HI0.out HO312.out (by decide)))
       rintro e w57 ⟨rfl, hi, hb, hk⟩
       refine ⟨_, rfl, ?_⟩
       replace HO_279000 := Aside0.mk (Kd.R_mono (Kd.R_keep (IsS159.apart (show IsS159 w0 _ g s0_0 t308 t309 from by repeat (first | (with_reducible first | exact HI0.out | apply IsS159.alloc | apply IsS159.drewN | apply IsS159.drew | apply IsS159.set_1 | apply IsS159.set_2 | refine IsS159.far ?_ NB0_277.out _ | refine IsS159.far ?_ NB0_278.out _) | exact HI0.out)) (tR HO_279000) (by decide)) hk (fun _ h => h.2)) (fun _ h => h.1))
       replace BK277 := Aside0.mk (KeepBut.blk hk (g' := gb277) (o := .cells #[.slice none 0 0] 65 (0, 0)) (tK BK277) NB277_0.out (by simp))
       replace BK278 := Aside0.mk (KeepBut.blk hk (g' := gb278) (o := .cells #[.slice Ao51 x279000_1.length co51] 65 (0, 0)) (tK BK278) NB278_0.out (by simp))
       replace HO312 := Aside0.mk (Kd.R_mono (Kd.R_keep (IsS159.apart (show IsS159 w0 _ g s0_0 t308 t309 from by repeat (first | (with_reducible first | exact HI0.out | apply IsS159.alloc | apply IsS159.drewN | apply IsS159.drew | apply IsS159.set_1 | apply IsS159.set_2 | refine IsS159.far ?_ NB0_277.out _ | refine IsS159.far ?_ NB0_278.out _) | exact HI0.out)) (tR HO312) (by decide)) hk (fun _ h => h.2)) (fun _ h => h.1))
       replace HK := Aside0.mk (KeepBut.trans (by repeat (first | (with_reducible first | exact HK.out | apply KeepBut.set_ | apply keep_drewN | apply keep_drew | apply keep_alloc | refine keep_far ?_ GW277.out _ | refine keep_far ?_ GW278.out _) | exact HK.out)) hk (.inl rfl))
       replace HB := Aside0.mk (hb)
       replace HI0 := Aside0.mk (hi)
       (try clear hb)
       (try clear hb2)
       (try clear hk)
       (try clear hi)
       refine hK.out _ _ ((blk_cell BK278.out 0).trans rfl) (fun hHeld => ?_)
       clear hK K
       refine norm_ (tV : Act.put _ (some 44) _ = _) ?_
       exact norm_ tM (hJ3_4 (.slice Ao56 y310.length co56) _ ⟨hHeld, tR HO312, tR HO_279000, tK BK277, tK BK278, (by repeat (first | (with_reducible first | exact HI0.out | apply IsS159.alloc | apply IsS159.drewN | apply IsS159.drew | apply IsS159.set_1 | apply IsS159.set_2 | refine IsS159.far ?_ NB0_277.out _ | refine IsS159.far ?_ NB0_278.out _) | exact HI0.out)), (by repeat (first | (with_reducible first | exact HK.out | apply KeepBut.set_ | apply keep_drewN | apply keep_drew | apply keep_alloc | refine keep_far ?_ GW277.out _ | refine keep_far ?_ GW278.out _) | exact HK.out)), (by repeat (first | (with_reducible first | exact HB.out | apply below_alloc | apply pw_below_drewN | apply below_drew1 | refine below_set ?_ (IsS159.ge HI0.out) | refine below_set ?_ GE277.out | refine below_set ?_ GE278.out) | exact HB.out))⟩)
      ·refine Kd.R_lit_step (Kd.int .i64) _ 3 ?hg (N := 46) ?hd (xs := ([(-1), 0] : List Int)) (inner := [.int .i64 (-1), .int .i64 0]) (ok := fun _ => True) (okp := fun _ => True) ?hr ?hp (fun _ hk => hk) trivial (Below.refl _ _) (Nat.le_refl _) (by simp) ?_; (case hd => rfl); (case hg => rfl); (case hr => exact tG); (case hp => exact (Reps.one (show Kd.M (Kd.int .i64) _ _ _ (-1) [.int .i64 (-1)] from rfl) (Reps.one (show Kd.M (Kd.int .i64) _ _ _ 0 [.int .i64 0] from rfl) (Reps.none _ _))))
       intro v317 w56 ho57 hb hg_ hnew_
       clear hg_ hnew_
       (first | rw [← Ny316.out] at ho57 | (simp only [Int.reduceToNat] at ho57; rw [← Ny316.out] at ho57))
       replace HO_279000 := Aside0.mk (Kd.R_below (tR HO_279000) hb)
       have HO318 := Aside0.mk (Kd.R_lower (Kd.R_new' ho57 (Kd.R_lt (tR HO312))) (keep_size (w := w) (g := g) (row := none) (by repeat (first | (with_reducible first | exact HK.out | apply KeepBut.set_ | apply keep_drewN | apply keep_drew | apply keep_alloc | refine keep_far ?_ GW277.out _ | refine keep_far ?_ GW278.out _) | exact HK.out))))
       replace HO312 := Aside0.mk (Kd.R_elder' (tR HO312) (Kd.R_base ho57) hb)
       replace BK277 := bB BK277 hb
       replace BK278 := bB BK278 hb
       replace HK := Aside0.mk (KeepBut.trans (by repeat (first | (with_reducible first | exact HK.out | apply KeepBut.set_ | apply keep_drewN | apply keep_drew | apply keep_alloc | refine keep_far ?_ GW277.out _ | refine keep_far ?_ GW278.out _) | exact HK.out)) (KeepBut.of_below hb g none) (.inl rfl))
       replace HB := Aside0.mk (below_step (by repeat (first | (with_reducible first | exact HB.out | apply below_alloc | apply pw_below_drewN | apply below_drew1 | refine below_set ?_ (IsS159.ge HI0.out) | refine below_set ?_ GE277.out | refine below_set ?_ GE278.out) | exact HB.out)) hb)
       replace HI0 := Aside0.mk (IsS159.below (by repeat (first | (with_reducible first | exact HI0.out | apply IsS159.alloc | apply IsS159.drewN | apply IsS159.drew | apply IsS159.set_1 | apply IsS159.set_2 | refine IsS159.far ?_ NB0_277.out _ | refine IsS159.far ?_ NB0_278.out _) | exact HI0.out)) hb)
       clear hb ho57
       refine hK.out _ _ ((blk_cell BK278.out 0).trans rfl) (fun hHeld => ?_)
       clear hK K
       refine norm_ (tV : Act.put _ (some 46) _ = _) ?_
       exact norm_ tM (hJ3_6 ((.slice Ao56 y310.length co56), v317) _ ⟨hHeld, (by (with_reducible repeat (first | apply Kd.R_alloc | apply Kd.R_drewN | apply Kd.R_drew)); exact Kd.R_mono HO312.out (fun _ hk => hk.2)), (by (with_reducible repeat (first | apply Kd.R_alloc | apply Kd.R_drewN | apply Kd.R_drew)); exact Kd.R_mono HO318.out (fun _ hk => hk.2)), tR HO_279000, tK BK277, tK BK278, (by repeat (first | (with_reducible first | exact HI0.out | apply IsS159.alloc | apply IsS159.drewN | apply IsS159.drew | apply IsS159.set_1 | apply IsS159.set_2 | refine IsS159.far ?_ NB0_277.out _ | refine IsS159.far ?_ NB0_278.out _) | exact HI0.out)), (by repeat (first | (with_reducible first | exact HK.out | apply KeepBut.set_ | apply keep_drewN | apply keep_drew | apply keep_alloc | refine keep_far ?_ GW277.out _ | refine keep_far ?_ GW278.out _) | exact HK.out)), (by repeat (first | (with_reducible first | exact HB.out | apply below_alloc | apply pw_below_drewN | apply below_drew1 | refine below_set ?_ (IsS159.ge HI0.out) | refine below_set ?_ GE277.out | refine below_set ?_ GE278.out) | exact HB.out))⟩)
      refine Kd.R_lit_step (Kd.int .i64) _ 3 ?hg (N := 49) ?hd (xs := ([0, 1000000, 1000001] : List Int)) (inner := [.int .i64 0, .int .i64 1000000, .int .i64 1000001]) (ok := fun _ => True) (okp := fun _ => True) ?hr ?hp (fun _ hk => hk) trivial (Below.refl _ _) (Nat.le_refl _) (by simp) ?_; (case hd => rfl); (case hg => rfl); (case hr => exact tG); (case hp => exact (Reps.one (show Kd.M (Kd.int .i64) _ _ _ 0 [.int .i64 0] from rfl) (Reps.one (show Kd.M (Kd.int .i64) _ _ _ 1000000 [.int .i64 1000000] from rfl) (Reps.one (show Kd.M (Kd.int .i64) _ _ _ 1000001 [.int .i64 1000001] from rfl) (Reps.none _ _)))))
      intro v323 w56 ho57 hb hg_ hnew_
      clear hg_ hnew_
      (first | rw [← Ny322.out] at ho57 | (simp only [Int.reduceToNat] at ho57; rw [← Ny322.out] at ho57))
      replace HO_279000 := Aside0.mk (Kd.R_below (tR HO_279000) hb)
      have HO324 := Aside0.mk (Kd.R_lower (Kd.R_new' ho57 (Kd.R_lt (tR HO312))) (keep_size (w := w) (g := g) (row := none) (by repeat (first | (with_reducible first | exact HK.out | apply KeepBut.set_ | apply keep_drewN | apply keep_drew | apply keep_alloc | refine keep_far ?_ GW277.out _ | refine keep_far ?_ GW278.out _) | exact HK.out))))
      replace HO312 := Aside0.mk (Kd.R_elder' (tR HO312) (Kd.R_base ho57) hb)
      replace BK277 := bB BK277 hb
      replace BK278 := bB BK278 hb
      replace HK := Aside0.mk (KeepBut.trans (by repeat (first | (with_reducible first | exact HK.out | apply KeepBut.set_ | apply keep_drewN | apply keep_drew | apply keep_alloc | refine keep_far ?_ GW277.out _ | refine keep_far ?_ GW278.out _) | exact HK.out)) (KeepBut.of_below hb g none) (.inl rfl))
      replace HB := Aside0.mk (below_step (by repeat (first | (with_reducible first | exact HB.out | apply below_alloc | apply pw_below_drewN | apply below_drew1 | refine below_set ?_ (IsS159.ge HI0.out) | refine below_set ?_ GE277.out | refine below_set ?_ GE278.out) | exact HB.out)) hb)
      replace HI0 := Aside0.mk (IsS159.below (by repeat (first | (with_reducible first | exact HI0.out | apply IsS159.alloc | apply IsS159.drewN | apply IsS159.drew | apply IsS159.set_1 | apply IsS159.set_2 | refine IsS159.far ?_ NB0_277.out _ | refine IsS159.far ?_ NB0_278.out _) | exact HI0.out)) hb)
      clear hb ho57
      refine hK.out _ _ ((blk_cell BK278.out 0).trans rfl) (fun hHeld => ?_)
      clear hK K
      refine norm_ (tV : Act.put _ (some 49) _ = _) ?_
      exact norm_ tM (hJ3_9 ((.slice Ao56 y310.length co56), v323) _ ⟨hHeld, (by (with_reducible repeat (first | apply Kd.R_alloc | apply Kd.R_drewN | apply Kd.R_drew)); exact Kd.R_mono HO312.out (fun _ hk => hk.2)), (by (with_reducible repeat (first | apply Kd.R_alloc | apply Kd.R_drewN | apply Kd.R_drew)); exact Kd.R_mono HO324.out (fun _ hk => hk.2)), tR HO_279000, tK BK277, tK BK278, (by repeat (first | (with_reducible first | exact HI0.out | apply IsS159.alloc | apply IsS159.drewN | apply IsS159.drew | apply IsS159.set_1 | apply IsS159.set_2 | refine IsS159.far ?_ NB0_277.out _ | refine IsS159.far ?_ NB0_278.out _) | exact HI0.out)), (by repeat (first | (with_reducible first | exact HK.out | apply KeepBut.set_ | apply keep_drewN | apply keep_drew | apply keep_alloc | refine keep_far ?_ GW277.out _ | refine keep_far ?_ GW278.out _) | exact HK.out)), (by repeat (first | (with_reducible first | exact HB.out | apply below_alloc | apply pw_below_drewN | apply below_drew1 | refine below_set ?_ (IsS159.ge HI0.out) | refine below_set ?_ GE277.out | refine below_set ?_ GE278.out) | exact HB.out))⟩)
     intro hJ3
     refine join_ (σ := Value) 10 #[Y_,Y_,Y_,N_,N_,Y_,Y_,N_,Y_,N_,N_,N_,N_,N_,N_,N_] (fun s_ => [(46, s_)]) (fun s_ w' => (w'.cell? ⟨gb278, 0, none⟩ = some (.slice Ao51 x279000_1.length co51)) ∧ (Kd.R (Kd.int .i64) 3 w' w.heap.size (fun _ => True) s_ y316) ∧ (Kd.R k108 108 w' w.heap.size (fun _ => True) (.slice Ao51 x279000_1.length co51) x279000_1) ∧ (w'.heap[gb277]? = some (.cells #[.slice none 0 0] 65 (0, 0))) ∧ (w'.heap[gb278]? = some (.cells #[.slice Ao51 x279000_1.length co51] 65 (0, 0))) ∧ (IsS159 w0 w' g s0_0 t308 t309) ∧ (KeepBut w w' g none) ∧ (Below w0.heap.size w0 w')) ?_ ?_
     ·rintro v317 w55 ⟨hHeld, h0_, h1_, h2_, h3_, h4_, h5_, h6_⟩
      have HO318 := Aside0.mk h0_
      replace HO_279000 := Aside0.mk h1_
      replace BK277 := Aside0.mk h2_
      replace BK278 := Aside0.mk h3_
      replace HI0 := Aside0.mk h4_
      replace HK := Aside0.mk h5_
      replace HB := Aside0.mk h6_
      clear h0_ h1_ h2_ h3_ h4_ h5_ h6_
      refine norm_ tM ?_
      refine two_ (i := 3) (j := 9) (Ni := some 43) (Nj := some 49) #[Y_,Y_,Y_,Y_,N_,Y_,Y_,N_,Y_,N_,N_,N_,N_,N_,N_,N_] #[Y_,Y_,Y_,N_,N_,Y_,Y_,N_,Y_,Y_,N_,N_,N_,N_,N_,N_] rfl rfl rfl rfl (two_of HT_.out (by kernel_rfl)) (by decide) (by decide) (fun K hK => ?_) (fun K hK => ?_)
      ·refine Kd.R_lit_step (Kd.int .i64) _ 3 ?hg (N := 43) ?hd (xs := ([0, 1, 6] : List Int)) (inner := [.int .i64 0, .int .i64 1, .int .i64 6]) (ok := fun _ => True) (okp := fun _ => True) ?hr ?hp (fun _ hk => hk) trivial (Below.refl _ _) (Nat.le_refl _) (by simp) ?_; (case hd => rfl); (case hg => rfl); (case hr => exact tG); (case hp => exact (Reps.one (show Kd.M (Kd.int .i64) _ _ _ 0 [.int .i64 0] from rfl) (Reps.one (show Kd.M (Kd.int .i64) _ _ _ 1 [.int .i64 1] from rfl) (Reps.one (show Kd.M (Kd.int .i64) _ _ _ 6 [.int .i64 6] from rfl) (Reps.none _ _)))))
       intro v311 w56 ho57 hb hg_ hnew_
       clear hg_ hnew_
       (first | rw [← Ny310.out] at ho57 | (simp only [Int.reduceToNat] at ho57; rw [← Ny310.out] at ho57))
       replace HO_279000 := Aside0.mk (Kd.R_below (tR HO_279000) hb)
       have HO312 := Aside0.mk (Kd.R_lower (Kd.R_new' ho57 (Kd.R_lt (tR HO318))) (keep_size (w := w) (g := g) (row := none) (by repeat (first | (with_reducible first | exact HK.out | apply KeepBut.set_ | apply keep_drewN | apply keep_drew | apply keep_alloc | refine keep_far ?_ GW277.out _ | refine keep_far ?_ GW278.out _) | exact HK.out))))
       replace HO318 := Aside0.mk (Kd.R_elder' (tR HO318) (Kd.R_base ho57) hb)
       replace BK277 := bB BK277 hb
       replace BK278 := bB BK278 hb
       replace HK := Aside0.mk (KeepBut.trans (by repeat (first | (with_reducible first | exact HK.out | apply KeepBut.set_ | apply keep_drewN | apply keep_drew | apply keep_alloc | refine keep_far ?_ GW277.out _ | refine keep_far ?_ GW278.out _) | exact HK.out)) (KeepBut.of_below hb g none) (.inl rfl))
       replace HB := Aside0.mk (below_step (by repeat (first | (with_reducible first | exact HB.out | apply below_alloc | apply pw_below_drewN | apply below_drew1 | refine below_set ?_ (IsS159.ge HI0.out) | refine below_set ?_ GE277.out | refine below_set ?_ GE278.out) | exact HB.out)) hb)
       replace HI0 := Aside0.mk (IsS159.below (by repeat (first | (with_reducible first | exact HI0.out | apply IsS159.alloc | apply IsS159.drewN | apply IsS159.drew | apply IsS159.set_1 | apply IsS159.set_2 | refine IsS159.far ?_ NB0_277.out _ | refine IsS159.far ?_ NB0_278.out _) | exact HI0.out)) hb)
       clear hb ho57
       refine hK.out _ _ ((blk_cell BK278.out 0).trans rfl) (fun hHeld => ?_)
       clear hK K
       refine norm_ (tV : Act.put _ (some 43) _ = _) ?_
       exact norm_ tM (hJ3_6 (v311, v317) _ ⟨hHeld, (by (with_reducible repeat (first | apply Kd.R_alloc | apply Kd.R_drewN | apply Kd.R_drew)); exact Kd.R_mono HO312.out (fun _ hk => hk.2)), (by (with_reducible repeat (first | apply Kd.R_alloc | apply Kd.R_drewN | apply Kd.R_drew)); exact Kd.R_mono HO318.out (fun _ hk => hk.2)), tR HO_279000, tK BK277, tK BK278, (by repeat (first | (with_reducible first | exact HI0.out | apply IsS159.alloc | apply IsS159.drewN | apply IsS159.drew | apply IsS159.set_1 | apply IsS159.set_2 | refine IsS159.far ?_ NB0_277.out _ | refine IsS159.far ?_ NB0_278.out _) | exact HI0.out)), (by repeat (first | (with_reducible first | exact HK.out | apply KeepBut.set_ | apply keep_drewN | apply keep_drew | apply keep_alloc | refine keep_far ?_ GW277.out _ | refine keep_far ?_ GW278.out _) | exact HK.out)), (by repeat (first | (with_reducible first | exact HB.out | apply below_alloc | apply pw_below_drewN | apply below_drew1 | refine below_set ?_ (IsS159.ge HI0.out) | refine below_set ?_ GE277.out | refine below_set ?_ GE278.out) | exact HB.out))⟩)
      refine Kd.R_lit_step (Kd.int .i64) _ 3 ?hg (N := 49) ?hd (xs := ([0, 1000000, 1000001] : List Int)) (inner := [.int .i64 0, .int .i64 1000000, .int .i64 1000001]) (ok := fun _ => True) (okp := fun _ => True) ?hr ?hp (fun _ hk => hk) trivial (Below.refl _ _) (Nat.le_refl _) (by simp) ?_; (case hd => rfl); (case hg => rfl); (case hr => exact tG); (case hp => exact (Reps.one (show Kd.M (Kd.int .i64) _ _ _ 0 [.int .i64 0] from rfl) (Reps.one (show Kd.M (Kd.int .i64) _ _ _ 1000000 [.int .i64 1000000] from rfl) (Reps.one (show Kd.M (Kd.int .i64) _ _ _ 1000001 [.int .i64 1000001] from rfl) (Reps.none _ _)))))
      intro v323 w56 ho57 hb hg_ hnew_
      clear hg_ hnew_
      (first | rw [← Ny322.out] at ho57 | (simp only [Int.reduceToNat] at ho57; rw [← Ny322.out] at ho57))
      replace HO_279000 := Aside0.mk (Kd.R_below (tR HO_279000) hb)
      have HO324 := Aside0.mk (Kd.R_lower (Kd.R_new' ho57 (Kd.R_lt (tR HO318))) (keep_size (w := w) (g := g) (row := none) (by repeat (first | (with_reducible first | exact HK.out | apply KeepBut.set_ | apply keep_drewN | apply keep_drew | apply keep_alloc | refine keep_far ?_ GW277.out _ | refine keep_far ?_ GW278.out _) | exact HK.out))))
      replace HO318 := Aside0.mk (Kd.R_elder' (tR HO318) (Kd.R_base ho57) hb)
      replace BK277 := bB BK277 hb
      replace BK278 := bB BK278 hb
      replace HK := Aside0.mk (KeepBut.trans (by repeat (first | (with_reducible first | exact HK.out | apply KeepBut.set_ | apply keep_drewN | apply keep_drew | apply keep_alloc | refine keep_far ?_ GW277.out _ | refine keep_far ?_ GW278.out _) | exact HK.out)) (KeepBut.of_below hb g none) (.inl rfl))
      replace HB := Aside0.mk (below_step (by repeat (first | (with_reducible first | exact HB.out | apply below_alloc | apply pw_below_drewN | apply below_drew1 | refine below_set ?_ (IsS159.ge HI0.out) | refine below_set ?_ GE277.out | refine below_set ?_ GE278.out) | exact HB.out)) hb)
      replace HI0 := Aside0.mk (IsS159.below (by repeat (first | (with_reducible first | exact HI0.out | apply IsS159.alloc | apply IsS159.drewN | apply IsS159.drew | apply IsS159.set_1 | apply IsS159.set_2 | refine IsS159.far ?_ NB0_277.out _ | refine IsS159.far ?_ NB0_278.out _) | exact HI0.out)) hb)
      clear hb ho57
      refine hK.out _ _ ((blk_cell BK278.out 0).trans rfl) (fun hHeld => ?_)
      clear hK K
      refine norm_ (tV : Act.put _ (some 49) _ = _) ?_
      exact norm_ tM (hJ6_9 (v317, v323) _ ⟨hHeld, (by (with_reducible repeat (first | apply Kd.R_alloc | apply Kd.R_drewN | apply Kd.R_drew)); exact Kd.R_mono HO318.out (fun _ hk => hk.2)), (by (with_reducible repeat (first | apply Kd.R_alloc | apply Kd.R_drewN | apply Kd.R_drew)); exact Kd.R_mono HO324.out (fun _ hk => hk.2)), tR HO_279000, tK BK277, tK BK278, (by repeat (first | (with_reducible first | exact HI0.out | apply IsS159.alloc | apply IsS159.drewN | apply IsS159.drew | apply IsS159.set_1 | apply IsS159.set_2 | refine IsS159.far ?_ NB0_277.out _ | refine IsS159.far ?_ NB0_278.out _) | exact HI0.out)), (by repeat (first | (with_reducible first | exact HK.out | apply KeepBut.set_ | apply keep_drewN | apply keep_drew | apply keep_alloc | refine keep_far ?_ GW277.out _ | refine keep_far ?_ GW278.out _) | exact HK.out)), (by repeat (first | (with_reducible first | exact HB.out | apply below_alloc | apply pw_below_drewN | apply below_drew1 | refine below_set ?_ (IsS159.ge HI0.out) | refine below_set ?_ GE277.out | refine below_set ?_ GE278.out) | exact HB.out))⟩)
     intro hJ6
     refine join_ (σ := Value) 10 #[Y_,Y_,Y_,N_,N_,Y_,N_,N_,Y_,Y_,N_,N_,N_,N_,N_,N_] (fun s_ => [(49, s_)]) (fun s_ w' => (w'.cell? ⟨gb278, 0, none⟩ = some (.slice Ao51 x279000_1.length co51)) ∧ (Kd.R (Kd.int .i64) 3 w' w.heap.size (fun _ => True) s_ y322) ∧ (Kd.R k108 108 w' w.heap.size (fun _ => True) (.slice Ao51 x279000_1.length co51) x279000_1) ∧ (w'.heap[gb277]? = some (.cells #[.slice none 0 0] 65 (0, 0))) ∧ (w'.heap[gb278]? = some (.cells #[.slice Ao51 x279000_1.length co51] 65 (0, 0))) ∧ (IsS159 w0 w' g s0_0 t308 t309) ∧ (KeepBut w w' g none) ∧ (Below w0.heap.size w0 w')) ?_ ?_
     ·rintro v323 w55 ⟨hHeld, h0_, h1_, h2_, h3_, h4_, h5_, h6_⟩
      have HO324 := Aside0.mk h0_
      replace HO_279000 := Aside0.mk h1_
      replace BK277 := Aside0.mk h2_
      replace BK278 := Aside0.mk h3_
      replace HI0 := Aside0.mk h4_
      replace HK := Aside0.mk h5_
      replace HB := Aside0.mk h6_
      clear h0_ h1_ h2_ h3_ h4_ h5_ h6_
      refine norm_ tM ?_
      refine two_ (i := 3) (j := 6) (Ni := some 43) (Nj := some 46) #[Y_,Y_,Y_,Y_,N_,Y_,N_,N_,Y_,Y_,N_,N_,N_,N_,N_,N_] #[Y_,Y_,Y_,N_,N_,Y_,Y_,N_,Y_,Y_,N_,N_,N_,N_,N_,N_] rfl rfl rfl rfl (two_of HT_.out (by kernel_rfl)) (by decide) (by decide) (fun K hK => ?_) (fun K hK => ?_)
      ·refine Kd.R_lit_step (Kd.int .i64) _ 3 ?hg (N := 43) ?hd (xs := ([0, 1, 6] : List Int)) (inner := [.int .i64 0, .int .i64 1, .int .i64 6]) (ok := fun _ => True) (okp := fun _ => True) ?hr ?hp (fun _ hk => hk) trivial (Below.refl _ _) (Nat.le_refl _) (by simp) ?_; (case hd => rfl); (case hg => rfl); (case hr => exact tG); (case hp => exact (Reps.one (show Kd.M (Kd.int .i64) _ _ _ 0 [.int .i64 0] from rfl) (Reps.one (show Kd.M (Kd.int .i64) _ _ _ 1 [.int .i64 1] from rfl) (Reps.one (show Kd.M (Kd.int .i64) _ _ _ 6 [.int .i64 6] from rfl) (Reps.none _ _)))))
       intro v311 w56 ho57 hb hg_ hnew_
       clear hg_ hnew_
       (first | rw [← Ny310.out] at ho57 | (simp only [Int.reduceToNat] at ho57; rw [← Ny310.out] at ho57))
       replace HO_279000 := Aside0.mk (Kd.R_below (tR HO_279000) hb)
       have HO312 := Aside0.mk (Kd.R_lower (Kd.R_new' ho57 (Kd.R_lt (tR HO324))) (keep_size (w := w) (g := g) (row := none) (by repeat (first | (with_reducible first | exact HK.out | apply KeepBut.set_ | apply keep_drewN | apply keep_drew | apply keep_alloc | refine keep_far ?_ GW277.out _ | refine keep_far ?_ GW278.out _) | exact HK.out))))
       replace HO324 := Aside0.mk (Kd.R_elder' (tR HO324) (Kd.R_base ho57) hb)
       replace BK277 := bB BK277 hb
       replace BK278 := bB BK278 hb
       replace HK := Aside0.mk (KeepBut.trans (by repeat (first | (with_reducible first | exact HK.out | apply KeepBut.set_ | apply keep_drewN | apply keep_drew | apply keep_alloc | refine keep_far ?_ GW277.out _ | refine keep_far ?_ GW278.out _) | exact HK.out)) (KeepBut.of_below hb g none) (.inl rfl))
       replace HB := Aside0.mk (below_step (by repeat (first | (with_reducible first | exact HB.out | apply below_alloc | apply pw_below_drewN | apply below_drew1 | refine below_set ?_ (IsS159.ge HI0.out) | refine below_set ?_ GE277.out | refine below_set ?_ GE278.out) | exact HB.out)) hb)
       replace HI0 := Aside0.mk (IsS159.below (by repeat (first | (with_reducible first | exact HI0.out | apply IsS159.alloc | apply IsS159.drewN | apply IsS159.drew | apply IsS159.set_1 | apply IsS159.set_2 | refine IsS159.far ?_ NB0_277.out _ | refine IsS159.far ?_ NB0_278.out _) | exact HI0.out)) hb)
       clear hb ho57
       refine hK.out _ _ ((blk_cell BK278.out 0).trans rfl) (fun hHeld => ?_)
       clear hK K
       refine norm_ (tV : Act.put _ (some 43) _ = _) ?_
       exact norm_ tM (hJ3_9 (v311, v323) _ ⟨hHeld, (by (with_reducible repeat (first | apply Kd.R_alloc | apply Kd.R_drewN | apply Kd.R_drew)); exact Kd.R_mono HO312.out (fun _ hk => hk.2)), (by (with_reducible repeat (first | apply Kd.R_alloc | apply Kd.R_drewN | apply Kd.R_drew)); exact Kd.R_mono HO324.out (fun _ hk => hk.2)), tR HO_279000, tK BK277, tK BK278, (by repeat (first | (with_reducible first | exact HI0.out | apply IsS159.alloc | apply IsS159.drewN | apply IsS159.drew | apply IsS159.set_1 | apply IsS159.set_2 | refine IsS159.far ?_ NB0_277.out _ | refine IsS159.far ?_ NB0_278.out _) | exact HI0.out)), (by repeat (first | (with_reducible first | exact HK.out | apply KeepBut.set_ | apply keep_drewN | apply keep_drew | apply keep_alloc | refine keep_far ?_ GW277.out _ | refine keep_far ?_ GW278.out _) | exact HK.out)), (by repeat (first | (with_reducible first | exact HB.out | apply below_alloc | apply pw_below_drewN | apply below_drew1 | refine below_set ?_ (IsS159.ge HI0.out) | refine below_set ?_ GE277.out | refine below_set ?_ GE278.out) | exact HB.out))⟩)
      refine Kd.R_lit_step (Kd.int .i64) _ 3 ?hg (N := 46) ?hd (xs := ([(-1), 0] : List Int)) (inner := [.int .i64 (-1), .int .i64 0]) (ok := fun _ => True) (okp := fun _ => True) ?hr ?hp (fun _ hk => hk) trivial (Below.refl _ _) (Nat.le_refl _) (by simp) ?_; (case hd => rfl); (case hg => rfl); (case hr => exact tG); (case hp => exact (Reps.one (show Kd.M (Kd.int .i64) _ _ _ (-1) [.int .i64 (-1)] from rfl) (Reps.one (show Kd.M (Kd.int .i64) _ _ _ 0 [.int .i64 0] from rfl) (Reps.none _ _))))
      intro v317 w56 ho57 hb hg_ hnew_
      clear hg_ hnew_
      (first | rw [← Ny316.out] at ho57 | (simp only [Int.reduceToNat] at ho57; rw [← Ny316.out] at ho57))
      replace HO_279000 := Aside0.mk (Kd.R_below (tR HO_279000) hb)
      have HO318 := Aside0.mk (Kd.R_lower (Kd.R_new' ho57 (Kd.R_lt (tR HO324))) (keep_size (w := w) (g := g) (row := none) (by repeat (first | (with_reducible first | exact HK.out | apply KeepBut.set_ | apply keep_drewN | apply keep_drew | apply keep_alloc | refine keep_far ?_ GW277.out _ | refine keep_far ?_ GW278.out _) | exact HK.out))))
      replace HO324 := Aside0.mk (Kd.R_elder' (tR HO324) (Kd.R_base ho57) hb)
      replace BK277 := bB BK277 hb
      replace BK278 := bB BK278 hb
      replace HK := Aside0.mk (KeepBut.trans (by repeat (first | (with_reducible first | exact HK.out | apply KeepBut.set_ | apply keep_drewN | apply keep_drew | apply keep_alloc | refine keep_far ?_ GW277.out _ | refine keep_far ?_ GW278.out _) | exact HK.out)) (KeepBut.of_below hb g none) (.inl rfl))
      replace HB := Aside0.mk (below_step (by repeat (first | (with_reducible first | exact HB.out | apply below_alloc | apply pw_below_drewN | apply below_drew1 | refine below_set ?_ (IsS159.ge HI0.out) | refine below_set ?_ GE277.out | refine below_set ?_ GE278.out) | exact HB.out)) hb)
      replace HI0 := Aside0.mk (IsS159.below (by repeat (first | (with_reducible first | exact HI0.out | apply IsS159.alloc | apply IsS159.drewN | apply IsS159.drew | apply IsS159.set_1 | apply IsS159.set_2 | refine IsS159.far ?_ NB0_277.out _ | refine IsS159.far ?_ NB0_278.out _) | exact HI0.out)) hb)
      clear hb ho57
      refine hK.out _ _ ((blk_cell BK278.out 0).trans rfl) (fun hHeld => ?_)
      clear hK K
      refine norm_ (tV : Act.put _ (some 46) _ = _) ?_
      exact norm_ tM (hJ6_9 (v317, v323) _ ⟨hHeld, (by (with_reducible repeat (first | apply Kd.R_alloc | apply Kd.R_drewN | apply Kd.R_drew)); exact Kd.R_mono HO318.out (fun _ hk => hk.2)), (by (with_reducible repeat (first | apply Kd.R_alloc | apply Kd.R_drewN | apply Kd.R_drew)); exact Kd.R_mono HO324.out (fun _ hk => hk.2)), tR HO_279000, tK BK277, tK BK278, (by repeat (first | (with_reducible first | exact HI0.out | apply IsS159.alloc | apply IsS159.drewN | apply IsS159.drew | apply IsS159.set_1 | apply IsS159.set_2 | refine IsS159.far ?_ NB0_277.out _ | refine IsS159.far ?_ NB0_278.out _) | exact HI0.out)), (by repeat (first | (with_reducible first | exact HK.out | apply KeepBut.set_ | apply keep_drewN | apply keep_drew | apply keep_alloc | refine keep_far ?_ GW277.out _ | refine keep_far ?_ GW278.out _) | exact HK.out)), (by repeat (first | (with_reducible first | exact HB.out | apply below_alloc | apply pw_below_drewN | apply below_drew1 | refine below_set ?_ (IsS159.ge HI0.out) | refine below_set ?_ GE277.out | refine below_set ?_ GE278.out) | exact HB.out))⟩)
     intro hJ9
     refine three_ (i := 3) (j := 6) (k := 9) (Ni := some 43) (Nj := some 46) (Nk := some 49) #[Y_,Y_,Y_,Y_,N_,Y_,N_,N_,Y_,N_,N_,N_,N_,N_,N_,N_] #[Y_,Y_,Y_,N_,N_,Y_,Y_,N_,Y_,N_,N_,N_,N_,N_,N_,N_] #[Y_,Y_,Y_,N_,N_,Y_,N_,N_,Y_,Y_,N_,N_,N_,N_,N_,N_] rfl rfl rfl rfl rfl rfl (three_of HT_.out (by kernel_rfl)) (by decide) (by decide) (by decide) (fun K hK => ?_) (fun K hK => ?_) (fun K hK => ?_)
     ·refine Kd.R_lit_step (Kd.int .i64) _ 3 ?hg (N := 43) ?hd (xs := ([0, 1, 6] : List Int)) (inner := [.int .i64 0, .int .i64 1, .int .i64 6]) (ok := fun _ => True) (okp := fun _ => True) ?hr ?hp (fun _ hk => hk) trivial (Below.refl _ _) (Nat.le_refl _) (by simp) ?_; (case hd => rfl); (case hg => rfl); (case hr => exact tG); (case hp => exact (Reps.one (show Kd.M (Kd.int .i64) _ _ _ 0 [.int .i64 0] from rfl) (Reps.one (show Kd.M (Kd.int .i64) _ _ _ 1 [.int .i64 1] from rfl) (Reps.one (show Kd.M (Kd.int .i64) _ _ _ 6 [.int .i64 6] from rfl) (Reps.none _ _)))))
      intro v311 w53 ho54 hb hg_ hnew_
      clear hg_ hnew_
      (first | rw [← Ny310.out] at ho54 | (simp only [Int.reduceToNat] at ho54; rw [← Ny310.out] at ho54))
      replace HO_279000 := Aside0.mk (Kd.R_below (tR HO_279000) hb)
      have HO312 := Aside0.mk (Kd.R_lower ho54 (keep_size (w := w) (g := g) (row := none) (by repeat (first | (with_reducible first | exact HK.out | apply KeepBut.set_ | apply keep_drewN | apply keep_drew | apply keep_alloc | refine keep_far ?_ GW277.out _ | refine keep_far ?_ GW278.out _) | exact HK.out))))
      replace BK277 := bB BK277 hb
      replace BK278 := bB BK278 hb
      replace HK := Aside0.mk (KeepBut.trans (by repeat (first | (with_reducible first | exact HK.out | apply KeepBut.set_ | apply keep_drewN | apply keep_drew | apply keep_alloc | refine keep_far ?_ GW277.out _ | refine keep_far ?_ GW278.out _) | exact HK.out)) (KeepBut.of_below hb g none) (.inl rfl))
      replace HB := Aside0.mk (below_step (by repeat (first | (with_reducible first | exact HB.out | apply below_alloc | apply pw_below_drewN | apply below_drew1 | refine below_set ?_ (IsS159.ge HI0.out) | refine below_set ?_ GE277.out | refine below_set ?_ GE278.out) | exact HB.out)) hb)
      replace HI0 := Aside0.mk (IsS159.below (by repeat (first | (with_reducible first | exact HI0.out | apply IsS159.alloc | apply IsS159.drewN | apply IsS159.drew | apply IsS159.set_1 | apply IsS159.set_2 | refine IsS159.far ?_ NB0_277.out _ | refine IsS159.far ?_ NB0_278.out _) | exact HI0.out)) hb)
      clear hb ho54
      refine hK.out _ _ ((blk_cell BK278.out 0).trans rfl) (fun hHeld => ?_)
      clear hK K
      refine norm_ (tV : Act.put _ (some 43) _ = _) ?_
      exact norm_ tM (hJ3 (v311) _ ⟨hHeld, tR HO312, tR HO_279000, tK BK277, tK BK278, (by repeat (first | (with_reducible first | exact HI0.out | apply IsS159.alloc | apply IsS159.drewN | apply IsS159.drew | apply IsS159.set_1 | apply IsS159.set_2 | refine IsS159.far ?_ NB0_277.out _ | refine IsS159.far ?_ NB0_278.out _) | exact HI0.out)), (by repeat (first | (with_reducible first | exact HK.out | apply KeepBut.set_ | apply keep_drewN | apply keep_drew | apply keep_alloc | refine keep_far ?_ GW277.out _ | refine keep_far ?_ GW278.out _) | exact HK.out)), (by repeat (first | (with_reducible first | exact HB.out | apply below_alloc | apply pw_below_drewN | apply below_drew1 | refine below_set ?_ (IsS159.ge HI0.out) | refine below_set ?_ GE277.out | refine below_set ?_ GE278.out) | exact HB.out))⟩)
     ·refine Kd.R_lit_step (Kd.int .i64) _ 3 ?hg (N := 46) ?hd (xs := ([(-1), 0] : List Int)) (inner := [.int .i64 (-1), .int .i64 0]) (ok := fun _ => True) (okp := fun _ => True) ?hr ?hp (fun _ hk => hk) trivial (Below.refl _ _) (Nat.le_refl _) (by simp) ?_; (case hd => rfl); (case hg => rfl); (case hr => exact tG); (case hp => exact (Reps.one (show Kd.M (Kd.int .i64) _ _ _ (-1) [.int .i64 (-1)] from rfl) (Reps.one (show Kd.M (Kd.int .i64) _ _ _ 0 [.int .i64 0] from rfl) (Reps.none _ _))))
      intro v317 w53 ho54 hb hg_ hnew_
      clear hg_ hnew_
      (first | rw [← Ny316.out] at ho54 | (simp only [Int.reduceToNat] at ho54; rw [← Ny316.out] at ho54))
      replace HO_279000 := Aside0.mk (Kd.R_below (tR HO_279000) hb)
      have HO318 := Aside0.mk (Kd.R_lower ho54 (keep_size (w := w) (g := g) (row := none) (by repeat (first | (with_reducible first | exact HK.out | apply KeepBut.set_ | apply keep_drewN | apply keep_drew | apply keep_alloc | refine keep_far ?_ GW277.out _ | refine keep_far ?_ GW278.out _) | exact HK.out))))
      replace BK277 := bB BK277 hb
      replace BK278 := bB BK278 hb
      replace HK := Aside0.mk (KeepBut.trans (by repeat (first | (with_reducible first | exact HK.out | apply KeepBut.set_ | apply keep_drewN | apply keep_drew | apply keep_alloc | refine keep_far ?_ GW277.out _ | refine keep_far ?_ GW278.out _) | exact HK.out)) (KeepBut.of_below hb g none) (.inl rfl))
      replace HB := Aside0.mk (below_step (by repeat (first | (with_reducible first | exact HB.out | apply below_alloc | apply pw_below_drewN | apply below_drew1 | refine below_set ?_ (IsS159.ge HI0.out) | refine below_set ?_ GE277.out | refine below_set ?_ GE278.out) | exact HB.out)) hb)
      replace HI0 := Aside0.mk (IsS159.below (by repeat (first | (with_reducible first | exact HI0.out | apply IsS159.alloc | apply IsS159.drewN | apply IsS159.drew | apply IsS159.set_1 | apply IsS159.set_2 | refine IsS159.far ?_ NB0_277.out _ | refine IsS159.far ?_ NB0_278.out _) | exact HI0.out)) hb)
      clear hb ho54
      refine hK.out _ _ ((blk_cell BK278.out 0).trans rfl) (fun hHeld => ?_)
      clear hK K
      refine norm_ (tV : Act.put _ (some 46) _ = _) ?_
      exact norm_ tM (hJ6 (v317) _ ⟨hHeld, tR HO318, tR HO_279000, tK BK277, tK BK278, (by repeat (first | (with_reducible first | exact HI0.out | apply IsS159.alloc | apply IsS159.drewN | apply IsS159.drew | apply IsS159.set_1 | apply IsS159.set_2 | refine IsS159.far ?_ NB0_277.out _ | refine IsS159.far ?_ NB0_278.out _) | exact HI0.out)), (by repeat (first | (with_reducible first | exact HK.out | apply KeepBut.set_ | apply keep_drewN | apply keep_drew | apply keep_alloc | refine keep_far ?_ GW277.out _ | refine keep_far ?_ GW278.out _) | exact HK.out)), (by repeat (first | (with_reducible first | exact HB.out | apply below_alloc | apply pw_below_drewN | apply below_drew1 | refine below_set ?_ (IsS159.ge HI0.out) | refine below_set ?_ GE277.out | refine below_set ?_ GE278.out) | exact HB.out))⟩)
     refine Kd.R_lit_step (Kd.int .i64) _ 3 ?hg (N := 49) ?hd (xs := ([0, 1000000, 1000001] : List Int)) (inner := [.int .i64 0, .int .i64 1000000, .int .i64 1000001]) (ok := fun _ => True) (okp := fun _ => True) ?hr ?hp (fun _ hk => hk) trivial (Below.refl _ _) (Nat.le_refl _) (by simp) ?_; (case hd => rfl); (case hg => rfl); (case hr => exact tG); (case hp => exact (Reps.one (show Kd.M (Kd.int .i64) _ _ _ 0 [.int .i64 0] from rfl) (Reps.one (show Kd.M (Kd.int .i64) _ _ _ 1000000 [.int .i64 1000000] from rfl) (Reps.one (show Kd.M (Kd.int .i64) _ _ _ 1000001 [.int .i64 1000001] from rfl) (Reps.none _ _)))))
     intro v323 w53 ho54 hb hg_ hnew_
     clear hg_ hnew_
     (first | rw [← Ny322.out] at ho54 | (simp only [Int.reduceToNat] at ho54; rw [← Ny322.out] at ho54))
     replace HO_279000 := Aside0.mk (Kd.R_below (tR HO_279000) hb)
     have HO324 := Aside0.mk (Kd.R_lower ho54 (keep_size (w := w) (g := g) (row := none) (by repeat (first | (with_reducible first | exact HK.out | apply KeepBut.set_ | apply keep_drewN | apply keep_drew | apply keep_alloc | refine keep_far ?_ GW277.out _ | refine keep_far ?_ GW278.out _) | exact HK.out))))
     replace BK277 := bB BK277 hb
     replace BK278 := bB BK278 hb
     replace HK := Aside0.mk (KeepBut.trans (by repeat (first | (with_reducible first | exact HK.out | apply KeepBut.set_ | apply keep_drewN | apply keep_drew | apply keep_alloc | refine keep_far ?_ GW277.out _ | refine keep_far ?_ GW278.out _) | exact HK.out)) (KeepBut.of_below hb g none) (.inl rfl))
     replace HB := Aside0.mk (below_step (by repeat (first | (with_reducible first | exact HB.out | apply below_alloc | apply pw_below_drewN | apply below_drew1 | refine below_set ?_ (IsS159.ge HI0.out) | refine below_set ?_ GE277.out | refine below_set ?_ GE278.out) | exact HB.out)) hb)
     replace HI0 := Aside0.mk (IsS159.below (by repeat (first | (with_reducible first | exact HI0.out | apply IsS159.alloc | apply IsS159.drewN | apply IsS159.drew | apply IsS159.set_1 | apply IsS159.set_2 | refine IsS159.far ?_ NB0_277.out _ | refine IsS159.far ?_ NB0_278.out _) | exact HI0.out)) hb)
     clear hb ho54
     refine hK.out _ _ ((blk_cell BK278.out 0).trans rfl) (fun hHeld => ?_)
     clear hK K
     refine norm_ (tV : Act.put _ (some 49) _ = _) ?_
     exact norm_ tM (hJ9 (v323) _ ⟨hHeld, tR HO324, tR HO_279000, tK BK277, tK BK278, (by repeat (first | (with_reducible first | exact HI0.out | apply IsS159.alloc | apply IsS159.drewN | apply IsS159.drew | apply IsS159.set_1 | apply IsS159.set_2 | refine IsS159.far ?_ NB0_277.out _ | refine IsS159.far ?_ NB0_278.out _) | exact HI0.out)), (by repeat (first | (with_reducible first | exact HK.out | apply KeepBut.set_ | apply keep_drewN | apply keep_drew | apply keep_alloc | refine keep_far ?_ GW277.out _ | refine keep_far ?_ GW278.out _) | exact HK.out)), (by repeat (first | (with_reducible first | exact HB.out | apply below_alloc | apply pw_below_drewN | apply below_drew1 | refine below_set ?_ (IsS159.ge HI0.out) | refine below_set ?_ GE277.out | refine below_set ?_ GE278.out) | exact HB.out))⟩)
    rw [if_neg c49] at H
    exact absurd H (by simp)
   rw [if_neg c45] at H
   have c45b0 : (t307 == 0) = false := beq_eq_false_iff_ne.mpr c45
   have c45b1 : (t307 != 0) = true := bne_iff_ne.mpr c45
   simp only [Option.some.injEq, Prod.mk.injEq] at H
   obtain ⟨rfl, rfl, rfl⟩ := H
   go_wp2_with (first | ((with_reducible refine gate_callee (f := 111) rfl ?_); refine goesL_ (some 37) rfl rfl Try.func111 (by kernel_rfl) rfl #[.pointer (some ⟨g, 0, none⟩), .int .i64 10] rfl tL ?_; (with_reducible refine (spec_l1Below.calls g s0_0 x1001_1 x1002_1 10 t307 t308 t309 w0 _ ?side1 ?side2 A44.out).mono ?_); (case side1 => repeat (first | (with_reducible first | exact HI0.out | apply IsS159.alloc | apply IsS159.drewN | apply IsS159.drew | apply IsS159.set_1 | apply IsS159.set_2 | refine IsS159.far ?_ NB0_277.out _ | refine IsS159.far ?_ NB0_278.out _) | exact HI0.out)); (case side2 => repeat (first | (with_reducible first | exact HB.out | apply below_alloc | apply pw_below_drewN | apply below_drew1 | refine below_set ?_ (IsS159.ge HI0.out) | refine below_set ?_ GE277.out | refine below_set ?_ GE278.out) | exact HB.out)); rintro e w74 ⟨rfl, hi, hb, hk⟩; refine ⟨_, rfl, ?_⟩; replace HO_279000 := Aside0.mk (Kd.R_mono (Kd.R_keep (IsS159.apart (show IsS159 w0 _ g s0_0 x1001_1 x1002_1 from by repeat (first | (with_reducible first | exact HI0.out | apply IsS159.alloc | apply IsS159.drewN | apply IsS159.drew | apply IsS159.set_1 | apply IsS159.set_2 | refine IsS159.far ?_ NB0_277.out _ | refine IsS159.far ?_ NB0_278.out _) | exact HI0.out)) (tR HO_279000) (by decide)) hk (fun _ h => h.2)) (fun _ h => h.1)); replace BK277 := Aside0.mk (KeepBut.blk hk (g' := gb277) (o := .cells #[.slice none 0 0] 65 (0, 0)) (tK BK277) NB277_0.out (by simp)); replace BK278 := Aside0.mk (KeepBut.blk hk (g' := gb278) (o := .cells #[u279000] 65 (0, 0)) (tK BK278) NB278_0.out (by simp)); replace HK := Aside0.mk (KeepBut.trans (by repeat (first | (with_reducible first | exact HK.out | apply KeepBut.set_ | apply keep_drewN | apply keep_drew | apply keep_alloc | refine keep_far ?_ GW277.out _ | refine keep_far ?_ GW278.out _) | exact HK.out)) hk (.inl rfl)); replace HB := Aside0.mk (hb); replace HI0 := Aside0.mk (hi); (try clear hb); (try clear hb2); (try clear hk); (try clear hi); have hnb75 := NB278_277.out; have hnc75 := NB277_278.out; have hnb76 := NB278_0.out; have hnc76 := NB0_278.out; obtain ⟨hcz77_0, hfz77_0⟩ := bc1 BK278.out; obtain ⟨Ao78, co78, eo78⟩ := Kd.R_slice HO_279000.out; subst eo78; have hnb79 := NB277_0.out; have hnc79 := NB0_277.out; obtain ⟨hcz80_0, hfz80_0⟩ := bc1 BK277.out))
   refine bodyPost_ret (results_cell_row rfl _ _ gb277 65 #[.slice Ao78 x279000_1.length co78] (0, 0) _ rfl (by (with_reducible repeat (first | refine blk_drewN ?_ _ | refine blk_drew ?_ | refine blk_alloc ?_ _)); refine blk_put (cs := #[.slice none 0 0]) ?_ 0 _ rfl; (with_reducible repeat (first | refine blk_drewN ?_ _ | refine blk_drew ?_ | refine blk_alloc ?_ _)); exact BK277.out) Try.underlying65 rfl (by kernel_rfl)) rfl ?_
   exact ⟨_, tE, by (with_reducible repeat (first | apply Kd.R_alloc | apply Kd.R_drewN | apply Kd.R_drew)); exact Kd.R_mono (Kd.R_far (p := ⟨gb277, 0, none⟩) (Kd.R_types HO_279000.out BK277.out (by decide)) (fun _ hk => hk.2) (.slice Ao78 x279000_1.length co78)) (fun _ hk => trivial), by repeat (first | (with_reducible first | exact HI0.out | apply IsS159.alloc | apply IsS159.drewN | apply IsS159.drew | apply IsS159.set_1 | apply IsS159.set_2 | refine IsS159.far ?_ NB0_277.out _ | refine IsS159.far ?_ NB0_278.out _) | exact HI0.out), by repeat (first | (with_reducible first | exact HB.out | apply below_alloc | apply pw_below_drewN | apply below_drew1 | refine below_set ?_ (IsS159.ge HI0.out) | refine below_set ?_ GE277.out | refine below_set ?_ GE278.out) | exact HB.out), by repeat (first | (with_reducible first | exact HK.out | apply KeepBut.set_ | apply keep_drewN | apply keep_drew | apply keep_alloc | refine keep_far ?_ GW277.out _ | refine keep_far ?_ GW278.out _) | exact HK.out)⟩

end Go.Proofs.Ytanoaneoanpkkaa.ZFnNotices
