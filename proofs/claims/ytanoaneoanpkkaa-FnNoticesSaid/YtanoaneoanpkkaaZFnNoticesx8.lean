/- The machine side: for each Go function a Lean function and the contract that the Go code answers as it does; printed by program (wip/tmpl/pprint.sh). -/
import Derived.Test.YtanoaneoanpkkaaZFnNoticesx0
import Derived.Test.YtanoaneoanpkkaaZFnNoticesx1
import Derived.Test.YtanoaneoanpkkaaZFnNoticesx3
import Derived.Test.YtanoaneoanpkkaaZFnNoticesx6
import Derived.Test.YtanoaneoanpkkaaZFnNoticesx7
namespace Go.Proofs.Ytanoaneoanpkkaa.ZFnNotices
open Go.RowKit Go.Proofs.YtanoaneoanpkkaaW.PrintWords Go.Proofs.YtanoaneoanpkkaaW.PrintLast Go.Proofs.YtanoaneoanpkkaaW.PrintMore
attribute [local go_sem] max2_int min2_int max_two min_two max_three min_three max_four min_four   -- for this text's walks alone
set_option linter.unusedVariables false
set_option linter.unusedSimpArgs false

attribute [local go_sem high] eqA108
/-! ### spec_DrawSendNotice: function 67 -/
def spec_DrawSendNotice.f (k : Nat) (l0 : List Int) : Option ((List (S108)) × Int × Int × Int) := (spec_l1New.f k l0).bind fun bt332 => ((spec_l31Mailbox.f k bt332.1 bt332.2.1 bt332.2.2).bind fun bt336 => ((spec_l1Below.f bt332.1 bt336.2.1 bt336.2.2 7).bind fun bt342 => ((spec_l1Int.f bt332.1 bt342.2.1 bt342.2.2 (([0, 1, (-1), 1000000, 1000001] : List Int))).bind fun bt348 => ((spec_l1Int.f bt332.1 bt348.2.1 bt348.2.2 (([0, 90, 1000000, 1000001] : List Int))).bind fun bt354 => (some (bt336.1, bt342.1, bt348.1, bt354.1))))))
theorem spec_DrawSendNotice.mono : ∀ a0 k, LeO (spec_DrawSendNotice.f k a0) (spec_DrawSendNotice.f (k + 1) a0) := by
 intro a0 k
 unfold spec_DrawSendNotice.f
 repeat' first
   | (with_reducible exact spec_l1New.mono _ _)
   | (with_reducible exact spec_l31Mailbox.mono _ _ _ _)
   | (with_reducible exact LeO.refl _)
   | (with_reducible exact LeO.none _)
   | (with_reducible refine LeO.ite ?_ ?_)
   | (with_reducible refine LeO.bind ?_ (fun _ => ?_))
   | exact spec_l1New.mono _ _
   | exact spec_l31Mailbox.mono _ _ _ _
   | exact LeO.none _
   | refine LeO.ite ?_ ?_
   | refine LeO.bind ?_ (fun _ => ?_)
def spec_DrawSendNotice.T5 : Bool × List (List Nat × List Nat) := (true, [([], []), ([], []), ([], []), ([], []), ([], []), ([3, 4], [3, 4]), ([0, 5, 0], [0]), ([1, 6, 0, 1, 6], [1]), ([2, 7, 0, 1, 2, 6, 7], [2]), ([5, 8, 0, 1, 2, 3, 4, 5, 6, 7, 8], [5])])
def spec_DrawSendNotice.B5 : List Nat := [0, 0, 0, 0, 0, 24, 57, 123, 255, 511]
theorem spec_DrawSendNotice.tab5 : rtab .any (opsOf Try.f67 5) = spec_DrawSendNotice.T5 := by kernel_rfl
theorem spec_DrawSendNotice.bits5 : waitsOk spec_DrawSendNotice.T5.2 spec_DrawSendNotice.B5 = true := by kernel_rfl
set_option maxHeartbeats 8000000 in
set_option maxRecDepth 100000 in
theorem spec_DrawSendNotice.calls (k : Nat) (A0 : Option Addr) (c0 : Nat) (l0 : List Int) (r1 : List (S108)) (r2 : Int) (r3 : Int) (r4 : Int) (w : World) (hr0 : Kd.C (Kd.int .u8) w A0 l0.length l0) (hc0 : l0.length ≤ c0) (h : spec_DrawSendNotice.f k l0 = some (r1, r2, r3, r4)) :
  Calls Try.prog 67 #[.slice A0 l0.length c0] w fun e w' => ∃ v0_ : Value, e = .returned (.tuple #[.agg #[v0_], .int .i64 r2, .int .i64 r3, .int .i64 r4]) ∧ Kd.R k108 108 w' w.heap.size (fun _ => True) v0_ r1 ∧ Below w.heap.size w w' := by
 have hu65 := Try.underlying65
 have HR0 := Aside0.mk hr0
 have HC0 := Aside0.mk hc0
 clear hr0 hc0
 have HB := Aside0.mk (Below.refl w.heap.size w)
 have H : ((spec_l1New.f k l0).bind fun bt332 => ((spec_l31Mailbox.f k bt332.1 bt332.2.1 bt332.2.2).bind fun bt336 => ((spec_l1Below.f bt332.1 bt336.2.1 bt336.2.2 7).bind fun bt342 => ((spec_l1Int.f bt332.1 bt342.2.1 bt342.2.2 (([0, 1, (-1), 1000000, 1000001] : List Int))).bind fun bt348 => ((spec_l1Int.f bt332.1 bt348.2.1 bt348.2.2 (([0, 90, 1000000, 1000001] : List Int))).bind fun bt354 => (some (bt336.1, bt342.1, bt348.1, bt354.1))))))) = some (r1, r2, r3, r4) := h
 clear h
 replace H := Option.bind_eq_some_iff.mp H
 obtain ⟨⟨t332, t333, t334⟩, A20, H⟩ := H
 try dsimp only at H
 have A2 := Aside0.mk A20
 clear A20
 replace H := Option.bind_eq_some_iff.mp H
 obtain ⟨⟨t336, t339, t340⟩, A30, H⟩ := H
 try dsimp only at H
 have A3 := Aside0.mk A30
 clear A30
 replace H := Option.bind_eq_some_iff.mp H
 obtain ⟨⟨t342, t343, t344⟩, A40, H⟩ := H
 try dsimp only at H
 have A4 := Aside0.mk A40
 clear A40
 obtain ⟨y345, hy345⟩ : ∃ y_ : List Int, y_ = (([0, 1, (-1), 1000000, 1000001] : List Int)) := ⟨_, rfl⟩
 replace H : ((spec_l1Int.f t332 t343 t344 y345).bind fun bt348 => ((spec_l1Int.f t332 bt348.2.1 bt348.2.2 (([0, 90, 1000000, 1000001] : List Int))).bind fun bt354 => (some (t336, t342, bt348.1, bt354.1)))) = some (r1, r2, r3, r4) := by first | (rw [hy345]; with_reducible exact H) | (have H2_ := (Option.bind_some _ _).symm.trans H; rw [hy345]; with_reducible exact H2_) | (have H2_ := (Option.bind_some _ _).symm.trans H; with_reducible exact H2_) | with_reducible exact H | (rw [hy345]; exact H) | exact H
 have Ny345 := Aside0.mk hy345
 clear hy345
 replace H := Option.bind_eq_some_iff.mp H
 obtain ⟨⟨t348, t349, t350⟩, A50, H⟩ := H
 try dsimp only at H
 have A5 := Aside0.mk A50
 clear A50
 obtain ⟨y351, hy351⟩ : ∃ y_ : List Int, y_ = (([0, 90, 1000000, 1000001] : List Int)) := ⟨_, rfl⟩
 replace H : ((spec_l1Int.f t332 t349 t350 y351).bind fun bt354 => (some (t336, t342, t348, bt354.1))) = some (r1, r2, r3, r4) := by first | (rw [hy351]; with_reducible exact H) | (have H2_ := (Option.bind_some _ _).symm.trans H; rw [hy351]; with_reducible exact H2_) | (have H2_ := (Option.bind_some _ _).symm.trans H; with_reducible exact H2_) | with_reducible exact H | (rw [hy351]; exact H) | exact H
 have Ny351 := Aside0.mk hy351
 clear hy351
 replace H := Option.bind_eq_some_iff.mp H
 obtain ⟨⟨t354, t355, t356⟩, A60, H⟩ := H
 try dsimp only at H
 have A6 := Aside0.mk A60
 clear A60
 simp only [Option.some.injEq, Prod.mk.injEq] at H
 obtain ⟨rfl, rfl, rfl, rfl⟩ := H
 go_enter Try.func67, Try.ntmps67
 try go_wp2_with (first | ((with_reducible refine gate_dst (N := 2) rfl ?_); refine box_event ?hg (N := 2) ?hd (cs := #[.slice none 0 0]) (t := 65) ?hr ?_; (case hd => rfl); (case hg => rfl); (case hr => exact tG); intro gb331 hg w7 hbox hb; have BK331 := Aside0.mk (hbox); have GW331 := gW HB hg; have GE331 := gW HB hg; replace HB := bH HB hb; clear hb hbox hg) | ((with_reducible refine gate_callee (f := 109) rfl ?_); refine goesL_ (some 11) rfl rfl Try.func109 (by kernel_rfl) rfl #[.slice A0 l0.length c0] rfl tL ?_; (with_reducible refine (spec_l1New.calls k _ _ l0 t332 t333 t334 w _ ?side1 ?side2 ?side3 A2.out).mono ?_); (case side1 => exact tB); (case side2 => exact HR0.out); (case side3 => exact HC0.out); rintro e w8 ⟨g335, rfl, hi, hb, hb2⟩; refine ⟨_, rfl, ?_⟩; replace HB := Aside0.mk (hb); have HI335 := Aside0.mk (hi); have NB335_331 := Aside0.mk (IsS159.ne_blk hi (blk_below (g := gb331) (o := .cells #[.slice none 0 0] 65 (0, 0)) (tK BK331) hb2) (by decide)); have NB331_335 := Aside0.mk (Ne.symm (IsS159.ne_blk hi (blk_below (g := gb331) (o := .cells #[.slice none 0 0] 65 (0, 0)) (tK BK331) hb2) (by decide))); replace BK331 := Aside0.mk (blk_below (g := gb331) (o := .cells #[.slice none 0 0] 65 (0, 0)) (tK BK331) hb2); (try clear hb); (try clear hb2); (try clear hk); (try clear hi)) | ((with_reducible refine gate_callee (f := 110) rfl ?_); refine goesL_ (some 13) rfl rfl Try.func110 (by kernel_rfl) rfl #[.pointer (some ⟨g335, 0, none⟩)] rfl tL ?_; (with_reducible refine (spec_l31Mailbox.calls k g335 t332 t333 t334 t336 t339 t340 w _ ?side1 ?side2 A3.out).mono ?_); (case side1 => repeat (first | (with_reducible first | exact HI335.out | apply IsS159.alloc | apply IsS159.drewN | apply IsS159.drew | apply IsS159.set_1 | apply IsS159.set_2 | refine IsS159.far ?_ NB335_331.out _) | exact HI335.out)); (case side2 => repeat (first | (with_reducible first | exact HB.out | apply below_alloc | apply pw_below_drewN | apply below_drew1 | refine below_set ?_ (IsS159.ge HI335.out) | refine below_set ?_ GE331.out) | exact HB.out)); rintro e w9 ⟨v337, rfl, ho0, hi, hb, hk⟩; refine ⟨_, rfl, ?_⟩; replace BK331 := Aside0.mk (KeepBut.blk hk (g' := gb331) (o := .cells #[.slice none 0 0] 65 (0, 0)) (tK BK331) NB331_335.out (by simp)); have HO338 := Aside0.mk (Kd.R_lower ho0 (below_size (by repeat (first | (with_reducible first | exact HB.out | apply below_alloc | apply pw_below_drewN | apply below_drew1 | refine below_set ?_ (IsS159.ge HI335.out) | refine below_set ?_ GE331.out) | exact HB.out)))); replace HB := Aside0.mk (hb); replace HI335 := Aside0.mk (hi); (try clear hb); (try clear hb2); (try clear hk); (try clear hi); (try clear ho0)) | ((with_reducible refine gate_dst (N := 7) rfl ?_); refine box_event ?hg (N := 7) ?hd (cs := #[.slice none 0 0]) (t := 65) ?hr ?_; (case hd => rfl); (case hg => rfl); (case hr => exact tG); intro gb341 hg w10 hbox hb; replace HO338 := Aside0.mk (Kd.R_below (tR HO338) hb); have BK341 := Aside0.mk (hbox); have GW341 := Aside0.mk ((by rw [hg]; exact (below_size (by repeat (first | (with_reducible first | exact HB.out | apply below_alloc | apply pw_below_drewN | apply below_drew1 | refine below_set ?_ (IsS159.ge HI335.out) | refine below_set ?_ GE331.out) | exact HB.out))) : w.heap.size ≤ gb341)); have GE341 := Aside0.mk ((by rw [hg]; exact (below_size (by repeat (first | (with_reducible first | exact HB.out | apply below_alloc | apply pw_below_drewN | apply below_drew1 | refine below_set ?_ (IsS159.ge HI335.out) | refine below_set ?_ GE331.out) | exact HB.out))) : w.heap.size ≤ gb341)); replace HB := Aside0.mk (below_step (by repeat (first | (with_reducible first | exact HB.out | apply below_alloc | apply pw_below_drewN | apply below_drew1 | refine below_set ?_ (IsS159.ge HI335.out) | refine below_set ?_ GE331.out) | exact HB.out)) hb); have NB331_341 := nL BK331 hg; have NB341_331 := nR BK331 hg; replace BK331 := bB BK331 hb; have NB335_341 := Aside0.mk ((by rw [hg]; exact Nat.ne_of_lt (IsS159.lt (show IsS159 w _ g335 t332 t339 t340 from by repeat (first | (with_reducible first | exact HI335.out | apply IsS159.alloc | apply IsS159.drewN | apply IsS159.drew | apply IsS159.set_1 | apply IsS159.set_2 | refine IsS159.far ?_ NB335_331.out _) | exact HI335.out))) : g335 ≠ gb341)); have NB341_335 := Aside0.mk ((by rw [hg]; exact Nat.ne_of_gt (IsS159.lt (show IsS159 w _ g335 t332 t339 t340 from by repeat (first | (with_reducible first | exact HI335.out | apply IsS159.alloc | apply IsS159.drewN | apply IsS159.drew | apply IsS159.set_1 | apply IsS159.set_2 | refine IsS159.far ?_ NB335_331.out _) | exact HI335.out))) : gb341 ≠ g335)); replace HI335 := Aside0.mk (IsS159.below (by repeat (first | (with_reducible first | exact HI335.out | apply IsS159.alloc | apply IsS159.drewN | apply IsS159.drew | apply IsS159.set_1 | apply IsS159.set_2 | refine IsS159.far ?_ NB335_331.out _) | exact HI335.out)) hb); clear hb hbox hg; obtain ⟨Ao11, co11, eo11⟩ := Kd.R_slice HO338.out; subst eo11; have hnb12 := NB341_331.out; have hnc12 := NB331_341.out; have hnb13 := NB341_335.out; have hnc13 := NB335_341.out; obtain ⟨hcz14_0, hfz14_0⟩ := bc1 BK341.out) | ((with_reducible refine gate_callee (f := 111) rfl ?_); refine goesL_ (some 15) rfl rfl Try.func111 (by kernel_rfl) rfl #[.pointer (some ⟨g335, 0, none⟩), .int .i64 7] rfl tL ?_; (with_reducible refine (spec_l1Below.calls g335 t332 t339 t340 7 t342 t343 t344 w _ ?side1 ?side2 A4.out).mono ?_); (case side1 => repeat (first | (with_reducible first | exact HI335.out | apply IsS159.alloc | apply IsS159.drewN | apply IsS159.drew | apply IsS159.set_1 | apply IsS159.set_2 | refine IsS159.far ?_ NB335_331.out _ | refine IsS159.far ?_ NB335_341.out _) | exact HI335.out)); (case side2 => repeat (first | (with_reducible first | exact HB.out | apply below_alloc | apply pw_below_drewN | apply below_drew1 | refine below_set ?_ (IsS159.ge HI335.out) | refine below_set ?_ GE331.out | refine below_set ?_ GE341.out) | exact HB.out)); rintro e w15 ⟨rfl, hi, hb, hk⟩; refine ⟨_, rfl, ?_⟩; replace BK331 := Aside0.mk (KeepBut.blk hk (g' := gb331) (o := .cells #[.slice none 0 0] 65 (0, 0)) (kF NB331_341 BK331) NB331_335.out (by simp)); replace HO338 := Aside0.mk (Kd.R_mono (Kd.R_keep (IsS159.apart (show IsS159 w _ g335 t332 t339 t340 from by repeat (first | (with_reducible first | exact HI335.out | apply IsS159.alloc | apply IsS159.drewN | apply IsS159.drew | apply IsS159.set_1 | apply IsS159.set_2 | refine IsS159.far ?_ NB335_331.out _ | refine IsS159.far ?_ NB335_341.out _) | exact HI335.out)) (by (with_reducible repeat (first | apply Kd.R_alloc | apply Kd.R_drewN | apply Kd.R_drew)); exact (Kd.R_mono (Kd.R_far (p := ⟨gb341, 0, none⟩) (Kd.R_types HO338.out BK341.out (by decide)) (fun _ hk => hk.2) (.slice Ao11 t336.length co11)) (fun _ h_ => h_.1))) (by decide)) hk (fun _ h => h.2)) (fun _ h => h.1)); replace BK341 := Aside0.mk (KeepBut.blk hk (g' := gb341) (o := .cells #[.slice Ao11 t336.length co11] 65 (0, 0)) (by (with_reducible repeat (first | refine blk_drewN ?_ _ | refine blk_drew ?_ | refine blk_alloc ?_ _)); refine blk_put (cs := #[.slice none 0 0]) ?_ 0 _ rfl; (with_reducible repeat (first | refine blk_drewN ?_ _ | refine blk_drew ?_ | refine blk_alloc ?_ _)); exact BK341.out) NB341_335.out (by simp)); replace HB := Aside0.mk (hb); replace HI335 := Aside0.mk (hi); (try clear hb); (try clear hb2); (try clear hk); (try clear hi)) | ((with_reducible refine gate_dst (N := 17) rfl ?_); refine Kd.R_lit (Kd.int .i64) _ 3 ?hg (N := 17) ?hd (xs := ([0, 1, (-1), 1000000, 1000001] : List Int)) (inner := [.int .i64 0, .int .i64 1, .int .i64 (-1), .int .i64 1000000, .int .i64 1000001]) (ok := fun _ => True) (okp := fun _ => True) ?hr ?hp (fun _ hk => hk) trivial (Below.refl _ _) (Nat.le_refl _) (by simp) ?_; (case hd => rfl); (case hg => rfl); (case hr => exact tG); (case hp => exact (Reps.one (show Kd.M (Kd.int .i64) _ _ _ 0 [.int .i64 0] from rfl) (Reps.one (show Kd.M (Kd.int .i64) _ _ _ 1 [.int .i64 1] from rfl) (Reps.one (show Kd.M (Kd.int .i64) _ _ _ (-1) [.int .i64 (-1)] from rfl) (Reps.one (show Kd.M (Kd.int .i64) _ _ _ 1000000 [.int .i64 1000000] from rfl) (Reps.one (show Kd.M (Kd.int .i64) _ _ _ 1000001 [.int .i64 1000001] from rfl) (Reps.none _ _))))))); intro v346 w16 ho17 hb hg_ hnew_; clear hg_ hnew_; (first | rw [← Ny345.out] at ho17 | (simp only [Int.reduceToNat] at ho17; rw [← Ny345.out] at ho17)); replace HO338 := Aside0.mk (Kd.R_below (tR HO338) hb); have HO347 := Aside0.mk (Kd.R_lower ho17 (below_size (by repeat (first | (with_reducible first | exact HB.out | apply below_alloc | apply pw_below_drewN | apply below_drew1 | refine below_set ?_ (IsS159.ge HI335.out) | refine below_set ?_ GE331.out | refine below_set ?_ GE341.out) | exact HB.out)))); replace BK331 := bB BK331 hb; replace BK341 := bB BK341 hb; replace HB := Aside0.mk (below_step (by repeat (first | (with_reducible first | exact HB.out | apply below_alloc | apply pw_below_drewN | apply below_drew1 | refine below_set ?_ (IsS159.ge HI335.out) | refine below_set ?_ GE331.out | refine below_set ?_ GE341.out) | exact HB.out)) hb); replace HI335 := Aside0.mk (IsS159.below (by repeat (first | (with_reducible first | exact HI335.out | apply IsS159.alloc | apply IsS159.drewN | apply IsS159.drew | apply IsS159.set_1 | apply IsS159.set_2 | refine IsS159.far ?_ NB335_331.out _ | refine IsS159.far ?_ NB335_341.out _) | exact HI335.out)) hb); clear hb ho17; obtain ⟨Ao18, co18, eo18⟩ := Kd.R_slice HO347.out; subst eo18) | ((with_reducible refine gate_callee (f := 112) rfl ?_); refine goesL_ (some 18) rfl rfl Try.func112 (by kernel_rfl) rfl #[.pointer (some ⟨g335, 0, none⟩), .slice Ao18 y345.length co18] rfl tL ?_; (with_reducible refine (spec_l1Int.calls g335 t332 t343 t344 _ _ y345 t348 t349 t350 w _ ?side1 ?side2 ?side3 ?side4 ?side5 A5.out).mono ?_); (case side1 => repeat (first | (with_reducible first | exact HI335.out | apply IsS159.alloc | apply IsS159.drewN | apply IsS159.drew | apply IsS159.set_1 | apply IsS159.set_2 | refine IsS159.far ?_ NB335_331.out _ | refine IsS159.far ?_ NB335_341.out _) | exact HI335.out)); (case side2 => repeat (first | (with_reducible first | exact HB.out | apply below_alloc | apply pw_below_drewN | apply below_drew1 | refine below_set ?_ (IsS159.ge HI335.out) | refine below_set ?_ GE331.out | refine below_set ?_ GE341.out) | exact HB.out)); (case side3 => repeat (first | exact (Kd.R_reads' HO347.out).2.2 | (with_reducible refine Kd.C_alloc ?_ _) | (with_reducible refine Kd.C_drewN ?_ _) | (with_reducible refine Kd.C_drew ?_))); (case side4 => exact (Kd.R_reads' HO347.out).2.1); (case side5 => exact far_slice (IsS159.own_ne HI335.out HO347.out (by decide))); rintro e w19 ⟨rfl, hi, hb, hk⟩; refine ⟨_, rfl, ?_⟩; replace BK331 := Aside0.mk (KeepBut.blk hk (g' := gb331) (o := .cells #[.slice none 0 0] 65 (0, 0)) (tK BK331) NB331_335.out (by simp)); replace HO338 := Aside0.mk (Kd.R_mono (Kd.R_keep (IsS159.apart (show IsS159 w _ g335 t332 t343 t344 from by repeat (first | (with_reducible first | exact HI335.out | apply IsS159.alloc | apply IsS159.drewN | apply IsS159.drew | apply IsS159.set_1 | apply IsS159.set_2 | refine IsS159.far ?_ NB335_331.out _ | refine IsS159.far ?_ NB335_341.out _) | exact HI335.out)) (tR HO338) (by decide)) hk (fun _ h => h.2)) (fun _ h => h.1)); replace BK341 := Aside0.mk (KeepBut.blk hk (g' := gb341) (o := .cells #[.slice Ao11 t336.length co11] 65 (0, 0)) (tK BK341) NB341_335.out (by simp)); replace HO347 := Aside0.mk (Kd.R_mono (Kd.R_keep (IsS159.apart (show IsS159 w _ g335 t332 t343 t344 from by repeat (first | (with_reducible first | exact HI335.out | apply IsS159.alloc | apply IsS159.drewN | apply IsS159.drew | apply IsS159.set_1 | apply IsS159.set_2 | refine IsS159.far ?_ NB335_331.out _ | refine IsS159.far ?_ NB335_341.out _) | exact HI335.out)) (tR HO347) (by decide)) hk (fun _ h => h.2)) (fun _ h => h.1)); replace HB := Aside0.mk (hb); replace HI335 := Aside0.mk (hi); (try clear hb); (try clear hb2); (try clear hk); (try clear hi)))
 replace HO338 := Aside0.mk (Kd.R_drew HO338.out)
 replace HO347 := Aside0.mk (Kd.R_drew HO347.out)
 replace BK331 := Aside0.mk (blk_drew BK331.out)
 replace BK341 := Aside0.mk (blk_drew BK341.out)
 replace HI335 := Aside0.mk (IsS159.drew HI335.out)
 replace HB := Aside0.mk (below_drew1 HB.out)
 refine start_ (n := 10) (S := fun w' => w'.cell? ⟨gb341, 0, none⟩ = some (.slice Ao11 t336.length co11)) (ds := []) #[N_,N_,N_,N_,N_,N_,N_,N_,N_,N_] (by kernel_rfl) rfl rfl ((blk_cell BK341.out 0).trans rfl) (fun hHeld => ?_); refine with_tabW spec_DrawSendNotice.tab5 spec_DrawSendNotice.bits5 (fun HT_ HW_ => ?_)
 generalize w19.drew = w20 at HO338 HO347 BK331 BK341 HI335 HB hHeld ⊢
 refine pure_ (i := 1) (N := some 20) #[N_,Y_,N_,N_,N_,N_,N_,N_,N_,N_] rfl rfl (any_of HT_.out (by kernel_rfl)) (fun _ _ _ h => h) (Or.inl ⟨by rfl, tX⟩) tV ?_
 refine pure_ (i := 2) (N := some 21) #[N_,Y_,Y_,N_,N_,N_,N_,N_,N_,N_] rfl rfl (any_of HT_.out (by kernel_rfl)) (fun _ _ _ h => h) (Or.inl ⟨by rfl, tX⟩) tV ?_
 refine pure_ (i := 3) (N := some 22) #[N_,Y_,Y_,Y_,N_,N_,N_,N_,N_,N_] rfl rfl (any_of HT_.out (by kernel_rfl)) (fun _ _ _ h => h) (Or.inl ⟨by rfl, tX⟩) tV ?_
 refine take_ (i := 0) (N := some 19) (v := ?_) (a' := ?_) #[Y_,Y_,Y_,Y_,N_,N_,N_,N_,N_,N_] rfl rfl (take_ofW HT_.out HW_.out (by kernel_rfl)) (fun _ _ _ h => h) (Or.inl ⟨by rfl, ?_⟩) hHeld ?_ ?_
 rotate_left
 ·intro w' s0
  go_simp
  with_reducible rfl
 rotate_left
 ·simp only [Act.put, List.setIfInBounds_toArray, List.set_cons_zero, List.set_cons_succ, i64_w, i32_w]
  rfl
 refine one_ (i := 4) (N := some 23) #[Y_,Y_,Y_,Y_,Y_,N_,N_,N_,N_,N_] rfl rfl (one_of HT_.out (by kernel_rfl)) (by decide) (fun K hK => ?_)
 refine Kd.R_lit_step (Kd.int .i64) _ 3 ?hg (N := 23) ?hd (xs := ([0, 90, 1000000, 1000001] : List Int)) (inner := [.int .i64 0, .int .i64 90, .int .i64 1000000, .int .i64 1000001]) (ok := fun _ => True) (okp := fun _ => True) ?hr ?hp (fun _ hk => hk) trivial (Below.refl _ _) (Nat.le_refl _) (by simp) ?_; (case hd => rfl); (case hg => rfl); (case hr => exact tG); (case hp => exact (Reps.one (show Kd.M (Kd.int .i64) _ _ _ 0 [.int .i64 0] from rfl) (Reps.one (show Kd.M (Kd.int .i64) _ _ _ 90 [.int .i64 90] from rfl) (Reps.one (show Kd.M (Kd.int .i64) _ _ _ 1000000 [.int .i64 1000000] from rfl) (Reps.one (show Kd.M (Kd.int .i64) _ _ _ 1000001 [.int .i64 1000001] from rfl) (Reps.none _ _))))))
 intro v352 w21 ho22 hb hg_ hnew_
 clear hg_ hnew_
 (first | rw [← Ny351.out] at ho22 | (simp only [Int.reduceToNat] at ho22; rw [← Ny351.out] at ho22))
 replace HO338 := Aside0.mk (Kd.R_below (tR HO338) hb)
 have HO353 := Aside0.mk (Kd.R_lower (Kd.R_new' ho22 (Kd.R_lt (tR HO347))) (below_size (by repeat (first | (with_reducible first | exact HB.out | apply below_alloc | apply pw_below_drewN | apply below_drew1 | refine below_set ?_ (IsS159.ge HI335.out) | refine below_set ?_ GE331.out | refine below_set ?_ GE341.out) | exact HB.out))))
 replace HO347 := Aside0.mk (Kd.R_elder' (tR HO347) (Kd.R_base ho22) hb)
 replace BK331 := bB BK331 hb
 replace BK341 := bB BK341 hb
 replace HB := Aside0.mk (below_step (by repeat (first | (with_reducible first | exact HB.out | apply below_alloc | apply pw_below_drewN | apply below_drew1 | refine below_set ?_ (IsS159.ge HI335.out) | refine below_set ?_ GE331.out | refine below_set ?_ GE341.out) | exact HB.out)) hb)
 replace HI335 := Aside0.mk (IsS159.below (by repeat (first | (with_reducible first | exact HI335.out | apply IsS159.alloc | apply IsS159.drewN | apply IsS159.drew | apply IsS159.set_1 | apply IsS159.set_2 | refine IsS159.far ?_ NB335_331.out _ | refine IsS159.far ?_ NB335_341.out _) | exact HI335.out)) hb)
 clear hb ho22
 obtain ⟨Ao23, co23, eo23⟩ := Kd.R_slice HO353.out
 (first | subst eo23 | (injection eo23 with f1_ f2_ f3_; have f4_ := f1_.symm; have f5_ := f3_.symm; clear f1_ f2_ f3_; subst f4_; subst f5_))
 refine hK.out _ _ ((blk_cell BK341.out 0).trans rfl) (fun hHeld => ?_)
 clear hK K
 refine norm_ (tV : Act.put _ (some 23) _ = _) ?_
 refine one_ (i := 5) (N := some 24) #[Y_,Y_,Y_,Y_,Y_,Y_,N_,N_,N_,N_] rfl rfl (one_of HT_.out (by kernel_rfl)) (by decide) (fun K hK => ?_)
 refine goes_ Try.func112 (by kernel_rfl) rfl #[.pointer (some ⟨g335, 0, none⟩), .slice Ao23 y351.length co23] (by rfl) rfl rfl tL ?_
 with_reducible refine (spec_l1Int.calls g335 t332 t349 t350 _ _ y351 t354 t355 t356 w _ ?side1 ?side2 ?side3 ?side4 ?side5 A6.out).mono ?_
 (case side1 => repeat (first | (with_reducible first | exact HI335.out | apply IsS159.alloc | apply IsS159.drewN | apply IsS159.drew | apply IsS159.set_1 | apply IsS159.set_2 | refine IsS159.far ?_ NB335_331.out _ | refine IsS159.far ?_ NB335_341.out _) | exact HI335.out))
 (case side2 => repeat (first | (with_reducible first | exact HB.out | apply below_alloc | apply pw_below_drewN | apply below_drew1 | refine below_set ?_ (IsS159.ge HI335.out) | refine below_set ?_ GE331.out | refine below_set ?_ GE341.out) | exact HB.out))
 (case side3 => repeat (first | exact (Kd.R_reads' HO353.out).2.2 | (with_reducible refine Kd.C_alloc ?_ _) | (with_reducible refine Kd.C_drewN ?_ _) | (with_reducible refine Kd.C_drew ?_)))
 (case side4 => exact (Kd.R_reads' HO353.out).2.1)
 (case side5 => exact far_slice (IsS159.own_ne HI335.out HO353.out (by decide)))
 rintro e w24 ⟨rfl, hi, hb, hk⟩
 refine ⟨_, rfl, ?_⟩
 replace BK331 := Aside0.mk (KeepBut.blk hk (g' := gb331) (o := .cells #[.slice none 0 0] 65 (0, 0)) (tK BK331) NB331_335.out (by simp))
 replace HO338 := Aside0.mk (Kd.R_mono (Kd.R_keep (IsS159.apart (show IsS159 w _ g335 t332 t349 t350 from by repeat (first | (with_reducible first | exact HI335.out | apply IsS159.alloc | apply IsS159.drewN | apply IsS159.drew | apply IsS159.set_1 | apply IsS159.set_2 | refine IsS159.far ?_ NB335_331.out _ | refine IsS159.far ?_ NB335_341.out _) | exact HI335.out)) (tR HO338) (by decide)) hk (fun _ h => h.2)) (fun _ h => h.1))
 replace BK341 := Aside0.mk (KeepBut.blk hk (g' := gb341) (o := .cells #[.slice Ao11 t336.length co11] 65 (0, 0)) (tK BK341) NB341_335.out (by simp))
 replace HO347 := Aside0.mk (Kd.R_mono (Kd.R_keep (IsS159.apart (show IsS159 w _ g335 t332 t349 t350 from by repeat (first | (with_reducible first | exact HI335.out | apply IsS159.alloc | apply IsS159.drewN | apply IsS159.drew | apply IsS159.set_1 | apply IsS159.set_2 | refine IsS159.far ?_ NB335_331.out _ | refine IsS159.far ?_ NB335_341.out _) | exact HI335.out)) (tR HO347) (by decide)) hk (fun _ h => h.2)) (fun _ h => h.1))
 replace HO353 := Aside0.mk (Kd.R_mono (Kd.R_keep (IsS159.apart (show IsS159 w _ g335 t332 t349 t350 from by repeat (first | (with_reducible first | exact HI335.out | apply IsS159.alloc | apply IsS159.drewN | apply IsS159.drew | apply IsS159.set_1 | apply IsS159.set_2 | refine IsS159.far ?_ NB335_331.out _ | refine IsS159.far ?_ NB335_341.out _) | exact HI335.out)) (tR HO353) (by decide)) hk (fun _ h => h.2)) (fun _ h => h.1))
 replace HB := Aside0.mk (hb)
 replace HI335 := Aside0.mk (hi)
 (try clear hb)
 (try clear hb2)
 (try clear hk)
 (try clear hi)
 refine hK.out _ _ ((blk_cell BK341.out 0).trans rfl) (fun hHeld => ?_)
 clear hK K
 refine norm_ (tV : Act.put _ (some 24) _ = _) ?_
 refine one_ (i := 6) (N := none) #[Y_,Y_,Y_,Y_,Y_,Y_,Y_,N_,N_,N_] rfl rfl (one_of HT_.out (by kernel_rfl)) (by decide) (fun K hK => ?_)
 have hs25 : w24.cell? ⟨gb331, 0, none⟩ = some (.slice none 0 0) := (blk_cell BK331.out 0).trans rfl
 have hfs25 := blk_frozen BK331.out 0
 have hns25_1 := NB341_331.out
 have hms25_1 := NB331_341.out
 refine skip_ (w1 := ?_) (by rfl) rfl ?_ ?_
 rotate_left
 ·go_simp
  rfl
 refine hK.out _ _ (((cell_far (p := ⟨gb331, _, none⟩) NB341_331.out _).trans (hHeld))) (fun hHeld => ?_)
 clear hK K
 refine pure_ (i := 7) (N := some 3) #[Y_,Y_,Y_,Y_,Y_,Y_,Y_,Y_,N_,N_] rfl rfl (any_of HT_.out (by kernel_rfl)) (fun _ _ _ h => h) (Or.inl ⟨by rfl, tX⟩) tV ?_
 refine pure_ (i := 8) (N := some 4) #[Y_,Y_,Y_,Y_,Y_,Y_,Y_,Y_,Y_,N_] rfl rfl (any_of HT_.out (by kernel_rfl)) (fun _ _ _ h => h) (Or.inl ⟨by rfl, tX⟩) tV ?_
 refine pure_ (i := 9) (N := some 5) #[Y_,Y_,Y_,Y_,Y_,Y_,Y_,Y_,Y_,Y_] rfl rfl (any_of HT_.out (by kernel_rfl)) (fun _ _ _ h => h) (Or.inl ⟨by rfl, tX⟩) tV ?_
 refine done_ (done_of HT_.out (by kernel_rfl)) ?_
 try go_wp2
 refine bodyPost_ret (results_list (rs := [.cell 2 65, .tmp 3, .tmp 4, .tmp 5]) rfl (by simp) (.cell gb331 65 #[.slice Ao11 t336.length co11] (0, 0) _ rfl (by (with_reducible repeat (first | refine blk_drewN ?_ _ | refine blk_drew ?_ | refine blk_alloc ?_ _)); refine blk_put (cs := #[.slice none 0 0]) ?_ 0 _ rfl; (with_reducible repeat (first | refine blk_drewN ?_ _ | refine blk_drew ?_ | refine blk_alloc ?_ _)); exact BK331.out) Try.underlying65 rfl (by kernel_rfl) (.tmp (.tmp (.tmp .nil))))) rfl ?_
 exact ⟨_, tE, by (with_reducible repeat (first | apply Kd.R_alloc | apply Kd.R_drewN | apply Kd.R_drew)); exact Kd.R_mono (Kd.R_far (p := ⟨gb331, 0, none⟩) (Kd.R_types HO338.out BK331.out (by decide)) (fun _ hk => hk.2) (.slice Ao11 t336.length co11)) (fun _ hk => trivial), by repeat (first | (with_reducible first | exact HB.out | apply below_alloc | apply pw_below_drewN | apply below_drew1 | refine below_set ?_ (IsS159.ge HI335.out) | refine below_set ?_ GE331.out | refine below_set ?_ GE341.out) | exact HB.out)⟩

/-! ### impl_EqualMailboxes: function 68 -/
def impl_EqualMailboxes.l0 : Nat → Int → Int → List (S108) → List (S108) → Option (Bool)
 | 0, _, _, _, _ => none
 | k + 1, x15, x16, x358000, x359000 => if x16 < x15 then (if 0 ≤ x16 then (if x16 < (x358000.length : Int) then (if x16 < (x359000.length : Int) then (if (!(((rd_T108 x358000 x16).f0) == ((rd_T108 x359000 x16).f0)) || (!(((rd_T108 x358000 x16).f1) == ((rd_T108 x359000 x16).f1)) || (!(((rd_T108 x358000 x16).f2) == ((rd_T108 x359000 x16).f2)) || (!(((rd_T108 x358000 x16).f3) == ((rd_T108 x359000 x16).f3)))))) = true then (some false) else (impl_EqualMailboxes.l0 k x15 (wrap64 (x16 + 1)) x358000 x359000)) else (none)) else (none)) else (none)) else (some true)
def impl_EqualMailboxes.f (k : Nat) (l0_0 : List (S108)) (l1_0 : List (S108)) : Option (Bool) := if (l0_0.length : Int) = (l1_0.length : Int) then (impl_EqualMailboxes.l0 k (l0_0.length : Int) 0 l0_0 l1_0) else (some false)
theorem impl_EqualMailboxes.mono_l : ∀ k, (∀ y0 y1 y2 y3, LeO (impl_EqualMailboxes.l0 k y0 y1 y2 y3) (impl_EqualMailboxes.l0 (k + 1) y0 y1 y2 y3))
 | 0 => fun _ _ _ _ r h => by simp [impl_EqualMailboxes.l0] at h
 | k + 1 => by
  have ih0 := impl_EqualMailboxes.mono_l k
  ·intro y0 y1 y2 y3
   unfold impl_EqualMailboxes.l0
   repeat' first
   | (with_reducible exact ih0 _ _ _ _)
   | (with_reducible exact LeO.refl _)
   | (with_reducible exact LeO.none _)
   | (with_reducible refine LeO.ite ?_ ?_)
   | (with_reducible refine LeO.bind ?_ (fun _ => ?_))
   | exact ih0 _ _ _ _
   | exact LeO.none _
   | refine LeO.ite ?_ ?_
   | refine LeO.bind ?_ (fun _ => ?_)
theorem impl_EqualMailboxes.mono : ∀ a0 a1 k, LeO (impl_EqualMailboxes.f k a0 a1) (impl_EqualMailboxes.f (k + 1) a0 a1) := by
 intro a0 a1 k
 have ih0 := impl_EqualMailboxes.mono_l k
 unfold impl_EqualMailboxes.f
 repeat' first
   | (with_reducible exact ih0 _ _ _ _)
   | (with_reducible exact LeO.refl _)
   | (with_reducible exact LeO.none _)
   | (with_reducible refine LeO.ite ?_ ?_)
   | (with_reducible refine LeO.bind ?_ (fun _ => ?_))
   | exact ih0 _ _ _ _
   | exact LeO.none _
   | refine LeO.ite ?_ ?_
   | refine LeO.bind ?_ (fun _ => ?_)
set_option maxHeartbeats 8000000 in
set_option maxRecDepth 100000 in
theorem impl_EqualMailboxes.calls (k : Nat) (A0_0 : Option Addr) (c0_0 : Nat) (l0_0 : List (S108)) (A1_0 : Option Addr) (c1_0 : Nat) (l1_0 : List (S108)) (r : Bool) (w : World) (hr0_0 : Kd.C k108 w A0_0 l0_0.length l0_0) (hc0_0 : l0_0.length ≤ c0_0) (hr1_0 : Kd.C k108 w A1_0 l1_0.length l1_0) (hc1_0 : l1_0.length ≤ c1_0) (h : impl_EqualMailboxes.f k l0_0 l1_0 = some r) :
  Calls Try.prog 68 #[.agg #[.slice A0_0 l0_0.length c0_0], .agg #[.slice A1_0 l1_0.length c1_0]] w fun e w' => e = .returned (.bool r) ∧ Below w.heap.size w w' := by
 have hu65 := Try.underlying65
 have hu108 := Try.underlying108
 have HR0_0 := Aside0.mk hr0_0
 have HC0_0 := Aside0.mk hc0_0
 clear hr0_0 hc0_0
 have HR1_0 := Aside0.mk hr1_0
 have HC1_0 := Aside0.mk hc1_0
 clear hr1_0 hc1_0
 have HB := Aside0.mk (Below.refl w.heap.size w)
 have H : (if (l0_0.length : Int) = (l1_0.length : Int) then (impl_EqualMailboxes.l0 k (l0_0.length : Int) 0 l0_0 l1_0) else (some false)) = some r := h
 clear h
 by_cases c3 : (l0_0.length : Int) = (l1_0.length : Int)
 ·rw [if_pos c3] at H
  have c3b0 : ((l0_0.length : Int) == (l1_0.length : Int)) = true := beq_iff_eq.mpr c3
  have c3b1 : ((l0_0.length : Int) != (l1_0.length : Int)) = false := bne_eq_false_iff_eq.mpr c3
  have c3b2 : (l0_0.length == l1_0.length) = true := by first | simpa using c3 | (simp at c3 ⊢; omega)
  clear c3
  have H' := Aside0.mk H
  clear H
  go_enter Try.func68, Try.ntmps68
  go_wp2_with (first | ((with_reducible refine gate_dst (N := 2) rfl ?_); refine box_event ?hg (N := 2) ?hd (cs := #[.slice A0_0 l0_0.length c0_0]) (t := 65) ?hr ?_; (case hd => rfl); (case hg => rfl); (case hr => exact tG); intro gb357 hg w4 hbox hb; have BK357 := Aside0.mk (hbox); have GW357 := gW HB hg; have GE357 := gW HB hg; replace HB := bH HB hb; clear hb hbox hg) | ((with_reducible refine gate_dst (N := 3) rfl ?_); refine box_event ?hg (N := 3) ?hd (cs := #[.slice A1_0 l1_0.length c1_0]) (t := 65) ?hr ?_; (case hd => rfl); (case hg => rfl); (case hr => exact tG); intro gb358 hg w5 hbox hb; have BK358 := Aside0.mk (hbox); have GW358 := gW HB hg; have GE358 := gW HB hg; replace HB := bH HB hb; have NB357_358 := nL BK357 hg; have NB358_357 := nR BK357 hg; replace BK357 := bB BK357 hb; clear hb hbox hg; have hnb6 := NB357_358.out; have hnc6 := NB358_357.out; obtain ⟨hcz7_0, hfz7_0⟩ := bc1 BK357.out; obtain ⟨hcz8_0, hfz8_0⟩ := bc1 BK358.out))
  repeat (go_quiet (first | ((with_reducible refine gate_dst (N := 2) rfl ?_); refine box_event ?hg (N := 2) ?hd (cs := #[.slice A0_0 l0_0.length c0_0]) (t := 65) ?hr ?_; (case hd => rfl); (case hg => rfl); (case hr => exact tG); intro gb357 hg w4 hbox hb; have BK357 := Aside0.mk (hbox); have GW357 := gW HB hg; have GE357 := gW HB hg; replace HB := bH HB hb; clear hb hbox hg) | ((with_reducible refine gate_dst (N := 3) rfl ?_); refine box_event ?hg (N := 3) ?hd (cs := #[.slice A1_0 l1_0.length c1_0]) (t := 65) ?hr ?_; (case hd => rfl); (case hg => rfl); (case hr => exact tG); intro gb358 hg w5 hbox hb; have BK358 := Aside0.mk (hbox); have GW358 := gW HB hg; have GE358 := gW HB hg; replace HB := bH HB hb; have NB357_358 := nL BK357 hg; have NB358_357 := nR BK357 hg; replace BK357 := bB BK357 hb; clear hb hbox hg; have hnb6 := NB357_358.out; have hnc6 := NB358_357.out; obtain ⟨hcz7_0, hfz7_0⟩ := bc1 BK357.out; obtain ⟨hcz8_0, hfz8_0⟩ := bc1 BK358.out)); try go_wp2_with (first | ((with_reducible refine gate_dst (N := 2) rfl ?_); refine box_event ?hg (N := 2) ?hd (cs := #[.slice A0_0 l0_0.length c0_0]) (t := 65) ?hr ?_; (case hd => rfl); (case hg => rfl); (case hr => exact tG); intro gb357 hg w4 hbox hb; have BK357 := Aside0.mk (hbox); have GW357 := gW HB hg; have GE357 := gW HB hg; replace HB := bH HB hb; clear hb hbox hg) | ((with_reducible refine gate_dst (N := 3) rfl ?_); refine box_event ?hg (N := 3) ?hd (cs := #[.slice A1_0 l1_0.length c1_0]) (t := 65) ?hr ?_; (case hd => rfl); (case hg => rfl); (case hr => exact tG); intro gb358 hg w5 hbox hb; have BK358 := Aside0.mk (hbox); have GW358 := gW HB hg; have GE358 := gW HB hg; replace HB := bH HB hb; have NB357_358 := nL BK357 hg; have NB358_357 := nR BK357 hg; replace BK357 := bB BK357 hb; clear hb hbox hg; have hnb6 := NB357_358.out; have hnc6 := NB358_357.out; obtain ⟨hcz7_0, hfz7_0⟩ := bc1 BK357.out; obtain ⟨hcz8_0, hfz8_0⟩ := bc1 BK358.out)))
  go_loopg [16] k (fun kq v16 w' => ∃ (x16_1 : Int), v16 = .int .i64 x16_1 ∧ Aside0 (impl_EqualMailboxes.l0 kq (l0_0.length : Int) x16_1 l0_0 l1_0 = some r) ∧ Aside0 (kq ≤ k) ∧ Aside0 (w'.heap[gb357]? = some (.cells #[(.slice A0_0 l0_0.length c0_0)] 65 (0, 0))) ∧ Aside0 (w'.heap[gb358]? = some (.cells #[(.slice A1_0 l1_0.length c1_0)] 65 (0, 0))) ∧ Aside0 (Below w.heap.size w w'))
  case atStart => exact ⟨(0), tS, H', ⟨Nat.le_refl _⟩, ⟨tK BK357⟩, ⟨tK BK358⟩, ⟨tB⟩⟩
  case round =>
   clear H'
   try clear c1
   try clear p2
   try clear c3
   try clear c3b0
   try clear c3b1
   try clear c3b2
   try clear c6
   try clear hcz7_0
   try clear hcz8_0
   try clear hfz7_0
   try clear hfz8_0
   obtain ⟨x16_1, rfl, HA, HK1, BK357, BK358, HB⟩ := hrel
   cases gk with
   | zero => exact absurd HA.out (by simp [impl_EqualMailboxes.l0])
   | succ k1 =>
    have H := HA.out
    clear HA
    simp only [impl_EqualMailboxes.l0] at H
    by_cases c9 : x16_1 < (l0_0.length : Int)
    ·rw [if_pos c9] at H
     have c9b0 : decide (x16_1 < (l0_0.length : Int)) = true := decide_eq_true c9
     clear c9
     by_cases c10 : 0 ≤ x16_1
     ·rw [if_pos c10] at H
      have c10b0 : decide (0 ≤ x16_1) = true := decide_eq_true c10
      clear c10
      by_cases c11 : x16_1 < (l0_0.length : Int)
      ·rw [if_pos c11] at H
       have c11b0 : decide (x16_1 < (l0_0.length : Int)) = true := decide_eq_true c11
       clear c11
       by_cases c12 : x16_1 < (l1_0.length : Int)
       ·rw [if_pos c12] at H
        have c12b0 : decide (x16_1 < (l1_0.length : Int)) = true := decide_eq_true c12
        clear c12
        by_cases c13 : (!(((rd_T108 l0_0 x16_1).f0) == ((rd_T108 l1_0 x16_1).f0)) || (!(((rd_T108 l0_0 x16_1).f1) == ((rd_T108 l1_0 x16_1).f1)) || (!(((rd_T108 l0_0 x16_1).f2) == ((rd_T108 l1_0 x16_1).f2)) || (!(((rd_T108 l0_0 x16_1).f3) == ((rd_T108 l1_0 x16_1).f3)))))) = true
        ·rw [if_pos c13] at H
         have c13b0 : (!(((rd_T108 l0_0 x16_1).f0) == ((rd_T108 l1_0 x16_1).f0)) || (!(((rd_T108 l0_0 x16_1).f1) == ((rd_T108 l1_0 x16_1).f1)) || (!(((rd_T108 l0_0 x16_1).f2) == ((rd_T108 l1_0 x16_1).f2)) || (!(((rd_T108 l0_0 x16_1).f3) == ((rd_T108 l1_0 x16_1).f3)))))) = true := c13
         clear c13
         obtain rfl := Option.some.inj H
         have hnb14 := NB357_358.out
         have hnc14 := NB358_357.out
         obtain ⟨hcz15_0, hfz15_0⟩ := bc1 BK357.out
         have p359 : 0 ≤ (x16_1 : Int) := of_decide_eq_true tA
         have q359 : x16_1 < (l0_0.length : Int) := of_decide_eq_true tA
         obtain ⟨ad359, e359, hx359_0, hx359_1, hx359_2, hx359_3⟩ := at_T108 HR0_0.out x16_1 p359 q359
         cases e359
         replace hx359_0 := hbc HB hx359_0
         replace hx359_1 := hbc HB hx359_1
         replace hx359_2 := hbc HB hx359_2
         replace hx359_3 := hbc HB hx359_3
         replace p359 := eq_true p359
         replace q359 := eq_true q359
         obtain ⟨hcz16_0, hfz16_0⟩ := bc1 BK358.out
         have p360 : 0 ≤ (x16_1 : Int) := of_decide_eq_true tA
         have q360 : x16_1 < (l1_0.length : Int) := of_decide_eq_true tA
         obtain ⟨ad360, e360, hx360_0, hx360_1, hx360_2, hx360_3⟩ := at_T108 HR1_0.out x16_1 p360 q360
         cases e360
         replace hx360_0 := hbc HB hx360_0
         replace hx360_1 := hbc HB hx360_1
         replace hx360_2 := hbc HB hx360_2
         replace hx360_3 := hbc HB hx360_3
         replace p360 := eq_true p360
         replace q360 := eq_true q360
         go_wp2
         repeat (go_quiet (fail); try go_wp2)
         go_ret
         exact ⟨tE, tB⟩
        rw [if_neg c13] at H
        have c13b0 : (!(((rd_T108 l0_0 x16_1).f0) == ((rd_T108 l1_0 x16_1).f0)) || (!(((rd_T108 l0_0 x16_1).f1) == ((rd_T108 l1_0 x16_1).f1)) || (!(((rd_T108 l0_0 x16_1).f2) == ((rd_T108 l1_0 x16_1).f2)) || (!(((rd_T108 l0_0 x16_1).f3) == ((rd_T108 l1_0 x16_1).f3)))))) = false := by simpa using c13
        clear c13
        have H' := Aside0.mk H
        clear H
        have hnb17 := NB357_358.out
        have hnc17 := NB358_357.out
        obtain ⟨hcz18_0, hfz18_0⟩ := bc1 BK357.out
        have p359 : 0 ≤ (x16_1 : Int) := of_decide_eq_true tA
        have q359 : x16_1 < (l0_0.length : Int) := of_decide_eq_true tA
        obtain ⟨ad359, e359, hx359_0, hx359_1, hx359_2, hx359_3⟩ := at_T108 HR0_0.out x16_1 p359 q359
        cases e359
        replace hx359_0 := hbc HB hx359_0
        replace hx359_1 := hbc HB hx359_1
        replace hx359_2 := hbc HB hx359_2
        replace hx359_3 := hbc HB hx359_3
        replace p359 := eq_true p359
        replace q359 := eq_true q359
        obtain ⟨hcz19_0, hfz19_0⟩ := bc1 BK358.out
        have p360 : 0 ≤ (x16_1 : Int) := of_decide_eq_true tA
        have q360 : x16_1 < (l1_0.length : Int) := of_decide_eq_true tA
        obtain ⟨ad360, e360, hx360_0, hx360_1, hx360_2, hx360_3⟩ := at_T108 HR1_0.out x16_1 p360 q360
        cases e360
        replace hx360_0 := hbc HB hx360_0
        replace hx360_1 := hbc HB hx360_1
        replace hx360_2 := hbc HB hx360_2
        replace hx360_3 := hbc HB hx360_3
        replace p360 := eq_true p360
        replace q360 := eq_true q360
        go_wp2
        repeat (go_quiet (fail); try go_wp2)
        go_roundg k1
        case measure => have := HK1.out; omega
        case rel => exact ⟨(wrap64 (x16_1 + 1)), tS, H', ⟨tI⟩, ⟨tK BK357⟩, ⟨tK BK358⟩, ⟨tB⟩⟩
       rw [if_neg c12] at H
       exact absurd H (by simp)
      rw [if_neg c11] at H
      exact absurd H (by simp)
     rw [if_neg c10] at H
     exact absurd H (by simp)
    rw [if_neg c9] at H
    have c9b0 : decide (x16_1 < (l0_0.length : Int)) = false := decide_eq_false c9
    clear c9
    obtain rfl := Option.some.inj H
    go_wp2
    repeat (go_quiet (fail); try go_wp2)
    go_ret
    exact ⟨tE, tB⟩
 rw [if_neg c3] at H
 have c3b0 : ((l0_0.length : Int) == (l1_0.length : Int)) = false := beq_eq_false_iff_ne.mpr c3
 have c3b1 : ((l0_0.length : Int) != (l1_0.length : Int)) = true := bne_iff_ne.mpr c3
 have c3b2 : (l0_0.length == l1_0.length) = false := by first | simpa using c3 | (simp at c3 ⊢; omega)
 obtain rfl := Option.some.inj H
 go_enter Try.func68, Try.ntmps68
 go_wp2_with (first | ((with_reducible refine gate_dst (N := 2) rfl ?_); refine box_event ?hg (N := 2) ?hd (cs := #[.slice A0_0 l0_0.length c0_0]) (t := 65) ?hr ?_; (case hd => rfl); (case hg => rfl); (case hr => exact tG); intro gb357 hg w20 hbox hb; have BK357 := Aside0.mk (hbox); have GW357 := gW HB hg; have GE357 := gW HB hg; replace HB := bH HB hb; clear hb hbox hg) | ((with_reducible refine gate_dst (N := 3) rfl ?_); refine box_event ?hg (N := 3) ?hd (cs := #[.slice A1_0 l1_0.length c1_0]) (t := 65) ?hr ?_; (case hd => rfl); (case hg => rfl); (case hr => exact tG); intro gb358 hg w21 hbox hb; have BK358 := Aside0.mk (hbox); have GW358 := gW HB hg; have GE358 := gW HB hg; replace HB := bH HB hb; have NB357_358 := nL BK357 hg; have NB358_357 := nR BK357 hg; replace BK357 := bB BK357 hb; clear hb hbox hg; have hnb22 := NB357_358.out; have hnc22 := NB358_357.out; obtain ⟨hcz23_0, hfz23_0⟩ := bc1 BK357.out; obtain ⟨hcz24_0, hfz24_0⟩ := bc1 BK358.out))
 repeat (go_quiet (first | ((with_reducible refine gate_dst (N := 2) rfl ?_); refine box_event ?hg (N := 2) ?hd (cs := #[.slice A0_0 l0_0.length c0_0]) (t := 65) ?hr ?_; (case hd => rfl); (case hg => rfl); (case hr => exact tG); intro gb357 hg w20 hbox hb; have BK357 := Aside0.mk (hbox); have GW357 := gW HB hg; have GE357 := gW HB hg; replace HB := bH HB hb; clear hb hbox hg) | ((with_reducible refine gate_dst (N := 3) rfl ?_); refine box_event ?hg (N := 3) ?hd (cs := #[.slice A1_0 l1_0.length c1_0]) (t := 65) ?hr ?_; (case hd => rfl); (case hg => rfl); (case hr => exact tG); intro gb358 hg w21 hbox hb; have BK358 := Aside0.mk (hbox); have GW358 := gW HB hg; have GE358 := gW HB hg; replace HB := bH HB hb; have NB357_358 := nL BK357 hg; have NB358_357 := nR BK357 hg; replace BK357 := bB BK357 hb; clear hb hbox hg; have hnb22 := NB357_358.out; have hnc22 := NB358_357.out; obtain ⟨hcz23_0, hfz23_0⟩ := bc1 BK357.out; obtain ⟨hcz24_0, hfz24_0⟩ := bc1 BK358.out)); try go_wp2_with (first | ((with_reducible refine gate_dst (N := 2) rfl ?_); refine box_event ?hg (N := 2) ?hd (cs := #[.slice A0_0 l0_0.length c0_0]) (t := 65) ?hr ?_; (case hd => rfl); (case hg => rfl); (case hr => exact tG); intro gb357 hg w20 hbox hb; have BK357 := Aside0.mk (hbox); have GW357 := gW HB hg; have GE357 := gW HB hg; replace HB := bH HB hb; clear hb hbox hg) | ((with_reducible refine gate_dst (N := 3) rfl ?_); refine box_event ?hg (N := 3) ?hd (cs := #[.slice A1_0 l1_0.length c1_0]) (t := 65) ?hr ?_; (case hd => rfl); (case hg => rfl); (case hr => exact tG); intro gb358 hg w21 hbox hb; have BK358 := Aside0.mk (hbox); have GW358 := gW HB hg; have GE358 := gW HB hg; replace HB := bH HB hb; have NB357_358 := nL BK357 hg; have NB358_357 := nR BK357 hg; replace BK357 := bB BK357 hb; clear hb hbox hg; have hnb22 := NB357_358.out; have hnc22 := NB358_357.out; obtain ⟨hcz23_0, hfz23_0⟩ := bc1 BK357.out; obtain ⟨hcz24_0, hfz24_0⟩ := bc1 BK358.out)))
 go_ret
 exact ⟨tE, tB⟩

/-! ### impl_LatestNotice: function 69 -/
def impl_LatestNotice.l0 : Nat → Int → Int → List (S108) → Option (Int × Int × Int × Bool × Bool)
 | 0, _, _, _ => none
 | k + 1, x1, x6, x362000 => if x6 ≥ 0 then (if 0 ≤ x6 then (if x6 < (x362000.length : Int) then (if ((rd_T108 x362000 x6).f1) = x1 then (some ((rd_T108 x362000 x6).f0, (rd_T108 x362000 x6).f1, (rd_T108 x362000 x6).f2, (rd_T108 x362000 x6).f3, true)) else (impl_LatestNotice.l0 k x1 (wrap64 (x6 - 1)) x362000)) else (none)) else (none)) else (some (0, 0, 0, false, false))
def impl_LatestNotice.f (k : Nat) (l0_0 : List (S108)) (a1 : Int) : Option (Int × Int × Int × Bool × Bool) := impl_LatestNotice.l0 k a1 (wrap64 ((l0_0.length : Int) - 1)) l0_0
theorem impl_LatestNotice.mono_l : ∀ k, (∀ y0 y1 y2, LeO (impl_LatestNotice.l0 k y0 y1 y2) (impl_LatestNotice.l0 (k + 1) y0 y1 y2))
 | 0 => fun _ _ _ r h => by simp [impl_LatestNotice.l0] at h
 | k + 1 => by
  have ih0 := impl_LatestNotice.mono_l k
  ·intro y0 y1 y2
   unfold impl_LatestNotice.l0
   repeat' first
   | (with_reducible exact ih0 _ _ _)
   | (with_reducible exact LeO.refl _)
   | (with_reducible exact LeO.none _)
   | (with_reducible refine LeO.ite ?_ ?_)
   | (with_reducible refine LeO.bind ?_ (fun _ => ?_))
   | exact ih0 _ _ _
   | exact LeO.none _
   | refine LeO.ite ?_ ?_
   | refine LeO.bind ?_ (fun _ => ?_)
theorem impl_LatestNotice.mono : ∀ a0 a1 k, LeO (impl_LatestNotice.f k a0 a1) (impl_LatestNotice.f (k + 1) a0 a1) := by
 intro a0 a1 k
 have ih0 := impl_LatestNotice.mono_l k
 unfold impl_LatestNotice.f
 repeat' first
   | (with_reducible exact ih0 _ _ _)
   | (with_reducible exact LeO.refl _)
   | (with_reducible exact LeO.none _)
   | (with_reducible refine LeO.ite ?_ ?_)
   | (with_reducible refine LeO.bind ?_ (fun _ => ?_))
   | exact ih0 _ _ _
   | exact LeO.none _
   | refine LeO.ite ?_ ?_
   | refine LeO.bind ?_ (fun _ => ?_)
set_option maxHeartbeats 8000000 in
set_option maxRecDepth 100000 in
theorem impl_LatestNotice.calls (k : Nat) (A0_0 : Option Addr) (c0_0 : Nat) (l0_0 : List (S108)) (a1 : Int) (r1 : Int) (r2 : Int) (r3 : Int) (r4 : Bool) (r5 : Bool) (w : World) (hr0_0 : Kd.C k108 w A0_0 l0_0.length l0_0) (hc0_0 : l0_0.length ≤ c0_0) (h : impl_LatestNotice.f k l0_0 a1 = some (r1, r2, r3, r4, r5)) :
  Calls Try.prog 69 #[.agg #[.slice A0_0 l0_0.length c0_0], .int .i64 a1] w fun e w' => e = .returned (.tuple #[.agg #[.int .i64 r1, .int .i64 r2, .int .i64 r3, .bool r4], .bool r5]) ∧ Below w.heap.size w w' := by
 have hu65 := Try.underlying65
 have hu108 := Try.underlying108
 have HR0_0 := Aside0.mk hr0_0
 have HC0_0 := Aside0.mk hc0_0
 clear hr0_0 hc0_0
 have HB := Aside0.mk (Below.refl w.heap.size w)
 have H : (impl_LatestNotice.l0 k a1 (wrap64 ((l0_0.length : Int) - 1)) l0_0) = some (r1, r2, r3, r4, r5) := h
 clear h
 have H' := Aside0.mk H
 clear H
 go_enter Try.func69, Try.ntmps69
 go_wp2_with (first | ((with_reducible refine gate_dst (N := 2) rfl ?_); refine box_event ?hg (N := 2) ?hd (cs := #[.slice A0_0 l0_0.length c0_0]) (t := 65) ?hr ?_; (case hd => rfl); (case hg => rfl); (case hr => exact tG); intro gb361 hg w3 hbox hb; have BK361 := Aside0.mk (hbox); have GW361 := gW HB hg; have GE361 := gW HB hg; replace HB := bH HB hb; clear hb hbox hg) | ((with_reducible refine gate_dst (N := 4) rfl ?_); refine box_event ?hg (N := 4) ?hd (cs := #[.int .i64 0, .int .i64 0, .int .i64 0, .bool false]) (t := 108) ?hr ?_; (case hd => rfl); (case hg => rfl); (case hr => exact tG); intro gb362 hg w4 hbox hb; have BK362 := Aside0.mk (hbox); have GW362 := gW HB hg; have GE362 := gW HB hg; replace HB := bH HB hb; have NB361_362 := nL BK361 hg; have NB362_361 := nR BK361 hg; replace BK361 := bB BK361 hb; clear hb hbox hg; have hnb5 := NB361_362.out; have hnc5 := NB362_361.out; obtain ⟨hcz6_0, hfz6_0⟩ := bc1 BK361.out))
 go_loopg [6] k (fun kq v6 w' => ∃ (x6_1 : Int) (x363000_1 : Int) (x363001_1 : Int) (x363002_1 : Int) (x363003_1 : Bool), v6 = .int .i64 x6_1 ∧ Aside0 (impl_LatestNotice.l0 kq a1 x6_1 l0_0 = some (r1, r2, r3, r4, r5)) ∧ Aside0 (kq ≤ k) ∧ Aside0 (w'.heap[gb361]? = some (.cells #[(.slice A0_0 l0_0.length c0_0)] 65 (0, 0))) ∧ Aside0 (w'.heap[gb362]? = some (.cells #[.int .i64 x363000_1, .int .i64 x363001_1, .int .i64 x363002_1, .bool x363003_1] 108 (0, 0))) ∧ Aside0 (Below w.heap.size w w'))
 case atStart => exact ⟨(wrap64 ((l0_0.length : Int) - 1)), (0), (0), (0), (false), tS, H', ⟨Nat.le_refl _⟩, ⟨tK BK361⟩, ⟨tK BK362⟩, ⟨tB⟩⟩
 case round =>
  clear H'
  try clear p2
  try clear c5
  try clear c6
  try clear p6
  try clear hcz6_0
  try clear hfz6_0
  obtain ⟨x6_1, x363000_1, x363001_1, x363002_1, x363003_1, rfl, HA, HK1, BK361, BK362, HB⟩ := hrel
  cases gk with
  | zero => exact absurd HA.out (by simp [impl_LatestNotice.l0])
  | succ k1 =>
   have H := HA.out
   clear HA
   simp only [impl_LatestNotice.l0] at H
   by_cases c7 : x6_1 ≥ 0
   ·rw [if_pos c7] at H
    have c7b0 : decide (0 ≤ x6_1) = true := decide_eq_true c7
    clear c7
    by_cases c8 : 0 ≤ x6_1
    ·rw [if_pos c8] at H
     have c8b0 : decide (0 ≤ x6_1) = true := decide_eq_true c8
     clear c8
     by_cases c9 : x6_1 < (l0_0.length : Int)
     ·rw [if_pos c9] at H
      have c9b0 : decide (x6_1 < (l0_0.length : Int)) = true := decide_eq_true c9
      clear c9
      by_cases c10 : ((rd_T108 l0_0 x6_1).f1) = a1
      ·rw [if_pos c10] at H
       have c10b0 : (((rd_T108 l0_0 x6_1).f1) == a1) = true := beq_iff_eq.mpr c10
       have c10b1 : (((rd_T108 l0_0 x6_1).f1) != a1) = false := bne_eq_false_iff_eq.mpr c10
       clear c10
       simp only [Option.some.injEq, Prod.mk.injEq] at H
       obtain ⟨rfl, rfl, rfl, rfl, rfl⟩ := H
       have hnb11 := NB361_362.out
       have hnc11 := NB362_361.out
       obtain ⟨hcz12_0, hfz12_0⟩ := bc1 BK361.out
       have p363 : 0 ≤ (x6_1 : Int) := of_decide_eq_true tA
       have q363 : x6_1 < (l0_0.length : Int) := of_decide_eq_true tA
       obtain ⟨ad363, e363, hx363_0, hx363_1, hx363_2, hx363_3⟩ := at_T108 HR0_0.out x6_1 p363 q363
       cases e363
       replace hx363_0 := hbc HB hx363_0
       replace hx363_1 := hbc HB hx363_1
       replace hx363_2 := hbc HB hx363_2
       replace hx363_3 := hbc HB hx363_3
       replace p363 := eq_true p363
       replace q363 := eq_true q363
       have p364 : 0 ≤ (x6_1 : Int) := of_decide_eq_true tA
       have q364 : x6_1 < (l0_0.length : Int) := of_decide_eq_true tA
       obtain ⟨ad364, e364, hx364_0, hx364_1, hx364_2, hx364_3⟩ := at_T108 HR0_0.out x6_1 p364 q364
       obtain rfl : ad363 = ad364 := (by injection e364)
       replace hx364_0 := hbc HB hx364_0
       replace hx364_1 := hbc HB hx364_1
       replace hx364_2 := hbc HB hx364_2
       replace hx364_3 := hbc HB hx364_3
       replace p364 := eq_true p364
       replace q364 := eq_true q364
       obtain ⟨hcz13_0, hcz13_1, hcz13_2, hcz13_3, hfz13_0, hfz13_1, hfz13_2, hfz13_3⟩ := bc4 BK362.out
       go_wp2
       refine bodyPost_ret (results_ct rfl _ _ gb362 108 #[.int .i64 ((rd_T108 l0_0 x6_1).f0), .int .i64 ((rd_T108 l0_0 x6_1).f1), .int .i64 ((rd_T108 l0_0 x6_1).f2), .bool ((rd_T108 l0_0 x6_1).f3)] (0, 0) _ rfl (by (with_reducible repeat (first | refine blk_drewN ?_ _ | refine blk_drew ?_ | refine blk_alloc ?_ _)); refine blk_put (cs := #[.int .i64 ((rd_T108 l0_0 x6_1).f0), .int .i64 ((rd_T108 l0_0 x6_1).f1), .int .i64 ((rd_T108 l0_0 x6_1).f2), .bool x363003_1]) ?_ 3 _ rfl; (with_reducible repeat (first | refine blk_drewN ?_ _ | refine blk_drew ?_ | refine blk_alloc ?_ _)); refine blk_put (cs := #[.int .i64 ((rd_T108 l0_0 x6_1).f0), .int .i64 ((rd_T108 l0_0 x6_1).f1), .int .i64 x363002_1, .bool x363003_1]) ?_ 2 _ rfl; (with_reducible repeat (first | refine blk_drewN ?_ _ | refine blk_drew ?_ | refine blk_alloc ?_ _)); refine blk_put (cs := #[.int .i64 ((rd_T108 l0_0 x6_1).f0), .int .i64 x363001_1, .int .i64 x363002_1, .bool x363003_1]) ?_ 1 _ rfl; (with_reducible repeat (first | refine blk_drewN ?_ _ | refine blk_drew ?_ | refine blk_alloc ?_ _)); refine blk_put (cs := #[.int .i64 x363000_1, .int .i64 x363001_1, .int .i64 x363002_1, .bool x363003_1]) ?_ 0 _ rfl; (with_reducible repeat (first | refine blk_drewN ?_ _ | refine blk_drew ?_ | refine blk_alloc ?_ _)); exact BK362.out) Try.underlying108 rfl (by kernel_rfl)) rfl ?_
       exact ⟨tE, tB⟩
      rw [if_neg c10] at H
      have c10b0 : (((rd_T108 l0_0 x6_1).f1) == a1) = false := beq_eq_false_iff_ne.mpr c10
      have c10b1 : (((rd_T108 l0_0 x6_1).f1) != a1) = true := bne_iff_ne.mpr c10
      have H' := Aside0.mk H
      clear H
      have hnb14 := NB361_362.out
      have hnc14 := NB362_361.out
      obtain ⟨hcz15_0, hfz15_0⟩ := bc1 BK361.out
      have p363 : 0 ≤ (x6_1 : Int) := of_decide_eq_true tA
      have q363 : x6_1 < (l0_0.length : Int) := of_decide_eq_true tA
      obtain ⟨ad363, e363, hx363_0, hx363_1, hx363_2, hx363_3⟩ := at_T108 HR0_0.out x6_1 p363 q363
      cases e363
      replace hx363_0 := hbc HB hx363_0
      replace hx363_1 := hbc HB hx363_1
      replace hx363_2 := hbc HB hx363_2
      replace hx363_3 := hbc HB hx363_3
      replace p363 := eq_true p363
      replace q363 := eq_true q363
      go_wp2
      go_roundg k1
      case measure => have := HK1.out; omega
      case rel => exact ⟨(wrap64 (x6_1 - 1)), (x363000_1), (x363001_1), (x363002_1), (x363003_1), tS, H', ⟨tI⟩, ⟨tK BK361⟩, ⟨tK BK362⟩, ⟨tB⟩⟩
     rw [if_neg c9] at H
     exact absurd H (by simp)
    rw [if_neg c8] at H
    exact absurd H (by simp)
   rw [if_neg c7] at H
   have c7b0 : decide (0 ≤ x6_1) = false := decide_eq_false c7
   clear c7
   simp only [Option.some.injEq, Prod.mk.injEq] at H
   obtain ⟨rfl, rfl, rfl, rfl, rfl⟩ := H
   have hnb16 := NB362_361.out
   have hnc16 := NB361_362.out
   obtain ⟨hcz17_0, hcz17_1, hcz17_2, hcz17_3, hfz17_0, hfz17_1, hfz17_2, hfz17_3⟩ := bc4 BK362.out
   go_wp2
   refine bodyPost_ret (results_ct rfl _ _ gb362 108 #[.int .i64 0, .int .i64 0, .int .i64 0, .bool false] (0, 0) _ rfl (by (with_reducible repeat (first | refine blk_drewN ?_ _ | refine blk_drew ?_ | refine blk_alloc ?_ _)); refine blk_put (cs := #[.int .i64 0, .int .i64 0, .int .i64 0, .bool x363003_1]) ?_ 3 _ rfl; (with_reducible repeat (first | refine blk_drewN ?_ _ | refine blk_drew ?_ | refine blk_alloc ?_ _)); refine blk_put (cs := #[.int .i64 0, .int .i64 0, .int .i64 x363002_1, .bool x363003_1]) ?_ 2 _ rfl; (with_reducible repeat (first | refine blk_drewN ?_ _ | refine blk_drew ?_ | refine blk_alloc ?_ _)); refine blk_put (cs := #[.int .i64 0, .int .i64 x363001_1, .int .i64 x363002_1, .bool x363003_1]) ?_ 1 _ rfl; (with_reducible repeat (first | refine blk_drewN ?_ _ | refine blk_drew ?_ | refine blk_alloc ?_ _)); refine blk_put (cs := #[.int .i64 x363000_1, .int .i64 x363001_1, .int .i64 x363002_1, .bool x363003_1]) ?_ 0 _ rfl; (with_reducible repeat (first | refine blk_drewN ?_ _ | refine blk_drew ?_ | refine blk_alloc ?_ _)); exact BK362.out) Try.underlying108 rfl (by kernel_rfl)) rfl ?_
   exact ⟨tE, tB⟩

/-! ### impl_UnseenOf: function 70 -/
def impl_UnseenOf.l0 : Nat → Int → Int → List (S108) → Int → Int → Option (Int)
 | 0, _, _, _, _, _ => none
 | k + 1, x1, x5, x9, x10, x11 => if x11 < x10 then (if 0 ≤ x11 then (if x11 < (x9.length : Int) then (if ((rd_T108 x9 x11).f0) = x1 then (if ((rd_T108 x9 x11).f3 = true) then (impl_UnseenOf.l0 k x1 x5 x9 x10 (wrap64 (x11 + 1))) else (impl_UnseenOf.l0 k x1 (wrap64 (x5 + 1)) x9 x10 (wrap64 (x11 + 1)))) else (impl_UnseenOf.l0 k x1 x5 x9 x10 (wrap64 (x11 + 1)))) else (none)) else (none)) else (some x5)
def impl_UnseenOf.f (k : Nat) (l0_0 : List (S108)) (a1 : Int) : Option (Int) := impl_UnseenOf.l0 k a1 0 l0_0 (l0_0.length : Int) 0
theorem impl_UnseenOf.mono_l : ∀ k, (∀ y0 y1 y2 y3 y4, LeO (impl_UnseenOf.l0 k y0 y1 y2 y3 y4) (impl_UnseenOf.l0 (k + 1) y0 y1 y2 y3 y4))
 | 0 => fun _ _ _ _ _ r h => by simp [impl_UnseenOf.l0] at h
 | k + 1 => by
  have ih0 := impl_UnseenOf.mono_l k
  ·intro y0 y1 y2 y3 y4
   unfold impl_UnseenOf.l0
   repeat' first
   | (with_reducible exact ih0 _ _ _ _ _)
   | (with_reducible exact LeO.refl _)
   | (with_reducible exact LeO.none _)
   | (with_reducible refine LeO.ite ?_ ?_)
   | (with_reducible refine LeO.bind ?_ (fun _ => ?_))
   | exact ih0 _ _ _ _ _
   | exact LeO.none _
   | refine LeO.ite ?_ ?_
   | refine LeO.bind ?_ (fun _ => ?_)
theorem impl_UnseenOf.mono : ∀ a0 a1 k, LeO (impl_UnseenOf.f k a0 a1) (impl_UnseenOf.f (k + 1) a0 a1) := by
 intro a0 a1 k
 have ih0 := impl_UnseenOf.mono_l k
 unfold impl_UnseenOf.f
 repeat' first
   | (with_reducible exact ih0 _ _ _ _ _)
   | (with_reducible exact LeO.refl _)
   | (with_reducible exact LeO.none _)
   | (with_reducible refine LeO.ite ?_ ?_)
   | (with_reducible refine LeO.bind ?_ (fun _ => ?_))
   | exact ih0 _ _ _ _ _
   | exact LeO.none _
   | refine LeO.ite ?_ ?_
   | refine LeO.bind ?_ (fun _ => ?_)
set_option maxHeartbeats 8000000 in
set_option maxRecDepth 100000 in
theorem impl_UnseenOf.calls (k : Nat) (A0_0 : Option Addr) (c0_0 : Nat) (l0_0 : List (S108)) (a1 : Int) (r : Int) (w : World) (hr0_0 : Kd.C k108 w A0_0 l0_0.length l0_0) (hc0_0 : l0_0.length ≤ c0_0) (h : impl_UnseenOf.f k l0_0 a1 = some r) :
  Calls Try.prog 70 #[.agg #[.slice A0_0 l0_0.length c0_0], .int .i64 a1] w fun e w' => e = .returned (.int .i64 r) ∧ Below w.heap.size w w' := by
 have hu65 := Try.underlying65
 have hu108 := Try.underlying108
 have HR0_0 := Aside0.mk hr0_0
 have HC0_0 := Aside0.mk hc0_0
 clear hr0_0 hc0_0
 have HB := Aside0.mk (Below.refl w.heap.size w)
 have H : (impl_UnseenOf.l0 k a1 0 l0_0 (l0_0.length : Int) 0) = some r := h
 clear h
 have H' := Aside0.mk H
 clear H
 go_enter Try.func70, Try.ntmps70
 go_wp2_with (first | ((with_reducible refine gate_dst (N := 2) rfl ?_); refine box_event ?hg (N := 2) ?hd (cs := #[.slice A0_0 l0_0.length c0_0]) (t := 65) ?hr ?_; (case hd => rfl); (case hg => rfl); (case hr => exact tG); intro gb365 hg w3 hbox hb; have BK365 := Aside0.mk (hbox); have GW365 := gW HB hg; have GE365 := gW HB hg; replace HB := bH HB hb; clear hb hbox hg; obtain ⟨hcz4_0, hfz4_0⟩ := bc1 BK365.out))
 go_loopg [5, 11] k (fun kq v5 v11 w' => ∃ (x5_1 : Int) (x11_1 : Int), v5 = .int .i64 x5_1 ∧ v11 = .int .i64 x11_1 ∧ Aside0 (impl_UnseenOf.l0 kq a1 x5_1 l0_0 (l0_0.length : Int) x11_1 = some r) ∧ Aside0 (kq ≤ k) ∧ Aside0 (w'.heap[gb365]? = some (.cells #[(.slice A0_0 l0_0.length c0_0)] 65 (0, 0))) ∧ Aside0 (Below w.heap.size w w'))
 case atStart => exact ⟨(0), (0), tS, tS, H', ⟨Nat.le_refl _⟩, ⟨tK BK365⟩, ⟨tB⟩⟩
 case round =>
  clear H'
  try clear p2
  try clear hcz4_0
  try clear hfz4_0
  obtain ⟨x5_1, x11_1, rfl, rfl, HA, HK1, BK365, HB⟩ := hrel
  cases gk with
  | zero => exact absurd HA.out (by simp [impl_UnseenOf.l0])
  | succ k1 =>
   have H := HA.out
   clear HA
   simp only [impl_UnseenOf.l0] at H
   by_cases c5 : x11_1 < (l0_0.length : Int)
   ·rw [if_pos c5] at H
    have c5b0 : decide (x11_1 < (l0_0.length : Int)) = true := decide_eq_true c5
    clear c5
    by_cases c6 : 0 ≤ x11_1
    ·rw [if_pos c6] at H
     have c6b0 : decide (0 ≤ x11_1) = true := decide_eq_true c6
     clear c6
     by_cases c7 : x11_1 < (l0_0.length : Int)
     ·rw [if_pos c7] at H
      have c7b0 : decide (x11_1 < (l0_0.length : Int)) = true := decide_eq_true c7
      clear c7
      by_cases c8 : ((rd_T108 l0_0 x11_1).f0) = a1
      ·rw [if_pos c8] at H
       have c8b0 : (((rd_T108 l0_0 x11_1).f0) == a1) = true := beq_iff_eq.mpr c8
       have c8b1 : (((rd_T108 l0_0 x11_1).f0) != a1) = false := bne_eq_false_iff_eq.mpr c8
       clear c8
       obtain ⟨bq9, hbq9⟩ : ∃ b_ : Bool, b_ = ((rd_T108 l0_0 x11_1).f3) := ⟨_, rfl⟩
       replace H : (if (bq9 = true) then (impl_UnseenOf.l0 k1 a1 x5_1 l0_0 (l0_0.length : Int) (wrap64 (x11_1 + 1))) else (impl_UnseenOf.l0 k1 a1 (wrap64 (x5_1 + 1)) l0_0 (l0_0.length : Int) (wrap64 (x11_1 + 1)))) = some r := by rw [← hbq9] at H; exact H
       have Nbq9 := Aside0.mk hbq9
       clear hbq9
       by_cases c10 : (bq9 = true)
       ·subst c10
        have H1 : (impl_UnseenOf.l0 k1 a1 x5_1 l0_0 (l0_0.length : Int) (wrap64 (x11_1 + 1))) = some r := by rw [if_pos rfl] at H; exact H
        clear H
        have H := H1
        clear H1
        have H' := Aside0.mk H
        clear H
        have p366 : 0 ≤ (x11_1 : Int) := of_decide_eq_true tA
        have q366 : x11_1 < (l0_0.length : Int) := of_decide_eq_true tA
        obtain ⟨ad366, e366, hx366_0, hx366_1, hx366_2, hx366_3⟩ := at_T108 HR0_0.out x11_1 p366 q366
        (try rw [← Nbq9.out] at hx366_3)
        cases e366
        replace hx366_0 := hbc HB hx366_0
        replace hx366_1 := hbc HB hx366_1
        replace hx366_2 := hbc HB hx366_2
        replace hx366_3 := hbc HB hx366_3
        replace p366 := eq_true p366
        replace q366 := eq_true q366
        go_wp2_with (first | ((with_reducible refine gate_dst (N := 7) rfl ?_); refine box_event ?hg (N := 7) ?hd (cs := #[.int .i64 0, .int .i64 0, .int .i64 0, .bool false]) (t := 108) ?hr ?_; (case hd => rfl); (case hg => rfl); (case hr => exact tG); intro gb367 hg w11 hbox hb; have BK367 := Aside0.mk (hbox); have GW367 := gW HB hg; have GE367 := gW HB hg; replace HB := bH HB hb; have NB365_367 := nL BK365 hg; have NB367_365 := nR BK365 hg; replace BK365 := bB BK365 hb; clear hb hbox hg; have hnb12 := NB367_365.out; have hnc12 := NB365_367.out; obtain ⟨hcz13_0, hcz13_1, hcz13_2, hcz13_3, hfz13_0, hfz13_1, hfz13_2, hfz13_3⟩ := bc4 BK367.out))
        go_roundg k1
        case measure => have := HK1.out; omega
        case rel => exact ⟨(x5_1), (wrap64 (x11_1 + 1)), tS, tS, H', ⟨tI⟩, ⟨kF NB365_367 BK365⟩, ⟨tB⟩⟩
       replace c10 := Bool.eq_false_iff.mpr c10
       subst c10
       have H1 : (impl_UnseenOf.l0 k1 a1 (wrap64 (x5_1 + 1)) l0_0 (l0_0.length : Int) (wrap64 (x11_1 + 1))) = some r := by rw [if_neg (show ¬ (false = true) by decide)] at H; exact H
       clear H
       have H := H1
       clear H1
       have H' := Aside0.mk H
       clear H
       have p366 : 0 ≤ (x11_1 : Int) := of_decide_eq_true tA
       have q366 : x11_1 < (l0_0.length : Int) := of_decide_eq_true tA
       obtain ⟨ad366, e366, hx366_0, hx366_1, hx366_2, hx366_3⟩ := at_T108 HR0_0.out x11_1 p366 q366
       (try rw [← Nbq9.out] at hx366_3)
       cases e366
       replace hx366_0 := hbc HB hx366_0
       replace hx366_1 := hbc HB hx366_1
       replace hx366_2 := hbc HB hx366_2
       replace hx366_3 := hbc HB hx366_3
       replace p366 := eq_true p366
       replace q366 := eq_true q366
       go_wp2_with (first | ((with_reducible refine gate_dst (N := 7) rfl ?_); refine box_event ?hg (N := 7) ?hd (cs := #[.int .i64 0, .int .i64 0, .int .i64 0, .bool false]) (t := 108) ?hr ?_; (case hd => rfl); (case hg => rfl); (case hr => exact tG); intro gb367 hg w14 hbox hb; have BK367 := Aside0.mk (hbox); have GW367 := gW HB hg; have GE367 := gW HB hg; replace HB := bH HB hb; have NB365_367 := nL BK365 hg; have NB367_365 := nR BK365 hg; replace BK365 := bB BK365 hb; clear hb hbox hg; have hnb15 := NB367_365.out; have hnc15 := NB365_367.out; obtain ⟨hcz16_0, hcz16_1, hcz16_2, hcz16_3, hfz16_0, hfz16_1, hfz16_2, hfz16_3⟩ := bc4 BK367.out))
       go_roundg k1
       case measure => have := HK1.out; omega
       case rel => exact ⟨(wrap64 (x5_1 + 1)), (wrap64 (x11_1 + 1)), tS, tS, H', ⟨tI⟩, ⟨kF NB365_367 BK365⟩, ⟨tB⟩⟩
      rw [if_neg c8] at H
      have c8b0 : (((rd_T108 l0_0 x11_1).f0) == a1) = false := beq_eq_false_iff_ne.mpr c8
      have c8b1 : (((rd_T108 l0_0 x11_1).f0) != a1) = true := bne_iff_ne.mpr c8
      have H' := Aside0.mk H
      clear H
      have p366 : 0 ≤ (x11_1 : Int) := of_decide_eq_true tA
      have q366 : x11_1 < (l0_0.length : Int) := of_decide_eq_true tA
      obtain ⟨ad366, e366, hx366_0, hx366_1, hx366_2, hx366_3⟩ := at_T108 HR0_0.out x11_1 p366 q366
      cases e366
      replace hx366_0 := hbc HB hx366_0
      replace hx366_1 := hbc HB hx366_1
      replace hx366_2 := hbc HB hx366_2
      replace hx366_3 := hbc HB hx366_3
      replace p366 := eq_true p366
      replace q366 := eq_true q366
      go_wp2_with (first | ((with_reducible refine gate_dst (N := 7) rfl ?_); refine box_event ?hg (N := 7) ?hd (cs := #[.int .i64 0, .int .i64 0, .int .i64 0, .bool false]) (t := 108) ?hr ?_; (case hd => rfl); (case hg => rfl); (case hr => exact tG); intro gb367 hg w17 hbox hb; have BK367 := Aside0.mk (hbox); have GW367 := gW HB hg; have GE367 := gW HB hg; replace HB := bH HB hb; have NB365_367 := nL BK365 hg; have NB367_365 := nR BK365 hg; replace BK365 := bB BK365 hb; clear hb hbox hg; have hnb18 := NB367_365.out; have hnc18 := NB365_367.out; obtain ⟨hcz19_0, hcz19_1, hcz19_2, hcz19_3, hfz19_0, hfz19_1, hfz19_2, hfz19_3⟩ := bc4 BK367.out))
      go_roundg k1
      case measure => have := HK1.out; omega
      case rel => exact ⟨(x5_1), (wrap64 (x11_1 + 1)), tS, tS, H', ⟨tI⟩, ⟨kF NB365_367 BK365⟩, ⟨tB⟩⟩
     rw [if_neg c7] at H
     exact absurd H (by simp)
    rw [if_neg c6] at H
    exact absurd H (by simp)
   rw [if_neg c5] at H
   have c5b0 : decide (x11_1 < (l0_0.length : Int)) = false := decide_eq_false c5
   clear c5
   obtain rfl := Option.some.inj H
   go_wp2
   go_ret
   exact ⟨tE, tB⟩

/-! ### spec_Min: function 72 -/
def spec_Min.f (a0 : Int) (a1 : Int) : Option (Int) := if a1 < a0 then (some a1) else (some a0)
set_option maxHeartbeats 8000000 in
set_option maxRecDepth 100000 in
theorem spec_Min.calls (a0 : Int) (a1 : Int) (r : Int) (w : World) (h : spec_Min.f a0 a1 = some r) :
  Calls Try.prog 72 #[.int .i64 a0, .int .i64 a1] w fun e w' => e = .returned (.int .i64 r) ∧ Drawn0 w w' := by
 have H : (if a1 < a0 then (some a1) else (some a0)) = some r := h
 clear h
 by_cases c3 : a1 < a0
 ·rw [if_pos c3] at H
  have c3b0 : decide (a1 < a0) = true := decide_eq_true c3
  clear c3
  obtain rfl := Option.some.inj H
  go_enter Try.func72, Try.ntmps72
  go_wp2
  go_ret
  exact ⟨tS, by repeat (first | exact Drawn0.refl _ | apply Drawn0.step)⟩
 rw [if_neg c3] at H
 have c3b0 : decide (a1 < a0) = false := decide_eq_false c3
 clear c3
 obtain rfl := Option.some.inj H
 go_enter Try.func72, Try.ntmps72
 go_wp2
 go_ret
 exact ⟨tS, by repeat (first | exact Drawn0.refl _ | apply Drawn0.step)⟩

/-! ### impl_NoticeName: function 73 -/
def impl_NoticeName.f (a0 : Int) : Option (ByteArray) := (impl_InRange.f a0 1 5).bind fun t368 => (if t368 = true then ((some (([(⟨#[108, 111, 103, 105, 110]⟩ : ByteArray), (⟨#[100, 101, 118, 105, 99, 101]⟩ : ByteArray), (⟨#[99, 108, 97, 105, 109]⟩ : ByteArray), (⟨#[99, 117, 116]⟩ : ByteArray), (⟨#[114, 101, 99, 111, 118, 101, 114, 121]⟩ : ByteArray)] : List ByteArray) : List ByteArray)).bind fun y369 => (if 0 ≤ (wrap64 (a0 - 1)) then (if (wrap64 (a0 - 1)) < (y369.length : Int) then (some (rdOf ByteArray.empty y369 (wrap64 (a0 - 1)))) else (none)) else (none))) else (some (⟨#[]⟩ : ByteArray)))
set_option maxHeartbeats 8000000 in
set_option maxRecDepth 100000 in
theorem impl_NoticeName.calls (a0 : Int) (r : ByteArray) (w : World) (h : impl_NoticeName.f a0 = some r) :
  Calls Try.prog 73 #[.int .i64 a0] w fun e w' => e = .returned (.string r) ∧ Below w.heap.size w w' := by
 have HB := Aside0.mk (Below.refl w.heap.size w)
 have H : ((impl_InRange.f a0 1 5).bind fun t368 => (if t368 = true then ((some (([(⟨#[108, 111, 103, 105, 110]⟩ : ByteArray), (⟨#[100, 101, 118, 105, 99, 101]⟩ : ByteArray), (⟨#[99, 108, 97, 105, 109]⟩ : ByteArray), (⟨#[99, 117, 116]⟩ : ByteArray), (⟨#[114, 101, 99, 111, 118, 101, 114, 121]⟩ : ByteArray)] : List ByteArray) : List ByteArray)).bind fun y369 => (if 0 ≤ (wrap64 (a0 - 1)) then (if (wrap64 (a0 - 1)) < (y369.length : Int) then (some (rdOf ByteArray.empty y369 (wrap64 (a0 - 1)))) else (none)) else (none))) else (some (⟨#[]⟩ : ByteArray)))) = some r := h
 clear h
 replace H := Option.bind_eq_some_iff.mp H
 obtain ⟨t368, A20, H⟩ := H
 try dsimp only at H
 have A2 := Aside0.mk A20
 clear A20
 by_cases c3 : t368 = true
 ·subst c3
  have H1 : ((some (([(⟨#[108, 111, 103, 105, 110]⟩ : ByteArray), (⟨#[100, 101, 118, 105, 99, 101]⟩ : ByteArray), (⟨#[99, 108, 97, 105, 109]⟩ : ByteArray), (⟨#[99, 117, 116]⟩ : ByteArray), (⟨#[114, 101, 99, 111, 118, 101, 114, 121]⟩ : ByteArray)] : List ByteArray) : List ByteArray)).bind fun y369 => (if 0 ≤ (wrap64 (a0 - 1)) then (if (wrap64 (a0 - 1)) < (y369.length : Int) then (some (rdOf ByteArray.empty y369 (wrap64 (a0 - 1)))) else (none)) else (none))) = some r := by rw [if_pos rfl] at H; exact H
  clear H
  have H := H1
  clear H1
  obtain ⟨y369, hy369⟩ : ∃ y_ : List ByteArray, y_ = (([(⟨#[108, 111, 103, 105, 110]⟩ : ByteArray), (⟨#[100, 101, 118, 105, 99, 101]⟩ : ByteArray), (⟨#[99, 108, 97, 105, 109]⟩ : ByteArray), (⟨#[99, 117, 116]⟩ : ByteArray), (⟨#[114, 101, 99, 111, 118, 101, 114, 121]⟩ : ByteArray)] : List ByteArray)) := ⟨_, rfl⟩
  replace H : (if 0 ≤ (wrap64 (a0 - 1)) then (if (wrap64 (a0 - 1)) < (y369.length : Int) then (some (rdOf ByteArray.empty y369 (wrap64 (a0 - 1)))) else (none)) else (none)) = some r := by first | (rw [hy369]; with_reducible exact H) | (have H2_ := (Option.bind_some _ _).symm.trans H; rw [hy369]; with_reducible exact H2_) | (have H2_ := (Option.bind_some _ _).symm.trans H; with_reducible exact H2_) | with_reducible exact H | (rw [hy369]; exact H) | exact H
  have Ny369 := Aside0.mk hy369
  clear hy369
  obtain ⟨ji4, hji4⟩ : ∃ j_ : Int, (wrap64 (a0 - 1)) = j_ := ⟨_, rfl⟩
  replace H : (if 0 ≤ (ji4) then (if (ji4) < (y369.length : Int) then (some (rdOf ByteArray.empty y369 (ji4))) else (none)) else (none)) = some r := by first | (rw [hji4] at H; exact H) | (simp only [hji4] at H ⊢; exact H)
  (try rw [hji4] at A2)
  have hji4w : (IntKind.i64.wrap (a0 - 1)) = ji4 := (i64_w _).trans hji4
  by_cases c5 : 0 ≤ (ji4)
  ·rw [if_pos c5] at H
   have c5b0 : decide (0 ≤ (ji4)) = true := decide_eq_true c5
   clear c5
   by_cases c6 : (ji4) < (y369.length : Int)
   ·rw [if_pos c6] at H
    have c6b0 : decide ((ji4) < (y369.length : Int)) = true := decide_eq_true c6
    clear c6
    obtain rfl := Option.some.inj H
    go_enter Try.func73, Try.ntmps73
    go_wp2_with (first | ((with_reducible refine gate_callee (f := 81) rfl ?_); refine goesL_ (some 4) rfl rfl Try.func81 (by kernel_rfl) rfl #[.int .i64 a0, .int .i64 1, .int .i64 5] rfl tL ?_; (with_reducible refine (impl_InRange.calls a0 1 5 true _ A2.out).mono ?_); rintro e w' ⟨rfl, ⟨nd, rfl⟩⟩; refine ⟨_, rfl, ?_⟩) | ((with_reducible refine gate_dst (N := 6) rfl ?_); refine Kd.R_lit Kd.string _ 9 ?hg (N := 6) ?hd (xs := ([(⟨#[108, 111, 103, 105, 110]⟩ : ByteArray), (⟨#[100, 101, 118, 105, 99, 101]⟩ : ByteArray), (⟨#[99, 108, 97, 105, 109]⟩ : ByteArray), (⟨#[99, 117, 116]⟩ : ByteArray), (⟨#[114, 101, 99, 111, 118, 101, 114, 121]⟩ : ByteArray)] : List ByteArray)) (inner := [.string (⟨#[108, 111, 103, 105, 110]⟩ : ByteArray), .string (⟨#[100, 101, 118, 105, 99, 101]⟩ : ByteArray), .string (⟨#[99, 108, 97, 105, 109]⟩ : ByteArray), .string (⟨#[99, 117, 116]⟩ : ByteArray), .string (⟨#[114, 101, 99, 111, 118, 101, 114, 121]⟩ : ByteArray)]) (ok := fun _ => True) (okp := fun _ => True) ?hr ?hp (fun _ hk => hk) trivial (Below.refl _ _) (Nat.le_refl _) (by simp) ?_; (case hd => rfl); (case hg => rfl); (case hr => exact tG); (case hp => exact (Reps.one (show Kd.M Kd.string _ _ _ (⟨#[108, 111, 103, 105, 110]⟩ : ByteArray) [.string (⟨#[108, 111, 103, 105, 110]⟩ : ByteArray)] from rfl) (Reps.one (show Kd.M Kd.string _ _ _ (⟨#[100, 101, 118, 105, 99, 101]⟩ : ByteArray) [.string (⟨#[100, 101, 118, 105, 99, 101]⟩ : ByteArray)] from rfl) (Reps.one (show Kd.M Kd.string _ _ _ (⟨#[99, 108, 97, 105, 109]⟩ : ByteArray) [.string (⟨#[99, 108, 97, 105, 109]⟩ : ByteArray)] from rfl) (Reps.one (show Kd.M Kd.string _ _ _ (⟨#[99, 117, 116]⟩ : ByteArray) [.string (⟨#[99, 117, 116]⟩ : ByteArray)] from rfl) (Reps.one (show Kd.M Kd.string _ _ _ (⟨#[114, 101, 99, 111, 118, 101, 114, 121]⟩ : ByteArray) [.string (⟨#[114, 101, 99, 111, 118, 101, 114, 121]⟩ : ByteArray)] from rfl) (Reps.none _ _))))))); intro v370 w7 ho8 hb hg_ hnew_; clear hg_ hnew_; (first | rw [← Ny369.out] at ho8 | (simp only [Int.reduceToNat] at ho8; rw [← Ny369.out] at ho8)); have HO371 := Aside0.mk (Kd.R_lower ho8 (below_size tB)); replace HB := bH HB hb; clear hb ho8; obtain ⟨Ao9, co9, eo9⟩ := Kd.R_slice HO371.out; subst eo9; have p372 : 0 ≤ ((ji4) : Int) := of_decide_eq_true tA; have q372 : (ji4) < (y369.length : Int) := of_decide_eq_true tA; obtain ⟨ad372, e372, hx372_0⟩ := Kd.at_string (Kd.R_reads' HO371.out).2.2 (ji4) p372 q372; cases e372; replace p372 := eq_true p372; replace q372 := eq_true q372))
    go_ret
    exact ⟨by first | rfl | (simp [errW_none, errW_some] <;> rfl) | (simp only [← hji4]; first | rfl | (simp [errW_none, errW_some] <;> rfl)) | (simp [*, errW_none, errW_some] <;> rfl), tB⟩
   rw [if_neg c6] at H
   exact absurd H (by simp)
  rw [if_neg c5] at H
  exact absurd H (by simp)
 replace c3 := Bool.eq_false_iff.mpr c3
 subst c3
 have H1 : (some (⟨#[]⟩ : ByteArray)) = some r := by rw [if_neg (show ¬ (false = true) by decide)] at H; exact H
 clear H
 have H := H1
 clear H1
 obtain rfl := Option.some.inj H
 go_enter Try.func73, Try.ntmps73
 go_wp2_with (first | ((with_reducible refine gate_callee (f := 81) rfl ?_); refine goesL_ (some 4) rfl rfl Try.func81 (by kernel_rfl) rfl #[.int .i64 a0, .int .i64 1, .int .i64 5] rfl tL ?_; (with_reducible refine (impl_InRange.calls a0 1 5 false _ A2.out).mono ?_); rintro e w' ⟨rfl, ⟨nd, rfl⟩⟩; refine ⟨_, rfl, ?_⟩))
 go_ret
 exact ⟨tE, tB⟩

end Go.Proofs.Ytanoaneoanpkkaa.ZFnNotices
