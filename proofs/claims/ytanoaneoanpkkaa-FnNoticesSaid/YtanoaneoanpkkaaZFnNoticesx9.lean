/- The machine side: for each Go function a Lean function and the contract that the Go code answers as it does; printed by program (wip/tmpl/pprint.sh). -/
import Derived.Test.YtanoaneoanpkkaaZFnNoticesx0
import Derived.Test.YtanoaneoanpkkaaZFnNoticesx2
import Derived.Test.YtanoaneoanpkkaaZFnNoticesx3
import Derived.Test.YtanoaneoanpkkaaZFnNoticesx4
import Derived.Test.YtanoaneoanpkkaaZFnNoticesx5
import Derived.Test.YtanoaneoanpkkaaZFnNoticesx8
namespace Go.Proofs.Ytanoaneoanpkkaa.ZFnNotices
open Go.RowKit Go.Proofs.YtanoaneoanpkkaaW.PrintWords Go.Proofs.YtanoaneoanpkkaaW.PrintLast Go.Proofs.YtanoaneoanpkkaaW.PrintMore
attribute [local go_sem] max2_int min2_int max_two min_two max_three min_three max_four min_four   -- for this text's walks alone
set_option linter.unusedVariables false
set_option linter.unusedSimpArgs false

/-! ### laws_FnNotices: function 12 -/
def laws_FnNotices.l0 : Nat → Int → Int → Bool → Int → Int → List (S108) → List (S108) → List (S108) → List (S108) → Int → Int → Int → Bool → List (S108) → Option (Bool)
 | 0, _, _, _, _, _, _, _, _, _, _, _, _, _, _ => none
 | k + 1, x4, x6, x12, x17, x18, x62, x67, x381000, x386000, x397000, x397001, x397002, x397003, x404000 => if x18 ≤ 5 then ((impl_UnseenOf.f k x386000 x18).bind fun t411 => (laws_FnNotices.l0 k x4 x6 x12 (wrap64 (x17 + t411)) (wrap64 (x18 + 1)) x62 x67 x381000 x386000 x397000 x397001 x397002 x397003 x404000)) else (if x12 = true then (if x397000 = x4 then (if x397002 = x6 then (if x397003 = true then (some false) else (if (x62.length : Int) = x17 then (if (x67.length : Int) = 0 then ((impl_UnseenOf.f k x404000 x4).bind fun t412 => (if t412 = 0 then ((impl_IsValidMailbox.f k x404000).bind fun t413 => (if t413 = true then ((spec_Min.f 30 (wrap64 ((x381000.length : Int) + 1))).bind fun t414 => (if (x386000.length : Int) = t414 then ((impl_NoticeName.f x4).bind fun t415 => (some (t415.toList != ([] : List UInt8)))) else (some false))) else (some false))) else (some false))) else (some false)) else (some false))) else (some false)) else (some false)) else (some false))
def laws_FnNotices.f (k : Nat) (l0 : List Int) : Option (Bool) := (laws_big.f l0).bind fun t373 => (if t373 = true then (some true) else ((spec_DrawSendNotice.f k l0).bind fun bt374 => ((impl_SendNotice.f k bt374.1 bt374.2.1 bt374.2.2.1 bt374.2.2.2).bind fun bt381 => ((spec_SendNotice.f k bt374.1 bt374.2.1 bt374.2.2.1 bt374.2.2.2).bind fun bt386 => (if (bt381.2 != bt386.2) = true then (some false) else (if bt381.2 = true then ((impl_LatestNotice.f k bt381.1 bt374.2.2.1).bind fun bt391 => ((impl_ReadNotices.f k bt381.1).bind fun bt397 => ((impl_ReadNotices.f k bt397.1).bind fun bt404 => (laws_FnNotices.l0 k bt374.2.1 bt374.2.2.2 bt391.2.2.2.2 0 1 bt397.2 bt404.2 bt374.1 bt381.1 bt391.1 bt391.2.1 bt391.2.2.1 bt391.2.2.2.1 bt397.1)))) else ((impl_EqualMailboxes.f k bt381.1 bt374.1).bind fun t416 => (some t416))))))))
theorem laws_FnNotices.mono_l : ∀ k, (∀ y0 y1 y2 y3 y4 y5 y6 y7 y8 y9 y10 y11 y12 y13, LeO (laws_FnNotices.l0 k y0 y1 y2 y3 y4 y5 y6 y7 y8 y9 y10 y11 y12 y13) (laws_FnNotices.l0 (k + 1) y0 y1 y2 y3 y4 y5 y6 y7 y8 y9 y10 y11 y12 y13))
 | 0 => fun _ _ _ _ _ _ _ _ _ _ _ _ _ _ r h => by simp [laws_FnNotices.l0] at h
 | k + 1 => by
  have ih0 := laws_FnNotices.mono_l k
  ·intro y0 y1 y2 y3 y4 y5 y6 y7 y8 y9 y10 y11 y12 y13
   unfold laws_FnNotices.l0
   repeat' first
   | (with_reducible exact ih0 _ _ _ _ _ _ _ _ _ _ _ _ _ _)
   | (with_reducible exact impl_EqualMailboxes.mono _ _ _)
   | (with_reducible exact impl_IsValidMailbox.mono _ _)
   | (with_reducible exact impl_LatestNotice.mono _ _ _)
   | (with_reducible exact impl_ReadNotices.mono _ _)
   | (with_reducible exact impl_SendNotice.mono _ _ _ _ _)
   | (with_reducible exact impl_UnseenOf.mono _ _ _)
   | (with_reducible exact spec_DrawSendNotice.mono _ _)
   | (with_reducible exact spec_SendNotice.mono _ _ _ _ _)
   | (with_reducible exact LeO.refl _)
   | (with_reducible exact LeO.none _)
   | (with_reducible refine LeO.ite ?_ ?_)
   | (with_reducible refine LeO.bind ?_ (fun _ => ?_))
   | exact ih0 _ _ _ _ _ _ _ _ _ _ _ _ _ _
   | exact impl_EqualMailboxes.mono _ _ _
   | exact impl_IsValidMailbox.mono _ _
   | exact impl_LatestNotice.mono _ _ _
   | exact impl_ReadNotices.mono _ _
   | exact impl_SendNotice.mono _ _ _ _ _
   | exact impl_UnseenOf.mono _ _ _
   | exact spec_DrawSendNotice.mono _ _
   | exact spec_SendNotice.mono _ _ _ _ _
   | exact LeO.none _
   | refine LeO.ite ?_ ?_
   | refine LeO.bind ?_ (fun _ => ?_)
theorem laws_FnNotices.mono : ∀ a0 k, LeO (laws_FnNotices.f k a0) (laws_FnNotices.f (k + 1) a0) := by
 intro a0 k
 have ih0 := laws_FnNotices.mono_l k
 unfold laws_FnNotices.f
 repeat' first
   | (with_reducible exact ih0 _ _ _ _ _ _ _ _ _ _ _ _ _ _)
   | (with_reducible exact impl_EqualMailboxes.mono _ _ _)
   | (with_reducible exact impl_IsValidMailbox.mono _ _)
   | (with_reducible exact impl_LatestNotice.mono _ _ _)
   | (with_reducible exact impl_ReadNotices.mono _ _)
   | (with_reducible exact impl_SendNotice.mono _ _ _ _ _)
   | (with_reducible exact impl_UnseenOf.mono _ _ _)
   | (with_reducible exact spec_DrawSendNotice.mono _ _)
   | (with_reducible exact spec_SendNotice.mono _ _ _ _ _)
   | (with_reducible exact LeO.refl _)
   | (with_reducible exact LeO.none _)
   | (with_reducible refine LeO.ite ?_ ?_)
   | (with_reducible refine LeO.bind ?_ (fun _ => ?_))
   | exact ih0 _ _ _ _ _ _ _ _ _ _ _ _ _ _
   | exact impl_EqualMailboxes.mono _ _ _
   | exact impl_IsValidMailbox.mono _ _
   | exact impl_LatestNotice.mono _ _ _
   | exact impl_ReadNotices.mono _ _
   | exact impl_SendNotice.mono _ _ _ _ _
   | exact impl_UnseenOf.mono _ _ _
   | exact spec_DrawSendNotice.mono _ _
   | exact spec_SendNotice.mono _ _ _ _ _
   | exact LeO.none _
   | refine LeO.ite ?_ ?_
   | refine LeO.bind ?_ (fun _ => ?_)
def laws_FnNotices.T18 : Bool × List (List Nat × List Nat) := (true, [([], []), ([0], [0]), ([1], [1]), ([2, 1], [1, 2]), ([1], [1]), ([3, 4, 1], [1, 3, 4]), ([1, 5], [1, 5]), ([6, 1], [6]), ([7], [7]), ([8, 7], [7, 8]), ([7], [7]), ([9, 10, 7], [7, 9, 10]), ([7, 11], [7, 11]), ([12, 7], [12]), ([13], [13]), ([14, 13], [13, 14]), ([15, 13], [13, 15]), ([13, 16], [13, 16]), ([17, 13], [17]), ([18], [18]), ([19, 18], [18, 19]), ([18], [18]), ([20, 21, 18], [18, 20, 21]), ([18, 22], [18, 22]), ([23, 18], [23]), ([24], [24]), ([25, 24], [24, 25]), ([26, 24], [24, 26]), ([24, 27], [24, 27]), ([28, 24], [28]), ([29], [29]), ([29], [29]), ([30, 31, 29, 29], [29, 30, 31]), ([32, 29], [29, 32]), ([29, 33], [29, 33]), ([34, 32], [34]), ([35], [35]), ([36, 35, 35], [35, 36]), ([35, 37], [35, 37]), ([38, 37], [38]), ([39], [39]), ([40, 39], [39, 40]), ([41, 39], [39, 41]), ([39], [39]), ([43, 39], [39, 43]), ([44, 39], [39, 44]), ([45, 39], [39, 45]), ([46, 39, 39], [39, 46]), ([42, 47, 39], [39, 42, 47]), ([39, 48], [39, 48]), ([49, 47], [49]), ([50], [50]), ([51, 50, 50], [50, 51]), ([52, 50], [50, 52]), ([50, 53], [50, 53]), ([54, 52, 0, 1, 2, 3, 4, 5, 6, 7, 8, 9, 10, 11, 12, 13, 14, 15, 16, 17, 18, 19, 20, 21, 22, 23, 24, 25, 26, 27, 28, 29, 30, 31, 32, 33, 34, 35, 36, 37, 38, 39, 40, 41, 42, 43, 44, 45, 46, 47, 48, 49, 50, 51, 52, 53, 54], [54])])
def laws_FnNotices.B18 : List Nat := [0, 1, 3, 7, 3, 31, 63, 127, 255, 511, 255, 2047, 4095, 8191, 16383, 32767, 65535, 131071, 262143, 524287, 1048575, 524287, 4194303, 8388607, 16777215, 33554431, 67108863, 134217727, 268435455, 536870911, 1073741823, 1073741823, 4294967295, 8589934591, 17179869183, 34359738367, 68719476735, 137438953471, 274877906943, 549755813887, 1099511627775, 2199023255551, 4398046511103, 1099511627775, 9895604649983, 27487790694399, 62672162783231, 133040906960895, 281474976710655, 562949953421311, 1125899906842623, 2251799813685247, 4503599627370495, 9007199254740991, 18014398509481983, 36028797018963967]
theorem laws_FnNotices.tab18 : rtab .any (opsOf Try.f12 18) = laws_FnNotices.T18 := by kernel_rfl
theorem laws_FnNotices.bits18 : waitsOk laws_FnNotices.T18.2 laws_FnNotices.B18 = true := by kernel_rfl
set_option maxHeartbeats 8000000 in
set_option maxRecDepth 100000 in
theorem laws_FnNotices.calls (k : Nat) (A0 : Option Addr) (c0 : Nat) (l0 : List Int) (r : Bool) (w : World) (hr0 : Kd.C (Kd.int .u8) w A0 l0.length l0) (hc0 : l0.length ≤ c0) (hT_ : r = true) (h : laws_FnNotices.f k l0 = some r) :
  Calls Try.prog 12 #[.slice A0 l0.length c0] w fun e w' => e = .returned (.bool r) ∧ Below w.heap.size w w' := by
 have hu65 := Try.underlying65
 have hu108 := Try.underlying108
 have HR0 := Aside0.mk hr0
 have HC0 := Aside0.mk hc0
 clear hr0 hc0
 have HB := Aside0.mk (Below.refl w.heap.size w)
 have H : ((laws_big.f l0).bind fun t373 => (if t373 = true then (some true) else ((spec_DrawSendNotice.f k l0).bind fun bt374 => ((impl_SendNotice.f k bt374.1 bt374.2.1 bt374.2.2.1 bt374.2.2.2).bind fun bt381 => ((spec_SendNotice.f k bt374.1 bt374.2.1 bt374.2.2.1 bt374.2.2.2).bind fun bt386 => (if (bt381.2 != bt386.2) = true then (some false) else (if bt381.2 = true then ((impl_LatestNotice.f k bt381.1 bt374.2.2.1).bind fun bt391 => ((impl_ReadNotices.f k bt381.1).bind fun bt397 => ((impl_ReadNotices.f k bt397.1).bind fun bt404 => (laws_FnNotices.l0 k bt374.2.1 bt374.2.2.2 bt391.2.2.2.2 0 1 bt397.2 bt404.2 bt374.1 bt381.1 bt391.1 bt391.2.1 bt391.2.2.1 bt391.2.2.2.1 bt397.1)))) else ((impl_EqualMailboxes.f k bt381.1 bt374.1).bind fun t416 => (some t416))))))))) = some r := h
 clear h
 replace H := Option.bind_eq_some_iff.mp H
 obtain ⟨t373, A20, H⟩ := H
 try dsimp only at H
 have A2 := Aside0.mk A20
 clear A20
 by_cases c3 : t373 = true
 ·subst c3
  have H1 : (some true) = some r := by rw [if_pos rfl] at H; exact H
  clear H
  have H := H1
  clear H1
  obtain rfl := Option.some.inj H
  go_enter Try.func12, Try.ntmps12
  go_wp2_with (first | ((with_reducible refine gate_callee (f := 15) rfl ?_); refine goesL_ (some 20) rfl rfl Try.func15 (by kernel_rfl) rfl #[.slice A0 l0.length c0] rfl tL ?_; (with_reducible refine (laws_big.calls _ _ l0 true _ ?side1 ?side2 A2.out).mono ?_); (case side1 => repeat (first | exact HR0.out | (with_reducible refine Kd.C_alloc ?_ _) | (with_reducible refine Kd.C_drewN ?_ _) | (with_reducible refine Kd.C_drew ?_))); (case side2 => exact HC0.out); rintro e w' ⟨rfl, ⟨nd, rfl⟩⟩; refine ⟨_, rfl, ?_⟩))
  go_ret
  exact ⟨tE, tB⟩
 replace c3 := Bool.eq_false_iff.mpr c3
 subst c3
 have H1 : ((spec_DrawSendNotice.f k l0).bind fun bt374 => ((impl_SendNotice.f k bt374.1 bt374.2.1 bt374.2.2.1 bt374.2.2.2).bind fun bt381 => ((spec_SendNotice.f k bt374.1 bt374.2.1 bt374.2.2.1 bt374.2.2.2).bind fun bt386 => (if (bt381.2 != bt386.2) = true then (some false) else (if bt381.2 = true then ((impl_LatestNotice.f k bt381.1 bt374.2.2.1).bind fun bt391 => ((impl_ReadNotices.f k bt381.1).bind fun bt397 => ((impl_ReadNotices.f k bt397.1).bind fun bt404 => (laws_FnNotices.l0 k bt374.2.1 bt374.2.2.2 bt391.2.2.2.2 0 1 bt397.2 bt404.2 bt374.1 bt381.1 bt391.1 bt391.2.1 bt391.2.2.1 bt391.2.2.2.1 bt397.1)))) else ((impl_EqualMailboxes.f k bt381.1 bt374.1).bind fun t416 => (some t416))))))) = some r := by rw [if_neg (show ¬ (false = true) by decide)] at H; exact H
 clear H
 have H := H1
 clear H1
 replace H := Option.bind_eq_some_iff.mp H
 obtain ⟨⟨t374, t377, t378, t379⟩, A40, H⟩ := H
 try dsimp only at H
 have A4 := Aside0.mk A40
 clear A40
 replace H := Option.bind_eq_some_iff.mp H
 obtain ⟨⟨t381, t384⟩, A50, H⟩ := H
 try dsimp only at H
 have A5 := Aside0.mk A50
 clear A50
 replace H := Option.bind_eq_some_iff.mp H
 obtain ⟨⟨t386, t389⟩, A60, H⟩ := H
 try dsimp only at H
 have A6 := Aside0.mk A60
 clear A60
 by_cases c7 : (t384 != t389) = true
 ·rw [if_pos c7] at H
  have c7b0 : (t384 != t389) = true := c7
  (try (have c7b1 : decide (t384 = t389) = false := by simpa using c7))
  (try (have c7b2 : (t384 == t389) = false := by simpa using c7))
  (try (have c7b3 : ¬ (t384 = t389) := by simpa using c7))
  clear c7
  exact absurd ((Option.some.inj H).trans hT_) (by decide)
 rw [if_neg c7] at H
 have c7b0 : (t384 != t389) = false := by simpa using c7
 (try (have c7b1 : decide (t384 = t389) = true := by simpa using c7))
 (try (have c7b2 : (t384 == t389) = true := by simpa using c7))
 clear c7
 by_cases c8 : t384 = true
 ·subst c8
  have H1 : ((impl_LatestNotice.f k t381 t378).bind fun bt391 => ((impl_ReadNotices.f k t381).bind fun bt397 => ((impl_ReadNotices.f k bt397.1).bind fun bt404 => (laws_FnNotices.l0 k t377 t379 bt391.2.2.2.2 0 1 bt397.2 bt404.2 t374 t381 bt391.1 bt391.2.1 bt391.2.2.1 bt391.2.2.2.1 bt397.1)))) = some r := by rw [if_pos rfl] at H; exact H
  clear H
  have H := H1
  clear H1
  replace H := Option.bind_eq_some_iff.mp H
  obtain ⟨⟨t391, t392, t393, t394, t395⟩, A90, H⟩ := H
  try dsimp only at H
  have A9 := Aside0.mk A90
  clear A90
  replace H := Option.bind_eq_some_iff.mp H
  obtain ⟨⟨t397, t400⟩, A100, H⟩ := H
  try dsimp only at H
  have A10 := Aside0.mk A100
  clear A100
  replace H := Option.bind_eq_some_iff.mp H
  obtain ⟨⟨t404, t407⟩, A110, H⟩ := H
  try dsimp only at H
  have A11 := Aside0.mk A110
  clear A110
  have H' := Aside0.mk H
  clear H
  go_enter Try.func12, Try.ntmps12
  go_wp2_with (first | ((with_reducible refine gate_callee (f := 15) rfl ?_); refine goesL_ (some 20) rfl rfl Try.func15 (by kernel_rfl) rfl #[.slice A0 l0.length c0] rfl tL ?_; (with_reducible refine (laws_big.calls _ _ l0 false _ ?side1 ?side2 A2.out).mono ?_); (case side1 => repeat (first | exact HR0.out | (with_reducible refine Kd.C_alloc ?_ _) | (with_reducible refine Kd.C_drewN ?_ _) | (with_reducible refine Kd.C_drew ?_))); (case side2 => exact HC0.out); rintro e w' ⟨rfl, ⟨nd, rfl⟩⟩; refine ⟨_, rfl, ?_⟩) | ((with_reducible refine gate_callee (f := 67) rfl ?_); refine goesL_ (some 23) rfl rfl Try.func67 (by kernel_rfl) rfl #[.slice A0 l0.length c0] rfl tL ?_; (with_reducible refine (spec_DrawSendNotice.calls k _ _ l0 t374 t377 t378 t379 _ ?side1 ?side2 A4.out).mono ?_); (case side1 => repeat (first | exact HR0.out | (with_reducible refine Kd.C_alloc ?_ _) | (with_reducible refine Kd.C_drewN ?_ _) | (with_reducible refine Kd.C_drew ?_))); (case side2 => exact HC0.out); rintro e w12 ⟨v375, rfl, ho0, hb⟩; refine ⟨_, rfl, ?_⟩; have HO376 := Aside0.mk (Kd.R_lower ho0 (below_size tB)); replace HB := bH HB hb; (try clear hb); (try clear hb2); (try clear hk); (try clear hi); (try clear ho0)) | ((with_reducible refine gate_dst (N := 3) rfl ?_); (try (refine gate_guard (by rfl) ?_; dsimp only)); refine box_event ?hg (N := 3) ?hd (cs := #[.slice none 0 0]) (t := 65) ?hr ?_; (case hd => rfl); (case hg => rfl); (case hr => exact tG); intro gb380 hg w13 hbox hb; replace HO376 := Aside0.mk (Kd.R_below (tR HO376) hb); have BK380 := Aside0.mk (hbox); have GW380 := gW HB hg; have GE380 := gW HB hg; replace HB := bH HB hb; clear hb hbox hg; obtain ⟨Ao14, co14, eo14⟩ := Kd.R_slice HO376.out; subst eo14; obtain ⟨hcz15_0, hfz15_0⟩ := bc1 BK380.out) | ((with_reducible refine gate_callee (f := 58) rfl ?_); refine goesL_ (some 33) rfl rfl Try.func58 (by kernel_rfl) rfl #[.agg #[.slice Ao14 t374.length co14], .int .i64 t377, .int .i64 t378, .int .i64 t379] rfl tL ?_; (with_reducible refine (impl_SendNotice.calls k _ _ t374 t377 t378 t379 t381 true _ ?side1 ?side2 A5.out).mono ?_); (case side1 => refine (Kd.R_reads' (e := 108) (base := w.heap.size) (ok := fun k_ => True) (n := t374.length) (c := co14) ?_).2.2; exact (by (with_reducible repeat (first | apply Kd.R_alloc | apply Kd.R_drewN | apply Kd.R_drew)); exact (Kd.R_mono (Kd.R_far (p := ⟨gb380, 0, none⟩) (Kd.R_types HO376.out BK380.out (by decide)) (fun _ hk => hk.2) (.slice Ao14 t374.length co14)) (fun _ h_ => h_.1)))); (case side2 => exact (Kd.R_reads' HO376.out).2.1); rintro e w16 ⟨v382, rfl, ho0, hb⟩; refine ⟨_, rfl, ?_⟩; have HO383 := Aside0.mk (Kd.R_lower (Kd.R_new' ho0 (Kd.R_lt (by (with_reducible repeat (first | apply Kd.R_alloc | apply Kd.R_drewN | apply Kd.R_drew)); exact (Kd.R_mono (Kd.R_far (p := ⟨gb380, 0, none⟩) (Kd.R_types HO376.out BK380.out (by decide)) (fun _ hk => hk.2) (.slice Ao14 t374.length co14)) (fun _ h_ => h_.1))))) (below_size tB)); replace HO376 := Aside0.mk (Kd.R_elder' (by (with_reducible repeat (first | apply Kd.R_alloc | apply Kd.R_drewN | apply Kd.R_drew)); exact (Kd.R_mono (Kd.R_far (p := ⟨gb380, 0, none⟩) (Kd.R_types HO376.out BK380.out (by decide)) (fun _ hk => hk.2) (.slice Ao14 t374.length co14)) (fun _ h_ => h_.1))) (Kd.R_base ho0) hb); replace BK380 := Aside0.mk (blk_below (g := gb380) (o := .cells #[.slice Ao14 t374.length co14] 65 (0, 0)) (by (with_reducible repeat (first | refine blk_drewN ?_ _ | refine blk_drew ?_ | refine blk_alloc ?_ _)); refine blk_put (cs := #[.slice none 0 0]) ?_ 0 _ rfl; (with_reducible repeat (first | refine blk_drewN ?_ _ | refine blk_drew ?_ | refine blk_alloc ?_ _)); exact BK380.out) hb); replace HB := bH HB hb; (try clear hb); (try clear hb2); (try clear hk); (try clear hi); (try clear ho0)) | ((with_reducible refine gate_dst (N := 7) rfl ?_); (try (refine gate_guard (by rfl) ?_; dsimp only)); refine box_event ?hg (N := 7) ?hd (cs := #[.slice none 0 0]) (t := 65) ?hr ?_; (case hd => rfl); (case hg => rfl); (case hr => exact tG); intro gb385 hg w17 hbox hb; replace HO376 := Aside0.mk (Kd.R_below (tR HO376) hb); replace HO383 := Aside0.mk (Kd.R_below (tR HO383) hb); have BK385 := Aside0.mk (hbox); have GW385 := gW HB hg; have GE385 := gW HB hg; replace HB := bH HB hb; have NB380_385 := nL BK380 hg; have NB385_380 := nR BK380 hg; replace BK380 := bB BK380 hb; clear hb hbox hg; obtain ⟨Ao18, co18, eo18⟩ := Kd.R_slice HO383.out; subst eo18; have hnb19 := NB385_380.out; have hnc19 := NB380_385.out; obtain ⟨hcz20_0, hfz20_0⟩ := bc1 BK385.out; obtain ⟨hcz21_0, hfz21_0⟩ := bc1 BK380.out) | ((with_reducible refine gate_callee (f := 57) rfl ?_); refine goesL_ (some 41) rfl rfl Try.func57 (by kernel_rfl) rfl #[.agg #[.slice Ao14 t374.length co14], .int .i64 t377, .int .i64 t378, .int .i64 t379] rfl tL ?_; (with_reducible refine (spec_SendNotice.calls k _ _ t374 t377 t378 t379 t386 t389 _ ?side1 ?side2 A6.out).mono ?_); (case side1 => refine (Kd.R_reads' (e := 108) (base := w.heap.size) (ok := fun k_ => (True ∧ some k_ ≠ (.slice Ao18 t381.length co18 : Value).ownBlock)) (n := t374.length) (c := co14) ?_).2.2; exact (by (with_reducible repeat (first | apply Kd.R_alloc | apply Kd.R_drewN | apply Kd.R_drew)); exact (Kd.R_mono (Kd.R_far (p := ⟨gb385, 0, none⟩) (Kd.R_types HO376.out BK385.out (by decide)) (fun _ hk => hk.2) (.slice Ao18 t381.length co18)) (fun _ h_ => h_.1)))); (case side2 => exact (Kd.R_reads' HO376.out).2.1); rintro e w22 ⟨v387, rfl, ho0, hb⟩; refine ⟨_, rfl, ?_⟩; have HO388 := Aside0.mk (Kd.R_lower (Kd.R_new' (Kd.R_new' ho0 (Kd.R_lt (by (with_reducible repeat (first | apply Kd.R_alloc | apply Kd.R_drewN | apply Kd.R_drew)); exact (Kd.R_mono (Kd.R_far (p := ⟨gb385, 0, none⟩) (Kd.R_types HO376.out BK385.out (by decide)) (fun _ hk => hk.2) (.slice Ao18 t381.length co18)) (fun _ h_ => h_.1))))) (Kd.R_lt (by (with_reducible repeat (first | apply Kd.R_alloc | apply Kd.R_drewN | apply Kd.R_drew)); exact (Kd.R_mono (Kd.R_far (p := ⟨gb385, 0, none⟩) (Kd.R_types HO383.out BK385.out (by decide)) (fun _ hk => hk.2) (.slice Ao18 t381.length co18)) (fun _ h_ => h_.1))))) (below_size tB)); replace HO376 := Aside0.mk (Kd.R_elder' (by (with_reducible repeat (first | apply Kd.R_alloc | apply Kd.R_drewN | apply Kd.R_drew)); exact (Kd.R_mono (Kd.R_far (p := ⟨gb385, 0, none⟩) (Kd.R_types HO376.out BK385.out (by decide)) (fun _ hk => hk.2) (.slice Ao18 t381.length co18)) (fun _ h_ => h_.1))) (Kd.R_base ho0) hb); replace HO383 := Aside0.mk (Kd.R_elder' (by (with_reducible repeat (first | apply Kd.R_alloc | apply Kd.R_drewN | apply Kd.R_drew)); exact (Kd.R_mono (Kd.R_far (p := ⟨gb385, 0, none⟩) (Kd.R_types HO383.out BK385.out (by decide)) (fun _ hk => hk.2) (.slice Ao18 t381.length co18)) (fun _ h_ => h_.1))) (Kd.R_base ho0) hb); replace BK380 := Aside0.mk (blk_below (g := gb380) (o := .cells #[.slice Ao14 t374.length co14] 65 (0, 0)) (kF NB380_385 BK380) hb); replace BK385 := Aside0.mk (blk_below (g := gb385) (o := .cells #[.slice Ao18 t381.length co18] 65 (0, 0)) (by (with_reducible repeat (first | refine blk_drewN ?_ _ | refine blk_drew ?_ | refine blk_alloc ?_ _)); refine blk_put (cs := #[.slice none 0 0]) ?_ 0 _ rfl; (with_reducible repeat (first | refine blk_drewN ?_ _ | refine blk_drew ?_ | refine blk_alloc ?_ _)); exact BK385.out) hb); replace HB := bH HB hb; (try clear hb); (try clear hb2); (try clear hk); (try clear hi); (try clear ho0)) | ((with_reducible refine gate_dst (N := 9) rfl ?_); (try (refine gate_guard (by rfl) ?_; dsimp only)); refine box_event ?hg (N := 9) ?hd (cs := #[.slice none 0 0]) (t := 65) ?hr ?_; (case hd => rfl); (case hg => rfl); (case hr => exact tG); intro gb390 hg w23 hbox hb; replace HO376 := Aside0.mk (Kd.R_below (tR HO376) hb); replace HO383 := Aside0.mk (Kd.R_below (tR HO383) hb); replace HO388 := Aside0.mk (Kd.R_below (tR HO388) hb); have BK390 := Aside0.mk (hbox); have GW390 := gW HB hg; have GE390 := gW HB hg; replace HB := bH HB hb; have NB380_390 := nL BK380 hg; have NB390_380 := nR BK380 hg; replace BK380 := bB BK380 hb; have NB385_390 := nL BK385 hg; have NB390_385 := nR BK385 hg; replace BK385 := bB BK385 hb; clear hb hbox hg; obtain ⟨Ao24, co24, eo24⟩ := Kd.R_slice HO388.out; subst eo24; have hnb25 := NB390_380.out; have hnc25 := NB380_390.out; have hnb26 := NB390_385.out; have hnc26 := NB385_390.out; obtain ⟨hcz27_0, hfz27_0⟩ := bc1 BK390.out; obtain ⟨hcz28_0, hfz28_0⟩ := bc1 BK385.out) | ((with_reducible refine gate_callee (f := 69) rfl ?_); refine goesL_ (some 55) rfl rfl Try.func69 (by kernel_rfl) rfl #[.agg #[.slice Ao18 t381.length co18], .int .i64 t378] rfl tL ?_; (with_reducible refine (impl_LatestNotice.calls k _ _ t381 t378 t391 t392 t393 t394 t395 _ ?side1 ?side2 A9.out).mono ?_); (case side1 => refine (Kd.R_reads' (e := 108) (base := w.heap.size) (ok := fun k_ => ((True ∧ some k_ ≠ (.slice Ao14 t374.length co14 : Value).ownBlock) ∧ some k_ ≠ (.slice Ao24 t386.length co24 : Value).ownBlock)) (n := t381.length) (c := co18) ?_).2.2; exact (by (with_reducible repeat (first | apply Kd.R_alloc | apply Kd.R_drewN | apply Kd.R_drew)); exact (Kd.R_mono (Kd.R_far (p := ⟨gb390, 0, none⟩) (Kd.R_types HO383.out BK390.out (by decide)) (fun _ hk => hk.2) (.slice Ao24 t386.length co24)) (fun _ h_ => h_.1)))); (case side2 => exact (Kd.R_reads' HO383.out).2.1); rintro e w29 ⟨rfl, hb⟩; refine ⟨_, rfl, ?_⟩; replace HO376 := Aside0.mk (Kd.R_below (by (with_reducible repeat (first | apply Kd.R_alloc | apply Kd.R_drewN | apply Kd.R_drew)); exact (Kd.R_mono (Kd.R_far (p := ⟨gb390, 0, none⟩) (Kd.R_types HO376.out BK390.out (by decide)) (fun _ hk => hk.2) (.slice Ao24 t386.length co24)) (fun _ h_ => h_.1))) hb); replace HO383 := Aside0.mk (Kd.R_below (by (with_reducible repeat (first | apply Kd.R_alloc | apply Kd.R_drewN | apply Kd.R_drew)); exact (Kd.R_mono (Kd.R_far (p := ⟨gb390, 0, none⟩) (Kd.R_types HO383.out BK390.out (by decide)) (fun _ hk => hk.2) (.slice Ao24 t386.length co24)) (fun _ h_ => h_.1))) hb); replace HO388 := Aside0.mk (Kd.R_below (by (with_reducible repeat (first | apply Kd.R_alloc | apply Kd.R_drewN | apply Kd.R_drew)); exact (Kd.R_mono (Kd.R_far (p := ⟨gb390, 0, none⟩) (Kd.R_types HO388.out BK390.out (by decide)) (fun _ hk => hk.2) (.slice Ao24 t386.length co24)) (fun _ h_ => h_.1))) hb); replace BK380 := Aside0.mk (blk_below (g := gb380) (o := .cells #[.slice Ao14 t374.length co14] 65 (0, 0)) (kF NB380_390 BK380) hb); replace BK385 := Aside0.mk (blk_below (g := gb385) (o := .cells #[.slice Ao18 t381.length co18] 65 (0, 0)) (kF NB385_390 BK385) hb); replace BK390 := Aside0.mk (blk_below (g := gb390) (o := .cells #[.slice Ao24 t386.length co24] 65 (0, 0)) (by (with_reducible repeat (first | refine blk_drewN ?_ _ | refine blk_drew ?_ | refine blk_alloc ?_ _)); refine blk_put (cs := #[.slice none 0 0]) ?_ 0 _ rfl; (with_reducible repeat (first | refine blk_drewN ?_ _ | refine blk_drew ?_ | refine blk_alloc ?_ _)); exact BK390.out) hb); replace HB := bH HB hb; (try clear hb); (try clear hb2); (try clear hk); (try clear hi)) | ((with_reducible refine gate_dst (N := 11) rfl ?_); (try (refine gate_guard (by rfl) ?_; dsimp only)); refine box_event ?hg (N := 11) ?hd (cs := #[.int .i64 0, .int .i64 0, .int .i64 0, .bool false]) (t := 108) ?hr ?_; (case hd => rfl); (case hg => rfl); (case hr => exact tG); intro gb396 hg w30 hbox hb; replace HO376 := Aside0.mk (Kd.R_below (Kd.R_elderB (tR HO376) gb396 (Nat.le_of_eq hg.symm)) hb); replace HO383 := Aside0.mk (Kd.R_below (Kd.R_elderB (tR HO383) gb396 (Nat.le_of_eq hg.symm)) hb); replace HO388 := Aside0.mk (Kd.R_below (Kd.R_elderB (tR HO388) gb396 (Nat.le_of_eq hg.symm)) hb); have BK396 := Aside0.mk (hbox); have GW396 := gW HB hg; have GE396 := gW HB hg; replace HB := bH HB hb; have NB380_396 := nL BK380 hg; have NB396_380 := nR BK380 hg; replace BK380 := bB BK380 hb; have NB385_396 := nL BK385 hg; have NB396_385 := nR BK385 hg; replace BK385 := bB BK385 hb; have NB390_396 := nL BK390 hg; have NB396_390 := nR BK390 hg; replace BK390 := bB BK390 hb; clear hb hbox hg; have hnb31 := NB396_380.out; have hnc31 := NB380_396.out; have hnb32 := NB396_385.out; have hnc32 := NB385_396.out; have hnb33 := NB396_390.out; have hnc33 := NB390_396.out; obtain ⟨hcz34_0, hcz34_1, hcz34_2, hcz34_3, hfz34_0, hfz34_1, hfz34_2, hfz34_3⟩ := bc4 BK396.out; obtain ⟨hcz35_0, hfz35_0⟩ := bc1 BK385.out) | ((with_reducible refine gate_callee (f := 42) rfl ?_); refine goesL_ (some 60) rfl rfl Try.func42 (by kernel_rfl) rfl #[.agg #[.slice Ao18 t381.length co18]] rfl tL ?_; (with_reducible refine (impl_ReadNotices.calls k _ _ t381 t397 t400 _ ?side1 ?side2 A10.out).mono ?_); (case side1 => refine (Kd.R_reads' (e := 108) (base := w.heap.size) (ok := fun k_ => (((True ∧ some k_ ≠ (.slice Ao14 t374.length co14 : Value).ownBlock) ∧ some k_ ≠ (.slice Ao24 t386.length co24 : Value).ownBlock) ∧ k_ ≠ gb396)) (n := t381.length) (c := co18) ?_).2.2; exact (by (with_reducible repeat (first | apply Kd.R_alloc | apply Kd.R_drewN | apply Kd.R_drew)); exact (Kd.R_mono (Kd.R_far (p := ⟨gb396, 3, none⟩) (Kd.R_far (p := ⟨gb396, 2, none⟩) (Kd.R_far (p := ⟨gb396, 1, none⟩) (Kd.R_far (p := ⟨gb396, 0, none⟩) (Kd.R_mono HO383.out (fun k_ hk => (⟨hk, hk.2⟩ : _ ∧ k_ ≠ gb396))) (fun _ hk => hk.2) (.int .i64 t391)) (fun _ hk => hk.2) (.int .i64 t392)) (fun _ hk => hk.2) (.int .i64 t393)) (fun _ hk => hk.2) (.bool t394)) (fun _ h_ => h_.1)))); (case side2 => exact (Kd.R_reads' HO383.out).2.1); rintro e w36 ⟨v398, v401, rfl, ho0, ho1, hb⟩; refine ⟨_, rfl, ?_⟩; have HO399 := Aside0.mk (Kd.R_lower (Kd.R_newB (Kd.R_new' (Kd.R_new' (Kd.R_new' ho0 (Kd.R_lt (by (with_reducible repeat (first | apply Kd.R_alloc | apply Kd.R_drewN | apply Kd.R_drew)); exact (Kd.R_mono (Kd.R_far (p := ⟨gb396, 3, none⟩) (Kd.R_far (p := ⟨gb396, 2, none⟩) (Kd.R_far (p := ⟨gb396, 1, none⟩) (Kd.R_far (p := ⟨gb396, 0, none⟩) (Kd.R_mono HO376.out (fun k_ hk => (⟨hk, hk.2⟩ : _ ∧ k_ ≠ gb396))) (fun _ hk => hk.2) (.int .i64 t391)) (fun _ hk => hk.2) (.int .i64 t392)) (fun _ hk => hk.2) (.int .i64 t393)) (fun _ hk => hk.2) (.bool t394)) (fun _ h_ => h_.1))))) (Kd.R_lt (by (with_reducible repeat (first | apply Kd.R_alloc | apply Kd.R_drewN | apply Kd.R_drew)); exact (Kd.R_mono (Kd.R_far (p := ⟨gb396, 3, none⟩) (Kd.R_far (p := ⟨gb396, 2, none⟩) (Kd.R_far (p := ⟨gb396, 1, none⟩) (Kd.R_far (p := ⟨gb396, 0, none⟩) (Kd.R_mono HO383.out (fun k_ hk => (⟨hk, hk.2⟩ : _ ∧ k_ ≠ gb396))) (fun _ hk => hk.2) (.int .i64 t391)) (fun _ hk => hk.2) (.int .i64 t392)) (fun _ hk => hk.2) (.int .i64 t393)) (fun _ hk => hk.2) (.bool t394)) (fun _ h_ => h_.1))))) (Kd.R_lt (by (with_reducible repeat (first | apply Kd.R_alloc | apply Kd.R_drewN | apply Kd.R_drew)); exact (Kd.R_mono (Kd.R_far (p := ⟨gb396, 3, none⟩) (Kd.R_far (p := ⟨gb396, 2, none⟩) (Kd.R_far (p := ⟨gb396, 1, none⟩) (Kd.R_far (p := ⟨gb396, 0, none⟩) (Kd.R_mono HO388.out (fun k_ hk => (⟨hk, hk.2⟩ : _ ∧ k_ ≠ gb396))) (fun _ hk => hk.2) (.int .i64 t391)) (fun _ hk => hk.2) (.int .i64 t392)) (fun _ hk => hk.2) (.int .i64 t393)) (fun _ hk => hk.2) (.bool t394)) (fun _ h_ => h_.1))))) (g := gb396) (o := .cells #[.int .i64 t391, .int .i64 t392, .int .i64 t393, .bool t394] 108 (0, 0)) (by (with_reducible repeat (first | refine blk_drewN ?_ _ | refine blk_drew ?_ | refine blk_alloc ?_ _)); refine blk_put (cs := #[.int .i64 t391, .int .i64 t392, .int .i64 t393, .bool false]) ?_ 3 _ rfl; (with_reducible repeat (first | refine blk_drewN ?_ _ | refine blk_drew ?_ | refine blk_alloc ?_ _)); refine blk_put (cs := #[.int .i64 t391, .int .i64 t392, .int .i64 0, .bool false]) ?_ 2 _ rfl; (with_reducible repeat (first | refine blk_drewN ?_ _ | refine blk_drew ?_ | refine blk_alloc ?_ _)); refine blk_put (cs := #[.int .i64 t391, .int .i64 0, .int .i64 0, .bool false]) ?_ 1 _ rfl; (with_reducible repeat (first | refine blk_drewN ?_ _ | refine blk_drew ?_ | refine blk_alloc ?_ _)); refine blk_put (cs := #[.int .i64 0, .int .i64 0, .int .i64 0, .bool false]) ?_ 0 _ rfl; (with_reducible repeat (first | refine blk_drewN ?_ _ | refine blk_drew ?_ | refine blk_alloc ?_ _)); exact BK396.out)) (below_size tB)); have HO402 := Aside0.mk (Kd.R_lower (Kd.R_newB (Kd.R_new' (Kd.R_new' (Kd.R_new' ho1 (Kd.R_lt (by (with_reducible repeat (first | apply Kd.R_alloc | apply Kd.R_drewN | apply Kd.R_drew)); exact (Kd.R_mono (Kd.R_far (p := ⟨gb396, 3, none⟩) (Kd.R_far (p := ⟨gb396, 2, none⟩) (Kd.R_far (p := ⟨gb396, 1, none⟩) (Kd.R_far (p := ⟨gb396, 0, none⟩) (Kd.R_mono HO376.out (fun k_ hk => (⟨hk, hk.2⟩ : _ ∧ k_ ≠ gb396))) (fun _ hk => hk.2) (.int .i64 t391)) (fun _ hk => hk.2) (.int .i64 t392)) (fun _ hk => hk.2) (.int .i64 t393)) (fun _ hk => hk.2) (.bool t394)) (fun _ h_ => h_.1))))) (Kd.R_lt (by (with_reducible repeat (first | apply Kd.R_alloc | apply Kd.R_drewN | apply Kd.R_drew)); exact (Kd.R_mono (Kd.R_far (p := ⟨gb396, 3, none⟩) (Kd.R_far (p := ⟨gb396, 2, none⟩) (Kd.R_far (p := ⟨gb396, 1, none⟩) (Kd.R_far (p := ⟨gb396, 0, none⟩) (Kd.R_mono HO383.out (fun k_ hk => (⟨hk, hk.2⟩ : _ ∧ k_ ≠ gb396))) (fun _ hk => hk.2) (.int .i64 t391)) (fun _ hk => hk.2) (.int .i64 t392)) (fun _ hk => hk.2) (.int .i64 t393)) (fun _ hk => hk.2) (.bool t394)) (fun _ h_ => h_.1))))) (Kd.R_lt (by (with_reducible repeat (first | apply Kd.R_alloc | apply Kd.R_drewN | apply Kd.R_drew)); exact (Kd.R_mono (Kd.R_far (p := ⟨gb396, 3, none⟩) (Kd.R_far (p := ⟨gb396, 2, none⟩) (Kd.R_far (p := ⟨gb396, 1, none⟩) (Kd.R_far (p := ⟨gb396, 0, none⟩) (Kd.R_mono HO388.out (fun k_ hk => (⟨hk, hk.2⟩ : _ ∧ k_ ≠ gb396))) (fun _ hk => hk.2) (.int .i64 t391)) (fun _ hk => hk.2) (.int .i64 t392)) (fun _ hk => hk.2) (.int .i64 t393)) (fun _ hk => hk.2) (.bool t394)) (fun _ h_ => h_.1))))) (g := gb396) (o := .cells #[.int .i64 t391, .int .i64 t392, .int .i64 t393, .bool t394] 108 (0, 0)) (by (with_reducible repeat (first | refine blk_drewN ?_ _ | refine blk_drew ?_ | refine blk_alloc ?_ _)); refine blk_put (cs := #[.int .i64 t391, .int .i64 t392, .int .i64 t393, .bool false]) ?_ 3 _ rfl; (with_reducible repeat (first | refine blk_drewN ?_ _ | refine blk_drew ?_ | refine blk_alloc ?_ _)); refine blk_put (cs := #[.int .i64 t391, .int .i64 t392, .int .i64 0, .bool false]) ?_ 2 _ rfl; (with_reducible repeat (first | refine blk_drewN ?_ _ | refine blk_drew ?_ | refine blk_alloc ?_ _)); refine blk_put (cs := #[.int .i64 t391, .int .i64 0, .int .i64 0, .bool false]) ?_ 1 _ rfl; (with_reducible repeat (first | refine blk_drewN ?_ _ | refine blk_drew ?_ | refine blk_alloc ?_ _)); refine blk_put (cs := #[.int .i64 0, .int .i64 0, .int .i64 0, .bool false]) ?_ 0 _ rfl; (with_reducible repeat (first | refine blk_drewN ?_ _ | refine blk_drew ?_ | refine blk_alloc ?_ _)); exact BK396.out)) (below_size tB)); replace HO376 := Aside0.mk (Kd.R_mono (Kd.R_told (Kd.R_told (Kd.R_old (by (with_reducible repeat (first | apply Kd.R_alloc | apply Kd.R_drewN | apply Kd.R_drew)); exact (Kd.R_mono (Kd.R_far (p := ⟨gb396, 3, none⟩) (Kd.R_far (p := ⟨gb396, 2, none⟩) (Kd.R_far (p := ⟨gb396, 1, none⟩) (Kd.R_far (p := ⟨gb396, 0, none⟩) (Kd.R_mono HO376.out (fun k_ hk => (⟨hk, hk.2⟩ : _ ∧ k_ ≠ gb396))) (fun _ hk => hk.2) (.int .i64 t391)) (fun _ hk => hk.2) (.int .i64 t392)) (fun _ hk => hk.2) (.int .i64 t393)) (fun _ hk => hk.2) (.bool t394)) (fun _ h_ => h_.1))) hb) (Kd.R_base ho0)) (Kd.R_base ho1)) (fun _ h_ => h_.1)); replace HO383 := Aside0.mk (Kd.R_mono (Kd.R_told (Kd.R_told (Kd.R_old (by (with_reducible repeat (first | apply Kd.R_alloc | apply Kd.R_drewN | apply Kd.R_drew)); exact (Kd.R_mono (Kd.R_far (p := ⟨gb396, 3, none⟩) (Kd.R_far (p := ⟨gb396, 2, none⟩) (Kd.R_far (p := ⟨gb396, 1, none⟩) (Kd.R_far (p := ⟨gb396, 0, none⟩) (Kd.R_mono HO383.out (fun k_ hk => (⟨hk, hk.2⟩ : _ ∧ k_ ≠ gb396))) (fun _ hk => hk.2) (.int .i64 t391)) (fun _ hk => hk.2) (.int .i64 t392)) (fun _ hk => hk.2) (.int .i64 t393)) (fun _ hk => hk.2) (.bool t394)) (fun _ h_ => h_.1))) hb) (Kd.R_base ho0)) (Kd.R_base ho1)) (fun _ h_ => h_.1)); replace HO388 := Aside0.mk (Kd.R_mono (Kd.R_told (Kd.R_told (Kd.R_old (by (with_reducible repeat (first | apply Kd.R_alloc | apply Kd.R_drewN | apply Kd.R_drew)); exact (Kd.R_mono (Kd.R_far (p := ⟨gb396, 3, none⟩) (Kd.R_far (p := ⟨gb396, 2, none⟩) (Kd.R_far (p := ⟨gb396, 1, none⟩) (Kd.R_far (p := ⟨gb396, 0, none⟩) (Kd.R_mono HO388.out (fun k_ hk => (⟨hk, hk.2⟩ : _ ∧ k_ ≠ gb396))) (fun _ hk => hk.2) (.int .i64 t391)) (fun _ hk => hk.2) (.int .i64 t392)) (fun _ hk => hk.2) (.int .i64 t393)) (fun _ hk => hk.2) (.bool t394)) (fun _ h_ => h_.1))) hb) (Kd.R_base ho0)) (Kd.R_base ho1)) (fun _ h_ => h_.1)); replace BK380 := Aside0.mk (blk_below (g := gb380) (o := .cells #[.slice Ao14 t374.length co14] 65 (0, 0)) (kF NB380_396 BK380) hb); replace BK385 := Aside0.mk (blk_below (g := gb385) (o := .cells #[.slice Ao18 t381.length co18] 65 (0, 0)) (kF NB385_396 BK385) hb); replace BK390 := Aside0.mk (blk_below (g := gb390) (o := .cells #[.slice Ao24 t386.length co24] 65 (0, 0)) (kF NB390_396 BK390) hb); replace BK396 := Aside0.mk (blk_below (g := gb396) (o := .cells #[.int .i64 t391, .int .i64 t392, .int .i64 t393, .bool t394] 108 (0, 0)) (by (with_reducible repeat (first | refine blk_drewN ?_ _ | refine blk_drew ?_ | refine blk_alloc ?_ _)); refine blk_put (cs := #[.int .i64 t391, .int .i64 t392, .int .i64 t393, .bool false]) ?_ 3 _ rfl; (with_reducible repeat (first | refine blk_drewN ?_ _ | refine blk_drew ?_ | refine blk_alloc ?_ _)); refine blk_put (cs := #[.int .i64 t391, .int .i64 t392, .int .i64 0, .bool false]) ?_ 2 _ rfl; (with_reducible repeat (first | refine blk_drewN ?_ _ | refine blk_drew ?_ | refine blk_alloc ?_ _)); refine blk_put (cs := #[.int .i64 t391, .int .i64 0, .int .i64 0, .bool false]) ?_ 1 _ rfl; (with_reducible repeat (first | refine blk_drewN ?_ _ | refine blk_drew ?_ | refine blk_alloc ?_ _)); refine blk_put (cs := #[.int .i64 0, .int .i64 0, .int .i64 0, .bool false]) ?_ 0 _ rfl; (with_reducible repeat (first | refine blk_drewN ?_ _ | refine blk_drew ?_ | refine blk_alloc ?_ _)); exact BK396.out) hb); replace HB := bH HB hb; (try clear hb); (try clear hb2); (try clear hk); (try clear hi); (try clear ho0); (try clear ho1)) | ((with_reducible refine gate_dst (N := 13) rfl ?_); (try (refine gate_guard (by rfl) ?_; dsimp only)); refine box_event ?hg (N := 13) ?hd (cs := #[.slice none 0 0]) (t := 65) ?hr ?_; (case hd => rfl); (case hg => rfl); (case hr => exact tG); intro gb403 hg w37 hbox hb; replace HO376 := Aside0.mk (Kd.R_below (tR HO376) hb); replace HO383 := Aside0.mk (Kd.R_below (tR HO383) hb); replace HO388 := Aside0.mk (Kd.R_below (tR HO388) hb); replace HO399 := Aside0.mk (Kd.R_below (tR HO399) hb); replace HO402 := Aside0.mk (Kd.R_below (tR HO402) hb); have BK403 := Aside0.mk (hbox); have GW403 := gW HB hg; have GE403 := gW HB hg; replace HB := bH HB hb; have NB380_403 := nL BK380 hg; have NB403_380 := nR BK380 hg; replace BK380 := bB BK380 hb; have NB385_403 := nL BK385 hg; have NB403_385 := nR BK385 hg; replace BK385 := bB BK385 hb; have NB390_403 := nL BK390 hg; have NB403_390 := nR BK390 hg; replace BK390 := bB BK390 hb; have NB396_403 := nL BK396 hg; have NB403_396 := nR BK396 hg; replace BK396 := bB BK396 hb; clear hb hbox hg; obtain ⟨Ao38, co38, eo38⟩ := Kd.R_slice HO399.out; subst eo38; have hnb39 := NB403_380.out; have hnc39 := NB380_403.out; have hnb40 := NB403_385.out; have hnc40 := NB385_403.out; have hnb41 := NB403_390.out; have hnc41 := NB390_403.out; have hnb42 := NB403_396.out; have hnc42 := NB396_403.out; obtain ⟨hcz43_0, hfz43_0⟩ := bc1 BK403.out) | ((with_reducible refine gate_callee (f := 42) rfl ?_); refine goesL_ (some 65) rfl rfl Try.func42 (by kernel_rfl) rfl #[.agg #[.slice Ao38 t397.length co38]] rfl tL ?_; (with_reducible refine (impl_ReadNotices.calls k _ _ t397 t404 t407 _ ?side1 ?side2 A11.out).mono ?_); (case side1 => refine (Kd.R_reads' (e := 108) (base := w.heap.size) (ok := fun k_ => ((((some k_ ≠ (v401 : Value).ownBlock ∧ some k_ ≠ (.slice Ao14 t374.length co14 : Value).ownBlock) ∧ some k_ ≠ (.slice Ao18 t381.length co18 : Value).ownBlock) ∧ some k_ ≠ (.slice Ao24 t386.length co24 : Value).ownBlock) ∧ k_ ≠ gb396)) (n := t397.length) (c := co38) ?_).2.2; exact (by (with_reducible repeat (first | apply Kd.R_alloc | apply Kd.R_drewN | apply Kd.R_drew)); exact (Kd.R_mono (Kd.R_far (p := ⟨gb403, 0, none⟩) (Kd.R_types HO399.out BK403.out (by decide)) (fun _ hk => hk.2) (.slice Ao38 t397.length co38)) (fun _ h_ => h_.1)))); (case side2 => exact (Kd.R_reads' HO399.out).2.1); rintro e w44 ⟨v405, v408, rfl, ho0, ho1, hb⟩; refine ⟨_, rfl, ?_⟩; have HO406 := Aside0.mk (Kd.R_lower (Kd.R_newB (Kd.R_new' (Kd.R_new' (Kd.R_new' (Kd.R_new' (Kd.R_new' ho0 (Kd.R_lt (by (with_reducible repeat (first | apply Kd.R_alloc | apply Kd.R_drewN | apply Kd.R_drew)); exact (Kd.R_mono (Kd.R_far (p := ⟨gb403, 0, none⟩) (Kd.R_types HO376.out BK403.out (by decide)) (fun _ hk => hk.2) (.slice Ao38 t397.length co38)) (fun _ h_ => h_.1))))) (Kd.R_lt (by (with_reducible repeat (first | apply Kd.R_alloc | apply Kd.R_drewN | apply Kd.R_drew)); exact (Kd.R_mono (Kd.R_far (p := ⟨gb403, 0, none⟩) (Kd.R_types HO383.out BK403.out (by decide)) (fun _ hk => hk.2) (.slice Ao38 t397.length co38)) (fun _ h_ => h_.1))))) (Kd.R_lt (by (with_reducible repeat (first | apply Kd.R_alloc | apply Kd.R_drewN | apply Kd.R_drew)); exact (Kd.R_mono (Kd.R_far (p := ⟨gb403, 0, none⟩) (Kd.R_types HO388.out BK403.out (by decide)) (fun _ hk => hk.2) (.slice Ao38 t397.length co38)) (fun _ h_ => h_.1))))) (Kd.R_lt (by (with_reducible repeat (first | apply Kd.R_alloc | apply Kd.R_drewN | apply Kd.R_drew)); exact (Kd.R_mono (Kd.R_far (p := ⟨gb403, 0, none⟩) (Kd.R_types HO399.out BK403.out (by decide)) (fun _ hk => hk.2) (.slice Ao38 t397.length co38)) (fun _ h_ => h_.1))))) (Kd.R_lt (by (with_reducible repeat (first | apply Kd.R_alloc | apply Kd.R_drewN | apply Kd.R_drew)); exact (Kd.R_mono (Kd.R_far (p := ⟨gb403, 0, none⟩) (Kd.R_types HO402.out BK403.out (by decide)) (fun _ hk => hk.2) (.slice Ao38 t397.length co38)) (fun _ h_ => h_.1))))) (g := gb396) (o := .cells #[.int .i64 t391, .int .i64 t392, .int .i64 t393, .bool t394] 108 (0, 0)) (kF NB396_403 BK396)) (below_size tB)); have HO409 := Aside0.mk (Kd.R_lower (Kd.R_newB (Kd.R_new' (Kd.R_new' (Kd.R_new' (Kd.R_new' (Kd.R_new' ho1 (Kd.R_lt (by (with_reducible repeat (first | apply Kd.R_alloc | apply Kd.R_drewN | apply Kd.R_drew)); exact (Kd.R_mono (Kd.R_far (p := ⟨gb403, 0, none⟩) (Kd.R_types HO376.out BK403.out (by decide)) (fun _ hk => hk.2) (.slice Ao38 t397.length co38)) (fun _ h_ => h_.1))))) (Kd.R_lt (by (with_reducible repeat (first | apply Kd.R_alloc | apply Kd.R_drewN | apply Kd.R_drew)); exact (Kd.R_mono (Kd.R_far (p := ⟨gb403, 0, none⟩) (Kd.R_types HO383.out BK403.out (by decide)) (fun _ hk => hk.2) (.slice Ao38 t397.length co38)) (fun _ h_ => h_.1))))) (Kd.R_lt (by (with_reducible repeat (first | apply Kd.R_alloc | apply Kd.R_drewN | apply Kd.R_drew)); exact (Kd.R_mono (Kd.R_far (p := ⟨gb403, 0, none⟩) (Kd.R_types HO388.out BK403.out (by decide)) (fun _ hk => hk.2) (.slice Ao38 t397.length co38)) (fun _ h_ => h_.1))))) (Kd.R_lt (by (with_reducible repeat (first | apply Kd.R_alloc | apply Kd.R_drewN | apply Kd.R_drew)); exact (Kd.R_mono (Kd.R_far (p := ⟨gb403, 0, none⟩) (Kd.R_types HO399.out BK403.out (by decide)) (fun _ hk => hk.2) (.slice Ao38 t397.length co38)) (fun _ h_ => h_.1))))) (Kd.R_lt (by (with_reducible repeat (first | apply Kd.R_alloc | apply Kd.R_drewN | apply Kd.R_drew)); exact (Kd.R_mono (Kd.R_far (p := ⟨gb403, 0, none⟩) (Kd.R_types HO402.out BK403.out (by decide)) (fun _ hk => hk.2) (.slice Ao38 t397.length co38)) (fun _ h_ => h_.1))))) (g := gb396) (o := .cells #[.int .i64 t391, .int .i64 t392, .int .i64 t393, .bool t394] 108 (0, 0)) (kF NB396_403 BK396)) (below_size tB)); replace HO376 := Aside0.mk (Kd.R_mono (Kd.R_told (Kd.R_told (Kd.R_old (by (with_reducible repeat (first | apply Kd.R_alloc | apply Kd.R_drewN | apply Kd.R_drew)); exact (Kd.R_mono (Kd.R_far (p := ⟨gb403, 0, none⟩) (Kd.R_types HO376.out BK403.out (by decide)) (fun _ hk => hk.2) (.slice Ao38 t397.length co38)) (fun _ h_ => h_.1))) hb) (Kd.R_base ho0)) (Kd.R_base ho1)) (fun _ h_ => h_.1)); replace HO383 := Aside0.mk (Kd.R_mono (Kd.R_told (Kd.R_told (Kd.R_old (by (with_reducible repeat (first | apply Kd.R_alloc | apply Kd.R_drewN | apply Kd.R_drew)); exact (Kd.R_mono (Kd.R_far (p := ⟨gb403, 0, none⟩) (Kd.R_types HO383.out BK403.out (by decide)) (fun _ hk => hk.2) (.slice Ao38 t397.length co38)) (fun _ h_ => h_.1))) hb) (Kd.R_base ho0)) (Kd.R_base ho1)) (fun _ h_ => h_.1)); replace HO388 := Aside0.mk (Kd.R_mono (Kd.R_told (Kd.R_told (Kd.R_old (by (with_reducible repeat (first | apply Kd.R_alloc | apply Kd.R_drewN | apply Kd.R_drew)); exact (Kd.R_mono (Kd.R_far (p := ⟨gb403, 0, none⟩) (Kd.R_types HO388.out BK403.out (by decide)) (fun _ hk => hk.2) (.slice Ao38 t397.length co38)) (fun _ h_ => h_.1))) hb) (Kd.R_base ho0)) (Kd.R_base ho1)) (fun _ h_ => h_.1)); replace HO399 := Aside0.mk (Kd.R_mono (Kd.R_told (Kd.R_told (Kd.R_old (by (with_reducible repeat (first | apply Kd.R_alloc | apply Kd.R_drewN | apply Kd.R_drew)); exact (Kd.R_mono (Kd.R_far (p := ⟨gb403, 0, none⟩) (Kd.R_types HO399.out BK403.out (by decide)) (fun _ hk => hk.2) (.slice Ao38 t397.length co38)) (fun _ h_ => h_.1))) hb) (Kd.R_base ho0)) (Kd.R_base ho1)) (fun _ h_ => h_.1)); replace HO402 := Aside0.mk (Kd.R_mono (Kd.R_told (Kd.R_told (Kd.R_old (by (with_reducible repeat (first | apply Kd.R_alloc | apply Kd.R_drewN | apply Kd.R_drew)); exact (Kd.R_mono (Kd.R_far (p := ⟨gb403, 0, none⟩) (Kd.R_types HO402.out BK403.out (by decide)) (fun _ hk => hk.2) (.slice Ao38 t397.length co38)) (fun _ h_ => h_.1))) hb) (Kd.R_base ho0)) (Kd.R_base ho1)) (fun _ h_ => h_.1)); replace BK380 := Aside0.mk (blk_below (g := gb380) (o := .cells #[.slice Ao14 t374.length co14] 65 (0, 0)) (kF NB380_403 BK380) hb); replace BK385 := Aside0.mk (blk_below (g := gb385) (o := .cells #[.slice Ao18 t381.length co18] 65 (0, 0)) (kF NB385_403 BK385) hb); replace BK390 := Aside0.mk (blk_below (g := gb390) (o := .cells #[.slice Ao24 t386.length co24] 65 (0, 0)) (kF NB390_403 BK390) hb); replace BK396 := Aside0.mk (blk_below (g := gb396) (o := .cells #[.int .i64 t391, .int .i64 t392, .int .i64 t393, .bool t394] 108 (0, 0)) (kF NB396_403 BK396) hb); replace BK403 := Aside0.mk (blk_below (g := gb403) (o := .cells #[.slice Ao38 t397.length co38] 65 (0, 0)) (by (with_reducible repeat (first | refine blk_drewN ?_ _ | refine blk_drew ?_ | refine blk_alloc ?_ _)); refine blk_put (cs := #[.slice none 0 0]) ?_ 0 _ rfl; (with_reducible repeat (first | refine blk_drewN ?_ _ | refine blk_drew ?_ | refine blk_alloc ?_ _)); exact BK403.out) hb); replace HB := bH HB hb; (try clear hb); (try clear hb2); (try clear hk); (try clear hi); (try clear ho0); (try clear ho1)) | ((with_reducible refine gate_dst (N := 15) rfl ?_); (try (refine gate_guard (by rfl) ?_; dsimp only)); refine box_event ?hg (N := 15) ?hd (cs := #[.slice none 0 0]) (t := 65) ?hr ?_; (case hd => rfl); (case hg => rfl); (case hr => exact tG); intro gb410 hg w45 hbox hb; replace HO376 := Aside0.mk (Kd.R_below (tR HO376) hb); replace HO383 := Aside0.mk (Kd.R_below (tR HO383) hb); replace HO388 := Aside0.mk (Kd.R_below (tR HO388) hb); replace HO399 := Aside0.mk (Kd.R_below (tR HO399) hb); replace HO402 := Aside0.mk (Kd.R_below (tR HO402) hb); replace HO406 := Aside0.mk (Kd.R_below (tR HO406) hb); replace HO409 := Aside0.mk (Kd.R_below (tR HO409) hb); have BK410 := Aside0.mk (hbox); have GW410 := gW HB hg; have GE410 := gW HB hg; replace HB := bH HB hb; have NB380_410 := nL BK380 hg; have NB410_380 := nR BK380 hg; replace BK380 := bB BK380 hb; have NB385_410 := nL BK385 hg; have NB410_385 := nR BK385 hg; replace BK385 := bB BK385 hb; have NB390_410 := nL BK390 hg; have NB410_390 := nR BK390 hg; replace BK390 := bB BK390 hb; have NB396_410 := nL BK396 hg; have NB410_396 := nR BK396 hg; replace BK396 := bB BK396 hb; have NB403_410 := nL BK403 hg; have NB410_403 := nR BK403 hg; replace BK403 := bB BK403 hb; clear hb hbox hg; obtain ⟨Ao46, co46, eo46⟩ := Kd.R_slice HO406.out; subst eo46; have hnb47 := NB410_380.out; have hnc47 := NB380_410.out; have hnb48 := NB410_385.out; have hnc48 := NB385_410.out; have hnb49 := NB410_390.out; have hnc49 := NB390_410.out; have hnb50 := NB410_396.out; have hnc50 := NB396_410.out; have hnb51 := NB410_403.out; have hnc51 := NB403_410.out; obtain ⟨hcz52_0, hfz52_0⟩ := bc1 BK410.out))
  go_loopg [17, 18] k (fun kq v17 v18 w' => ∃ (x17_1 : Int) (x18_1 : Int), v17 = .int .i64 x17_1 ∧ v18 = .int .i64 x18_1 ∧ Aside0 (laws_FnNotices.l0 kq t377 t379 t395 x17_1 x18_1 t400 t407 t374 t381 t391 t392 t393 t394 t397 = some r) ∧ Aside0 (kq ≤ k) ∧ Aside0 (Kd.R k108 108 w' w.heap.size (fun k_ => some k_ ≠ (v408 : Value).ownBlock ∧ some k_ ≠ ((.slice Ao14 t374.length co14) : Value).ownBlock ∧ some k_ ≠ ((.slice Ao18 t381.length co18) : Value).ownBlock ∧ some k_ ≠ ((.slice Ao24 t386.length co24) : Value).ownBlock ∧ some k_ ≠ ((.slice Ao38 t397.length co38) : Value).ownBlock ∧ some k_ ≠ ((.slice Ao46 t404.length co46) : Value).ownBlock ∧ k_ ≠ gb396) v401 t400) ∧ Aside0 (Kd.R k108 108 w' w.heap.size (fun k_ => some k_ ≠ (v401 : Value).ownBlock ∧ some k_ ≠ ((.slice Ao14 t374.length co14) : Value).ownBlock ∧ some k_ ≠ ((.slice Ao18 t381.length co18) : Value).ownBlock ∧ some k_ ≠ ((.slice Ao24 t386.length co24) : Value).ownBlock ∧ some k_ ≠ ((.slice Ao38 t397.length co38) : Value).ownBlock ∧ some k_ ≠ ((.slice Ao46 t404.length co46) : Value).ownBlock ∧ k_ ≠ gb396) v408 t407) ∧ Aside0 (Kd.R k108 108 w' w.heap.size (fun k_ => some k_ ≠ (v401 : Value).ownBlock ∧ some k_ ≠ (v408 : Value).ownBlock ∧ some k_ ≠ ((.slice Ao18 t381.length co18) : Value).ownBlock ∧ some k_ ≠ ((.slice Ao24 t386.length co24) : Value).ownBlock ∧ some k_ ≠ ((.slice Ao38 t397.length co38) : Value).ownBlock ∧ some k_ ≠ ((.slice Ao46 t404.length co46) : Value).ownBlock ∧ k_ ≠ gb396) (.slice Ao14 t374.length co14) t374) ∧ Aside0 (Kd.R k108 108 w' w.heap.size (fun k_ => some k_ ≠ (v401 : Value).ownBlock ∧ some k_ ≠ (v408 : Value).ownBlock ∧ some k_ ≠ ((.slice Ao14 t374.length co14) : Value).ownBlock ∧ some k_ ≠ ((.slice Ao24 t386.length co24) : Value).ownBlock ∧ some k_ ≠ ((.slice Ao38 t397.length co38) : Value).ownBlock ∧ some k_ ≠ ((.slice Ao46 t404.length co46) : Value).ownBlock ∧ k_ ≠ gb396) (.slice Ao18 t381.length co18) t381) ∧ Aside0 (Kd.R k108 108 w' w.heap.size (fun k_ => some k_ ≠ (v401 : Value).ownBlock ∧ some k_ ≠ (v408 : Value).ownBlock ∧ some k_ ≠ ((.slice Ao14 t374.length co14) : Value).ownBlock ∧ some k_ ≠ ((.slice Ao18 t381.length co18) : Value).ownBlock ∧ some k_ ≠ ((.slice Ao38 t397.length co38) : Value).ownBlock ∧ some k_ ≠ ((.slice Ao46 t404.length co46) : Value).ownBlock ∧ k_ ≠ gb396) (.slice Ao24 t386.length co24) t386) ∧ Aside0 (Kd.R k108 108 w' w.heap.size (fun k_ => some k_ ≠ (v401 : Value).ownBlock ∧ some k_ ≠ (v408 : Value).ownBlock ∧ some k_ ≠ ((.slice Ao14 t374.length co14) : Value).ownBlock ∧ some k_ ≠ ((.slice Ao18 t381.length co18) : Value).ownBlock ∧ some k_ ≠ ((.slice Ao24 t386.length co24) : Value).ownBlock ∧ some k_ ≠ ((.slice Ao46 t404.length co46) : Value).ownBlock ∧ k_ ≠ gb396) (.slice Ao38 t397.length co38) t397) ∧ Aside0 (Kd.R k108 108 w' w.heap.size (fun k_ => some k_ ≠ (v401 : Value).ownBlock ∧ some k_ ≠ (v408 : Value).ownBlock ∧ some k_ ≠ ((.slice Ao14 t374.length co14) : Value).ownBlock ∧ some k_ ≠ ((.slice Ao18 t381.length co18) : Value).ownBlock ∧ some k_ ≠ ((.slice Ao24 t386.length co24) : Value).ownBlock ∧ some k_ ≠ ((.slice Ao38 t397.length co38) : Value).ownBlock ∧ k_ ≠ gb396) (.slice Ao46 t404.length co46) t404) ∧ Aside0 (w'.heap[gb380]? = some (.cells #[(.slice Ao14 t374.length co14)] 65 (0, 0))) ∧ Aside0 (w'.heap[gb385]? = some (.cells #[(.slice Ao18 t381.length co18)] 65 (0, 0))) ∧ Aside0 (w'.heap[gb390]? = some (.cells #[(.slice Ao24 t386.length co24)] 65 (0, 0))) ∧ Aside0 (w'.heap[gb396]? = some (.cells #[.int .i64 t391, .int .i64 t392, .int .i64 t393, .bool t394] 108 (0, 0))) ∧ Aside0 (w'.heap[gb403]? = some (.cells #[(.slice Ao38 t397.length co38)] 65 (0, 0))) ∧ Aside0 (w'.heap[gb410]? = some (.cells #[(.slice Ao46 t404.length co46)] 65 (0, 0))) ∧ Aside0 (Below w.heap.size w w'))
  case atStart => exact ⟨(0), (1), tS, tS, H', ⟨Nat.le_refl _⟩, ⟨by (with_reducible repeat (first | apply Kd.R_alloc | apply Kd.R_drewN | apply Kd.R_drew)); exact Kd.R_mono (Kd.R_far (p := ⟨gb410, 0, none⟩) (Kd.R_types HO402.out BK410.out (by decide)) (fun _ hk => hk.2) (.slice Ao46 t404.length co46)) (fun _ hk => ⟨hk.1.2, ⟨hk.1.1.1.1.1.1.2, ⟨hk.1.1.1.1.1.2, ⟨hk.1.1.1.1.2, ⟨hk.1.1.1.1.1.1.1, ⟨hk.1.1.2, hk.1.1.1.2⟩⟩⟩⟩⟩⟩)⟩, ⟨by (with_reducible repeat (first | apply Kd.R_alloc | apply Kd.R_drewN | apply Kd.R_drew)); exact Kd.R_mono (Kd.R_far (p := ⟨gb410, 0, none⟩) (Kd.R_types HO409.out BK410.out (by decide)) (fun _ hk => hk.2) (.slice Ao46 t404.length co46)) (fun _ hk => ⟨hk.1.1.2, ⟨hk.1.1.1.1.1.1.2, ⟨hk.1.1.1.1.1.2, ⟨hk.1.1.1.1.2, ⟨hk.1.1.1.2, ⟨hk.1.1.1.1.1.1.1, hk.1.2⟩⟩⟩⟩⟩⟩)⟩, ⟨by (with_reducible repeat (first | apply Kd.R_alloc | apply Kd.R_drewN | apply Kd.R_drew)); exact Kd.R_mono (Kd.R_far (p := ⟨gb410, 0, none⟩) (Kd.R_types HO376.out BK410.out (by decide)) (fun _ hk => hk.2) (.slice Ao46 t404.length co46)) (fun _ hk => ⟨hk.1.1.1.2, ⟨hk.1.2, ⟨hk.1.1.1.1.1.1.1.2, ⟨hk.1.1.1.1.1.1.2, ⟨hk.1.1.1.1.2, ⟨hk.1.1.2, hk.1.1.1.1.1.2⟩⟩⟩⟩⟩⟩)⟩, ⟨by (with_reducible repeat (first | apply Kd.R_alloc | apply Kd.R_drewN | apply Kd.R_drew)); exact Kd.R_mono (Kd.R_far (p := ⟨gb410, 0, none⟩) (Kd.R_types HO383.out BK410.out (by decide)) (fun _ hk => hk.2) (.slice Ao46 t404.length co46)) (fun _ hk => ⟨hk.1.1.1.2, ⟨hk.1.2, ⟨hk.1.1.1.1.1.1.1.2, ⟨hk.1.1.1.1.1.1.2, ⟨hk.1.1.1.1.2, ⟨hk.1.1.2, hk.1.1.1.1.1.2⟩⟩⟩⟩⟩⟩)⟩, ⟨by (with_reducible repeat (first | apply Kd.R_alloc | apply Kd.R_drewN | apply Kd.R_drew)); exact Kd.R_mono (Kd.R_far (p := ⟨gb410, 0, none⟩) (Kd.R_types HO388.out BK410.out (by decide)) (fun _ hk => hk.2) (.slice Ao46 t404.length co46)) (fun _ hk => ⟨hk.1.1.1.2, ⟨hk.1.2, ⟨hk.1.1.1.1.1.1.1.2, ⟨hk.1.1.1.1.1.1.2, ⟨hk.1.1.1.1.2, ⟨hk.1.1.2, hk.1.1.1.1.1.2⟩⟩⟩⟩⟩⟩)⟩, ⟨by (with_reducible repeat (first | apply Kd.R_alloc | apply Kd.R_drewN | apply Kd.R_drew)); exact Kd.R_mono (Kd.R_far (p := ⟨gb410, 0, none⟩) (Kd.R_types HO399.out BK410.out (by decide)) (fun _ hk => hk.2) (.slice Ao46 t404.length co46)) (fun _ hk => ⟨hk.1.1.1.1.1.1.1, ⟨hk.1.2, ⟨hk.1.1.1.1.1.1.2, ⟨hk.1.1.1.1.1.2, ⟨hk.1.1.1.1.2, ⟨hk.1.1.2, hk.1.1.1.2⟩⟩⟩⟩⟩⟩)⟩, ⟨by (with_reducible repeat (first | apply Kd.R_alloc | apply Kd.R_drewN | apply Kd.R_drew)); exact Kd.R_mono (Kd.R_far (p := ⟨gb410, 0, none⟩) (Kd.R_types HO406.out BK410.out (by decide)) (fun _ hk => hk.2) (.slice Ao46 t404.length co46)) (fun _ hk => ⟨hk.1.1.2, ⟨hk.1.1.1.1.1.1.1, ⟨hk.1.1.1.1.1.1.2, ⟨hk.1.1.1.1.1.2, ⟨hk.1.1.1.1.2, ⟨hk.1.1.1.2, hk.1.2⟩⟩⟩⟩⟩⟩)⟩, ⟨kF NB380_410 BK380⟩, ⟨kF NB385_410 BK385⟩, ⟨kF NB390_410 BK390⟩, ⟨kF NB396_410 BK396⟩, ⟨kF NB403_410 BK403⟩, ⟨by (with_reducible repeat (first | refine blk_drewN ?_ _ | refine blk_drew ?_ | refine blk_alloc ?_ _)); refine blk_put (cs := #[.slice none 0 0]) ?_ 0 _ rfl; (with_reducible repeat (first | refine blk_drewN ?_ _ | refine blk_drew ?_ | refine blk_alloc ?_ _)); exact BK410.out⟩, ⟨tB⟩⟩
  case round =>
   clear H'
   try clear c1
   try clear c2
   try clear p2
   try clear c3
   try clear c4
   try clear c5
   try clear c6
   try clear c7
   try clear c7b0
   try clear c7b1
   try clear c7b2
   try clear c8
   try clear c12
   try clear c15
   try clear c19
   try clear c25
   try clear c26
   try clear c31
   try clear c32
   try clear c33
   try clear c39
   try clear c40
   try clear c41
   try clear c42
   try clear c47
   try clear c48
   try clear c49
   try clear c50
   try clear c51
   try clear hcz15_0
   try clear hcz20_0
   try clear hcz21_0
   try clear hcz27_0
   try clear hcz28_0
   try clear hcz34_0
   try clear hcz34_1
   try clear hcz34_2
   try clear hcz34_3
   try clear hcz35_0
   try clear hcz43_0
   try clear hcz52_0
   try clear hfz15_0
   try clear hfz20_0
   try clear hfz21_0
   try clear hfz27_0
   try clear hfz28_0
   try clear hfz34_0
   try clear hfz34_1
   try clear hfz34_2
   try clear hfz34_3
   try clear hfz35_0
   try clear hfz43_0
   try clear hfz52_0
   obtain ⟨x17_1, x18_1, rfl, rfl, HA, HK1, HO_62, HO_67, HO_381000, HO_386000, HO_391000, HO_404000, HO_411000, BK380, BK385, BK390, BK396, BK403, BK410, HB⟩ := hrel
   cases gk with
   | zero => exact absurd HA.out (by simp [laws_FnNotices.l0])
   | succ k1 =>
    have H := HA.out
    clear HA
    simp only [laws_FnNotices.l0] at H
    by_cases c53 : x18_1 ≤ 5
    ·rw [if_pos c53] at H
     have c53b0 : decide (x18_1 ≤ 5) = true := decide_eq_true c53
     clear c53
     replace H := Option.bind_eq_some_iff.mp H
     obtain ⟨t411, A540, H⟩ := H
     try dsimp only at H
     have A54 := Aside0.mk A540
     clear A540
     have H' := Aside0.mk H
     clear H
     have hnb55 := NB385_380.out
     have hnc55 := NB380_385.out
     have hnb56 := NB385_390.out
     have hnc56 := NB390_385.out
     have hnb57 := NB385_396.out
     have hnc57 := NB396_385.out
     have hnb58 := NB385_403.out
     have hnc58 := NB403_385.out
     have hnb59 := NB385_410.out
     have hnc59 := NB410_385.out
     obtain ⟨hcz60_0, hfz60_0⟩ := bc1 BK385.out
     go_wp2_with (first | ((with_reducible refine gate_callee (f := 70) rfl ?_); refine goesL_ (some 75) rfl rfl Try.func70 (by kernel_rfl) rfl #[.agg #[.slice Ao18 t381.length co18], .int .i64 x18_1] rfl tL ?_; (with_reducible refine (impl_UnseenOf.calls k1 _ _ t381 x18_1 t411 _ ?side1 ?side2 A54.out).mono ?_); (case side1 => repeat (first | exact (Kd.R_reads' HO_386000.out).2.2 | (with_reducible refine Kd.C_alloc ?_ _) | (with_reducible refine Kd.C_drewN ?_ _) | (with_reducible refine Kd.C_drew ?_))); (case side2 => exact (Kd.R_reads' HO_386000.out).2.1); rintro e w61 ⟨rfl, hb⟩; refine ⟨_, rfl, ?_⟩; replace HO_62 := Aside0.mk (Kd.R_below (tR HO_62) hb); replace HO_67 := Aside0.mk (Kd.R_below (tR HO_67) hb); replace HO_381000 := Aside0.mk (Kd.R_below (tR HO_381000) hb); replace HO_386000 := Aside0.mk (Kd.R_below (tR HO_386000) hb); replace HO_391000 := Aside0.mk (Kd.R_below (tR HO_391000) hb); replace HO_404000 := Aside0.mk (Kd.R_below (tR HO_404000) hb); replace HO_411000 := Aside0.mk (Kd.R_below (tR HO_411000) hb); replace BK380 := bB BK380 hb; replace BK385 := bB BK385 hb; replace BK390 := bB BK390 hb; replace BK396 := bB BK396 hb; replace BK403 := bB BK403 hb; replace BK410 := bB BK410 hb; replace HB := bH HB hb; (try clear hb); (try clear hb2); (try clear hk); (try clear hi)))
     go_roundg k1
     case measure => have := HK1.out; omega
     case rel => exact ⟨(wrap64 (x17_1 + t411)), (wrap64 (x18_1 + 1)), tS, tS, H', ⟨tI⟩, ⟨tR HO_62⟩, ⟨tR HO_67⟩, ⟨tR HO_381000⟩, ⟨tR HO_386000⟩, ⟨tR HO_391000⟩, ⟨tR HO_404000⟩, ⟨tR HO_411000⟩, ⟨tK BK380⟩, ⟨tK BK385⟩, ⟨tK BK390⟩, ⟨tK BK396⟩, ⟨tK BK403⟩, ⟨tK BK410⟩, ⟨tB⟩⟩
    rw [if_neg c53] at H
    have c53b0 : decide (x18_1 ≤ 5) = false := decide_eq_false c53
    clear c53
    by_cases c62 : t395 = true
    ·subst c62
     have H1 : (if t391 = t377 then (if t393 = t379 then (if t394 = true then (some false) else (if (t400.length : Int) = x17_1 then (if (t407.length : Int) = 0 then ((impl_UnseenOf.f k1 t397 t377).bind fun t412 => (if t412 = 0 then ((impl_IsValidMailbox.f k1 t397).bind fun t413 => (if t413 = true then ((spec_Min.f 30 (wrap64 ((t374.length : Int) + 1))).bind fun t414 => (if (t381.length : Int) = t414 then ((impl_NoticeName.f t377).bind fun t415 => (some (t415.toList != ([] : List UInt8)))) else (some false))) else (some false))) else (some false))) else (some false)) else (some false))) else (some false)) else (some false)) = some r := by rw [if_pos rfl] at H; exact H
     clear H
     have H := H1
     clear H1
     by_cases c63 : t391 = t377
     ·rw [if_pos c63] at H
      have c63b0 : (t391 == t377) = true := beq_iff_eq.mpr c63
      have c63b1 : (t391 != t377) = false := bne_eq_false_iff_eq.mpr c63
      clear c63
      by_cases c64 : t393 = t379
      ·rw [if_pos c64] at H
       have c64b0 : (t393 == t379) = true := beq_iff_eq.mpr c64
       have c64b1 : (t393 != t379) = false := bne_eq_false_iff_eq.mpr c64
       clear c64
       by_cases c65 : t394 = true
       ·subst c65
        have H1 : (some false) = some r := by rw [if_pos rfl] at H; exact H
        clear H
        have H := H1
        clear H1
        exact absurd ((Option.some.inj H).trans hT_) (by decide)
       replace c65 := Bool.eq_false_iff.mpr c65
       subst c65
       have H1 : (if (t400.length : Int) = x17_1 then (if (t407.length : Int) = 0 then ((impl_UnseenOf.f k1 t397 t377).bind fun t412 => (if t412 = 0 then ((impl_IsValidMailbox.f k1 t397).bind fun t413 => (if t413 = true then ((spec_Min.f 30 (wrap64 ((t374.length : Int) + 1))).bind fun t414 => (if (t381.length : Int) = t414 then ((impl_NoticeName.f t377).bind fun t415 => (some (t415.toList != ([] : List UInt8)))) else (some false))) else (some false))) else (some false))) else (some false)) else (some false)) = some r := by rw [if_neg (show ¬ (false = true) by decide)] at H; exact H
       clear H
       have H := H1
       clear H1
       by_cases c66 : (t400.length : Int) = x17_1
       ·rw [if_pos c66] at H
        have c66b0 : ((t400.length : Int) == x17_1) = true := beq_iff_eq.mpr c66
        have c66b1 : ((t400.length : Int) != x17_1) = false := bne_eq_false_iff_eq.mpr c66
        clear c66
        by_cases c67 : (t407.length : Int) = 0
        ·rw [if_pos c67] at H
         have c67b0 : ((t407.length : Int) == 0) = true := beq_iff_eq.mpr c67
         have c67b1 : ((t407.length : Int) != 0) = false := bne_eq_false_iff_eq.mpr c67
         clear c67
         replace H := Option.bind_eq_some_iff.mp H
         obtain ⟨t412, A680, H⟩ := H
         try dsimp only at H
         have A68 := Aside0.mk A680
         clear A680
         by_cases c69 : t412 = 0
         ·rw [if_pos c69] at H
          have c69b0 : (t412 == 0) = true := beq_iff_eq.mpr c69
          have c69b1 : (t412 != 0) = false := bne_eq_false_iff_eq.mpr c69
          clear c69
          replace H := Option.bind_eq_some_iff.mp H
          obtain ⟨t413, A700, H⟩ := H
          try dsimp only at H
          have A70 := Aside0.mk A700
          clear A700
          by_cases c71 : t413 = true
          ·subst c71
           have H1 : ((spec_Min.f 30 (wrap64 ((t374.length : Int) + 1))).bind fun t414 => (if (t381.length : Int) = t414 then ((impl_NoticeName.f t377).bind fun t415 => (some (t415.toList != ([] : List UInt8)))) else (some false))) = some r := by rw [if_pos rfl] at H; exact H
           clear H
           have H := H1
           clear H1
           replace H := Option.bind_eq_some_iff.mp H
           obtain ⟨t414, A720, H⟩ := H
           try dsimp only at H
           have A72 := Aside0.mk A720
           clear A720
           by_cases c73 : (t381.length : Int) = t414
           ·rw [if_pos c73] at H
            have c73b0 : ((t381.length : Int) == t414) = true := beq_iff_eq.mpr c73
            have c73b1 : ((t381.length : Int) != t414) = false := bne_eq_false_iff_eq.mpr c73
            clear c73
            replace H := Option.bind_eq_some_iff.mp H
            obtain ⟨t415, A740, H⟩ := H
            try dsimp only at H
            have A74 := Aside0.mk A740
            clear A740
            obtain rfl := Option.some.inj H
            try go_wp2
            replace HO_62 := Aside0.mk (Kd.R_drew HO_62.out)
            replace HO_67 := Aside0.mk (Kd.R_drew HO_67.out)
            replace HO_381000 := Aside0.mk (Kd.R_drew HO_381000.out)
            replace HO_386000 := Aside0.mk (Kd.R_drew HO_386000.out)
            replace HO_391000 := Aside0.mk (Kd.R_drew HO_391000.out)
            replace HO_404000 := Aside0.mk (Kd.R_drew HO_404000.out)
            replace HO_411000 := Aside0.mk (Kd.R_drew HO_411000.out)
            replace BK380 := Aside0.mk (blk_drew BK380.out)
            replace BK385 := Aside0.mk (blk_drew BK385.out)
            replace BK390 := Aside0.mk (blk_drew BK390.out)
            replace BK396 := Aside0.mk (blk_drew BK396.out)
            replace BK403 := Aside0.mk (blk_drew BK403.out)
            replace BK410 := Aside0.mk (blk_drew BK410.out)
            replace HB := Aside0.mk (below_drew1 HB.out)
            obtain ⟨Ao76, co76, eo76⟩ := Kd.R_slice HO_62.out
            (first | subst eo76 | (injection eo76 with f1_ f2_ f3_; have f4_ := f1_.symm; have f5_ := f3_.symm; clear f1_ f2_ f3_; subst f4_; subst f5_))
            obtain ⟨Ao77, co77, eo77⟩ := Kd.R_slice HO_67.out
            (first | subst eo77 | (injection eo77 with f1_ f2_ f3_; have f4_ := f1_.symm; have f5_ := f3_.symm; clear f1_ f2_ f3_; subst f4_; subst f5_))
            refine start_ (n := 56) (S := fun w' => w'.cell? ⟨gb396, 0, none⟩ = some (.int .i64 t391) ∧ w'.cell? ⟨gb396, 1, none⟩ = some (.int .i64 t392) ∧ w'.cell? ⟨gb396, 2, none⟩ = some (.int .i64 t393) ∧ w'.cell? ⟨gb396, 3, none⟩ = some (.bool false) ∧ w'.cell? ⟨gb403, 0, none⟩ = some (.slice Ao38 t397.length co38) ∧ w'.cell? ⟨gb385, 0, none⟩ = some (.slice Ao18 t381.length co18) ∧ w'.cell? ⟨gb380, 0, none⟩ = some (.slice Ao14 t374.length co14)) (ds := []) #[N_,N_,N_,N_,N_,N_,N_,N_,N_,N_,N_,N_,N_,N_,N_,N_,N_,N_,N_,N_,N_,N_,N_,N_,N_,N_,N_,N_,N_,N_,N_,N_,N_,N_,N_,N_,N_,N_,N_,N_,N_,N_,N_,N_,N_,N_,N_,N_,N_,N_,N_,N_,N_,N_,N_,N_] (by kernel_rfl) rfl rfl tH (fun hHeld => ?_); refine with_tabW laws_FnNotices.tab18 laws_FnNotices.bits18 (fun HT_ HW_ => ?_)
            generalize wr.drew = w75 at HO_62 HO_67 HO_381000 HO_386000 HO_391000 HO_404000 HO_411000 BK380 BK385 BK390 BK396 BK403 BK410 HB hHeld ⊢
            refine pure_ (i := 0) (N := some 77) #[Y_,N_,N_,N_,N_,N_,N_,N_,N_,N_,N_,N_,N_,N_,N_,N_,N_,N_,N_,N_,N_,N_,N_,N_,N_,N_,N_,N_,N_,N_,N_,N_,N_,N_,N_,N_,N_,N_,N_,N_,N_,N_,N_,N_,N_,N_,N_,N_,N_,N_,N_,N_,N_,N_,N_,N_] rfl rfl (any_of HT_.out (by kernel_rfl)) (fun _ _ _ h => h) (Or.inl ⟨by rfl, tX⟩) tV ?_
            refine pure_ (i := 1) (N := some 78) #[Y_,Y_,N_,N_,N_,N_,N_,N_,N_,N_,N_,N_,N_,N_,N_,N_,N_,N_,N_,N_,N_,N_,N_,N_,N_,N_,N_,N_,N_,N_,N_,N_,N_,N_,N_,N_,N_,N_,N_,N_,N_,N_,N_,N_,N_,N_,N_,N_,N_,N_,N_,N_,N_,N_,N_,N_] rfl rfl (any_of HT_.out (by kernel_rfl)) (fun _ _ _ h => h) (Or.inl ⟨by rfl, tX⟩) tV ?_
            refine pure_ (i := 2) (N := some 79) #[Y_,Y_,Y_,N_,N_,N_,N_,N_,N_,N_,N_,N_,N_,N_,N_,N_,N_,N_,N_,N_,N_,N_,N_,N_,N_,N_,N_,N_,N_,N_,N_,N_,N_,N_,N_,N_,N_,N_,N_,N_,N_,N_,N_,N_,N_,N_,N_,N_,N_,N_,N_,N_,N_,N_,N_,N_] rfl rfl (any_of HT_.out (by kernel_rfl)) (fun _ _ _ h => h) (Or.inl ⟨by rfl, tX⟩) tV ?_
            refine pure_ (i := 4) (N := some 81) #[Y_,Y_,Y_,N_,Y_,N_,N_,N_,N_,N_,N_,N_,N_,N_,N_,N_,N_,N_,N_,N_,N_,N_,N_,N_,N_,N_,N_,N_,N_,N_,N_,N_,N_,N_,N_,N_,N_,N_,N_,N_,N_,N_,N_,N_,N_,N_,N_,N_,N_,N_,N_,N_,N_,N_,N_,N_] rfl rfl (any_of HT_.out (by kernel_rfl)) (fun _ _ _ h => h) (Or.inl ⟨by rfl, tX⟩) tV ?_
            refine take_ (i := 3) (N := some 80) (v := ?_) (a' := ?_) #[Y_,Y_,Y_,Y_,Y_,N_,N_,N_,N_,N_,N_,N_,N_,N_,N_,N_,N_,N_,N_,N_,N_,N_,N_,N_,N_,N_,N_,N_,N_,N_,N_,N_,N_,N_,N_,N_,N_,N_,N_,N_,N_,N_,N_,N_,N_,N_,N_,N_,N_,N_,N_,N_,N_,N_,N_,N_] rfl rfl (take_ofW HT_.out HW_.out (by kernel_rfl)) (fun _ _ _ h => h) (Or.inl ⟨by rfl, ?_⟩) hHeld ?_ ?_
            rotate_left
            ·rintro w' ⟨s0, s1, s2, s3, s4, s5, s6⟩
             go_simp
             with_reducible rfl
            rotate_left
            ·simp only [Act.put, List.setIfInBounds_toArray, List.set_cons_zero, List.set_cons_succ, i64_w, i32_w]
             rfl
            refine pure_ (i := 5) (N := some 82) #[Y_,Y_,Y_,Y_,Y_,Y_,N_,N_,N_,N_,N_,N_,N_,N_,N_,N_,N_,N_,N_,N_,N_,N_,N_,N_,N_,N_,N_,N_,N_,N_,N_,N_,N_,N_,N_,N_,N_,N_,N_,N_,N_,N_,N_,N_,N_,N_,N_,N_,N_,N_,N_,N_,N_,N_,N_,N_] rfl rfl (any_of HT_.out (by kernel_rfl)) (fun _ _ _ h => h) (Or.inl ⟨by rfl, tX⟩) tV ?_
            refine pure_ (i := 6) (N := some 83) #[Y_,Y_,Y_,Y_,Y_,Y_,Y_,N_,N_,N_,N_,N_,N_,N_,N_,N_,N_,N_,N_,N_,N_,N_,N_,N_,N_,N_,N_,N_,N_,N_,N_,N_,N_,N_,N_,N_,N_,N_,N_,N_,N_,N_,N_,N_,N_,N_,N_,N_,N_,N_,N_,N_,N_,N_,N_,N_] rfl rfl (any_of HT_.out (by kernel_rfl)) (fun _ _ _ h => h) (Or.inl ⟨by rfl, tX⟩) tV ?_
            refine pure_ (i := 7) (N := some 84) #[Y_,Y_,Y_,Y_,Y_,Y_,Y_,Y_,N_,N_,N_,N_,N_,N_,N_,N_,N_,N_,N_,N_,N_,N_,N_,N_,N_,N_,N_,N_,N_,N_,N_,N_,N_,N_,N_,N_,N_,N_,N_,N_,N_,N_,N_,N_,N_,N_,N_,N_,N_,N_,N_,N_,N_,N_,N_,N_] rfl rfl (any_of HT_.out (by kernel_rfl)) (fun _ _ _ h => h) (Or.inl ⟨by rfl, tX⟩) tV ?_
            refine pure_ (i := 8) (N := some 85) #[Y_,Y_,Y_,Y_,Y_,Y_,Y_,Y_,Y_,N_,N_,N_,N_,N_,N_,N_,N_,N_,N_,N_,N_,N_,N_,N_,N_,N_,N_,N_,N_,N_,N_,N_,N_,N_,N_,N_,N_,N_,N_,N_,N_,N_,N_,N_,N_,N_,N_,N_,N_,N_,N_,N_,N_,N_,N_,N_] rfl rfl (any_of HT_.out (by kernel_rfl)) (fun _ _ _ h => h) (Or.inl ⟨by rfl, tX⟩) tV ?_
            refine pure_ (i := 10) (N := some 87) #[Y_,Y_,Y_,Y_,Y_,Y_,Y_,Y_,Y_,N_,Y_,N_,N_,N_,N_,N_,N_,N_,N_,N_,N_,N_,N_,N_,N_,N_,N_,N_,N_,N_,N_,N_,N_,N_,N_,N_,N_,N_,N_,N_,N_,N_,N_,N_,N_,N_,N_,N_,N_,N_,N_,N_,N_,N_,N_,N_] rfl rfl (any_of HT_.out (by kernel_rfl)) (fun _ _ _ h => h) (Or.inl ⟨by rfl, tX⟩) tV ?_
            refine take_ (i := 9) (N := some 86) (v := ?_) (a' := ?_) #[Y_,Y_,Y_,Y_,Y_,Y_,Y_,Y_,Y_,Y_,Y_,N_,N_,N_,N_,N_,N_,N_,N_,N_,N_,N_,N_,N_,N_,N_,N_,N_,N_,N_,N_,N_,N_,N_,N_,N_,N_,N_,N_,N_,N_,N_,N_,N_,N_,N_,N_,N_,N_,N_,N_,N_,N_,N_,N_,N_] rfl rfl (take_ofW HT_.out HW_.out (by kernel_rfl)) (fun _ _ _ h => h) (Or.inl ⟨by rfl, ?_⟩) hHeld ?_ ?_
            rotate_left
            ·rintro w' ⟨s0, s1, s2, s3, s4, s5, s6⟩
             go_simp
             with_reducible rfl
            rotate_left
            ·simp only [Act.put, List.setIfInBounds_toArray, List.set_cons_zero, List.set_cons_succ, i64_w, i32_w]
             rfl
            refine pure_ (i := 11) (N := some 88) #[Y_,Y_,Y_,Y_,Y_,Y_,Y_,Y_,Y_,Y_,Y_,Y_,N_,N_,N_,N_,N_,N_,N_,N_,N_,N_,N_,N_,N_,N_,N_,N_,N_,N_,N_,N_,N_,N_,N_,N_,N_,N_,N_,N_,N_,N_,N_,N_,N_,N_,N_,N_,N_,N_,N_,N_,N_,N_,N_,N_] rfl rfl (any_of HT_.out (by kernel_rfl)) (fun _ _ _ h => h) (Or.inl ⟨by rfl, tX⟩) tV ?_
            refine pure_ (i := 12) (N := some 89) #[Y_,Y_,Y_,Y_,Y_,Y_,Y_,Y_,Y_,Y_,Y_,Y_,Y_,N_,N_,N_,N_,N_,N_,N_,N_,N_,N_,N_,N_,N_,N_,N_,N_,N_,N_,N_,N_,N_,N_,N_,N_,N_,N_,N_,N_,N_,N_,N_,N_,N_,N_,N_,N_,N_,N_,N_,N_,N_,N_,N_] rfl rfl (any_of HT_.out (by kernel_rfl)) (fun _ _ _ h => h) (Or.inl ⟨by rfl, tX⟩) tV ?_
            refine pure_ (i := 13) (N := some 90) #[Y_,Y_,Y_,Y_,Y_,Y_,Y_,Y_,Y_,Y_,Y_,Y_,Y_,Y_,N_,N_,N_,N_,N_,N_,N_,N_,N_,N_,N_,N_,N_,N_,N_,N_,N_,N_,N_,N_,N_,N_,N_,N_,N_,N_,N_,N_,N_,N_,N_,N_,N_,N_,N_,N_,N_,N_,N_,N_,N_,N_] rfl rfl (any_of HT_.out (by kernel_rfl)) (fun _ _ _ h => h) (Or.inl ⟨by rfl, tX⟩) tV ?_
            refine pure_ (i := 14) (N := some 91) #[Y_,Y_,Y_,Y_,Y_,Y_,Y_,Y_,Y_,Y_,Y_,Y_,Y_,Y_,Y_,N_,N_,N_,N_,N_,N_,N_,N_,N_,N_,N_,N_,N_,N_,N_,N_,N_,N_,N_,N_,N_,N_,N_,N_,N_,N_,N_,N_,N_,N_,N_,N_,N_,N_,N_,N_,N_,N_,N_,N_,N_] rfl rfl (any_of HT_.out (by kernel_rfl)) (fun _ _ _ h => h) (Or.inl ⟨by rfl, tX⟩) tV ?_
            refine take_ (i := 15) (N := some 92) (v := ?_) (a' := ?_) #[Y_,Y_,Y_,Y_,Y_,Y_,Y_,Y_,Y_,Y_,Y_,Y_,Y_,Y_,Y_,Y_,N_,N_,N_,N_,N_,N_,N_,N_,N_,N_,N_,N_,N_,N_,N_,N_,N_,N_,N_,N_,N_,N_,N_,N_,N_,N_,N_,N_,N_,N_,N_,N_,N_,N_,N_,N_,N_,N_,N_,N_] rfl rfl (take_ofW HT_.out HW_.out (by kernel_rfl)) (fun _ _ _ h => h) (Or.inl ⟨by rfl, ?_⟩) hHeld ?_ ?_
            rotate_left
            ·rintro w' ⟨s0, s1, s2, s3, s4, s5, s6⟩
             go_simp
             with_reducible rfl
            rotate_left
            ·simp only [Act.put, List.setIfInBounds_toArray, List.set_cons_zero, List.set_cons_succ, i64_w, i32_w]
             rfl
            refine pure_ (i := 16) (N := some 93) #[Y_,Y_,Y_,Y_,Y_,Y_,Y_,Y_,Y_,Y_,Y_,Y_,Y_,Y_,Y_,Y_,Y_,N_,N_,N_,N_,N_,N_,N_,N_,N_,N_,N_,N_,N_,N_,N_,N_,N_,N_,N_,N_,N_,N_,N_,N_,N_,N_,N_,N_,N_,N_,N_,N_,N_,N_,N_,N_,N_,N_,N_] rfl rfl (any_of HT_.out (by kernel_rfl)) (fun _ _ _ h => h) (Or.inl ⟨by rfl, tX⟩) tV ?_
            refine pure_ (i := 17) (N := some 94) #[Y_,Y_,Y_,Y_,Y_,Y_,Y_,Y_,Y_,Y_,Y_,Y_,Y_,Y_,Y_,Y_,Y_,Y_,N_,N_,N_,N_,N_,N_,N_,N_,N_,N_,N_,N_,N_,N_,N_,N_,N_,N_,N_,N_,N_,N_,N_,N_,N_,N_,N_,N_,N_,N_,N_,N_,N_,N_,N_,N_,N_,N_] rfl rfl (any_of HT_.out (by kernel_rfl)) (fun _ _ _ h => h) (Or.inl ⟨by rfl, tX⟩) tV ?_
            refine pure_ (i := 18) (N := some 95) #[Y_,Y_,Y_,Y_,Y_,Y_,Y_,Y_,Y_,Y_,Y_,Y_,Y_,Y_,Y_,Y_,Y_,Y_,Y_,N_,N_,N_,N_,N_,N_,N_,N_,N_,N_,N_,N_,N_,N_,N_,N_,N_,N_,N_,N_,N_,N_,N_,N_,N_,N_,N_,N_,N_,N_,N_,N_,N_,N_,N_,N_,N_] rfl rfl (any_of HT_.out (by kernel_rfl)) (fun _ _ _ h => h) (Or.inl ⟨by rfl, tX⟩) tV ?_
            refine pure_ (i := 19) (N := some 96) #[Y_,Y_,Y_,Y_,Y_,Y_,Y_,Y_,Y_,Y_,Y_,Y_,Y_,Y_,Y_,Y_,Y_,Y_,Y_,Y_,N_,N_,N_,N_,N_,N_,N_,N_,N_,N_,N_,N_,N_,N_,N_,N_,N_,N_,N_,N_,N_,N_,N_,N_,N_,N_,N_,N_,N_,N_,N_,N_,N_,N_,N_,N_] rfl rfl (any_of HT_.out (by kernel_rfl)) (fun _ _ _ h => h) (Or.inl ⟨by rfl, tX⟩) tV ?_
            refine pure_ (i := 20) (N := some 97) #[Y_,Y_,Y_,Y_,Y_,Y_,Y_,Y_,Y_,Y_,Y_,Y_,Y_,Y_,Y_,Y_,Y_,Y_,Y_,Y_,Y_,N_,N_,N_,N_,N_,N_,N_,N_,N_,N_,N_,N_,N_,N_,N_,N_,N_,N_,N_,N_,N_,N_,N_,N_,N_,N_,N_,N_,N_,N_,N_,N_,N_,N_,N_] rfl rfl (any_of HT_.out (by kernel_rfl)) (fun _ _ _ h => h) (Or.inl ⟨by rfl, tX⟩) tV ?_
            refine pure_ (i := 21) (N := some 98) #[Y_,Y_,Y_,Y_,Y_,Y_,Y_,Y_,Y_,Y_,Y_,Y_,Y_,Y_,Y_,Y_,Y_,Y_,Y_,Y_,Y_,Y_,N_,N_,N_,N_,N_,N_,N_,N_,N_,N_,N_,N_,N_,N_,N_,N_,N_,N_,N_,N_,N_,N_,N_,N_,N_,N_,N_,N_,N_,N_,N_,N_,N_,N_] rfl rfl (any_of HT_.out (by kernel_rfl)) (fun _ _ _ h => h) (Or.inl ⟨by rfl, tX⟩) tV ?_
            refine pure_ (i := 22) (N := some 99) #[Y_,Y_,Y_,Y_,Y_,Y_,Y_,Y_,Y_,Y_,Y_,Y_,Y_,Y_,Y_,Y_,Y_,Y_,Y_,Y_,Y_,Y_,Y_,N_,N_,N_,N_,N_,N_,N_,N_,N_,N_,N_,N_,N_,N_,N_,N_,N_,N_,N_,N_,N_,N_,N_,N_,N_,N_,N_,N_,N_,N_,N_,N_,N_] rfl rfl (any_of HT_.out (by kernel_rfl)) (fun _ _ _ h => h) (Or.inl ⟨by rfl, tX⟩) tV ?_
            refine pure_ (i := 23) (N := some 100) #[Y_,Y_,Y_,Y_,Y_,Y_,Y_,Y_,Y_,Y_,Y_,Y_,Y_,Y_,Y_,Y_,Y_,Y_,Y_,Y_,Y_,Y_,Y_,Y_,N_,N_,N_,N_,N_,N_,N_,N_,N_,N_,N_,N_,N_,N_,N_,N_,N_,N_,N_,N_,N_,N_,N_,N_,N_,N_,N_,N_,N_,N_,N_,N_] rfl rfl (any_of HT_.out (by kernel_rfl)) (fun _ _ _ h => h) (Or.inl ⟨by rfl, tX⟩) tV ?_
            refine pure_ (i := 24) (N := some 101) #[Y_,Y_,Y_,Y_,Y_,Y_,Y_,Y_,Y_,Y_,Y_,Y_,Y_,Y_,Y_,Y_,Y_,Y_,Y_,Y_,Y_,Y_,Y_,Y_,Y_,N_,N_,N_,N_,N_,N_,N_,N_,N_,N_,N_,N_,N_,N_,N_,N_,N_,N_,N_,N_,N_,N_,N_,N_,N_,N_,N_,N_,N_,N_,N_] rfl rfl (any_of HT_.out (by kernel_rfl)) (fun _ _ _ h => h) (Or.inl ⟨by rfl, tX⟩) tV ?_
            refine pure_ (i := 25) (N := some 102) #[Y_,Y_,Y_,Y_,Y_,Y_,Y_,Y_,Y_,Y_,Y_,Y_,Y_,Y_,Y_,Y_,Y_,Y_,Y_,Y_,Y_,Y_,Y_,Y_,Y_,Y_,N_,N_,N_,N_,N_,N_,N_,N_,N_,N_,N_,N_,N_,N_,N_,N_,N_,N_,N_,N_,N_,N_,N_,N_,N_,N_,N_,N_,N_,N_] rfl rfl (any_of HT_.out (by kernel_rfl)) (fun _ _ _ h => h) (Or.inl ⟨by rfl, tX⟩) tV ?_
            refine pure_ (i := 26) (N := some 103) #[Y_,Y_,Y_,Y_,Y_,Y_,Y_,Y_,Y_,Y_,Y_,Y_,Y_,Y_,Y_,Y_,Y_,Y_,Y_,Y_,Y_,Y_,Y_,Y_,Y_,Y_,Y_,N_,N_,N_,N_,N_,N_,N_,N_,N_,N_,N_,N_,N_,N_,N_,N_,N_,N_,N_,N_,N_,N_,N_,N_,N_,N_,N_,N_,N_] rfl rfl (any_of HT_.out (by kernel_rfl)) (fun _ _ _ h => h) (Or.inl ⟨by rfl, tX⟩) tV ?_
            refine pure_ (i := 27) (N := some 104) #[Y_,Y_,Y_,Y_,Y_,Y_,Y_,Y_,Y_,Y_,Y_,Y_,Y_,Y_,Y_,Y_,Y_,Y_,Y_,Y_,Y_,Y_,Y_,Y_,Y_,Y_,Y_,Y_,N_,N_,N_,N_,N_,N_,N_,N_,N_,N_,N_,N_,N_,N_,N_,N_,N_,N_,N_,N_,N_,N_,N_,N_,N_,N_,N_,N_] rfl rfl (any_of HT_.out (by kernel_rfl)) (fun _ _ _ h => h) (Or.inl ⟨by rfl, tX⟩) tV ?_
            refine pure_ (i := 28) (N := some 105) #[Y_,Y_,Y_,Y_,Y_,Y_,Y_,Y_,Y_,Y_,Y_,Y_,Y_,Y_,Y_,Y_,Y_,Y_,Y_,Y_,Y_,Y_,Y_,Y_,Y_,Y_,Y_,Y_,Y_,N_,N_,N_,N_,N_,N_,N_,N_,N_,N_,N_,N_,N_,N_,N_,N_,N_,N_,N_,N_,N_,N_,N_,N_,N_,N_,N_] rfl rfl (any_of HT_.out (by kernel_rfl)) (fun _ _ _ h => h) (Or.inl ⟨by rfl, tX⟩) tV ?_
            refine pure_ (i := 29) (N := some 106) #[Y_,Y_,Y_,Y_,Y_,Y_,Y_,Y_,Y_,Y_,Y_,Y_,Y_,Y_,Y_,Y_,Y_,Y_,Y_,Y_,Y_,Y_,Y_,Y_,Y_,Y_,Y_,Y_,Y_,Y_,N_,N_,N_,N_,N_,N_,N_,N_,N_,N_,N_,N_,N_,N_,N_,N_,N_,N_,N_,N_,N_,N_,N_,N_,N_,N_] rfl rfl (any_of HT_.out (by kernel_rfl)) (fun _ _ _ h => h) (Or.inl ⟨by rfl, tX⟩) tV ?_
            refine pure_ (i := 31) (N := some 108) #[Y_,Y_,Y_,Y_,Y_,Y_,Y_,Y_,Y_,Y_,Y_,Y_,Y_,Y_,Y_,Y_,Y_,Y_,Y_,Y_,Y_,Y_,Y_,Y_,Y_,Y_,Y_,Y_,Y_,Y_,N_,Y_,N_,N_,N_,N_,N_,N_,N_,N_,N_,N_,N_,N_,N_,N_,N_,N_,N_,N_,N_,N_,N_,N_,N_,N_] rfl rfl (any_of HT_.out (by kernel_rfl)) (fun _ _ _ h => h) (Or.inl ⟨by rfl, tX⟩) tV ?_
            refine take_ (i := 30) (N := some 107) (v := ?_) (a' := ?_) #[Y_,Y_,Y_,Y_,Y_,Y_,Y_,Y_,Y_,Y_,Y_,Y_,Y_,Y_,Y_,Y_,Y_,Y_,Y_,Y_,Y_,Y_,Y_,Y_,Y_,Y_,Y_,Y_,Y_,Y_,Y_,Y_,N_,N_,N_,N_,N_,N_,N_,N_,N_,N_,N_,N_,N_,N_,N_,N_,N_,N_,N_,N_,N_,N_,N_,N_] rfl rfl (take_ofW HT_.out HW_.out (by kernel_rfl)) (fun _ _ _ h => h) (Or.inl ⟨by rfl, ?_⟩) hHeld ?_ ?_
            rotate_left
            ·rintro w' ⟨s0, s1, s2, s3, s4, s5, s6⟩
             go_simp
             with_reducible rfl
            rotate_left
            ·simp only [Act.put, List.setIfInBounds_toArray, List.set_cons_zero, List.set_cons_succ, i64_w, i32_w]
             rfl
            refine one_ (i := 32) (N := some 109) #[Y_,Y_,Y_,Y_,Y_,Y_,Y_,Y_,Y_,Y_,Y_,Y_,Y_,Y_,Y_,Y_,Y_,Y_,Y_,Y_,Y_,Y_,Y_,Y_,Y_,Y_,Y_,Y_,Y_,Y_,Y_,Y_,Y_,N_,N_,N_,N_,N_,N_,N_,N_,N_,N_,N_,N_,N_,N_,N_,N_,N_,N_,N_,N_,N_,N_,N_] rfl rfl (one_of HT_.out (by kernel_rfl)) (by decide) (fun K hK => ?_)
            refine goes_ Try.func70 (by kernel_rfl) rfl #[.agg #[.slice Ao38 t397.length co38], .int .i64 t377] (by rfl) rfl rfl tL ?_
            with_reducible refine (impl_UnseenOf.calls k1 _ _ t397 t377 t412 _ ?side1 ?side2 A68.out).mono ?_
            (case side1 => repeat (first | exact (Kd.R_reads' HO_404000.out).2.2 | (with_reducible refine Kd.C_alloc ?_ _) | (with_reducible refine Kd.C_drewN ?_ _) | (with_reducible refine Kd.C_drew ?_)))
            (case side2 => exact (Kd.R_reads' HO_404000.out).2.1)
            rintro e w78 ⟨rfl, hb⟩
            refine ⟨_, rfl, ?_⟩
            replace HO_62 := Aside0.mk (Kd.R_below (tR HO_62) hb)
            replace HO_67 := Aside0.mk (Kd.R_below (tR HO_67) hb)
            replace HO_381000 := Aside0.mk (Kd.R_below (tR HO_381000) hb)
            replace HO_386000 := Aside0.mk (Kd.R_below (tR HO_386000) hb)
            replace HO_391000 := Aside0.mk (Kd.R_below (tR HO_391000) hb)
            replace HO_404000 := Aside0.mk (Kd.R_below (tR HO_404000) hb)
            replace HO_411000 := Aside0.mk (Kd.R_below (tR HO_411000) hb)
            replace BK380 := bB BK380 hb
            replace BK385 := bB BK385 hb
            replace BK390 := bB BK390 hb
            replace BK396 := bB BK396 hb
            replace BK403 := bB BK403 hb
            replace BK410 := bB BK410 hb
            replace HB := bH HB hb
            (try clear hb)
            (try clear hb2)
            (try clear hk)
            (try clear hi)
            refine hK.out _ _ tH (fun hHeld => ?_)
            clear hK K
            refine norm_ (tV : Act.put _ (some 109) _ = _) ?_
            refine pure_ (i := 33) (N := some 110) #[Y_,Y_,Y_,Y_,Y_,Y_,Y_,Y_,Y_,Y_,Y_,Y_,Y_,Y_,Y_,Y_,Y_,Y_,Y_,Y_,Y_,Y_,Y_,Y_,Y_,Y_,Y_,Y_,Y_,Y_,Y_,Y_,Y_,Y_,N_,N_,N_,N_,N_,N_,N_,N_,N_,N_,N_,N_,N_,N_,N_,N_,N_,N_,N_,N_,N_,N_] rfl rfl (any_of HT_.out (by kernel_rfl)) (fun _ _ _ h => h) (Or.inl ⟨by rfl, tX⟩) tV ?_
            refine pure_ (i := 34) (N := some 111) #[Y_,Y_,Y_,Y_,Y_,Y_,Y_,Y_,Y_,Y_,Y_,Y_,Y_,Y_,Y_,Y_,Y_,Y_,Y_,Y_,Y_,Y_,Y_,Y_,Y_,Y_,Y_,Y_,Y_,Y_,Y_,Y_,Y_,Y_,Y_,N_,N_,N_,N_,N_,N_,N_,N_,N_,N_,N_,N_,N_,N_,N_,N_,N_,N_,N_,N_,N_] rfl rfl (any_of HT_.out (by kernel_rfl)) (fun _ _ _ h => h) (Or.inl ⟨by rfl, tX⟩) tV ?_
            refine pure_ (i := 35) (N := some 112) #[Y_,Y_,Y_,Y_,Y_,Y_,Y_,Y_,Y_,Y_,Y_,Y_,Y_,Y_,Y_,Y_,Y_,Y_,Y_,Y_,Y_,Y_,Y_,Y_,Y_,Y_,Y_,Y_,Y_,Y_,Y_,Y_,Y_,Y_,Y_,Y_,N_,N_,N_,N_,N_,N_,N_,N_,N_,N_,N_,N_,N_,N_,N_,N_,N_,N_,N_,N_] rfl rfl (any_of HT_.out (by kernel_rfl)) (fun _ _ _ h => h) (Or.inl ⟨by rfl, tX⟩) tV ?_
            refine take_ (i := 36) (N := some 113) (v := ?_) (a' := ?_) #[Y_,Y_,Y_,Y_,Y_,Y_,Y_,Y_,Y_,Y_,Y_,Y_,Y_,Y_,Y_,Y_,Y_,Y_,Y_,Y_,Y_,Y_,Y_,Y_,Y_,Y_,Y_,Y_,Y_,Y_,Y_,Y_,Y_,Y_,Y_,Y_,Y_,N_,N_,N_,N_,N_,N_,N_,N_,N_,N_,N_,N_,N_,N_,N_,N_,N_,N_,N_] rfl rfl (take_ofW HT_.out HW_.out (by kernel_rfl)) (fun _ _ _ h => h) (Or.inl ⟨by rfl, ?_⟩) hHeld ?_ ?_
            rotate_left
            ·rintro w' ⟨s0, s1, s2, s3, s4, s5, s6⟩
             go_simp
             with_reducible rfl
            rotate_left
            ·simp only [Act.put, List.setIfInBounds_toArray, List.set_cons_zero, List.set_cons_succ, i64_w, i32_w]
             rfl
            refine one_ (i := 37) (N := some 114) #[Y_,Y_,Y_,Y_,Y_,Y_,Y_,Y_,Y_,Y_,Y_,Y_,Y_,Y_,Y_,Y_,Y_,Y_,Y_,Y_,Y_,Y_,Y_,Y_,Y_,Y_,Y_,Y_,Y_,Y_,Y_,Y_,Y_,Y_,Y_,Y_,Y_,Y_,N_,N_,N_,N_,N_,N_,N_,N_,N_,N_,N_,N_,N_,N_,N_,N_,N_,N_] rfl rfl (one_of HT_.out (by kernel_rfl)) (by decide) (fun K hK => ?_)
            refine goes_ Try.func71 (by kernel_rfl) rfl #[.agg #[.slice Ao38 t397.length co38]] (by rfl) rfl rfl tL ?_
            with_reducible refine (impl_IsValidMailbox.calls k1 _ _ t397 true _ ?side1 ?side2 A70.out).mono ?_
            (case side1 => repeat (first | exact (Kd.R_reads' HO_404000.out).2.2 | (with_reducible refine Kd.C_alloc ?_ _) | (with_reducible refine Kd.C_drewN ?_ _) | (with_reducible refine Kd.C_drew ?_)))
            (case side2 => exact (Kd.R_reads' HO_404000.out).2.1)
            rintro e w79 ⟨rfl, hb⟩
            refine ⟨_, rfl, ?_⟩
            replace HO_62 := Aside0.mk (Kd.R_below (tR HO_62) hb)
            replace HO_67 := Aside0.mk (Kd.R_below (tR HO_67) hb)
            replace HO_381000 := Aside0.mk (Kd.R_below (tR HO_381000) hb)
            replace HO_386000 := Aside0.mk (Kd.R_below (tR HO_386000) hb)
            replace HO_391000 := Aside0.mk (Kd.R_below (tR HO_391000) hb)
            replace HO_404000 := Aside0.mk (Kd.R_below (tR HO_404000) hb)
            replace HO_411000 := Aside0.mk (Kd.R_below (tR HO_411000) hb)
            replace BK380 := bB BK380 hb
            replace BK385 := bB BK385 hb
            replace BK390 := bB BK390 hb
            replace BK396 := bB BK396 hb
            replace BK403 := bB BK403 hb
            replace BK410 := bB BK410 hb
            replace HB := bH HB hb
            (try clear hb)
            (try clear hb2)
            (try clear hk)
            (try clear hi)
            refine hK.out _ _ tH (fun hHeld => ?_)
            clear hK K
            refine norm_ (tV : Act.put _ (some 114) _ = _) ?_
            refine pure_ (i := 38) (N := some 115) #[Y_,Y_,Y_,Y_,Y_,Y_,Y_,Y_,Y_,Y_,Y_,Y_,Y_,Y_,Y_,Y_,Y_,Y_,Y_,Y_,Y_,Y_,Y_,Y_,Y_,Y_,Y_,Y_,Y_,Y_,Y_,Y_,Y_,Y_,Y_,Y_,Y_,Y_,Y_,N_,N_,N_,N_,N_,N_,N_,N_,N_,N_,N_,N_,N_,N_,N_,N_,N_] rfl rfl (any_of HT_.out (by kernel_rfl)) (fun _ _ _ h => h) (Or.inl ⟨by rfl, tX⟩) tV ?_
            refine pure_ (i := 39) (N := some 116) #[Y_,Y_,Y_,Y_,Y_,Y_,Y_,Y_,Y_,Y_,Y_,Y_,Y_,Y_,Y_,Y_,Y_,Y_,Y_,Y_,Y_,Y_,Y_,Y_,Y_,Y_,Y_,Y_,Y_,Y_,Y_,Y_,Y_,Y_,Y_,Y_,Y_,Y_,Y_,Y_,N_,N_,N_,N_,N_,N_,N_,N_,N_,N_,N_,N_,N_,N_,N_,N_] rfl rfl (any_of HT_.out (by kernel_rfl)) (fun _ _ _ h => h) (Or.inl ⟨by rfl, tX⟩) tV ?_
            refine pure_ (i := 40) (N := some 117) #[Y_,Y_,Y_,Y_,Y_,Y_,Y_,Y_,Y_,Y_,Y_,Y_,Y_,Y_,Y_,Y_,Y_,Y_,Y_,Y_,Y_,Y_,Y_,Y_,Y_,Y_,Y_,Y_,Y_,Y_,Y_,Y_,Y_,Y_,Y_,Y_,Y_,Y_,Y_,Y_,Y_,N_,N_,N_,N_,N_,N_,N_,N_,N_,N_,N_,N_,N_,N_,N_] rfl rfl (any_of HT_.out (by kernel_rfl)) (fun _ _ _ h => h) (Or.inl ⟨by rfl, tX⟩) tV ?_
            refine pure_ (i := 43) (N := some 120) #[Y_,Y_,Y_,Y_,Y_,Y_,Y_,Y_,Y_,Y_,Y_,Y_,Y_,Y_,Y_,Y_,Y_,Y_,Y_,Y_,Y_,Y_,Y_,Y_,Y_,Y_,Y_,Y_,Y_,Y_,Y_,Y_,Y_,Y_,Y_,Y_,Y_,Y_,Y_,Y_,Y_,N_,N_,Y_,N_,N_,N_,N_,N_,N_,N_,N_,N_,N_,N_,N_] rfl rfl (any_of HT_.out (by kernel_rfl)) (fun _ _ _ h => h) (Or.inl ⟨by rfl, tX⟩) tV ?_
            refine take_ (i := 41) (N := some 118) (v := ?_) (a' := ?_) #[Y_,Y_,Y_,Y_,Y_,Y_,Y_,Y_,Y_,Y_,Y_,Y_,Y_,Y_,Y_,Y_,Y_,Y_,Y_,Y_,Y_,Y_,Y_,Y_,Y_,Y_,Y_,Y_,Y_,Y_,Y_,Y_,Y_,Y_,Y_,Y_,Y_,Y_,Y_,Y_,Y_,Y_,N_,Y_,N_,N_,N_,N_,N_,N_,N_,N_,N_,N_,N_,N_] rfl rfl (take_ofW HT_.out HW_.out (by kernel_rfl)) (fun _ _ _ h => h) (Or.inl ⟨by rfl, ?_⟩) hHeld ?_ ?_
            rotate_left
            ·rintro w' ⟨s0, s1, s2, s3, s4, s5, s6⟩
             go_simp
             with_reducible rfl
            rotate_left
            ·simp only [Act.put, List.setIfInBounds_toArray, List.set_cons_zero, List.set_cons_succ, i64_w, i32_w]
             rfl
            refine pure_ (i := 42) (N := some 119) #[Y_,Y_,Y_,Y_,Y_,Y_,Y_,Y_,Y_,Y_,Y_,Y_,Y_,Y_,Y_,Y_,Y_,Y_,Y_,Y_,Y_,Y_,Y_,Y_,Y_,Y_,Y_,Y_,Y_,Y_,Y_,Y_,Y_,Y_,Y_,Y_,Y_,Y_,Y_,Y_,Y_,Y_,Y_,Y_,N_,N_,N_,N_,N_,N_,N_,N_,N_,N_,N_,N_] rfl rfl (any_of HT_.out (by kernel_rfl)) (fun _ _ _ h => h) (Or.inl ⟨by rfl, tX⟩) tV ?_
            refine take_ (i := 44) (N := some 121) (v := ?_) (a' := ?_) #[Y_,Y_,Y_,Y_,Y_,Y_,Y_,Y_,Y_,Y_,Y_,Y_,Y_,Y_,Y_,Y_,Y_,Y_,Y_,Y_,Y_,Y_,Y_,Y_,Y_,Y_,Y_,Y_,Y_,Y_,Y_,Y_,Y_,Y_,Y_,Y_,Y_,Y_,Y_,Y_,Y_,Y_,Y_,Y_,Y_,N_,N_,N_,N_,N_,N_,N_,N_,N_,N_,N_] rfl rfl (take_ofW HT_.out HW_.out (by kernel_rfl)) (fun _ _ _ h => h) (Or.inl ⟨by rfl, ?_⟩) hHeld ?_ ?_
            rotate_left
            ·rintro w' ⟨s0, s1, s2, s3, s4, s5, s6⟩
             go_simp
             with_reducible rfl
            rotate_left
            ·simp only [Act.put, List.setIfInBounds_toArray, List.set_cons_zero, List.set_cons_succ, i64_w, i32_w]
             rfl
            refine pure_ (i := 45) (N := some 122) #[Y_,Y_,Y_,Y_,Y_,Y_,Y_,Y_,Y_,Y_,Y_,Y_,Y_,Y_,Y_,Y_,Y_,Y_,Y_,Y_,Y_,Y_,Y_,Y_,Y_,Y_,Y_,Y_,Y_,Y_,Y_,Y_,Y_,Y_,Y_,Y_,Y_,Y_,Y_,Y_,Y_,Y_,Y_,Y_,Y_,Y_,N_,N_,N_,N_,N_,N_,N_,N_,N_,N_] rfl rfl (any_of HT_.out (by kernel_rfl)) (fun _ _ _ h => h) (Or.inl ⟨by rfl, tX⟩) tV ?_
            refine pure_ (i := 46) (N := some 123) #[Y_,Y_,Y_,Y_,Y_,Y_,Y_,Y_,Y_,Y_,Y_,Y_,Y_,Y_,Y_,Y_,Y_,Y_,Y_,Y_,Y_,Y_,Y_,Y_,Y_,Y_,Y_,Y_,Y_,Y_,Y_,Y_,Y_,Y_,Y_,Y_,Y_,Y_,Y_,Y_,Y_,Y_,Y_,Y_,Y_,Y_,Y_,N_,N_,N_,N_,N_,N_,N_,N_,N_] rfl rfl (any_of HT_.out (by kernel_rfl)) (fun _ _ _ h => h) (Or.inl ⟨by rfl, tX⟩) tV ?_
            refine one_ (i := 47) (N := some 124) #[Y_,Y_,Y_,Y_,Y_,Y_,Y_,Y_,Y_,Y_,Y_,Y_,Y_,Y_,Y_,Y_,Y_,Y_,Y_,Y_,Y_,Y_,Y_,Y_,Y_,Y_,Y_,Y_,Y_,Y_,Y_,Y_,Y_,Y_,Y_,Y_,Y_,Y_,Y_,Y_,Y_,Y_,Y_,Y_,Y_,Y_,Y_,Y_,N_,N_,N_,N_,N_,N_,N_,N_] rfl rfl (one_of HT_.out (by kernel_rfl)) (by decide) (fun K hK => ?_)
            refine goes_ Try.func72 (by kernel_rfl) rfl #[.int .i64 30, .int .i64 (wrap64 ((t374.length : Int) + 1))] (by rfl) rfl rfl tL ?_
            with_reducible refine (spec_Min.calls 30 (wrap64 ((t374.length : Int) + 1)) t414 _ A72.out).mono ?_
            rintro e w' ⟨rfl, ⟨nd, rfl⟩⟩
            refine ⟨_, rfl, ?_⟩
            refine hK.out _ _ tH (fun hHeld => ?_)
            clear hK K
            refine norm_ (tV : Act.put _ (some 124) _ = _) ?_
            refine pure_ (i := 48) (N := some 125) #[Y_,Y_,Y_,Y_,Y_,Y_,Y_,Y_,Y_,Y_,Y_,Y_,Y_,Y_,Y_,Y_,Y_,Y_,Y_,Y_,Y_,Y_,Y_,Y_,Y_,Y_,Y_,Y_,Y_,Y_,Y_,Y_,Y_,Y_,Y_,Y_,Y_,Y_,Y_,Y_,Y_,Y_,Y_,Y_,Y_,Y_,Y_,Y_,Y_,N_,N_,N_,N_,N_,N_,N_] rfl rfl (any_of HT_.out (by kernel_rfl)) (fun _ _ _ h => h) (Or.inl ⟨by rfl, tX⟩) tV ?_
            refine pure_ (i := 49) (N := some 126) #[Y_,Y_,Y_,Y_,Y_,Y_,Y_,Y_,Y_,Y_,Y_,Y_,Y_,Y_,Y_,Y_,Y_,Y_,Y_,Y_,Y_,Y_,Y_,Y_,Y_,Y_,Y_,Y_,Y_,Y_,Y_,Y_,Y_,Y_,Y_,Y_,Y_,Y_,Y_,Y_,Y_,Y_,Y_,Y_,Y_,Y_,Y_,Y_,Y_,Y_,N_,N_,N_,N_,N_,N_] rfl rfl (any_of HT_.out (by kernel_rfl)) (fun _ _ _ h => h) (Or.inl ⟨by rfl, tX⟩) tV ?_
            refine pure_ (i := 50) (N := some 127) #[Y_,Y_,Y_,Y_,Y_,Y_,Y_,Y_,Y_,Y_,Y_,Y_,Y_,Y_,Y_,Y_,Y_,Y_,Y_,Y_,Y_,Y_,Y_,Y_,Y_,Y_,Y_,Y_,Y_,Y_,Y_,Y_,Y_,Y_,Y_,Y_,Y_,Y_,Y_,Y_,Y_,Y_,Y_,Y_,Y_,Y_,Y_,Y_,Y_,Y_,Y_,N_,N_,N_,N_,N_] rfl rfl (any_of HT_.out (by kernel_rfl)) (fun _ _ _ h => h) (Or.inl ⟨by rfl, tX⟩) tV ?_
            refine pure_ (i := 51) (N := some 128) #[Y_,Y_,Y_,Y_,Y_,Y_,Y_,Y_,Y_,Y_,Y_,Y_,Y_,Y_,Y_,Y_,Y_,Y_,Y_,Y_,Y_,Y_,Y_,Y_,Y_,Y_,Y_,Y_,Y_,Y_,Y_,Y_,Y_,Y_,Y_,Y_,Y_,Y_,Y_,Y_,Y_,Y_,Y_,Y_,Y_,Y_,Y_,Y_,Y_,Y_,Y_,Y_,N_,N_,N_,N_] rfl rfl (any_of HT_.out (by kernel_rfl)) (fun _ _ _ h => h) (Or.inl ⟨by rfl, tX⟩) tV ?_
            refine one_ (i := 52) (N := some 129) #[Y_,Y_,Y_,Y_,Y_,Y_,Y_,Y_,Y_,Y_,Y_,Y_,Y_,Y_,Y_,Y_,Y_,Y_,Y_,Y_,Y_,Y_,Y_,Y_,Y_,Y_,Y_,Y_,Y_,Y_,Y_,Y_,Y_,Y_,Y_,Y_,Y_,Y_,Y_,Y_,Y_,Y_,Y_,Y_,Y_,Y_,Y_,Y_,Y_,Y_,Y_,Y_,Y_,N_,N_,N_] rfl rfl (one_of HT_.out (by kernel_rfl)) (by decide) (fun K hK => ?_)
            refine goes_ Try.func73 (by kernel_rfl) rfl #[.int .i64 t377] (by rfl) rfl rfl tL ?_
            with_reducible refine (impl_NoticeName.calls t377 t415 _ A74.out).mono ?_
            rintro e w80 ⟨rfl, hb⟩
            refine ⟨_, rfl, ?_⟩
            replace HO_62 := Aside0.mk (Kd.R_below (tR HO_62) hb)
            replace HO_67 := Aside0.mk (Kd.R_below (tR HO_67) hb)
            replace HO_381000 := Aside0.mk (Kd.R_below (tR HO_381000) hb)
            replace HO_386000 := Aside0.mk (Kd.R_below (tR HO_386000) hb)
            replace HO_391000 := Aside0.mk (Kd.R_below (tR HO_391000) hb)
            replace HO_404000 := Aside0.mk (Kd.R_below (tR HO_404000) hb)
            replace HO_411000 := Aside0.mk (Kd.R_below (tR HO_411000) hb)
            replace BK380 := bB BK380 hb
            replace BK385 := bB BK385 hb
            replace BK390 := bB BK390 hb
            replace BK396 := bB BK396 hb
            replace BK403 := bB BK403 hb
            replace BK410 := bB BK410 hb
            replace HB := bH HB hb
            (try clear hb)
            (try clear hb2)
            (try clear hk)
            (try clear hi)
            refine hK.out _ _ tH (fun hHeld => ?_)
            clear hK K
            refine norm_ (tV : Act.put _ (some 129) _ = _) ?_
            refine pure_ (i := 53) (N := some 130) #[Y_,Y_,Y_,Y_,Y_,Y_,Y_,Y_,Y_,Y_,Y_,Y_,Y_,Y_,Y_,Y_,Y_,Y_,Y_,Y_,Y_,Y_,Y_,Y_,Y_,Y_,Y_,Y_,Y_,Y_,Y_,Y_,Y_,Y_,Y_,Y_,Y_,Y_,Y_,Y_,Y_,Y_,Y_,Y_,Y_,Y_,Y_,Y_,Y_,Y_,Y_,Y_,Y_,Y_,N_,N_] rfl rfl (any_of HT_.out (by kernel_rfl)) (fun _ _ _ h => h) (Or.inl ⟨by rfl, tX⟩) tV ?_
            refine pure_ (i := 54) (N := some 131) #[Y_,Y_,Y_,Y_,Y_,Y_,Y_,Y_,Y_,Y_,Y_,Y_,Y_,Y_,Y_,Y_,Y_,Y_,Y_,Y_,Y_,Y_,Y_,Y_,Y_,Y_,Y_,Y_,Y_,Y_,Y_,Y_,Y_,Y_,Y_,Y_,Y_,Y_,Y_,Y_,Y_,Y_,Y_,Y_,Y_,Y_,Y_,Y_,Y_,Y_,Y_,Y_,Y_,Y_,Y_,N_] rfl rfl (any_of HT_.out (by kernel_rfl)) (fun _ _ _ h => h) (Or.inl ⟨by rfl, tX⟩) tV ?_
            refine pure_ (i := 55) (N := some 2) #[Y_,Y_,Y_,Y_,Y_,Y_,Y_,Y_,Y_,Y_,Y_,Y_,Y_,Y_,Y_,Y_,Y_,Y_,Y_,Y_,Y_,Y_,Y_,Y_,Y_,Y_,Y_,Y_,Y_,Y_,Y_,Y_,Y_,Y_,Y_,Y_,Y_,Y_,Y_,Y_,Y_,Y_,Y_,Y_,Y_,Y_,Y_,Y_,Y_,Y_,Y_,Y_,Y_,Y_,Y_,Y_] rfl rfl (any_of HT_.out (by kernel_rfl)) (fun _ _ _ h => h) (Or.inl ⟨by rfl, tX⟩) tV ?_
            refine done_ (done_of HT_.out (by kernel_rfl)) ?_
            try go_wp2
            go_ret
            refine ⟨?_, tB⟩
            show Ending.returned (.bool (!t415.toList.isEmpty)) = _
            exact congrArg (fun b_ => Ending.returned (.bool b_)) (show (!t415.toList.isEmpty) = (t415.toList != ([] : List UInt8)) by cases t415.toList <;> rfl)
           rw [if_neg c73] at H
           have c73b0 : ((t381.length : Int) == t414) = false := beq_eq_false_iff_ne.mpr c73
           have c73b1 : ((t381.length : Int) != t414) = true := bne_iff_ne.mpr c73
           exact absurd ((Option.some.inj H).trans hT_) (by decide)
          replace c71 := Bool.eq_false_iff.mpr c71
          subst c71
          have H1 : (some false) = some r := by rw [if_neg (show ¬ (false = true) by decide)] at H; exact H
          clear H
          have H := H1
          clear H1
          exact absurd ((Option.some.inj H).trans hT_) (by decide)
         rw [if_neg c69] at H
         have c69b0 : (t412 == 0) = false := beq_eq_false_iff_ne.mpr c69
         have c69b1 : (t412 != 0) = true := bne_iff_ne.mpr c69
         exact absurd ((Option.some.inj H).trans hT_) (by decide)
        rw [if_neg c67] at H
        have c67b0 : ((t407.length : Int) == 0) = false := beq_eq_false_iff_ne.mpr c67
        have c67b1 : ((t407.length : Int) != 0) = true := bne_iff_ne.mpr c67
        have c67b2 : ¬ (t407 = []) := fun h_ => c67 (by rw [h_]; rfl)
        exact absurd ((Option.some.inj H).trans hT_) (by decide)
       rw [if_neg c66] at H
       have c66b0 : ((t400.length : Int) == x17_1) = false := beq_eq_false_iff_ne.mpr c66
       have c66b1 : ((t400.length : Int) != x17_1) = true := bne_iff_ne.mpr c66
       exact absurd ((Option.some.inj H).trans hT_) (by decide)
      rw [if_neg c64] at H
      have c64b0 : (t393 == t379) = false := beq_eq_false_iff_ne.mpr c64
      have c64b1 : (t393 != t379) = true := bne_iff_ne.mpr c64
      exact absurd ((Option.some.inj H).trans hT_) (by decide)
     rw [if_neg c63] at H
     have c63b0 : (t391 == t377) = false := beq_eq_false_iff_ne.mpr c63
     have c63b1 : (t391 != t377) = true := bne_iff_ne.mpr c63
     exact absurd ((Option.some.inj H).trans hT_) (by decide)
    replace c62 := Bool.eq_false_iff.mpr c62
    subst c62
    have H1 : (some false) = some r := by rw [if_neg (show ¬ (false = true) by decide)] at H; exact H
    clear H
    have H := H1
    clear H1
    exact absurd ((Option.some.inj H).trans hT_) (by decide)
 replace c8 := Bool.eq_false_iff.mpr c8
 subst c8
 have H1 : ((impl_EqualMailboxes.f k t381 t374).bind fun t416 => (some t416)) = some r := by rw [if_neg (show ¬ (false = true) by decide)] at H; exact H
 clear H
 have H := H1
 clear H1
 replace H := Option.bind_eq_some_iff.mp H
 obtain ⟨t416, A810, H⟩ := H
 try dsimp only at H
 have A81 := Aside0.mk A810
 clear A810
 obtain rfl := Option.some.inj H
 go_enter Try.func12, Try.ntmps12
 go_wp2_with (first | ((with_reducible refine gate_callee (f := 15) rfl ?_); refine goesL_ (some 20) rfl rfl Try.func15 (by kernel_rfl) rfl #[.slice A0 l0.length c0] rfl tL ?_; (with_reducible refine (laws_big.calls _ _ l0 false _ ?side1 ?side2 A2.out).mono ?_); (case side1 => repeat (first | exact HR0.out | (with_reducible refine Kd.C_alloc ?_ _) | (with_reducible refine Kd.C_drewN ?_ _) | (with_reducible refine Kd.C_drew ?_))); (case side2 => exact HC0.out); rintro e w' ⟨rfl, ⟨nd, rfl⟩⟩; refine ⟨_, rfl, ?_⟩) | ((with_reducible refine gate_callee (f := 67) rfl ?_); refine goesL_ (some 23) rfl rfl Try.func67 (by kernel_rfl) rfl #[.slice A0 l0.length c0] rfl tL ?_; (with_reducible refine (spec_DrawSendNotice.calls k _ _ l0 t374 t377 t378 t379 _ ?side1 ?side2 A4.out).mono ?_); (case side1 => repeat (first | exact HR0.out | (with_reducible refine Kd.C_alloc ?_ _) | (with_reducible refine Kd.C_drewN ?_ _) | (with_reducible refine Kd.C_drew ?_))); (case side2 => exact HC0.out); rintro e w82 ⟨v375, rfl, ho0, hb⟩; refine ⟨_, rfl, ?_⟩; have HO376 := Aside0.mk (Kd.R_lower ho0 (below_size tB)); replace HB := bH HB hb; (try clear hb); (try clear hb2); (try clear hk); (try clear hi); (try clear ho0)) | ((with_reducible refine gate_dst (N := 3) rfl ?_); (try (refine gate_guard (by rfl) ?_; dsimp only)); refine box_event ?hg (N := 3) ?hd (cs := #[.slice none 0 0]) (t := 65) ?hr ?_; (case hd => rfl); (case hg => rfl); (case hr => exact tG); intro gb380 hg w83 hbox hb; replace HO376 := Aside0.mk (Kd.R_below (tR HO376) hb); have BK380 := Aside0.mk (hbox); have GW380 := gW HB hg; have GE380 := gW HB hg; replace HB := bH HB hb; clear hb hbox hg; obtain ⟨Ao84, co84, eo84⟩ := Kd.R_slice HO376.out; subst eo84; obtain ⟨hcz85_0, hfz85_0⟩ := bc1 BK380.out) | ((with_reducible refine gate_callee (f := 58) rfl ?_); refine goesL_ (some 33) rfl rfl Try.func58 (by kernel_rfl) rfl #[.agg #[.slice Ao84 t374.length co84], .int .i64 t377, .int .i64 t378, .int .i64 t379] rfl tL ?_; (with_reducible refine (impl_SendNotice.calls k _ _ t374 t377 t378 t379 t381 false _ ?side1 ?side2 A5.out).mono ?_); (case side1 => refine (Kd.R_reads' (e := 108) (base := w.heap.size) (ok := fun k_ => True) (n := t374.length) (c := co84) ?_).2.2; exact (by (with_reducible repeat (first | apply Kd.R_alloc | apply Kd.R_drewN | apply Kd.R_drew)); exact (Kd.R_mono (Kd.R_far (p := ⟨gb380, 0, none⟩) (Kd.R_types HO376.out BK380.out (by decide)) (fun _ hk => hk.2) (.slice Ao84 t374.length co84)) (fun _ h_ => h_.1)))); (case side2 => exact (Kd.R_reads' HO376.out).2.1); rintro e w86 ⟨v382, rfl, ho0, hb⟩; refine ⟨_, rfl, ?_⟩; have HO383 := Aside0.mk (Kd.R_lower (Kd.R_new' ho0 (Kd.R_lt (by (with_reducible repeat (first | apply Kd.R_alloc | apply Kd.R_drewN | apply Kd.R_drew)); exact (Kd.R_mono (Kd.R_far (p := ⟨gb380, 0, none⟩) (Kd.R_types HO376.out BK380.out (by decide)) (fun _ hk => hk.2) (.slice Ao84 t374.length co84)) (fun _ h_ => h_.1))))) (below_size tB)); replace HO376 := Aside0.mk (Kd.R_elder' (by (with_reducible repeat (first | apply Kd.R_alloc | apply Kd.R_drewN | apply Kd.R_drew)); exact (Kd.R_mono (Kd.R_far (p := ⟨gb380, 0, none⟩) (Kd.R_types HO376.out BK380.out (by decide)) (fun _ hk => hk.2) (.slice Ao84 t374.length co84)) (fun _ h_ => h_.1))) (Kd.R_base ho0) hb); replace BK380 := Aside0.mk (blk_below (g := gb380) (o := .cells #[.slice Ao84 t374.length co84] 65 (0, 0)) (by (with_reducible repeat (first | refine blk_drewN ?_ _ | refine blk_drew ?_ | refine blk_alloc ?_ _)); refine blk_put (cs := #[.slice none 0 0]) ?_ 0 _ rfl; (with_reducible repeat (first | refine blk_drewN ?_ _ | refine blk_drew ?_ | refine blk_alloc ?_ _)); exact BK380.out) hb); replace HB := bH HB hb; (try clear hb); (try clear hb2); (try clear hk); (try clear hi); (try clear ho0)) | ((with_reducible refine gate_dst (N := 7) rfl ?_); (try (refine gate_guard (by rfl) ?_; dsimp only)); refine box_event ?hg (N := 7) ?hd (cs := #[.slice none 0 0]) (t := 65) ?hr ?_; (case hd => rfl); (case hg => rfl); (case hr => exact tG); intro gb385 hg w87 hbox hb; replace HO376 := Aside0.mk (Kd.R_below (tR HO376) hb); replace HO383 := Aside0.mk (Kd.R_below (tR HO383) hb); have BK385 := Aside0.mk (hbox); have GW385 := gW HB hg; have GE385 := gW HB hg; replace HB := bH HB hb; have NB380_385 := nL BK380 hg; have NB385_380 := nR BK380 hg; replace BK380 := bB BK380 hb; clear hb hbox hg; obtain ⟨Ao88, co88, eo88⟩ := Kd.R_slice HO383.out; subst eo88; have hnb89 := NB385_380.out; have hnc89 := NB380_385.out; obtain ⟨hcz90_0, hfz90_0⟩ := bc1 BK385.out; obtain ⟨hcz91_0, hfz91_0⟩ := bc1 BK380.out) | ((with_reducible refine gate_callee (f := 57) rfl ?_); refine goesL_ (some 41) rfl rfl Try.func57 (by kernel_rfl) rfl #[.agg #[.slice Ao84 t374.length co84], .int .i64 t377, .int .i64 t378, .int .i64 t379] rfl tL ?_; (with_reducible refine (spec_SendNotice.calls k _ _ t374 t377 t378 t379 t386 t389 _ ?side1 ?side2 A6.out).mono ?_); (case side1 => refine (Kd.R_reads' (e := 108) (base := w.heap.size) (ok := fun k_ => (True ∧ some k_ ≠ (.slice Ao88 t381.length co88 : Value).ownBlock)) (n := t374.length) (c := co84) ?_).2.2; exact (by (with_reducible repeat (first | apply Kd.R_alloc | apply Kd.R_drewN | apply Kd.R_drew)); exact (Kd.R_mono (Kd.R_far (p := ⟨gb385, 0, none⟩) (Kd.R_types HO376.out BK385.out (by decide)) (fun _ hk => hk.2) (.slice Ao88 t381.length co88)) (fun _ h_ => h_.1)))); (case side2 => exact (Kd.R_reads' HO376.out).2.1); rintro e w92 ⟨v387, rfl, ho0, hb⟩; refine ⟨_, rfl, ?_⟩; have HO388 := Aside0.mk (Kd.R_lower (Kd.R_new' (Kd.R_new' ho0 (Kd.R_lt (by (with_reducible repeat (first | apply Kd.R_alloc | apply Kd.R_drewN | apply Kd.R_drew)); exact (Kd.R_mono (Kd.R_far (p := ⟨gb385, 0, none⟩) (Kd.R_types HO376.out BK385.out (by decide)) (fun _ hk => hk.2) (.slice Ao88 t381.length co88)) (fun _ h_ => h_.1))))) (Kd.R_lt (by (with_reducible repeat (first | apply Kd.R_alloc | apply Kd.R_drewN | apply Kd.R_drew)); exact (Kd.R_mono (Kd.R_far (p := ⟨gb385, 0, none⟩) (Kd.R_types HO383.out BK385.out (by decide)) (fun _ hk => hk.2) (.slice Ao88 t381.length co88)) (fun _ h_ => h_.1))))) (below_size tB)); replace HO376 := Aside0.mk (Kd.R_elder' (by (with_reducible repeat (first | apply Kd.R_alloc | apply Kd.R_drewN | apply Kd.R_drew)); exact (Kd.R_mono (Kd.R_far (p := ⟨gb385, 0, none⟩) (Kd.R_types HO376.out BK385.out (by decide)) (fun _ hk => hk.2) (.slice Ao88 t381.length co88)) (fun _ h_ => h_.1))) (Kd.R_base ho0) hb); replace HO383 := Aside0.mk (Kd.R_elder' (by (with_reducible repeat (first | apply Kd.R_alloc | apply Kd.R_drewN | apply Kd.R_drew)); exact (Kd.R_mono (Kd.R_far (p := ⟨gb385, 0, none⟩) (Kd.R_types HO383.out BK385.out (by decide)) (fun _ hk => hk.2) (.slice Ao88 t381.length co88)) (fun _ h_ => h_.1))) (Kd.R_base ho0) hb); replace BK380 := Aside0.mk (blk_below (g := gb380) (o := .cells #[.slice Ao84 t374.length co84] 65 (0, 0)) (kF NB380_385 BK380) hb); replace BK385 := Aside0.mk (blk_below (g := gb385) (o := .cells #[.slice Ao88 t381.length co88] 65 (0, 0)) (by (with_reducible repeat (first | refine blk_drewN ?_ _ | refine blk_drew ?_ | refine blk_alloc ?_ _)); refine blk_put (cs := #[.slice none 0 0]) ?_ 0 _ rfl; (with_reducible repeat (first | refine blk_drewN ?_ _ | refine blk_drew ?_ | refine blk_alloc ?_ _)); exact BK385.out) hb); replace HB := bH HB hb; (try clear hb); (try clear hb2); (try clear hk); (try clear hi); (try clear ho0)) | ((with_reducible refine gate_dst (N := 9) rfl ?_); (try (refine gate_guard (by rfl) ?_; dsimp only)); refine box_event ?hg (N := 9) ?hd (cs := #[.slice none 0 0]) (t := 65) ?hr ?_; (case hd => rfl); (case hg => rfl); (case hr => exact tG); intro gb390 hg w93 hbox hb; replace HO376 := Aside0.mk (Kd.R_below (tR HO376) hb); replace HO383 := Aside0.mk (Kd.R_below (tR HO383) hb); replace HO388 := Aside0.mk (Kd.R_below (tR HO388) hb); have BK390 := Aside0.mk (hbox); have GW390 := gW HB hg; have GE390 := gW HB hg; replace HB := bH HB hb; have NB380_390 := nL BK380 hg; have NB390_380 := nR BK380 hg; replace BK380 := bB BK380 hb; have NB385_390 := nL BK385 hg; have NB390_385 := nR BK385 hg; replace BK385 := bB BK385 hb; clear hb hbox hg; obtain ⟨Ao94, co94, eo94⟩ := Kd.R_slice HO388.out; subst eo94; have hnb95 := NB390_380.out; have hnc95 := NB380_390.out; have hnb96 := NB390_385.out; have hnc96 := NB385_390.out; obtain ⟨hcz97_0, hfz97_0⟩ := bc1 BK390.out; obtain ⟨hcz98_0, hfz98_0⟩ := bc1 BK385.out; obtain ⟨hcz99_0, hfz99_0⟩ := bc1 BK380.out) | ((with_reducible refine gate_callee (f := 68) rfl ?_); refine goesL_ (some 51) rfl rfl Try.func68 (by kernel_rfl) rfl #[.agg #[.slice Ao88 t381.length co88], .agg #[.slice Ao84 t374.length co84]] rfl tL ?_; (with_reducible refine (impl_EqualMailboxes.calls k _ _ t381 _ _ t374 t416 _ ?side1 ?side2 ?side3 ?side4 A81.out).mono ?_); (case side1 => refine (Kd.R_reads' (e := 108) (base := w.heap.size) (ok := fun k_ => ((True ∧ some k_ ≠ (.slice Ao84 t374.length co84 : Value).ownBlock) ∧ some k_ ≠ (.slice Ao94 t386.length co94 : Value).ownBlock)) (n := t381.length) (c := co88) ?_).2.2; exact (by (with_reducible repeat (first | apply Kd.R_alloc | apply Kd.R_drewN | apply Kd.R_drew)); exact (Kd.R_mono (Kd.R_far (p := ⟨gb390, 0, none⟩) (Kd.R_types HO383.out BK390.out (by decide)) (fun _ hk => hk.2) (.slice Ao94 t386.length co94)) (fun _ h_ => h_.1)))); (case side2 => exact (Kd.R_reads' HO383.out).2.1); (case side3 => refine (Kd.R_reads' (e := 108) (base := w.heap.size) (ok := fun k_ => ((True ∧ some k_ ≠ (.slice Ao88 t381.length co88 : Value).ownBlock) ∧ some k_ ≠ (.slice Ao94 t386.length co94 : Value).ownBlock)) (n := t374.length) (c := co84) ?_).2.2; exact (by (with_reducible repeat (first | apply Kd.R_alloc | apply Kd.R_drewN | apply Kd.R_drew)); exact (Kd.R_mono (Kd.R_far (p := ⟨gb390, 0, none⟩) (Kd.R_types HO376.out BK390.out (by decide)) (fun _ hk => hk.2) (.slice Ao94 t386.length co94)) (fun _ h_ => h_.1)))); (case side4 => exact (Kd.R_reads' HO376.out).2.1); rintro e w100 ⟨rfl, hb⟩; refine ⟨_, rfl, ?_⟩; replace HO376 := Aside0.mk (Kd.R_below (by (with_reducible repeat (first | apply Kd.R_alloc | apply Kd.R_drewN | apply Kd.R_drew)); exact (Kd.R_mono (Kd.R_far (p := ⟨gb390, 0, none⟩) (Kd.R_types HO376.out BK390.out (by decide)) (fun _ hk => hk.2) (.slice Ao94 t386.length co94)) (fun _ h_ => h_.1))) hb); replace HO383 := Aside0.mk (Kd.R_below (by (with_reducible repeat (first | apply Kd.R_alloc | apply Kd.R_drewN | apply Kd.R_drew)); exact (Kd.R_mono (Kd.R_far (p := ⟨gb390, 0, none⟩) (Kd.R_types HO383.out BK390.out (by decide)) (fun _ hk => hk.2) (.slice Ao94 t386.length co94)) (fun _ h_ => h_.1))) hb); replace HO388 := Aside0.mk (Kd.R_below (by (with_reducible repeat (first | apply Kd.R_alloc | apply Kd.R_drewN | apply Kd.R_drew)); exact (Kd.R_mono (Kd.R_far (p := ⟨gb390, 0, none⟩) (Kd.R_types HO388.out BK390.out (by decide)) (fun _ hk => hk.2) (.slice Ao94 t386.length co94)) (fun _ h_ => h_.1))) hb); replace BK380 := Aside0.mk (blk_below (g := gb380) (o := .cells #[.slice Ao84 t374.length co84] 65 (0, 0)) (kF NB380_390 BK380) hb); replace BK385 := Aside0.mk (blk_below (g := gb385) (o := .cells #[.slice Ao88 t381.length co88] 65 (0, 0)) (kF NB385_390 BK385) hb); replace BK390 := Aside0.mk (blk_below (g := gb390) (o := .cells #[.slice Ao94 t386.length co94] 65 (0, 0)) (by (with_reducible repeat (first | refine blk_drewN ?_ _ | refine blk_drew ?_ | refine blk_alloc ?_ _)); refine blk_put (cs := #[.slice none 0 0]) ?_ 0 _ rfl; (with_reducible repeat (first | refine blk_drewN ?_ _ | refine blk_drew ?_ | refine blk_alloc ?_ _)); exact BK390.out) hb); replace HB := bH HB hb; (try clear hb); (try clear hb2); (try clear hk); (try clear hi)))
 go_ret
 exact ⟨tE, tB⟩

end Go.Proofs.Ytanoaneoanpkkaa.ZFnNotices
