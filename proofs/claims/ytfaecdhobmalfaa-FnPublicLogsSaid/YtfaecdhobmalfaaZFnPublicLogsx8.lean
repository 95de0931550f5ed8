/- The machine side: for each Go function a Lean function and the contract that the Go code answers as it does; printed by program (wip/tmpl/pprint.sh). -/
import Derived.Test.YtfaecdhobmalfaaZFnPublicLogsx0
import Derived.Test.YtfaecdhobmalfaaZFnPublicLogsx1
import Derived.Test.YtfaecdhobmalfaaZFnPublicLogsx2
import Derived.Test.YtfaecdhobmalfaaZFnPublicLogsx3
import Derived.Test.YtfaecdhobmalfaaZFnPublicLogsx4
import Derived.Test.YtfaecdhobmalfaaZFnPublicLogsx5
import Derived.Test.YtfaecdhobmalfaaZFnPublicLogsx7
namespace Go.Proofs.Ytfaecdhobmalfaa.ZFnPublicLogs
open Go.RowKit Go.Proofs.YtfaecdhobmalfaaW.PrintWords Go.Proofs.YtfaecdhobmalfaaW.PrintLast Go.Proofs.YtfaecdhobmalfaaW.PrintMore
attribute [local go_sem] max2_int min2_int max_two min_two max_three min_three max_four min_four   -- for this text's walks alone
set_option linter.unusedVariables false
set_option linter.unusedSimpArgs false

attribute [local go_sem high] eqA58
/-! ### laws_FnPublicLogs: function 12 -/
mutual
def laws_FnPublicLogs.l0 : Nat → List Int → List (S58) → Int → List Int → Int → Int → Int → Option (Bool)
 | 0, _, _, _, _, _, _, _ => none
 | k + 1, x0, x5, x6, x201000, x203000, x203001, x203002 => if x6 < 6 then ((impl_AppendRecord.f k x201000 (wrap64 (100 + x6))).bind fun bt206 => (if bt206.2 = true then ((laws_at.f x0 (wrap64 (x6 + 1))).bind fun t211 => (if (Int.tmod t211 2) = 0 then ((impl_SignHead.f k x203000 x203001 x203002 bt206.1).bind fun bt212 => (if bt212.2.2.2.2.2.2.2 = true then ((impl_CheckHead.f k bt212.2.2.2.1 bt212.2.2.2.2.1 bt212.2.2.2.2.2.1 bt212.2.2.2.2.2.2.1).bind fun t222 => (if t222 = true then (if bt212.2.2.2.1 = (wrap64 (x6 + 1)) then ((impl_HeadCovers.f k bt212.2.2.2.1 bt212.2.2.2.2.1 bt212.2.2.2.2.2.1 bt212.2.2.2.2.2.2.1 bt206.1 (wrap64 (100 + x6))).bind fun t223 => (if t223 = true then ((impl_HeadCovers.f k bt212.2.2.2.1 bt212.2.2.2.2.1 bt212.2.2.2.2.2.1 bt212.2.2.2.2.2.2.1 bt206.1 (wrap64 ((wrap64 (100 + x6)) + 1))).bind fun t224 => (if t224 = true then (some false) else (if x5.length < 4398046511104 then (laws_FnPublicLogs.l0 k x0 (x5 ++ [(⟨bt212.2.2.2.1, bt212.2.2.2.2.1, bt212.2.2.2.2.2.1, bt212.2.2.2.2.2.2.1⟩ : S58)]) (wrap64 (x6 + 1)) bt206.1 bt212.1 bt212.2.1 bt212.2.2.1) else (none)))) else (some false))) else (some false)) else (some false))) else (some false))) else (laws_FnPublicLogs.l0 k x0 x5 (wrap64 (x6 + 1)) bt206.1 x203000 x203001 x203002))) else (some false))) else (laws_FnPublicLogs.l1 k x5 0 x201000 x203000 x203001 x203002)
def laws_FnPublicLogs.l1 : Nat → List (S58) → Int → List Int → Int → Int → Int → Option (Bool)
 | 0, _, _, _, _, _, _ => none
 | k + 1, x5, x12, x201000, x203000, x203001, x203002 => if x12 < (x5.length : Int) then (if 0 < (x5.length : Int) then (if 0 ≤ x12 then ((impl_AreConsistent.f k ((rd_T58 x5 0).f0) ((rd_T58 x5 0).f1) ((rd_T58 x5 0).f2) ((rd_T58 x5 0).f3) ((rd_T58 x5 x12).f0) ((rd_T58 x5 x12).f1) ((rd_T58 x5 x12).f2) ((rd_T58 x5 x12).f3) x201000).bind fun t230 => (if t230 = true then ((impl_IsSplit.f k ((rd_T58 x5 0).f0) ((rd_T58 x5 0).f1) ((rd_T58 x5 0).f2) ((rd_T58 x5 0).f3) ((rd_T58 x5 x12).f0) ((rd_T58 x5 x12).f1) ((rd_T58 x5 x12).f2) ((rd_T58 x5 x12).f3)).bind fun t233 => (if t233 = true then (some false) else ((impl_RootOf.f k x201000 ((rd_T58 x5 x12).f0)).bind fun t235 => (if t235 = ((rd_T58 x5 x12).f1) then (laws_FnPublicLogs.l1 k x5 (wrap64 (x12 + 1)) x201000 x203000 x203001 x203002) else (some false))))) else (some false))) else (none)) else (none)) else ((some (([7] : List Int) : List Int)).bind fun y237 => (if y237.length + x201000.length < 17592186044416 then ((some (y237 ++ x201000 : List Int)).bind fun y240 => ((impl_SignHead.f k x203000 x203001 x203002 y240).bind fun bt244 => (if (bt244.2.2.2.2.2.2.2 == (x203001 == 0)) = true then (if (x5.length : Int) = 0 then (if bt244.2.2.2.2.2.2.2 = true then (some true) else (some (bt244.2.2.2.1 == 0 && (bt244.2.2.2.2.1 == 0 && (bt244.2.2.2.2.2.1 == 0 && (bt244.2.2.2.2.2.2.1 == 0)))))) else (if 0 < (x5.length : Int) then ((impl_AreConsistent.f k ((rd_T58 x5 0).f0) ((rd_T58 x5 0).f1) ((rd_T58 x5 0).f2) ((rd_T58 x5 0).f3) ((rd_T58 x5 0).f0) ((rd_T58 x5 0).f1) ((rd_T58 x5 0).f2) ((rd_T58 x5 0).f3) y240).bind fun t256 => (if t256 = true then (some false) else (if bt244.2.2.2.2.2.2.2 = true then (some true) else (some (bt244.2.2.2.1 == 0 && (bt244.2.2.2.2.1 == 0 && (bt244.2.2.2.2.2.1 == 0 && (bt244.2.2.2.2.2.2.1 == 0)))))))) else (none))) else (some false)))) else (none)))
end
def laws_FnPublicLogs.f (k : Nat) (l0 : List Int) : Option (Bool) := (laws_big.f l0).bind fun t199 => (if t199 = true then (some true) else ((laws_at.f l0 0).bind fun t201 => (laws_FnPublicLogs.l0 k l0 (([] : List (S58))) 0 ([] : List Int) (wrap64 (1 + t201)) 0 0)))
theorem laws_FnPublicLogs.mono_l : ∀ k, (∀ y0 y1 y2 y3 y4 y5 y6, LeO (laws_FnPublicLogs.l0 k y0 y1 y2 y3 y4 y5 y6) (laws_FnPublicLogs.l0 (k + 1) y0 y1 y2 y3 y4 y5 y6)) ∧ (∀ y0 y1 y2 y3 y4 y5, LeO (laws_FnPublicLogs.l1 k y0 y1 y2 y3 y4 y5) (laws_FnPublicLogs.l1 (k + 1) y0 y1 y2 y3 y4 y5))
 | 0 => ⟨fun _ _ _ _ _ _ _ r h => by simp [laws_FnPublicLogs.l0] at h, fun _ _ _ _ _ _ r h => by simp [laws_FnPublicLogs.l1] at h⟩
 | k + 1 => by
  obtain ⟨ih0, ih1⟩ := laws_FnPublicLogs.mono_l k
  refine ⟨?_, ?_⟩
  ·intro y0 y1 y2 y3 y4 y5 y6
   unfold laws_FnPublicLogs.l0
   repeat' first
   | (with_reducible exact ih0 _ _ _ _ _ _ _)
   | (with_reducible exact ih1 _ _ _ _ _ _)
   | (with_reducible exact impl_AppendRecord.mono _ _ _)
   | (with_reducible exact impl_AreConsistent.mono _ _ _ _ _ _ _ _ _ _)
   | (with_reducible exact impl_CheckHead.mono _ _ _ _ _)
   | (with_reducible exact impl_HeadCovers.mono _ _ _ _ _ _ _)
   | (with_reducible exact impl_IsSplit.mono _ _ _ _ _ _ _ _ _)
   | (with_reducible exact impl_RootOf.mono _ _ _)
   | (with_reducible exact impl_SignHead.mono _ _ _ _ _)
   | (with_reducible exact LeO.refl _)
   | (with_reducible exact LeO.none _)
   | (with_reducible refine LeO.ite ?_ ?_)
   | (with_reducible refine LeO.bind ?_ (fun _ => ?_))
   | exact ih0 _ _ _ _ _ _ _
   | exact ih1 _ _ _ _ _ _
   | exact impl_AppendRecord.mono _ _ _
   | exact impl_AreConsistent.mono _ _ _ _ _ _ _ _ _ _
   | exact impl_CheckHead.mono _ _ _ _ _
   | exact impl_HeadCovers.mono _ _ _ _ _ _ _
   | exact impl_IsSplit.mono _ _ _ _ _ _ _ _ _
   | exact impl_RootOf.mono _ _ _
   | exact impl_SignHead.mono _ _ _ _ _
   | exact LeO.none _
   | refine LeO.ite ?_ ?_
   | refine LeO.bind ?_ (fun _ => ?_)
  ·intro y0 y1 y2 y3 y4 y5
   unfold laws_FnPublicLogs.l1
   repeat' first
   | (with_reducible exact ih0 _ _ _ _ _ _ _)
   | (with_reducible exact ih1 _ _ _ _ _ _)
   | (with_reducible exact impl_AppendRecord.mono _ _ _)
   | (with_reducible exact impl_AreConsistent.mono _ _ _ _ _ _ _ _ _ _)
   | (with_reducible exact impl_CheckHead.mono _ _ _ _ _)
   | (with_reducible exact impl_HeadCovers.mono _ _ _ _ _ _ _)
   | (with_reducible exact impl_IsSplit.mono _ _ _ _ _ _ _ _ _)
   | (with_reducible exact impl_RootOf.mono _ _ _)
   | (with_reducible exact impl_SignHead.mono _ _ _ _ _)
   | (with_reducible exact LeO.refl _)
   | (with_reducible exact LeO.none _)
   | (with_reducible refine LeO.ite ?_ ?_)
   | (with_reducible refine LeO.bind ?_ (fun _ => ?_))
   | exact ih0 _ _ _ _ _ _ _
   | exact ih1 _ _ _ _ _ _
   | exact impl_AppendRecord.mono _ _ _
   | exact impl_AreConsistent.mono _ _ _ _ _ _ _ _ _ _
   | exact impl_CheckHead.mono _ _ _ _ _
   | exact impl_HeadCovers.mono _ _ _ _ _ _ _
   | exact impl_IsSplit.mono _ _ _ _ _ _ _ _ _
   | exact impl_RootOf.mono _ _ _
   | exact impl_SignHead.mono _ _ _ _ _
   | exact LeO.none _
   | refine LeO.ite ?_ ?_
   | refine LeO.bind ?_ (fun _ => ?_)
theorem laws_FnPublicLogs.mono : ∀ a0 k, LeO (laws_FnPublicLogs.f k a0) (laws_FnPublicLogs.f (k + 1) a0) := by
 intro a0 k
 obtain ⟨ih0, ih1⟩ := laws_FnPublicLogs.mono_l k
 unfold laws_FnPublicLogs.f
 repeat' first
   | (with_reducible exact ih0 _ _ _ _ _ _ _)
   | (with_reducible exact ih1 _ _ _ _ _ _)
   | (with_reducible exact impl_AppendRecord.mono _ _ _)
   | (with_reducible exact impl_AreConsistent.mono _ _ _ _ _ _ _ _ _ _)
   | (with_reducible exact impl_CheckHead.mono _ _ _ _ _)
   | (with_reducible exact impl_HeadCovers.mono _ _ _ _ _ _ _)
   | (with_reducible exact impl_IsSplit.mono _ _ _ _ _ _ _ _ _)
   | (with_reducible exact impl_RootOf.mono _ _ _)
   | (with_reducible exact impl_SignHead.mono _ _ _ _ _)
   | (with_reducible exact LeO.refl _)
   | (with_reducible exact LeO.none _)
   | (with_reducible refine LeO.ite ?_ ?_)
   | (with_reducible refine LeO.bind ?_ (fun _ => ?_))
   | exact ih0 _ _ _ _ _ _ _
   | exact ih1 _ _ _ _ _ _
   | exact impl_AppendRecord.mono _ _ _
   | exact impl_AreConsistent.mono _ _ _ _ _ _ _ _ _ _
   | exact impl_CheckHead.mono _ _ _ _ _
   | exact impl_HeadCovers.mono _ _ _ _ _ _ _
   | exact impl_IsSplit.mono _ _ _ _ _ _ _ _ _
   | exact impl_RootOf.mono _ _ _
   | exact impl_SignHead.mono _ _ _ _ _
   | exact LeO.none _
   | refine LeO.ite ?_ ?_
   | refine LeO.bind ?_ (fun _ => ?_)
def laws_FnPublicLogs.T22 : Bool × List (List Nat × List Nat) := (true, [([], []), ([0], [0]), ([1], [1]), ([], []), ([], []), ([3, 4], [3, 4]), ([5], [5]), ([], []), ([2, 6, 7], [2, 6, 7]), ([8], [8]), ([9, 8], [9]), ([10], [10]), ([11, 10], [10, 11]), ([12, 10], [10, 12]), ([10], [10]), ([10], [10]), ([14, 15, 10], [10, 14, 15]), ([16, 10], [10, 16]), ([13, 17, 10, 10], [10, 13, 17]), ([10, 18], [10, 18]), ([19, 18], [19]), ([20], [20]), ([21, 20], [20, 21]), ([20], [20]), ([20], [20]), ([23, 24, 20], [20, 23, 24]), ([25, 20], [20, 25]), ([26, 20], [20, 26]), ([22, 27, 20, 20], [20, 22, 27]), ([20], [20]), ([20], [20]), ([29, 30, 20], [20, 29, 30]), ([31, 20], [20, 31]), ([32, 20], [20, 32]), ([28, 33, 20], [20, 28, 33]), ([20, 34], [20, 34])])
def laws_FnPublicLogs.B22 : List Nat := [0, 1, 3, 0, 0, 24, 56, 0, 255, 511, 1023, 2047, 4095, 8191, 2047, 2047, 51199, 116735, 262143, 524287, 1048575, 2097151, 4194303, 2097151, 2097151, 27262975, 60817407, 127926271, 268435455, 2097151, 2097151, 1612709887, 3760193535, 8055160831, 17179869183, 34359738367]
theorem laws_FnPublicLogs.tab22 : rtab .any (opsOf Try.f12 22) = laws_FnPublicLogs.T22 := by kernel_rfl
theorem laws_FnPublicLogs.bits22 : waitsOk laws_FnPublicLogs.T22.2 laws_FnPublicLogs.B22 = true := by kernel_rfl
def laws_FnPublicLogs.T26 : Bool × List (List Nat × List Nat) := (true, [([], []), ([], []), ([1], [1]), ([2], [2]), ([0, 3], [0, 3]), ([4], [4]), ([5], [5]), ([6, 5], [5, 6]), ([7, 5], [5, 7]), ([8, 5, 5], [5, 8]), ([9], [9]), ([10, 9], [9, 10]), ([11, 9], [9, 11]), ([9], [9]), ([13, 9], [9, 13]), ([14, 9], [9, 14]), ([9], [9]), ([12, 15, 16, 9, 9], [9, 12, 15, 16]), ([17, 9], [9, 17]), ([9, 18, 5], [5, 9, 18]), ([5, 19], [5, 19]), ([20, 17], [20]), ([21], [21]), ([22, 21, 21], [21, 22]), ([23], [23]), ([23], [23]), ([24, 25, 23], [23, 24, 25]), ([23, 26, 21], [21, 23, 26]), ([21, 27], [21, 27]), ([28, 23, 0, 1, 2, 3, 4, 5, 6, 7, 8, 9, 10, 11, 12, 13, 14, 15, 16, 17, 18, 19, 20, 21, 22, 23, 24, 25, 26, 27, 28], [28])])
def laws_FnPublicLogs.B26 : List Nat := [0, 0, 2, 6, 15, 31, 63, 127, 255, 511, 1023, 2047, 4095, 1023, 9215, 25599, 1023, 131071, 262143, 524287, 1048575, 2097151, 4194303, 8388607, 16777215, 16777215, 67108863, 134217727, 268435455, 536870911]
theorem laws_FnPublicLogs.tab26 : rtab .any (opsOf Try.f12 26) = laws_FnPublicLogs.T26 := by kernel_rfl
theorem laws_FnPublicLogs.bits26 : waitsOk laws_FnPublicLogs.T26.2 laws_FnPublicLogs.B26 = true := by kernel_rfl
set_option maxHeartbeats 8000000 in
set_option maxRecDepth 100000 in
theorem laws_FnPublicLogs.calls (k : Nat) (A0 : Option Addr) (c0 : Nat) (l0 : List Int) (r : Bool) (w : World) (hr0 : Kd.C (Kd.int .u8) w A0 l0.length l0) (hc0 : l0.length ≤ c0) (hT_ : r = true) (h : laws_FnPublicLogs.f k l0 = some r) :
  Calls Try.prog 12 #[.slice A0 l0.length c0] w fun e w' => e = .returned (.bool r) ∧ Below w.heap.size w w' := by
 have hu45 := Try.underlying45
 have hu56 := Try.underlying56
 have hu58 := Try.underlying58
 have HR0 := Aside0.mk hr0
 have HC0 := Aside0.mk hc0
 clear hr0 hc0
 have HB := Aside0.mk (Below.refl w.heap.size w)
 have H : ((laws_big.f l0).bind fun t199 => (if t199 = true then (some true) else ((laws_at.f l0 0).bind fun t201 => (laws_FnPublicLogs.l0 k l0 (([] : List (S58))) 0 ([] : List Int) (wrap64 (1 + t201)) 0 0)))) = some r := h
 clear h
 replace H := Option.bind_eq_some_iff.mp H
 obtain ⟨t199, A20, H⟩ := H
 try dsimp only at H
 have A2 := Aside0.mk A20
 clear A20
 by_cases c3 : t199 = true
 ·subst c3
  have H1 : (some true) = some r := by rw [if_pos rfl] at H; exact H
  clear H
  have H := H1
  clear H1
  obtain rfl := Option.some.inj H
  go_enter Try.func12, Try.ntmps12
  go_wp2_with (first | ((with_reducible refine gate_callee (f := 34) rfl ?_); refine goesL_ (some 18) rfl rfl Try.func34 (by kernel_rfl) rfl #[.slice A0 l0.length c0] rfl tL ?_; (with_reducible refine (laws_big.calls _ _ l0 true _ ?side1 ?side2 A2.out).mono ?_); (case side1 => repeat (first | exact HR0.out | (with_reducible refine Kd.C_alloc ?_ _) | (with_reducible refine Kd.C_drewN ?_ _) | (with_reducible refine Kd.C_drew ?_))); (case side2 => exact HC0.out); rintro e w' ⟨rfl, ⟨nd, rfl⟩⟩; refine ⟨_, rfl, ?_⟩))
  go_ret
  exact ⟨tE, tB⟩
 replace c3 := Bool.eq_false_iff.mpr c3
 subst c3
 have H1 : ((laws_at.f l0 0).bind fun t201 => (laws_FnPublicLogs.l0 k l0 (([] : List (S58))) 0 ([] : List Int) (wrap64 (1 + t201)) 0 0)) = some r := by rw [if_neg (show ¬ (false = true) by decide)] at H; exact H
 clear H
 have H := H1
 clear H1
 replace H := Option.bind_eq_some_iff.mp H
 obtain ⟨t201, A40, H⟩ := H
 try dsimp only at H
 have A4 := Aside0.mk A40
 clear A40
 obtain ⟨y203, hy203⟩ : ∃ y_ : List (S58), y_ = (([] : List (S58))) := ⟨_, rfl⟩
 replace H : (laws_FnPublicLogs.l0 k l0 y203 0 ([] : List Int) (wrap64 (1 + t201)) 0 0) = some r := by first | (rw [hy203]; with_reducible exact H) | (have H2_ := (Option.bind_some _ _).symm.trans H; rw [hy203]; with_reducible exact H2_) | (have H2_ := (Option.bind_some _ _).symm.trans H; with_reducible exact H2_) | with_reducible exact H | (rw [hy203]; exact H) | exact H
 have Ny203 := Aside0.mk hy203
 clear hy203
 have H' := Aside0.mk H
 clear H
 go_enter Try.func12, Try.ntmps12
 go_wp2_with (first | ((with_reducible refine gate_callee (f := 34) rfl ?_); refine goesL_ (some 18) rfl rfl Try.func34 (by kernel_rfl) rfl #[.slice A0 l0.length c0] rfl tL ?_; (with_reducible refine (laws_big.calls _ _ l0 false _ ?side1 ?side2 A2.out).mono ?_); (case side1 => repeat (first | exact HR0.out | (with_reducible refine Kd.C_alloc ?_ _) | (with_reducible refine Kd.C_drewN ?_ _) | (with_reducible refine Kd.C_drew ?_))); (case side2 => exact HC0.out); rintro e w' ⟨rfl, ⟨nd, rfl⟩⟩; refine ⟨_, rfl, ?_⟩) | ((with_reducible refine gate_dst (N := 3) rfl ?_); (try (refine gate_guard (by rfl) ?_; dsimp only)); refine box_event ?hg (N := 3) ?hd (cs := #[.slice none 0 0]) (t := 45) ?hr ?_; (case hd => rfl); (case hg => rfl); (case hr => exact tG); intro gb200 hg w5 hbox hb; have BK200 := Aside0.mk (hbox); have GW200 := gW HB hg; have GE200 := gW HB hg; replace HB := bH HB hb; clear hb hbox hg; obtain ⟨hcz6_0, hfz6_0⟩ := bc1 BK200.out) | ((with_reducible refine gate_callee (f := 35) rfl ?_); refine goesL_ (some 21) rfl rfl Try.func35 (by kernel_rfl) rfl #[.slice A0 l0.length c0, .int .i64 0] rfl tL ?_; (with_reducible refine (laws_at.calls _ _ l0 0 t201 _ ?side1 ?side2 A4.out).mono ?_); (case side1 => exact Kd.C_below HR0.out tB); (case side2 => exact HC0.out); rintro e w' ⟨rfl, ⟨nd, rfl⟩⟩; refine ⟨_, rfl, ?_⟩) | ((with_reducible refine gate_dst (N := 4) rfl ?_); (try (refine gate_guard (by rfl) ?_; dsimp only)); refine box_event ?hg (N := 4) ?hd (cs := #[.int .i64 0, .int .i64 0, .int .i64 0]) (t := 56) ?hr ?_; (case hd => rfl); (case hg => rfl); (case hr => exact tG); intro gb202 hg w7 hbox hb; have BK202 := Aside0.mk (hbox); have GW202 := gW HB hg; have GE202 := gW HB hg; replace HB := bH HB hb; have NB200_202 := Aside0.mk ((by rw [hg]; exact Nat.ne_of_lt (blk_lt (g := gb200) (o := .cells #[.slice none 0 0] 45 (0, 0)) (by (with_reducible repeat (first | refine blk_drewN ?_ _ | refine blk_drew ?_ | refine blk_alloc ?_ _)); refine blk_put (cs := #[.slice none 0 0]) ?_ 0 _ rfl; (with_reducible repeat (first | refine blk_drewN ?_ _ | refine blk_drew ?_ | refine blk_alloc ?_ _)); exact BK200.out)) : gb200 ≠ gb202)); have NB202_200 := Aside0.mk ((by rw [hg]; exact Nat.ne_of_gt (blk_lt (g := gb200) (o := .cells #[.slice none 0 0] 45 (0, 0)) (by (with_reducible repeat (first | refine blk_drewN ?_ _ | refine blk_drew ?_ | refine blk_alloc ?_ _)); refine blk_put (cs := #[.slice none 0 0]) ?_ 0 _ rfl; (with_reducible repeat (first | refine blk_drewN ?_ _ | refine blk_drew ?_ | refine blk_alloc ?_ _)); exact BK200.out)) : gb202 ≠ gb200)); replace BK200 := Aside0.mk (blk_below (g := gb200) (o := .cells #[.slice none 0 0] 45 (0, 0)) (by (with_reducible repeat (first | refine blk_drewN ?_ _ | refine blk_drew ?_ | refine blk_alloc ?_ _)); refine blk_put (cs := #[.slice none 0 0]) ?_ 0 _ rfl; (with_reducible repeat (first | refine blk_drewN ?_ _ | refine blk_drew ?_ | refine blk_alloc ?_ _)); exact BK200.out) hb); clear hb hbox hg; have hnb8 := NB202_200.out; have hnc8 := NB200_202.out; obtain ⟨hcz9_0, hcz9_1, hcz9_2, hfz9_0, hfz9_1, hfz9_2⟩ := bc3 BK202.out) | ((with_reducible refine gate_dst (N := 24) rfl ?_); (try (refine gate_guard (by rfl) ?_; dsimp only)); refine Kd.R_lit k58 _ 58 ?hg (N := 24) ?hd (xs := ([] : List (S58))) (inner := []) (ok := fun _ => True) (okp := fun _ => True) ?hr ?hp (fun _ hk => hk) trivial (Below.refl _ _) (Nat.le_refl _) (by simp) ?_; (case hd => rfl); (case hg => rfl); (case hr => exact tG); (case hp => exact (Reps.none _ _)); intro v204 w10 ho11 hb hg_ hnew_; clear hg_ hnew_; (first | rw [← Ny203.out] at ho11 | (simp only [Int.reduceToNat] at ho11; rw [← Ny203.out] at ho11)); have HO205 := Aside0.mk (Kd.R_lower ho11 (below_size tB)); replace BK200 := Aside0.mk (blk_below (g := gb200) (o := .cells #[.slice none 0 0] 45 (0, 0)) (kF NB200_202 BK200) hb); replace BK202 := Aside0.mk (blk_below (g := gb202) (o := .cells #[.int .i64 (wrap64 (1 + t201)), .int .i64 0, .int .i64 0] 56 (0, 0)) (by (with_reducible repeat (first | refine blk_drewN ?_ _ | refine blk_drew ?_ | refine blk_alloc ?_ _)); refine blk_put (cs := #[.int .i64 (wrap64 (1 + t201)), .int .i64 0, .int .i64 0]) ?_ 2 _ rfl; (with_reducible repeat (first | refine blk_drewN ?_ _ | refine blk_drew ?_ | refine blk_alloc ?_ _)); refine blk_put (cs := #[.int .i64 (wrap64 (1 + t201)), .int .i64 0, .int .i64 0]) ?_ 1 _ rfl; (with_reducible repeat (first | refine blk_drewN ?_ _ | refine blk_drew ?_ | refine blk_alloc ?_ _)); refine blk_put (cs := #[.int .i64 0, .int .i64 0, .int .i64 0]) ?_ 0 _ rfl; (with_reducible repeat (first | refine blk_drewN ?_ _ | refine blk_drew ?_ | refine blk_alloc ?_ _)); exact BK202.out) hb); replace HB := bH HB hb; clear hb ho11))
 go_loopg [5, 6] k (fun kq v5 v6 w' => ∃ (x5_1 : List (S58)) (x6_1 : Int) (x201000_1 : List Int) (x203000_1 : Int) (x203001_1 : Int) (x203002_1 : Int) (u201000 : Value), v6 = .int .i64 x6_1 ∧ Aside0 (laws_FnPublicLogs.l0 kq l0 x5_1 x6_1 x201000_1 x203000_1 x203001_1 x203002_1 = some r) ∧ Aside0 (kq ≤ k) ∧ Aside0 (Kd.R k58 58 w' w.heap.size (fun _ => True) v5 x5_1) ∧ Aside0 (Kd.R (Kd.int .i64) 3 w' w.heap.size (fun _ => True) u201000 x201000_1) ∧ Aside0 (w'.heap[gb200]? = some (.cells #[u201000] 45 (0, 0))) ∧ Aside0 (w'.heap[gb202]? = some (.cells #[.int .i64 x203000_1, .int .i64 x203001_1, .int .i64 x203002_1] 56 (0, 0))) ∧ Aside0 (Below w.heap.size w w'))
 case atStart => exact ⟨(y203), (0), (([] : List Int)), (wrap64 (1 + t201)), (0), (0), (.slice none 0 0), tS, H', ⟨Nat.le_refl _⟩, ⟨tR HO205⟩, ⟨by first | exact Kd.R_nil _ _ _ _ _ | exact Kd.N_nil _ _ _ _ _ | exact Kd.V_nil _ _ _ _ _ | exact Kd.Q_nil _ _ _ _ _ | exact Kd.S_nil _ _ _ _ _⟩, ⟨tK BK200⟩, ⟨tK BK202⟩, ⟨tB⟩⟩
 case round =>
  clear H'
  try clear c1
  try clear p2
  try clear c3
  try clear p6
  try clear c8
  try clear hcz6_0
  try clear hcz9_0
  try clear hcz9_1
  try clear hcz9_2
  try clear hfz6_0
  try clear hfz9_0
  try clear hfz9_1
  try clear hfz9_2
  obtain ⟨x5_1, x6_1, x201000_1, x203000_1, x203001_1, x203002_1, u201000, rfl, HA, HK1, HO_5, HO_201000, BK200, BK202, HB⟩ := hrel
  cases gk with
  | zero => exact absurd HA.out (by simp [laws_FnPublicLogs.l0])
  | succ k1 =>
   have H := HA.out
   clear HA
   simp only [laws_FnPublicLogs.l0] at H
   by_cases c12 : x6_1 < 6
   ·rw [if_pos c12] at H
    have c12b0 : decide (x6_1 < 6) = true := decide_eq_true c12
    clear c12
    replace H := Option.bind_eq_some_iff.mp H
    obtain ⟨⟨t206, t209⟩, A130, H⟩ := H
    try dsimp only at H
    have A13 := Aside0.mk A130
    clear A130
    by_cases c14 : t209 = true
    ·subst c14
     have H1 : ((laws_at.f l0 (wrap64 (x6_1 + 1))).bind fun t211 => (if (Int.tmod t211 2) = 0 then ((impl_SignHead.f k1 x203000_1 x203001_1 x203002_1 t206).bind fun bt212 => (if bt212.2.2.2.2.2.2.2 = true then ((impl_CheckHead.f k1 bt212.2.2.2.1 bt212.2.2.2.2.1 bt212.2.2.2.2.2.1 bt212.2.2.2.2.2.2.1).bind fun t222 => (if t222 = true then (if bt212.2.2.2.1 = (wrap64 (x6_1 + 1)) then ((impl_HeadCovers.f k1 bt212.2.2.2.1 bt212.2.2.2.2.1 bt212.2.2.2.2.2.1 bt212.2.2.2.2.2.2.1 t206 (wrap64 (100 + x6_1))).bind fun t223 => (if t223 = true then ((impl_HeadCovers.f k1 bt212.2.2.2.1 bt212.2.2.2.2.1 bt212.2.2.2.2.2.1 bt212.2.2.2.2.2.2.1 t206 (wrap64 ((wrap64 (100 + x6_1)) + 1))).bind fun t224 => (if t224 = true then (some false) else (if x5_1.length < 4398046511104 then (laws_FnPublicLogs.l0 k1 l0 (x5_1 ++ [(⟨bt212.2.2.2.1, bt212.2.2.2.2.1, bt212.2.2.2.2.2.1, bt212.2.2.2.2.2.2.1⟩ : S58)]) (wrap64 (x6_1 + 1)) t206 bt212.1 bt212.2.1 bt212.2.2.1) else (none)))) else (some false))) else (some false)) else (some false))) else (some false))) else (laws_FnPublicLogs.l0 k1 l0 x5_1 (wrap64 (x6_1 + 1)) t206 x203000_1 x203001_1 x203002_1))) = some r := by rw [if_pos rfl] at H; exact H
     clear H
     have H := H1
     clear H1
     replace H := Option.bind_eq_some_iff.mp H
     obtain ⟨t211, A150, H⟩ := H
     try dsimp only at H
     have A15 := Aside0.mk A150
     clear A150
     by_cases c16 : (Int.tmod t211 2) = 0
     ·rw [if_pos c16] at H
      have c16b0 : ((Int.tmod t211 2) == 0) = true := beq_iff_eq.mpr c16
      have c16b1 : ((Int.tmod t211 2) != 0) = false := bne_eq_false_iff_eq.mpr c16
      clear c16
      replace H := Option.bind_eq_some_iff.mp H
      obtain ⟨⟨t212, t213, t214, t215, t216, t217, t218, t219⟩, A170, H⟩ := H
      try dsimp only at H
      have A17 := Aside0.mk A170
      clear A170
      by_cases c18 : t219 = true
      ·subst c18
       have H1 : ((impl_CheckHead.f k1 t215 t216 t217 t218).bind fun t222 => (if t222 = true then (if t215 = (wrap64 (x6_1 + 1)) then ((impl_HeadCovers.f k1 t215 t216 t217 t218 t206 (wrap64 (100 + x6_1))).bind fun t223 => (if t223 = true then ((impl_HeadCovers.f k1 t215 t216 t217 t218 t206 (wrap64 ((wrap64 (100 + x6_1)) + 1))).bind fun t224 => (if t224 = true then (some false) else (if x5_1.length < 4398046511104 then (laws_FnPublicLogs.l0 k1 l0 (x5_1 ++ [(⟨t215, t216, t217, t218⟩ : S58)]) (wrap64 (x6_1 + 1)) t206 t212 t213 t214) else (none)))) else (some false))) else (some false)) else (some false))) = some r := by rw [if_pos rfl] at H; exact H
       clear H
       have H := H1
       clear H1
       replace H := Option.bind_eq_some_iff.mp H
       obtain ⟨t222, A190, H⟩ := H
       try dsimp only at H
       have A19 := Aside0.mk A190
       clear A190
       by_cases c20 : t222 = true
       ·subst c20
        have H1 : (if t215 = (wrap64 (x6_1 + 1)) then ((impl_HeadCovers.f k1 t215 t216 t217 t218 t206 (wrap64 (100 + x6_1))).bind fun t223 => (if t223 = true then ((impl_HeadCovers.f k1 t215 t216 t217 t218 t206 (wrap64 ((wrap64 (100 + x6_1)) + 1))).bind fun t224 => (if t224 = true then (some false) else (if x5_1.length < 4398046511104 then (laws_FnPublicLogs.l0 k1 l0 (x5_1 ++ [(⟨t215, t216, t217, t218⟩ : S58)]) (wrap64 (x6_1 + 1)) t206 t212 t213 t214) else (none)))) else (some false))) else (some false)) = some r := by rw [if_pos rfl] at H; exact H
        clear H
        have H := H1
        clear H1
        by_cases c21 : t215 = (wrap64 (x6_1 + 1))
        ·rw [if_pos c21] at H
         have c21b0 : (t215 == (wrap64 (x6_1 + 1))) = true := beq_iff_eq.mpr c21
         have c21b1 : (t215 != (wrap64 (x6_1 + 1))) = false := bne_eq_false_iff_eq.mpr c21
         clear c21
         replace H := Option.bind_eq_some_iff.mp H
         obtain ⟨t223, A220, H⟩ := H
         try dsimp only at H
         have A22 := Aside0.mk A220
         clear A220
         by_cases c23 : t223 = true
         ·subst c23
          have H1 : ((impl_HeadCovers.f k1 t215 t216 t217 t218 t206 (wrap64 ((wrap64 (100 + x6_1)) + 1))).bind fun t224 => (if t224 = true then (some false) else (if x5_1.length < 4398046511104 then (laws_FnPublicLogs.l0 k1 l0 (x5_1 ++ [(⟨t215, t216, t217, t218⟩ : S58)]) (wrap64 (x6_1 + 1)) t206 t212 t213 t214) else (none)))) = some r := by rw [if_pos rfl] at H; exact H
          clear H
          have H := H1
          clear H1
          replace H := Option.bind_eq_some_iff.mp H
          obtain ⟨t224, A240, H⟩ := H
          try dsimp only at H
          have A24 := Aside0.mk A240
          clear A240
          by_cases c25 : t224 = true
          ·subst c25
           have H1 : (some false) = some r := by rw [if_pos rfl] at H; exact H
           clear H
           have H := H1
           clear H1
           exact absurd ((Option.some.inj H).trans hT_) (by decide)
          replace c25 := Bool.eq_false_iff.mpr c25
          subst c25
          have H1 : (if x5_1.length < 4398046511104 then (laws_FnPublicLogs.l0 k1 l0 (x5_1 ++ [(⟨t215, t216, t217, t218⟩ : S58)]) (wrap64 (x6_1 + 1)) t206 t212 t213 t214) else (none)) = some r := by rw [if_neg (show ¬ (false = true) by decide)] at H; exact H
          clear H
          have H := H1
          clear H1
          by_cases c26 : x5_1.length < 4398046511104
          ·rw [if_pos c26] at H
           have LMc26 := Aside0.mk c26
           clear c26
           obtain ⟨y225, hy225⟩ : ∃ y_ : List (S58), y_ = (x5_1 ++ [(⟨t215, t216, t217, t218⟩ : S58)]) := ⟨_, rfl⟩
           replace H : (laws_FnPublicLogs.l0 k1 l0 y225 (wrap64 (x6_1 + 1)) t206 t212 t213 t214) = some r := by first | (rw [hy225]; with_reducible exact H) | (have H2_ := (Option.bind_some _ _).symm.trans H; rw [hy225]; with_reducible exact H2_) | (have H2_ := (Option.bind_some _ _).symm.trans H; with_reducible exact H2_) | with_reducible exact H | (rw [hy225]; exact H) | exact H
           have Ny225 := Aside0.mk hy225
           clear hy225
           have H' := Aside0.mk H
           clear H
           have hnb27 := NB200_202.out
           have hnc27 := NB202_200.out
           obtain ⟨hcz28_0, hfz28_0⟩ := bc1 BK200.out
           obtain ⟨Ao29, co29, eo29⟩ := Kd.R_slice HO_201000.out
           subst eo29
           go_wp2_with (first | ((with_reducible refine gate_callee (f := 30) rfl ?_); refine goesL_ (some 33) rfl rfl Try.func30 (by kernel_rfl) rfl #[.agg #[.slice Ao29 x201000_1.length co29], .int .i64 (wrap64 (100 + x6_1))] rfl tL ?_; (with_reducible refine (impl_AppendRecord.calls k1 _ _ x201000_1 (wrap64 (100 + x6_1)) t206 true _ ?side1 ?side2 A13.out).mono ?_); (case side1 => repeat (first | exact (Kd.R_reads' HO_201000.out).2.2 | (with_reducible refine Kd.C_alloc ?_ _) | (with_reducible refine Kd.C_drewN ?_ _) | (with_reducible refine Kd.C_drew ?_))); (case side2 => exact (Kd.R_reads' HO_201000.out).2.1); rintro e w30 ⟨v207, rfl, ho0, hb⟩; refine ⟨_, rfl, ?_⟩; replace HO_5 := Aside0.mk (Kd.R_below (tR HO_5) hb); have HO208 := Aside0.mk (Kd.R_lower (Kd.R_new' ho0 (Kd.R_lt (tR HO_201000))) (below_size tB)); replace HO_201000 := Aside0.mk (Kd.R_elder' (tR HO_201000) (Kd.R_base ho0) hb); replace BK200 := bB BK200 hb; replace BK202 := bB BK202 hb; replace HB := bH HB hb; (try clear hb); (try clear hb2); (try clear hk); (try clear hi); (try clear ho0)) | ((with_reducible refine gate_dst (N := 7) rfl ?_); (try (refine gate_guard (by rfl) ?_; dsimp only)); refine box_event ?hg (N := 7) ?hd (cs := #[.slice none 0 0]) (t := 45) ?hr ?_; (case hd => rfl); (case hg => rfl); (case hr => exact tG); intro gb210 hg w31 hbox hb; replace HO_5 := Aside0.mk (Kd.R_below (tR HO_5) hb); replace HO_201000 := Aside0.mk (Kd.R_below (tR HO_201000) hb); replace HO208 := Aside0.mk (Kd.R_below (tR HO208) hb); have BK210 := Aside0.mk (hbox); have GW210 := gW HB hg; have GE210 := gW HB hg; replace HB := bH HB hb; have NB200_210 := nL BK200 hg; have NB210_200 := nR BK200 hg; replace BK200 := bB BK200 hb; have NB202_210 := nL BK202 hg; have NB210_202 := nR BK202 hg; replace BK202 := bB BK202 hb; clear hb hbox hg; obtain ⟨Ao32, co32, eo32⟩ := Kd.R_slice HO208.out; subst eo32; have hnb33 := NB210_200.out; have hnc33 := NB200_210.out; have hnb34 := NB210_202.out; have hnc34 := NB202_210.out; obtain ⟨hcz35_0, hfz35_0⟩ := bc1 BK210.out; obtain ⟨hcz36_0, hfz36_0⟩ := bc1 BK200.out) | ((with_reducible refine gate_callee (f := 35) rfl ?_); refine goesL_ (some 42) rfl rfl Try.func35 (by kernel_rfl) rfl #[.slice A0 l0.length c0, .int .i64 (wrap64 (x6_1 + 1))] rfl tL ?_; (with_reducible refine (laws_at.calls _ _ l0 (wrap64 (x6_1 + 1)) t211 _ ?side1 ?side2 A15.out).mono ?_); (case side1 => exact Kd.C_below HR0.out tB); (case side2 => exact HC0.out); rintro e w' ⟨rfl, ⟨nd, rfl⟩⟩; refine ⟨_, rfl, ?_⟩; obtain ⟨hcz37_0, hcz37_1, hcz37_2, hfz37_0, hfz37_1, hfz37_2⟩ := bc3 BK202.out) | ((with_reducible refine gate_callee (f := 36) rfl ?_); refine goesL_ (some 48) rfl rfl Try.func36 (by kernel_rfl) rfl #[.agg #[.int .i64 x203000_1, .int .i64 x203001_1, .int .i64 x203002_1], .agg #[.slice Ao32 t206.length co32]] rfl tL ?_; (with_reducible refine (impl_SignHead.calls k1 x203000_1 x203001_1 x203002_1 _ _ t206 t212 t213 t214 t215 t216 t217 t218 true _ ?side1 ?side2 A17.out).mono ?_); (case side1 => refine (Kd.R_reads' (e := 3) (base := w.heap.size) (ok := fun k_ => (True ∧ some k_ ≠ (.slice Ao29 x201000_1.length co29 : Value).ownBlock)) (n := t206.length) (c := co32) ?_).2.2; exact (by (with_reducible repeat (first | apply Kd.R_alloc | apply Kd.R_drewN | apply Kd.R_drew)); exact (Kd.R_mono (Kd.R_mono (Kd.R_far (p := ⟨gb200, 0, none⟩) (Kd.R_far (p := ⟨gb210, 0, none⟩) (Kd.R_types (Kd.R_types HO208.out BK210.out (by decide)) BK200.out (by decide)) (fun _ hk => hk.1.2) (.slice Ao32 t206.length co32)) (fun _ hk => hk.2) (.slice Ao32 t206.length co32)) (fun _ h_ => h_.1)) (fun _ h_ => h_.1)))); (case side2 => exact (Kd.R_reads' HO208.out).2.1); rintro e w38 ⟨rfl, hb⟩; refine ⟨_, rfl, ?_⟩; replace HO_5 := Aside0.mk (Kd.R_below (by (with_reducible repeat (first | apply Kd.R_alloc | apply Kd.R_drewN | apply Kd.R_drew)); exact (Kd.R_mono (Kd.R_mono (Kd.R_far (p := ⟨gb200, 0, none⟩) (Kd.R_far (p := ⟨gb210, 0, none⟩) (Kd.R_types (Kd.R_types HO_5.out BK210.out (by decide)) BK200.out (by decide)) (fun _ hk => hk.1.2) (.slice Ao32 t206.length co32)) (fun _ hk => hk.2) (.slice Ao32 t206.length co32)) (fun _ h_ => h_.1)) (fun _ h_ => h_.1))) hb); replace HO_201000 := Aside0.mk (Kd.R_below (by (with_reducible repeat (first | apply Kd.R_alloc | apply Kd.R_drewN | apply Kd.R_drew)); exact (Kd.R_mono (Kd.R_mono (Kd.R_far (p := ⟨gb200, 0, none⟩) (Kd.R_far (p := ⟨gb210, 0, none⟩) (Kd.R_types (Kd.R_types HO_201000.out BK210.out (by decide)) BK200.out (by decide)) (fun _ hk => hk.1.2) (.slice Ao32 t206.length co32)) (fun _ hk => hk.2) (.slice Ao32 t206.length co32)) (fun _ h_ => h_.1)) (fun _ h_ => h_.1))) hb); replace HO208 := Aside0.mk (Kd.R_below (by (with_reducible repeat (first | apply Kd.R_alloc | apply Kd.R_drewN | apply Kd.R_drew)); exact (Kd.R_mono (Kd.R_mono (Kd.R_far (p := ⟨gb200, 0, none⟩) (Kd.R_far (p := ⟨gb210, 0, none⟩) (Kd.R_types (Kd.R_types HO208.out BK210.out (by decide)) BK200.out (by decide)) (fun _ hk => hk.1.2) (.slice Ao32 t206.length co32)) (fun _ hk => hk.2) (.slice Ao32 t206.length co32)) (fun _ h_ => h_.1)) (fun _ h_ => h_.1))) hb); replace BK200 := Aside0.mk (blk_below (g := gb200) (o := .cells #[.slice Ao32 t206.length co32] 45 (0, 0)) (by (with_reducible repeat (first | refine blk_drewN ?_ _ | refine blk_drew ?_ | refine blk_alloc ?_ _)); refine blk_put (cs := #[.slice Ao29 x201000_1.length co29]) ?_ 0 _ rfl; exact kF NB200_210 BK200) hb); replace BK202 := Aside0.mk (blk_below (g := gb202) (o := .cells #[.int .i64 x203000_1, .int .i64 x203001_1, .int .i64 x203002_1] 56 (0, 0)) (by (with_reducible repeat (first | refine blk_drewN ?_ _ | refine blk_drew ?_ | refine blk_alloc ?_ _)); refine blk_far ?_ NB202_200.out _; (with_reducible repeat (first | refine blk_drewN ?_ _ | refine blk_drew ?_ | refine blk_alloc ?_ _)); refine blk_far ?_ NB202_210.out _; (with_reducible repeat (first | refine blk_drewN ?_ _ | refine blk_drew ?_ | refine blk_alloc ?_ _)); exact BK202.out) hb); replace BK210 := Aside0.mk (blk_below (g := gb210) (o := .cells #[.slice Ao32 t206.length co32] 45 (0, 0)) (by (with_reducible repeat (first | refine blk_drewN ?_ _ | refine blk_drew ?_ | refine blk_alloc ?_ _)); refine blk_far ?_ NB210_200.out _; (with_reducible repeat (first | refine blk_drewN ?_ _ | refine blk_drew ?_ | refine blk_alloc ?_ _)); refine blk_put (cs := #[.slice none 0 0]) ?_ 0 _ rfl; (with_reducible repeat (first | refine blk_drewN ?_ _ | refine blk_drew ?_ | refine blk_alloc ?_ _)); exact BK210.out) hb); replace HB := bH HB hb; (try clear hb); (try clear hb2); (try clear hk); (try clear hi)) | ((with_reducible refine gate_dst (N := 9) rfl ?_); (try (refine gate_guard (by rfl) ?_; dsimp only)); refine box_event ?hg (N := 9) ?hd (cs := #[.int .i64 0, .int .i64 0, .int .i64 0]) (t := 56) ?hr ?_; (case hd => rfl); (case hg => rfl); (case hr => exact tG); intro gb220 hg w39 hbox hb; replace HO_5 := Aside0.mk (Kd.R_below (tR HO_5) hb); replace HO_201000 := Aside0.mk (Kd.R_below (tR HO_201000) hb); replace HO208 := Aside0.mk (Kd.R_below (tR HO208) hb); have BK220 := Aside0.mk (hbox); have GW220 := gW HB hg; have GE220 := gW HB hg; replace HB := bH HB hb; have NB200_220 := nL BK200 hg; have NB220_200 := nR BK200 hg; replace BK200 := bB BK200 hb; have NB202_220 := nL BK202 hg; have NB220_202 := nR BK202 hg; replace BK202 := bB BK202 hb; have NB210_220 := nL BK210 hg; have NB220_210 := nR BK210 hg; replace BK210 := bB BK210 hb; clear hb hbox hg) | ((with_reducible refine gate_dst (N := 10) rfl ?_); (try (refine gate_guard (by rfl) ?_; dsimp only)); refine box_event ?hg (N := 10) ?hd (cs := #[.int .i64 0, .int .i64 0, .int .i64 0, .int .i64 0]) (t := 58) ?hr ?_; (case hd => rfl); (case hg => rfl); (case hr => exact tG); intro gb221 hg w40 hbox hb; replace HO_5 := Aside0.mk (Kd.R_below (Kd.R_elderB (tR HO_5) gb221 (Nat.le_of_eq hg.symm)) hb); replace HO_201000 := Aside0.mk (Kd.R_below (tR HO_201000) hb); replace HO208 := Aside0.mk (Kd.R_below (tR HO208) hb); have BK221 := Aside0.mk (hbox); have GW221 := gW HB hg; have GE221 := gW HB hg; replace HB := bH HB hb; have NB200_221 := nL BK200 hg; have NB221_200 := nR BK200 hg; replace BK200 := bB BK200 hb; have NB202_221 := nL BK202 hg; have NB221_202 := nR BK202 hg; replace BK202 := bB BK202 hb; have NB210_221 := nL BK210 hg; have NB221_210 := nR BK210 hg; replace BK210 := bB BK210 hb; have NB220_221 := nL BK220 hg; have NB221_220 := nR BK220 hg; replace BK220 := bB BK220 hb; clear hb hbox hg; have hnb41 := NB220_200.out; have hnc41 := NB200_220.out; have hnb42 := NB220_202.out; have hnc42 := NB202_220.out; have hnb43 := NB220_210.out; have hnc43 := NB210_220.out; have hnb44 := NB220_221.out; have hnc44 := NB221_220.out; obtain ⟨hcz45_0, hcz45_1, hcz45_2, hfz45_0, hfz45_1, hfz45_2⟩ := bc3 BK220.out; have hnb46 := NB221_200.out; have hnc46 := NB200_221.out; have hnb47 := NB221_202.out; have hnc47 := NB202_221.out; have hnb48 := NB221_210.out; have hnc48 := NB210_221.out; obtain ⟨hcz49_0, hcz49_1, hcz49_2, hcz49_3, hfz49_0, hfz49_1, hfz49_2, hfz49_3⟩ := bc4 BK221.out) | (go_at_call 38; (with_reducible refine (impl_CheckHead.calls k1 t215 t216 t217 t218 true _ A19.out).mono ?_); rintro e w50 ⟨rfl, hb⟩; replace HO_5 := Aside0.mk (Kd.R_below (by (with_reducible repeat (first | apply Kd.R_alloc | apply Kd.R_drewN | apply Kd.R_drew)); exact (Kd.R_mono (Kd.R_mono (Kd.R_far (p := ⟨gb221, 3, none⟩) (Kd.R_far (p := ⟨gb221, 2, none⟩) (Kd.R_far (p := ⟨gb221, 1, none⟩) (Kd.R_far (p := ⟨gb221, 0, none⟩) (Kd.R_far (p := ⟨gb220, 2, none⟩) (Kd.R_far (p := ⟨gb220, 1, none⟩) (Kd.R_far (p := ⟨gb220, 0, none⟩) (Kd.R_mono (Kd.R_types HO_5.out BK220.out (by decide)) (fun k_ hk => (⟨hk, hk.1.2⟩ : _ ∧ k_ ≠ gb221))) (fun _ hk => hk.1.2) (.int .i64 t212)) (fun _ hk => hk.1.2) (.int .i64 t213)) (fun _ hk => hk.1.2) (.int .i64 t214)) (fun _ hk => hk.2) (.int .i64 t215)) (fun _ hk => hk.2) (.int .i64 t216)) (fun _ hk => hk.2) (.int .i64 t217)) (fun _ hk => hk.2) (.int .i64 t218)) (fun _ h_ => h_.1)) (fun _ h_ => h_.1))) hb); replace HO_201000 := Aside0.mk (Kd.R_below (by (with_reducible repeat (first | apply Kd.R_alloc | apply Kd.R_drewN | apply Kd.R_drew)); exact (Kd.R_mono (Kd.R_mono (Kd.R_far (p := ⟨gb221, 3, none⟩) (Kd.R_far (p := ⟨gb221, 2, none⟩) (Kd.R_far (p := ⟨gb221, 1, none⟩) (Kd.R_far (p := ⟨gb221, 0, none⟩) (Kd.R_far (p := ⟨gb220, 2, none⟩) (Kd.R_far (p := ⟨gb220, 1, none⟩) (Kd.R_far (p := ⟨gb220, 0, none⟩) (Kd.R_types (Kd.R_types HO_201000.out BK220.out (by decide)) BK221.out (by decide)) (fun _ hk => hk.1.2) (.int .i64 t212)) (fun _ hk => hk.1.2) (.int .i64 t213)) (fun _ hk => hk.1.2) (.int .i64 t214)) (fun _ hk => hk.2) (.int .i64 t215)) (fun _ hk => hk.2) (.int .i64 t216)) (fun _ hk => hk.2) (.int .i64 t217)) (fun _ hk => hk.2) (.int .i64 t218)) (fun _ h_ => h_.1)) (fun _ h_ => h_.1))) hb); replace HO208 := Aside0.mk (Kd.R_below (by (with_reducible repeat (first | apply Kd.R_alloc | apply Kd.R_drewN | apply Kd.R_drew)); exact (Kd.R_mono (Kd.R_mono (Kd.R_far (p := ⟨gb221, 3, none⟩) (Kd.R_far (p := ⟨gb221, 2, none⟩) (Kd.R_far (p := ⟨gb221, 1, none⟩) (Kd.R_far (p := ⟨gb221, 0, none⟩) (Kd.R_far (p := ⟨gb220, 2, none⟩) (Kd.R_far (p := ⟨gb220, 1, none⟩) (Kd.R_far (p := ⟨gb220, 0, none⟩) (Kd.R_types (Kd.R_types HO208.out BK220.out (by decide)) BK221.out (by decide)) (fun _ hk => hk.1.2) (.int .i64 t212)) (fun _ hk => hk.1.2) (.int .i64 t213)) (fun _ hk => hk.1.2) (.int .i64 t214)) (fun _ hk => hk.2) (.int .i64 t215)) (fun _ hk => hk.2) (.int .i64 t216)) (fun _ hk => hk.2) (.int .i64 t217)) (fun _ hk => hk.2) (.int .i64 t218)) (fun _ h_ => h_.1)) (fun _ h_ => h_.1))) hb); replace BK200 := Aside0.mk (blk_below (g := gb200) (o := .cells #[.slice Ao32 t206.length co32] 45 (0, 0)) (by (with_reducible repeat (first | refine blk_drewN ?_ _ | refine blk_drew ?_ | refine blk_alloc ?_ _)); refine blk_far ?_ NB200_221.out _; (with_reducible repeat (first | refine blk_drewN ?_ _ | refine blk_drew ?_ | refine blk_alloc ?_ _)); refine blk_far ?_ NB200_221.out _; (with_reducible repeat (first | refine blk_drewN ?_ _ | refine blk_drew ?_ | refine blk_alloc ?_ _)); refine blk_far ?_ NB200_221.out _; (with_reducible repeat (first | refine blk_drewN ?_ _ | refine blk_drew ?_ | refine blk_alloc ?_ _)); refine blk_far ?_ NB200_221.out _; (with_reducible repeat (first | refine blk_drewN ?_ _ | refine blk_drew ?_ | refine blk_alloc ?_ _)); refine blk_far ?_ NB200_220.out _; (with_reducible repeat (first | refine blk_drewN ?_ _ | refine blk_drew ?_ | refine blk_alloc ?_ _)); refine blk_far ?_ NB200_220.out _; (with_reducible repeat (first | refine blk_drewN ?_ _ | refine blk_drew ?_ | refine blk_alloc ?_ _)); refine blk_far ?_ NB200_220.out _; (with_reducible repeat (first | refine blk_drewN ?_ _ | refine blk_drew ?_ | refine blk_alloc ?_ _)); exact BK200.out) hb); replace BK202 := Aside0.mk (blk_below (g := gb202) (o := .cells #[.int .i64 x203000_1, .int .i64 x203001_1, .int .i64 x203002_1] 56 (0, 0)) (by (with_reducible repeat (first | refine blk_drewN ?_ _ | refine blk_drew ?_ | refine blk_alloc ?_ _)); refine blk_far ?_ NB202_221.out _; (with_reducible repeat (first | refine blk_drewN ?_ _ | refine blk_drew ?_ | refine blk_alloc ?_ _)); refine blk_far ?_ NB202_221.out _; (with_reducible repeat (first | refine blk_drewN ?_ _ | refine blk_drew ?_ | refine blk_alloc ?_ _)); refine blk_far ?_ NB202_221.out _; (with_reducible repeat (first | refine blk_drewN ?_ _ | refine blk_drew ?_ | refine blk_alloc ?_ _)); refine blk_far ?_ NB202_221.out _; (with_reducible repeat (first | refine blk_drewN ?_ _ | refine blk_drew ?_ | refine blk_alloc ?_ _)); refine blk_far ?_ NB202_220.out _; (with_reducible repeat (first | refine blk_drewN ?_ _ | refine blk_drew ?_ | refine blk_alloc ?_ _)); refine blk_far ?_ NB202_220.out _; (with_reducible repeat (first | refine blk_drewN ?_ _ | refine blk_drew ?_ | refine blk_alloc ?_ _)); refine blk_far ?_ NB202_220.out _; (with_reducible repeat (first | refine blk_drewN ?_ _ | refine blk_drew ?_ | refine blk_alloc ?_ _)); exact BK202.out) hb); replace BK210 := Aside0.mk (blk_below (g := gb210) (o := .cells #[.slice Ao32 t206.length co32] 45 (0, 0)) (by (with_reducible repeat (first | refine blk_drewN ?_ _ | refine blk_drew ?_ | refine blk_alloc ?_ _)); refine blk_far ?_ NB210_221.out _; (with_reducible repeat (first | refine blk_drewN ?_ _ | refine blk_drew ?_ | refine blk_alloc ?_ _)); refine blk_far ?_ NB210_221.out _; (with_reducible repeat (first | refine blk_drewN ?_ _ | refine blk_drew ?_ | refine blk_alloc ?_ _)); refine blk_far ?_ NB210_221.out _; (with_reducible repeat (first | refine blk_drewN ?_ _ | refine blk_drew ?_ | refine blk_alloc ?_ _)); refine blk_far ?_ NB210_221.out _; (with_reducible repeat (first | refine blk_drewN ?_ _ | refine blk_drew ?_ | refine blk_alloc ?_ _)); refine blk_far ?_ NB210_220.out _; (with_reducible repeat (first | refine blk_drewN ?_ _ | refine blk_drew ?_ | refine blk_alloc ?_ _)); refine blk_far ?_ NB210_220.out _; (with_reducible repeat (first | refine blk_drewN ?_ _ | refine blk_drew ?_ | refine blk_alloc ?_ _)); refine blk_far ?_ NB210_220.out _; (with_reducible repeat (first | refine blk_drewN ?_ _ | refine blk_drew ?_ | refine blk_alloc ?_ _)); exact BK210.out) hb); replace BK220 := Aside0.mk (blk_below (g := gb220) (o := .cells #[.int .i64 t212, .int .i64 t213, .int .i64 t214] 56 (0, 0)) (by (with_reducible repeat (first | refine blk_drewN ?_ _ | refine blk_drew ?_ | refine blk_alloc ?_ _)); refine blk_far ?_ NB220_221.out _; (with_reducible repeat (first | refine blk_drewN ?_ _ | refine blk_drew ?_ | refine blk_alloc ?_ _)); refine blk_far ?_ NB220_221.out _; (with_reducible repeat (first | refine blk_drewN ?_ _ | refine blk_drew ?_ | refine blk_alloc ?_ _)); refine blk_far ?_ NB220_221.out _; (with_reducible repeat (first | refine blk_drewN ?_ _ | refine blk_drew ?_ | refine blk_alloc ?_ _)); refine blk_far ?_ NB220_221.out _; (with_reducible repeat (first | refine blk_drewN ?_ _ | refine blk_drew ?_ | refine blk_alloc ?_ _)); refine blk_put (cs := #[.int .i64 t212, .int .i64 t213, .int .i64 0]) ?_ 2 _ rfl; (with_reducible repeat (first | refine blk_drewN ?_ _ | refine blk_drew ?_ | refine blk_alloc ?_ _)); refine blk_put (cs := #[.int .i64 t212, .int .i64 0, .int .i64 0]) ?_ 1 _ rfl; (with_reducible repeat (first | refine blk_drewN ?_ _ | refine blk_drew ?_ | refine blk_alloc ?_ _)); refine blk_put (cs := #[.int .i64 0, .int .i64 0, .int .i64 0]) ?_ 0 _ rfl; (with_reducible repeat (first | refine blk_drewN ?_ _ | refine blk_drew ?_ | refine blk_alloc ?_ _)); exact BK220.out) hb); replace BK221 := Aside0.mk (blk_below (g := gb221) (o := .cells #[.int .i64 t215, .int .i64 t216, .int .i64 t217, .int .i64 t218] 58 (0, 0)) (by (with_reducible repeat (first | refine blk_drewN ?_ _ | refine blk_drew ?_ | refine blk_alloc ?_ _)); refine blk_put (cs := #[.int .i64 t215, .int .i64 t216, .int .i64 t217, .int .i64 0]) ?_ 3 _ rfl; (with_reducible repeat (first | refine blk_drewN ?_ _ | refine blk_drew ?_ | refine blk_alloc ?_ _)); refine blk_put (cs := #[.int .i64 t215, .int .i64 t216, .int .i64 0, .int .i64 0]) ?_ 2 _ rfl; (with_reducible repeat (first | refine blk_drewN ?_ _ | refine blk_drew ?_ | refine blk_alloc ?_ _)); refine blk_put (cs := #[.int .i64 t215, .int .i64 0, .int .i64 0, .int .i64 0]) ?_ 1 _ rfl; (with_reducible repeat (first | refine blk_drewN ?_ _ | refine blk_drew ?_ | refine blk_alloc ?_ _)); refine blk_put (cs := #[.int .i64 0, .int .i64 0, .int .i64 0, .int .i64 0]) ?_ 0 _ rfl; exact kF NB221_220 BK221) hb); replace HB := bH HB hb; (try clear hb); (try clear hb2); (try clear hk); (try clear hi); obtain ⟨hcz51_0, hcz51_1, hcz51_2, hcz51_3, hfz51_0, hfz51_1, hfz51_2, hfz51_3⟩ := bc4 BK221.out; obtain ⟨hcz52_0, hfz52_0⟩ := bc1 BK200.out) | (go_at_call 52; (with_reducible refine (impl_HeadCovers.calls k1 t215 t216 t217 t218 _ _ t206 (wrap64 (100 + x6_1)) true _ ?side1 ?side2 A22.out).mono ?_); (case side1 => repeat (first | exact (Kd.R_reads' HO208.out).2.2 | (with_reducible refine Kd.C_alloc ?_ _) | (with_reducible refine Kd.C_drewN ?_ _) | (with_reducible refine Kd.C_drew ?_))); (case side2 => exact (Kd.R_reads' HO208.out).2.1); rintro e w53 ⟨rfl, hb⟩; replace HO_5 := Aside0.mk (Kd.R_below (tR HO_5) hb); replace HO_201000 := Aside0.mk (Kd.R_below (tR HO_201000) hb); replace HO208 := Aside0.mk (Kd.R_below (tR HO208) hb); replace BK200 := bB BK200 hb; replace BK202 := bB BK202 hb; replace BK210 := bB BK210 hb; replace BK220 := bB BK220 hb; replace BK221 := bB BK221 hb; replace HB := bH HB hb; (try clear hb); (try clear hb2); (try clear hk); (try clear hi); obtain ⟨hcz54_0, hcz54_1, hcz54_2, hcz54_3, hfz54_0, hfz54_1, hfz54_2, hfz54_3⟩ := bc4 BK221.out; obtain ⟨hcz55_0, hfz55_0⟩ := bc1 BK200.out) | (go_at_call 52; (with_reducible refine (impl_HeadCovers.calls k1 t215 t216 t217 t218 _ _ t206 (wrap64 ((wrap64 (100 + x6_1)) + 1)) false _ ?side1 ?side2 A24.out).mono ?_); (case side1 => repeat (first | exact (Kd.R_reads' HO208.out).2.2 | (with_reducible refine Kd.C_alloc ?_ _) | (with_reducible refine Kd.C_drewN ?_ _) | (with_reducible refine Kd.C_drew ?_))); (case side2 => exact (Kd.R_reads' HO208.out).2.1); rintro e w56 ⟨rfl, hb⟩; replace HO_5 := Aside0.mk (Kd.R_below (tR HO_5) hb); replace HO_201000 := Aside0.mk (Kd.R_below (tR HO_201000) hb); replace HO208 := Aside0.mk (Kd.R_below (tR HO208) hb); replace BK200 := bB BK200 hb; replace BK202 := bB BK202 hb; replace BK210 := bB BK210 hb; replace BK220 := bB BK220 hb; replace BK221 := bB BK221 hb; replace HB := bH HB hb; (try clear hb); (try clear hb2); (try clear hk); (try clear hi); obtain ⟨hcz57_0, hcz57_1, hcz57_2, hfz57_0, hfz57_1, hfz57_2⟩ := bc3 BK220.out; obtain ⟨hcz58_0, hcz58_1, hcz58_2, hfz58_0, hfz58_1, hfz58_2⟩ := bc3 BK202.out; obtain ⟨hcz59_0, hcz59_1, hcz59_2, hcz59_3, hfz59_0, hfz59_1, hfz59_2, hfz59_3⟩ := bc4 BK221.out) | ((with_reducible refine gate_builtin (b := .append) (xs := #[.tmp 83, .tmp 85]) rfl ?_); (try (refine gate_guard (by rfl) ?_; dsimp only)); at_builtin; refine Kd.R_append k58 (w0 := w) w.heap.size rfl (.tmp 83) (.tmp 85) 86 58 (.agg #[(.int .i64 0), (.int .i64 0), (.int .i64 0), (.int .i64 0)]) 32 rfl Try.underlying86 info58 rfl (by decide) (by omega) u5 x5_1 (⟨t215, t216, t217, t218⟩ : S58) [.int .i64 t215, .int .i64 t216, .int .i64 t217, .int .i64 t218] (fun k_ => k_ ≠ gb221) (fun _ => False) rfl (by first | (go_simp; done) | (go_simp; rfl)) ?aP (fun _ hk => hk.elim) ?aF ?aO ?aB ?aS ?aL ?_; (case aP => exact k58_mkM _ _ _ (⟨t215, t216, t217, t218⟩ : S58)); (case aB => exact tB); (case aF => exact (fun k_ hk => Kd.freshB (g := gb221) (o := .cells #[.int .i64 t215, .int .i64 t216, .int .i64 t217, .int .i64 t218] 58 (0, 0)) (kF NB221_202 BK221) k_ hk)); (case aO => exact (by (with_reducible repeat (first | apply Kd.R_alloc | apply Kd.R_drewN | apply Kd.R_drew)); exact Kd.R_mono (Kd.R_far (p := ⟨gb202, 2, none⟩) (Kd.R_far (p := ⟨gb202, 1, none⟩) (Kd.R_far (p := ⟨gb202, 0, none⟩) (Kd.R_types HO_5.out BK202.out (by decide)) (fun _ hk => hk.2) (.int .i64 t212)) (fun _ hk => hk.2) (.int .i64 t213)) (fun _ hk => hk.2) (.int .i64 t214)) (fun _ hk => hk.1.2))); (case aS => exact (below_size tB)); (case aL => have := LMc26.out; omega); intro v226 w60 ho hb hg hat; rw [← Ny225.out] at ho; replace HO_201000 := Aside0.mk (Kd.R_over' (by (with_reducible repeat (first | apply Kd.R_alloc | apply Kd.R_drewN | apply Kd.R_drew)); exact (Kd.R_mono (Kd.R_far (p := ⟨gb202, 2, none⟩) (Kd.R_far (p := ⟨gb202, 1, none⟩) (Kd.R_far (p := ⟨gb202, 0, none⟩) (Kd.R_types HO_201000.out BK202.out (by decide)) (fun _ hk => hk.2) (.int .i64 t212)) (fun _ hk => hk.2) (.int .i64 t213)) (fun _ hk => hk.2) (.int .i64 t214)) (fun _ h_ => h_.1))) (Kd.R_typed (by (with_reducible repeat (first | apply Kd.R_alloc | apply Kd.R_drewN | apply Kd.R_drew)); exact (Kd.R_mono (Kd.R_far (p := ⟨gb202, 2, none⟩) (Kd.R_far (p := ⟨gb202, 1, none⟩) (Kd.R_far (p := ⟨gb202, 0, none⟩) (Kd.R_types HO_5.out BK202.out (by decide)) (fun _ hk => hk.2) (.int .i64 t212)) (fun _ hk => hk.2) (.int .i64 t213)) (fun _ hk => hk.2) (.int .i64 t214)) (fun _ h_ => h_.1)))) (by decide) hg); replace BK200 := Aside0.mk (blk_grown (g := gb200) (o := .cells #[.slice Ao32 t206.length co32] 45 (0, 0)) (kF NB200_202 BK200) hg (Kd.R_ne HO_5.out BK200.out (by decide))); replace HO208 := Aside0.mk (Kd.R_over' (by (with_reducible repeat (first | apply Kd.R_alloc | apply Kd.R_drewN | apply Kd.R_drew)); exact (Kd.R_mono (Kd.R_far (p := ⟨gb202, 2, none⟩) (Kd.R_far (p := ⟨gb202, 1, none⟩) (Kd.R_far (p := ⟨gb202, 0, none⟩) (Kd.R_types HO208.out BK202.out (by decide)) (fun _ hk => hk.2) (.int .i64 t212)) (fun _ hk => hk.2) (.int .i64 t213)) (fun _ hk => hk.2) (.int .i64 t214)) (fun _ h_ => h_.1))) (Kd.R_typed (by (with_reducible repeat (first | apply Kd.R_alloc | apply Kd.R_drewN | apply Kd.R_drew)); exact (Kd.R_mono (Kd.R_far (p := ⟨gb202, 2, none⟩) (Kd.R_far (p := ⟨gb202, 1, none⟩) (Kd.R_far (p := ⟨gb202, 0, none⟩) (Kd.R_types HO_5.out BK202.out (by decide)) (fun _ hk => hk.2) (.int .i64 t212)) (fun _ hk => hk.2) (.int .i64 t213)) (fun _ hk => hk.2) (.int .i64 t214)) (fun _ h_ => h_.1)))) (by decide) hg); replace BK202 := Aside0.mk (blk_grown (g := gb202) (o := .cells #[.int .i64 t212, .int .i64 t213, .int .i64 t214] 56 (0, 0)) (by (with_reducible repeat (first | refine blk_drewN ?_ _ | refine blk_drew ?_ | refine blk_alloc ?_ _)); refine blk_put (cs := #[.int .i64 t212, .int .i64 t213, .int .i64 x203002_1]) ?_ 2 _ rfl; (with_reducible repeat (first | refine blk_drewN ?_ _ | refine blk_drew ?_ | refine blk_alloc ?_ _)); refine blk_put (cs := #[.int .i64 t212, .int .i64 x203001_1, .int .i64 x203002_1]) ?_ 1 _ rfl; (with_reducible repeat (first | refine blk_drewN ?_ _ | refine blk_drew ?_ | refine blk_alloc ?_ _)); refine blk_put (cs := #[.int .i64 x203000_1, .int .i64 x203001_1, .int .i64 x203002_1]) ?_ 0 _ rfl; (with_reducible repeat (first | refine blk_drewN ?_ _ | refine blk_drew ?_ | refine blk_alloc ?_ _)); exact BK202.out) hg (Kd.R_ne HO_5.out BK202.out (by decide))); replace BK210 := Aside0.mk (blk_grown (g := gb210) (o := .cells #[.slice Ao32 t206.length co32] 45 (0, 0)) (kF NB210_202 BK210) hg (Kd.R_ne HO_5.out BK210.out (by decide))); replace BK220 := Aside0.mk (blk_grown (g := gb220) (o := .cells #[.int .i64 t212, .int .i64 t213, .int .i64 t214] 56 (0, 0)) (kF NB220_202 BK220) hg (Kd.R_ne HO_5.out BK220.out (by decide))); replace BK221 := Aside0.mk (blk_grown (g := gb221) (o := .cells #[.int .i64 t215, .int .i64 t216, .int .i64 t217, .int .i64 t218] 58 (0, 0)) (kF NB221_202 BK221) hg (Kd.R_away HO_5.out (fun _ hk => hk.2))); replace HB := Aside0.mk (hb); have HO227 := Aside0.mk (ho); clear HO_5; clear ho hb hg hat))
           go_roundg k1
           case measure => have := HK1.out; omega
           case rel => exact ⟨(y225), (wrap64 (x6_1 + 1)), (t206), (t212), (t213), (t214), (.slice Ao32 t206.length co32), tS, H', ⟨tI⟩, ⟨by (with_reducible repeat (first | apply Kd.R_alloc | apply Kd.R_drewN | apply Kd.R_drew)); exact Kd.R_mono HO227.out (fun _ hk => trivial)⟩, ⟨by (with_reducible repeat (first | apply Kd.R_alloc | apply Kd.R_drewN | apply Kd.R_drew)); exact Kd.R_mono HO208.out (fun _ hk => trivial)⟩, ⟨tK BK200⟩, ⟨tK BK202⟩, ⟨tB⟩⟩
          rw [if_neg c26] at H
          exact absurd H (by simp)
         replace c23 := Bool.eq_false_iff.mpr c23
         subst c23
         have H1 : (some false) = some r := by rw [if_neg (show ¬ (false = true) by decide)] at H; exact H
         clear H
         have H := H1
         clear H1
         exact absurd ((Option.some.inj H).trans hT_) (by decide)
        rw [if_neg c21] at H
        have c21b0 : (t215 == (wrap64 (x6_1 + 1))) = false := beq_eq_false_iff_ne.mpr c21
        have c21b1 : (t215 != (wrap64 (x6_1 + 1))) = true := bne_iff_ne.mpr c21
        exact absurd ((Option.some.inj H).trans hT_) (by decide)
       replace c20 := Bool.eq_false_iff.mpr c20
       subst c20
       have H1 : (some false) = some r := by rw [if_neg (show ¬ (false = true) by decide)] at H; exact H
       clear H
       have H := H1
       clear H1
       exact absurd ((Option.some.inj H).trans hT_) (by decide)
      replace c18 := Bool.eq_false_iff.mpr c18
      subst c18
      have H1 : (some false) = some r := by rw [if_neg (show ¬ (false = true) by decide)] at H; exact H
      clear H
      have H := H1
      clear H1
      exact absurd ((Option.some.inj H).trans hT_) (by decide)
     rw [if_neg c16] at H
     have c16b0 : ((Int.tmod t211 2) == 0) = false := beq_eq_false_iff_ne.mpr c16
     have c16b1 : ((Int.tmod t211 2) != 0) = true := bne_iff_ne.mpr c16
     have H' := Aside0.mk H
     clear H
     have hnb61 := NB200_202.out
     have hnc61 := NB202_200.out
     obtain ⟨hcz62_0, hfz62_0⟩ := bc1 BK200.out
     obtain ⟨Ao63, co63, eo63⟩ := Kd.R_slice HO_201000.out
     subst eo63
     go_wp2_with (first | ((with_reducible refine gate_callee (f := 30) rfl ?_); refine goesL_ (some 33) rfl rfl Try.func30 (by kernel_rfl) rfl #[.agg #[.slice Ao63 x201000_1.length co63], .int .i64 (wrap64 (100 + x6_1))] rfl tL ?_; (with_reducible refine (impl_AppendRecord.calls k1 _ _ x201000_1 (wrap64 (100 + x6_1)) t206 true _ ?side1 ?side2 A13.out).mono ?_); (case side1 => repeat (first | exact (Kd.R_reads' HO_201000.out).2.2 | (with_reducible refine Kd.C_alloc ?_ _) | (with_reducible refine Kd.C_drewN ?_ _) | (with_reducible refine Kd.C_drew ?_))); (case side2 => exact (Kd.R_reads' HO_201000.out).2.1); rintro e w64 ⟨v207, rfl, ho0, hb⟩; refine ⟨_, rfl, ?_⟩; replace HO_5 := Aside0.mk (Kd.R_below (tR HO_5) hb); have HO208 := Aside0.mk (Kd.R_lower (Kd.R_new' ho0 (Kd.R_lt (tR HO_201000))) (below_size tB)); replace HO_201000 := Aside0.mk (Kd.R_elder' (tR HO_201000) (Kd.R_base ho0) hb); replace BK200 := bB BK200 hb; replace BK202 := bB BK202 hb; replace HB := bH HB hb; (try clear hb); (try clear hb2); (try clear hk); (try clear hi); (try clear ho0)) | ((with_reducible refine gate_dst (N := 7) rfl ?_); (try (refine gate_guard (by rfl) ?_; dsimp only)); refine box_event ?hg (N := 7) ?hd (cs := #[.slice none 0 0]) (t := 45) ?hr ?_; (case hd => rfl); (case hg => rfl); (case hr => exact tG); intro gb210 hg w65 hbox hb; replace HO_5 := Aside0.mk (Kd.R_below (tR HO_5) hb); replace HO_201000 := Aside0.mk (Kd.R_below (tR HO_201000) hb); replace HO208 := Aside0.mk (Kd.R_below (tR HO208) hb); have BK210 := Aside0.mk (hbox); have GW210 := gW HB hg; have GE210 := gW HB hg; replace HB := bH HB hb; have NB200_210 := nL BK200 hg; have NB210_200 := nR BK200 hg; replace BK200 := bB BK200 hb; have NB202_210 := nL BK202 hg; have NB210_202 := nR BK202 hg; replace BK202 := bB BK202 hb; clear hb hbox hg; obtain ⟨Ao66, co66, eo66⟩ := Kd.R_slice HO208.out; subst eo66; have hnb67 := NB210_200.out; have hnc67 := NB200_210.out; have hnb68 := NB210_202.out; have hnc68 := NB202_210.out; obtain ⟨hcz69_0, hfz69_0⟩ := bc1 BK210.out; obtain ⟨hcz70_0, hfz70_0⟩ := bc1 BK200.out) | ((with_reducible refine gate_callee (f := 35) rfl ?_); refine goesL_ (some 42) rfl rfl Try.func35 (by kernel_rfl) rfl #[.slice A0 l0.length c0, .int .i64 (wrap64 (x6_1 + 1))] rfl tL ?_; (with_reducible refine (laws_at.calls _ _ l0 (wrap64 (x6_1 + 1)) t211 _ ?side1 ?side2 A15.out).mono ?_); (case side1 => exact Kd.C_below HR0.out tB); (case side2 => exact HC0.out); rintro e w' ⟨rfl, ⟨nd, rfl⟩⟩; refine ⟨_, rfl, ?_⟩))
     go_roundg k1
     case measure => have := HK1.out; omega
     case rel => exact ⟨(x5_1), (wrap64 (x6_1 + 1)), (t206), (x203000_1), (x203001_1), (x203002_1), (.slice Ao66 t206.length co66), tS, H', ⟨tI⟩, ⟨by (with_reducible repeat (first | apply Kd.R_alloc | apply Kd.R_drewN | apply Kd.R_drew)); exact Kd.R_mono (Kd.R_far (p := ⟨gb200, 0, none⟩) (Kd.R_far (p := ⟨gb210, 0, none⟩) (Kd.R_types (Kd.R_types HO_5.out BK210.out (by decide)) BK200.out (by decide)) (fun _ hk => hk.1.2) (.slice Ao66 t206.length co66)) (fun _ hk => hk.2) (.slice Ao66 t206.length co66)) (fun _ hk => trivial)⟩, ⟨by (with_reducible repeat (first | apply Kd.R_alloc | apply Kd.R_drewN | apply Kd.R_drew)); exact Kd.R_mono (Kd.R_far (p := ⟨gb200, 0, none⟩) (Kd.R_far (p := ⟨gb210, 0, none⟩) (Kd.R_types (Kd.R_types HO208.out BK210.out (by decide)) BK200.out (by decide)) (fun _ hk => hk.1.2) (.slice Ao66 t206.length co66)) (fun _ hk => hk.2) (.slice Ao66 t206.length co66)) (fun _ hk => trivial)⟩, ⟨by (with_reducible repeat (first | refine blk_drewN ?_ _ | refine blk_drew ?_ | refine blk_alloc ?_ _)); refine blk_put (cs := #[.slice Ao63 x201000_1.length co63]) ?_ 0 _ rfl; exact kF NB200_210 BK200⟩, ⟨by (with_reducible repeat (first | refine blk_drewN ?_ _ | refine blk_drew ?_ | refine blk_alloc ?_ _)); refine blk_far ?_ NB202_200.out _; (with_reducible repeat (first | refine blk_drewN ?_ _ | refine blk_drew ?_ | refine blk_alloc ?_ _)); refine blk_far ?_ NB202_210.out _; (with_reducible repeat (first | refine blk_drewN ?_ _ | refine blk_drew ?_ | refine blk_alloc ?_ _)); exact BK202.out⟩, ⟨tB⟩⟩
    replace c14 := Bool.eq_false_iff.mpr c14
    subst c14
    have H1 : (some false) = some r := by rw [if_neg (show ¬ (false = true) by decide)] at H; exact H
    clear H
    have H := H1
    clear H1
    exact absurd ((Option.some.inj H).trans hT_) (by decide)
   rw [if_neg c12] at H
   have c12b0 : decide (x6_1 < 6) = false := decide_eq_false c12
   clear c12
   have H' := Aside0.mk H
   clear H
   go_wp2
   go_loopg [12] k1 (fun kq v12 w' => ∃ (x12_2 : Int), v12 = .int .i64 x12_2 ∧ Aside0 (laws_FnPublicLogs.l1 kq x5_1 x12_2 x201000_1 x203000_1 x203001_1 x203002_1 = some r) ∧ Aside0 (kq ≤ k1) ∧ Aside0 (Kd.R k58 58 w' w.heap.size (fun _ => True) u5 x5_1) ∧ Aside0 (Kd.R (Kd.int .i64) 3 w' w.heap.size (fun _ => True) u201000 x201000_1) ∧ Aside0 (w'.heap[gb200]? = some (.cells #[u201000] 45 (0, 0))) ∧ Aside0 (w'.heap[gb202]? = some (.cells #[.int .i64 x203000_1, .int .i64 x203001_1, .int .i64 x203002_1] 56 (0, 0))) ∧ Aside0 (Below w.heap.size w w'))
   case atStart => exact ⟨(0), tS, H', ⟨Nat.le_refl _⟩, ⟨tR HO_5⟩, ⟨tR HO_201000⟩, ⟨tK BK200⟩, ⟨tK BK202⟩, ⟨tB⟩⟩
   case round =>
    clear H'
    try clear c1
    try clear c2
    try clear p2
    try clear c3
    try clear c4
    try clear c6
    try clear p6
    try clear c8
    try clear c12
    try clear c12b0
    try clear c14
    try clear c16
    try clear c16b0
    try clear c16b1
    try clear c18
    try clear c20
    try clear c21
    try clear c21b0
    try clear c21b1
    try clear c23
    try clear c25
    try clear c26
    try clear c27
    try clear c30
    try clear c33
    try clear c34
    try clear c35
    try clear c36
    try clear c41
    try clear c42
    try clear c43
    try clear c44
    try clear c46
    try clear c47
    try clear c48
    try clear c61
    try clear p64
    try clear c67
    try clear c68
    try clear hcz28_0
    try clear hcz35_0
    try clear hcz36_0
    try clear hcz37_0
    try clear hcz37_1
    try clear hcz37_2
    try clear hcz45_0
    try clear hcz45_1
    try clear hcz45_2
    try clear hcz49_0
    try clear hcz49_1
    try clear hcz49_2
    try clear hcz49_3
    try clear hcz51_0
    try clear hcz51_1
    try clear hcz51_2
    try clear hcz51_3
    try clear hcz52_0
    try clear hcz54_0
    try clear hcz54_1
    try clear hcz54_2
    try clear hcz54_3
    try clear hcz55_0
    try clear hcz57_0
    try clear hcz57_1
    try clear hcz57_2
    try clear hcz58_0
    try clear hcz58_1
    try clear hcz58_2
    try clear hcz59_0
    try clear hcz59_1
    try clear hcz59_2
    try clear hcz59_3
    try clear hcz62_0
    try clear hcz69_0
    try clear hcz6_0
    try clear hcz70_0
    try clear hcz9_0
    try clear hcz9_1
    try clear hcz9_2
    try clear hfz28_0
    try clear hfz35_0
    try clear hfz36_0
    try clear hfz37_0
    try clear hfz37_1
    try clear hfz37_2
    try clear hfz45_0
    try clear hfz45_1
    try clear hfz45_2
    try clear hfz49_0
    try clear hfz49_1
    try clear hfz49_2
    try clear hfz49_3
    try clear hfz51_0
    try clear hfz51_1
    try clear hfz51_2
    try clear hfz51_3
    try clear hfz52_0
    try clear hfz54_0
    try clear hfz54_1
    try clear hfz54_2
    try clear hfz54_3
    try clear hfz55_0
    try clear hfz57_0
    try clear hfz57_1
    try clear hfz57_2
    try clear hfz58_0
    try clear hfz58_1
    try clear hfz58_2
    try clear hfz59_0
    try clear hfz59_1
    try clear hfz59_2
    try clear hfz59_3
    try clear hfz62_0
    try clear hfz69_0
    try clear hfz6_0
    try clear hfz70_0
    try clear hfz9_0
    try clear hfz9_1
    try clear hfz9_2
    try clear p2
    try clear p6
    obtain ⟨x12_2, rfl, HA, HK2, HO_5, HO_201000, BK200, BK202, HB⟩ := hrel
    cases gk with
    | zero => exact absurd HA.out (by simp [laws_FnPublicLogs.l1])
    | succ k2 =>
     have H := HA.out
     clear HA
     simp only [laws_FnPublicLogs.l1] at H
     by_cases c71 : x12_2 < (x5_1.length : Int)
     ·rw [if_pos c71] at H
      have c71b0 : decide (x12_2 < (x5_1.length : Int)) = true := decide_eq_true c71
      clear c71
      by_cases c72 : 0 < (x5_1.length : Int)
      ·rw [if_pos c72] at H
       have c72b0 : decide (0 < (x5_1.length : Int)) = true := decide_eq_true c72
       have c72b1 : decide (0 < x5_1.length) = true := decide_eq_true (by omega)
       clear c72
       by_cases c73 : 0 ≤ x12_2
       ·rw [if_pos c73] at H
        have c73b0 : decide (0 ≤ x12_2) = true := decide_eq_true c73
        clear c73
        replace H := Option.bind_eq_some_iff.mp H
        obtain ⟨t230, A740, H⟩ := H
        try dsimp only at H
        have A74 := Aside0.mk A740
        clear A740
        by_cases c75 : t230 = true
        ·subst c75
         have H1 : ((impl_IsSplit.f k2 ((rd_T58 x5_1 0).f0) ((rd_T58 x5_1 0).f1) ((rd_T58 x5_1 0).f2) ((rd_T58 x5_1 0).f3) ((rd_T58 x5_1 x12_2).f0) ((rd_T58 x5_1 x12_2).f1) ((rd_T58 x5_1 x12_2).f2) ((rd_T58 x5_1 x12_2).f3)).bind fun t233 => (if t233 = true then (some false) else ((impl_RootOf.f k2 x201000_1 ((rd_T58 x5_1 x12_2).f0)).bind fun t235 => (if t235 = ((rd_T58 x5_1 x12_2).f1) then (laws_FnPublicLogs.l1 k2 x5_1 (wrap64 (x12_2 + 1)) x201000_1 x203000_1 x203001_1 x203002_1) else (some false))))) = some r := by rw [if_pos rfl] at H; exact H
         clear H
         have H := H1
         clear H1
         replace H := Option.bind_eq_some_iff.mp H
         obtain ⟨t233, A760, H⟩ := H
         try dsimp only at H
         have A76 := Aside0.mk A760
         clear A760
         by_cases c77 : t233 = true
         ·subst c77
          have H1 : (some false) = some r := by rw [if_pos rfl] at H; exact H
          clear H
          have H := H1
          clear H1
          exact absurd ((Option.some.inj H).trans hT_) (by decide)
         replace c77 := Bool.eq_false_iff.mpr c77
         subst c77
         have H1 : ((impl_RootOf.f k2 x201000_1 ((rd_T58 x5_1 x12_2).f0)).bind fun t235 => (if t235 = ((rd_T58 x5_1 x12_2).f1) then (laws_FnPublicLogs.l1 k2 x5_1 (wrap64 (x12_2 + 1)) x201000_1 x203000_1 x203001_1 x203002_1) else (some false))) = some r := by rw [if_neg (show ¬ (false = true) by decide)] at H; exact H
         clear H
         have H := H1
         clear H1
         replace H := Option.bind_eq_some_iff.mp H
         obtain ⟨t235, A780, H⟩ := H
         try dsimp only at H
         have A78 := Aside0.mk A780
         clear A780
         by_cases c79 : t235 = ((rd_T58 x5_1 x12_2).f1)
         ·rw [if_pos c79] at H
          have c79b0 : (t235 == ((rd_T58 x5_1 x12_2).f1)) = true := beq_iff_eq.mpr c79
          have c79b1 : (t235 != ((rd_T58 x5_1 x12_2).f1)) = false := bne_eq_false_iff_eq.mpr c79
          clear c79
          have H' := Aside0.mk H
          clear H
          obtain ⟨Ao80, co80, eo80⟩ := Kd.R_slice HO_5.out
          subst eo80
          try go_wp2
          replace HO_5 := Aside0.mk (Kd.R_drew HO_5.out)
          replace HO_201000 := Aside0.mk (Kd.R_drew HO_201000.out)
          replace BK200 := Aside0.mk (blk_drew BK200.out)
          replace BK202 := Aside0.mk (blk_drew BK202.out)
          replace HB := Aside0.mk (below_drew1 HB.out)
          have p228 : 0 ≤ (0 : Int) := (by omega)
          have q228 : 0 < (x5_1.length : Int) := of_decide_eq_true tA
          obtain ⟨ad228, e228, hx228_0, hx228_1, hx228_2, hx228_3⟩ := at_T58 (Kd.R_reads' HO_5.out).2.2 0 p228 q228
          cases e228
          have qi228 : (0 < x5_1.length) = True := eq_true (by omega)
          (try rw [show ((0 : Int)).toNat = 0 from rfl] at hx228_0)
          (try rw [show 0 * 4 = 0 from rfl] at hx228_0)
          (try rw [Addr.add_zero'] at hx228_0)
          (try rw [show ((0 : Int)).toNat = 0 from rfl] at hx228_1)
          (try rw [show 0 * 4 = 0 from rfl] at hx228_1)
          (try rw [Addr.add_zero'] at hx228_1)
          (try rw [show ((0 : Int)).toNat = 0 from rfl] at hx228_2)
          (try rw [show 0 * 4 = 0 from rfl] at hx228_2)
          (try rw [Addr.add_zero'] at hx228_2)
          (try rw [show ((0 : Int)).toNat = 0 from rfl] at hx228_3)
          (try rw [show 0 * 4 = 0 from rfl] at hx228_3)
          (try rw [Addr.add_zero'] at hx228_3)
          replace p228 := eq_true p228
          replace q228 := eq_true q228
          have p229 : 0 ≤ (x12_2 : Int) := of_decide_eq_true tA
          have q229 : x12_2 < (x5_1.length : Int) := of_decide_eq_true tA
          obtain ⟨ad229, e229, hx229_0, hx229_1, hx229_2, hx229_3⟩ := at_T58 (Kd.R_reads' HO_5.out).2.2 x12_2 p229 q229
          obtain rfl : ad228 = ad229 := (by injection e229)
          replace p229 := eq_true p229
          replace q229 := eq_true q229
          obtain ⟨Ao82, co82, eo82⟩ := Kd.R_slice HO_201000.out
          (first | subst eo82 | (injection eo82 with f1_ f2_ f3_; have f4_ := f1_.symm; have f5_ := f3_.symm; clear f1_ f2_ f3_; subst f4_; subst f5_))
          have p231 : 0 ≤ (0 : Int) := (by omega)
          have q231 : 0 < (x5_1.length : Int) := of_decide_eq_true tA
          obtain ⟨ad231, e231, hx231_0, hx231_1, hx231_2, hx231_3⟩ := at_T58 (Kd.R_reads' HO_5.out).2.2 0 p231 q231
          obtain rfl : ad228 = ad231 := (by injection e231)
          have qi231 : (0 < x5_1.length) = True := eq_true (by omega)
          (try rw [show ((0 : Int)).toNat = 0 from rfl] at hx231_0)
          (try rw [show 0 * 4 = 0 from rfl] at hx231_0)
          (try rw [Addr.add_zero'] at hx231_0)
          (try rw [show ((0 : Int)).toNat = 0 from rfl] at hx231_1)
          (try rw [show 0 * 4 = 0 from rfl] at hx231_1)
          (try rw [Addr.add_zero'] at hx231_1)
          (try rw [show ((0 : Int)).toNat = 0 from rfl] at hx231_2)
          (try rw [show 0 * 4 = 0 from rfl] at hx231_2)
          (try rw [Addr.add_zero'] at hx231_2)
          (try rw [show ((0 : Int)).toNat = 0 from rfl] at hx231_3)
          (try rw [show 0 * 4 = 0 from rfl] at hx231_3)
          (try rw [Addr.add_zero'] at hx231_3)
          replace p231 := eq_true p231
          replace q231 := eq_true q231
          have p232 : 0 ≤ (x12_2 : Int) := of_decide_eq_true tA
          have q232 : x12_2 < (x5_1.length : Int) := of_decide_eq_true tA
          obtain ⟨ad232, e232, hx232_0, hx232_1, hx232_2, hx232_3⟩ := at_T58 (Kd.R_reads' HO_5.out).2.2 x12_2 p232 q232
          obtain rfl : ad228 = ad232 := (by injection e232)
          replace p232 := eq_true p232
          replace q232 := eq_true q232
          have p234 : 0 ≤ (x12_2 : Int) := of_decide_eq_true tA
          have q234 : x12_2 < (x5_1.length : Int) := of_decide_eq_true tA
          obtain ⟨ad234, e234, hx234_0, hx234_1, hx234_2, hx234_3⟩ := at_T58 (Kd.R_reads' HO_5.out).2.2 x12_2 p234 q234
          obtain rfl : ad228 = ad234 := (by injection e234)
          replace p234 := eq_true p234
          replace q234 := eq_true q234
          have p236 : 0 ≤ (x12_2 : Int) := of_decide_eq_true tA
          have q236 : x12_2 < (x5_1.length : Int) := of_decide_eq_true tA
          obtain ⟨ad236, e236, hx236_0, hx236_1, hx236_2, hx236_3⟩ := at_T58 (Kd.R_reads' HO_5.out).2.2 x12_2 p236 q236
          obtain rfl : ad228 = ad236 := (by injection e236)
          replace p236 := eq_true p236
          replace q236 := eq_true q236
          refine start_ (n := 36) (S := fun w' => w'.cell? ⟨gb200, 0, none⟩ = some (.slice Ao82 x201000_1.length co82) ∧ w'.cell? ad228 = some (.int .i64 ((rd_T58 x5_1 0).f0)) ∧ w'.cell? ⟨ad228.block, ad228.off + 1, none⟩ = some (.int .i64 ((rd_T58 x5_1 0).f1)) ∧ w'.cell? ⟨ad228.block, ad228.off + 2, none⟩ = some (.int .i64 ((rd_T58 x5_1 0).f2)) ∧ w'.cell? ⟨ad228.block, ad228.off + 3, none⟩ = some (.int .i64 ((rd_T58 x5_1 0).f3)) ∧ w'.cell? (ad228.add ((x12_2).toNat * 4)) = some (.int .i64 ((rd_T58 x5_1 x12_2).f0)) ∧ w'.cell? ⟨(ad228.add ((x12_2).toNat * 4)).block, (ad228.add ((x12_2).toNat * 4)).off + 1, none⟩ = some (.int .i64 ((rd_T58 x5_1 x12_2).f1)) ∧ w'.cell? ⟨(ad228.add ((x12_2).toNat * 4)).block, (ad228.add ((x12_2).toNat * 4)).off + 2, none⟩ = some (.int .i64 ((rd_T58 x5_1 x12_2).f2)) ∧ w'.cell? ⟨(ad228.add ((x12_2).toNat * 4)).block, (ad228.add ((x12_2).toNat * 4)).off + 3, none⟩ = some (.int .i64 ((rd_T58 x5_1 x12_2).f3)) ∧ w'.cell? ad228 = some (.int .i64 ((rd_T58 x5_1 0).f0)) ∧ w'.cell? ⟨ad228.block, ad228.off + 1, none⟩ = some (.int .i64 ((rd_T58 x5_1 0).f1)) ∧ w'.cell? ⟨ad228.block, ad228.off + 2, none⟩ = some (.int .i64 ((rd_T58 x5_1 0).f2)) ∧ w'.cell? ⟨ad228.block, ad228.off + 3, none⟩ = some (.int .i64 ((rd_T58 x5_1 0).f3)) ∧ w'.cell? (ad228.add ((x12_2).toNat * 4)) = some (.int .i64 ((rd_T58 x5_1 x12_2).f0)) ∧ w'.cell? ⟨(ad228.add ((x12_2).toNat * 4)).block, (ad228.add ((x12_2).toNat * 4)).off + 1, none⟩ = some (.int .i64 ((rd_T58 x5_1 x12_2).f1)) ∧ w'.cell? ⟨(ad228.add ((x12_2).toNat * 4)).block, (ad228.add ((x12_2).toNat * 4)).off + 2, none⟩ = some (.int .i64 ((rd_T58 x5_1 x12_2).f2)) ∧ w'.cell? ⟨(ad228.add ((x12_2).toNat * 4)).block, (ad228.add ((x12_2).toNat * 4)).off + 3, none⟩ = some (.int .i64 ((rd_T58 x5_1 x12_2).f3)) ∧ w'.cell? (ad228.add ((x12_2).toNat * 4)) = some (.int .i64 ((rd_T58 x5_1 x12_2).f0)) ∧ w'.cell? ⟨(ad228.add ((x12_2).toNat * 4)).block, (ad228.add ((x12_2).toNat * 4)).off + 1, none⟩ = some (.int .i64 ((rd_T58 x5_1 x12_2).f1)) ∧ w'.cell? ⟨(ad228.add ((x12_2).toNat * 4)).block, (ad228.add ((x12_2).toNat * 4)).off + 2, none⟩ = some (.int .i64 ((rd_T58 x5_1 x12_2).f2)) ∧ w'.cell? ⟨(ad228.add ((x12_2).toNat * 4)).block, (ad228.add ((x12_2).toNat * 4)).off + 3, none⟩ = some (.int .i64 ((rd_T58 x5_1 x12_2).f3)) ∧ w'.cell? (ad228.add ((x12_2).toNat * 4)) = some (.int .i64 ((rd_T58 x5_1 x12_2).f0)) ∧ w'.cell? ⟨(ad228.add ((x12_2).toNat * 4)).block, (ad228.add ((x12_2).toNat * 4)).off + 1, none⟩ = some (.int .i64 ((rd_T58 x5_1 x12_2).f1)) ∧ w'.cell? ⟨(ad228.add ((x12_2).toNat * 4)).block, (ad228.add ((x12_2).toNat * 4)).off + 2, none⟩ = some (.int .i64 ((rd_T58 x5_1 x12_2).f2)) ∧ w'.cell? ⟨(ad228.add ((x12_2).toNat * 4)).block, (ad228.add ((x12_2).toNat * 4)).off + 3, none⟩ = some (.int .i64 ((rd_T58 x5_1 x12_2).f3))) (ds := []) #[N_,N_,N_,N_,N_,N_,N_,N_,N_,N_,N_,N_,N_,N_,N_,N_,N_,N_,N_,N_,N_,N_,N_,N_,N_,N_,N_,N_,N_,N_,N_,N_,N_,N_,N_,N_] (by kernel_rfl) rfl rfl ⟨(blk_cell BK200.out 0).trans rfl, hx228_0, hx228_1, hx228_2, hx228_3, hx229_0, hx229_1, hx229_2, hx229_3, hx231_0, hx231_1, hx231_2, hx231_3, hx232_0, hx232_1, hx232_2, hx232_3, hx234_0, hx234_1, hx234_2, hx234_3, hx236_0, hx236_1, hx236_2, hx236_3⟩ (fun hHeld => ?_); refine with_tabW laws_FnPublicLogs.tab22 laws_FnPublicLogs.bits22 (fun HT_ HW_ => ?_)
          generalize wr.drew = w81 at HO_5 HO_201000 BK200 BK202 HB hx228_0 hx228_1 hx228_2 hx228_3 hx229_0 hx229_1 hx229_2 hx229_3 hx231_0 hx231_1 hx231_2 hx231_3 hx232_0 hx232_1 hx232_2 hx232_3 hx234_0 hx234_1 hx234_2 hx234_3 hx236_0 hx236_1 hx236_2 hx236_3 hHeld ⊢
          refine pure_ (i := 0) (N := some 93) #[Y_,N_,N_,N_,N_,N_,N_,N_,N_,N_,N_,N_,N_,N_,N_,N_,N_,N_,N_,N_,N_,N_,N_,N_,N_,N_,N_,N_,N_,N_,N_,N_,N_,N_,N_,N_] rfl rfl (any_of HT_.out (by kernel_rfl)) (fun _ _ _ h => h) (Or.inl ⟨by rfl, tX⟩) tV ?_
          refine pure_ (i := 1) (N := some 94) #[Y_,Y_,N_,N_,N_,N_,N_,N_,N_,N_,N_,N_,N_,N_,N_,N_,N_,N_,N_,N_,N_,N_,N_,N_,N_,N_,N_,N_,N_,N_,N_,N_,N_,N_,N_,N_] rfl rfl (any_of HT_.out (by kernel_rfl)) (fun _ _ _ h => h) (Or.inl ⟨by rfl, tX⟩) tV ?_
          refine pure_ (i := 3) (N := some 96) #[Y_,Y_,N_,Y_,N_,N_,N_,N_,N_,N_,N_,N_,N_,N_,N_,N_,N_,N_,N_,N_,N_,N_,N_,N_,N_,N_,N_,N_,N_,N_,N_,N_,N_,N_,N_,N_] rfl rfl (any_of HT_.out (by kernel_rfl)) (fun _ _ _ h => h) (Or.inl ⟨by rfl, tX⟩) tV ?_
          refine pure_ (i := 4) (N := some 97) #[Y_,Y_,N_,Y_,Y_,N_,N_,N_,N_,N_,N_,N_,N_,N_,N_,N_,N_,N_,N_,N_,N_,N_,N_,N_,N_,N_,N_,N_,N_,N_,N_,N_,N_,N_,N_,N_] rfl rfl (any_of HT_.out (by kernel_rfl)) (fun _ _ _ h => h) (Or.inl ⟨by rfl, tX⟩) tV ?_
          refine pure_ (i := 5) (N := some 98) #[Y_,Y_,N_,Y_,Y_,Y_,N_,N_,N_,N_,N_,N_,N_,N_,N_,N_,N_,N_,N_,N_,N_,N_,N_,N_,N_,N_,N_,N_,N_,N_,N_,N_,N_,N_,N_,N_] rfl rfl (any_of HT_.out (by kernel_rfl)) (fun _ _ _ h => h) (Or.inl ⟨by rfl, tX⟩) tV ?_
          refine take_ (i := 2) (N := some 95) (v := ?_) (a' := ?_) #[Y_,Y_,Y_,Y_,Y_,Y_,N_,N_,N_,N_,N_,N_,N_,N_,N_,N_,N_,N_,N_,N_,N_,N_,N_,N_,N_,N_,N_,N_,N_,N_,N_,N_,N_,N_,N_,N_] rfl rfl (take_ofW HT_.out HW_.out (by kernel_rfl)) (fun _ _ _ h => h) (Or.inl ⟨by rfl, ?_⟩) hHeld ?_ ?_
          rotate_left
          ·rintro w' ⟨s0, s1, s2, s3, s4, s5, s6, s7, s8, s9, s10, s11, s12, s13, s14, s15, s16, s17, s18, s19, s20, s21, s22, s23, s24⟩
           go_simp
           with_reducible rfl
          rotate_left
          ·simp only [Act.put, List.setIfInBounds_toArray, List.set_cons_zero, List.set_cons_succ, i64_w, i32_w]
           rfl
          refine take_ (i := 6) (N := some 99) (v := ?_) (a' := ?_) #[Y_,Y_,Y_,Y_,Y_,Y_,Y_,N_,N_,N_,N_,N_,N_,N_,N_,N_,N_,N_,N_,N_,N_,N_,N_,N_,N_,N_,N_,N_,N_,N_,N_,N_,N_,N_,N_,N_] rfl rfl (take_ofW HT_.out HW_.out (by kernel_rfl)) (fun _ _ _ h => h) (Or.inl ⟨by rfl, ?_⟩) hHeld ?_ ?_
          rotate_left
          ·rintro w' ⟨s0, s1, s2, s3, s4, s5, s6, s7, s8, s9, s10, s11, s12, s13, s14, s15, s16, s17, s18, s19, s20, s21, s22, s23, s24⟩
           go_simp
           with_reducible rfl
          rotate_left
          ·simp only [Act.put, List.setIfInBounds_toArray, List.set_cons_zero, List.set_cons_succ, i64_w, i32_w]
           rfl
          refine take_ (i := 7) (N := some 100) (v := ?_) (a' := ?_) #[Y_,Y_,Y_,Y_,Y_,Y_,Y_,Y_,N_,N_,N_,N_,N_,N_,N_,N_,N_,N_,N_,N_,N_,N_,N_,N_,N_,N_,N_,N_,N_,N_,N_,N_,N_,N_,N_,N_] rfl rfl (take_ofW HT_.out HW_.out (by kernel_rfl)) (fun _ _ _ h => h) (Or.inl ⟨by rfl, ?_⟩) hHeld ?_ ?_
          rotate_left
          ·rintro w' ⟨s0, s1, s2, s3, s4, s5, s6, s7, s8, s9, s10, s11, s12, s13, s14, s15, s16, s17, s18, s19, s20, s21, s22, s23, s24⟩
           go_simp
           with_reducible rfl
          rotate_left
          ·simp only [Act.put, List.setIfInBounds_toArray, List.set_cons_zero, List.set_cons_succ, i64_w, i32_w]
           rfl
          refine one_ (i := 8) (N := some 101) #[Y_,Y_,Y_,Y_,Y_,Y_,Y_,Y_,Y_,N_,N_,N_,N_,N_,N_,N_,N_,N_,N_,N_,N_,N_,N_,N_,N_,N_,N_,N_,N_,N_,N_,N_,N_,N_,N_,N_] rfl rfl (one_of HT_.out (by kernel_rfl)) (by decide) (fun K hK => ?_)
          refine goes_ Try.func39 (by kernel_rfl) rfl #[.agg #[.int .i64 ((rd_T58 x5_1 0).f0), .int .i64 ((rd_T58 x5_1 0).f1), .int .i64 ((rd_T58 x5_1 0).f2), .int .i64 ((rd_T58 x5_1 0).f3)], .agg #[.int .i64 ((rd_T58 x5_1 x12_2).f0), .int .i64 ((rd_T58 x5_1 x12_2).f1), .int .i64 ((rd_T58 x5_1 x12_2).f2), .int .i64 ((rd_T58 x5_1 x12_2).f3)], .agg #[.slice Ao82 x201000_1.length co82]] (by rfl) rfl rfl tL ?_
          with_reducible refine (impl_AreConsistent.calls k2 ((rd_T58 x5_1 0).f0) ((rd_T58 x5_1 0).f1) ((rd_T58 x5_1 0).f2) ((rd_T58 x5_1 0).f3) ((rd_T58 x5_1 x12_2).f0) ((rd_T58 x5_1 x12_2).f1) ((rd_T58 x5_1 x12_2).f2) ((rd_T58 x5_1 x12_2).f3) _ _ x201000_1 true _ ?side1 ?side2 A74.out).mono ?_
          (case side1 => repeat (first | exact (Kd.R_reads' HO_201000.out).2.2 | (with_reducible refine Kd.C_alloc ?_ _) | (with_reducible refine Kd.C_drewN ?_ _) | (with_reducible refine Kd.C_drew ?_)))
          (case side2 => exact (Kd.R_reads' HO_201000.out).2.1)
          rintro e w83 ⟨rfl, hb⟩
          have HS1_ := (hb.cell (World.block_lt_of_cell? _ _ (hHeld.2.1))).trans (hHeld.2.1)
          have HS2_ := (hb.cell (World.block_lt_of_cell? _ _ (hHeld.2.2.1))).trans (hHeld.2.2.1)
          have HS3_ := (hb.cell (World.block_lt_of_cell? _ _ (hHeld.2.2.2.1))).trans (hHeld.2.2.2.1)
          have HS4_ := (hb.cell (World.block_lt_of_cell? _ _ (hHeld.2.2.2.2.1))).trans (hHeld.2.2.2.2.1)
          have HS5_ := (hb.cell (World.block_lt_of_cell? _ _ (hHeld.2.2.2.2.2.1))).trans (hHeld.2.2.2.2.2.1)
          have HS6_ := (hb.cell (World.block_lt_of_cell? _ _ (hHeld.2.2.2.2.2.2.1))).trans (hHeld.2.2.2.2.2.2.1)
          have HS7_ := (hb.cell (World.block_lt_of_cell? _ _ (hHeld.2.2.2.2.2.2.2.1))).trans (hHeld.2.2.2.2.2.2.2.1)
          have HS8_ := (hb.cell (World.block_lt_of_cell? _ _ (hHeld.2.2.2.2.2.2.2.2.1))).trans (hHeld.2.2.2.2.2.2.2.2.1)
          have HS9_ := (hb.cell (World.block_lt_of_cell? _ _ (hHeld.2.2.2.2.2.2.2.2.2.1))).trans (hHeld.2.2.2.2.2.2.2.2.2.1)
          have HS10_ := (hb.cell (World.block_lt_of_cell? _ _ (hHeld.2.2.2.2.2.2.2.2.2.2.1))).trans (hHeld.2.2.2.2.2.2.2.2.2.2.1)
          have HS11_ := (hb.cell (World.block_lt_of_cell? _ _ (hHeld.2.2.2.2.2.2.2.2.2.2.2.1))).trans (hHeld.2.2.2.2.2.2.2.2.2.2.2.1)
          have HS12_ := (hb.cell (World.block_lt_of_cell? _ _ (hHeld.2.2.2.2.2.2.2.2.2.2.2.2.1))).trans (hHeld.2.2.2.2.2.2.2.2.2.2.2.2.1)
          have HS13_ := (hb.cell (World.block_lt_of_cell? _ _ (hHeld.2.2.2.2.2.2.2.2.2.2.2.2.2.1))).trans (hHeld.2.2.2.2.2.2.2.2.2.2.2.2.2.1)
          have HS14_ := (hb.cell (World.block_lt_of_cell? _ _ (hHeld.2.2.2.2.2.2.2.2.2.2.2.2.2.2.1))).trans (hHeld.2.2.2.2.2.2.2.2.2.2.2.2.2.2.1)
          have HS15_ := (hb.cell (World.block_lt_of_cell? _ _ (hHeld.2.2.2.2.2.2.2.2.2.2.2.2.2.2.2.1))).trans (hHeld.2.2.2.2.2.2.2.2.2.2.2.2.2.2.2.1)
          have HS16_ := (hb.cell (World.block_lt_of_cell? _ _ (hHeld.2.2.2.2.2.2.2.2.2.2.2.2.2.2.2.2.1))).trans (hHeld.2.2.2.2.2.2.2.2.2.2.2.2.2.2.2.2.1)
          have HS17_ := (hb.cell (World.block_lt_of_cell? _ _ (hHeld.2.2.2.2.2.2.2.2.2.2.2.2.2.2.2.2.2.1))).trans (hHeld.2.2.2.2.2.2.2.2.2.2.2.2.2.2.2.2.2.1)
          have HS18_ := (hb.cell (World.block_lt_of_cell? _ _ (hHeld.2.2.2.2.2.2.2.2.2.2.2.2.2.2.2.2.2.2.1))).trans (hHeld.2.2.2.2.2.2.2.2.2.2.2.2.2.2.2.2.2.2.1)
          have HS19_ := (hb.cell (World.block_lt_of_cell? _ _ (hHeld.2.2.2.2.2.2.2.2.2.2.2.2.2.2.2.2.2.2.2.1))).trans (hHeld.2.2.2.2.2.2.2.2.2.2.2.2.2.2.2.2.2.2.2.1)
          have HS20_ := (hb.cell (World.block_lt_of_cell? _ _ (hHeld.2.2.2.2.2.2.2.2.2.2.2.2.2.2.2.2.2.2.2.2.1))).trans (hHeld.2.2.2.2.2.2.2.2.2.2.2.2.2.2.2.2.2.2.2.2.1)
          have HS21_ := (hb.cell (World.block_lt_of_cell? _ _ (hHeld.2.2.2.2.2.2.2.2.2.2.2.2.2.2.2.2.2.2.2.2.2.1))).trans (hHeld.2.2.2.2.2.2.2.2.2.2.2.2.2.2.2.2.2.2.2.2.2.1)
          have HS22_ := (hb.cell (World.block_lt_of_cell? _ _ (hHeld.2.2.2.2.2.2.2.2.2.2.2.2.2.2.2.2.2.2.2.2.2.2.1))).trans (hHeld.2.2.2.2.2.2.2.2.2.2.2.2.2.2.2.2.2.2.2.2.2.2.1)
          have HS23_ := (hb.cell (World.block_lt_of_cell? _ _ (hHeld.2.2.2.2.2.2.2.2.2.2.2.2.2.2.2.2.2.2.2.2.2.2.2.1))).trans (hHeld.2.2.2.2.2.2.2.2.2.2.2.2.2.2.2.2.2.2.2.2.2.2.2.1)
          have HS24_ := (hb.cell (World.block_lt_of_cell? _ _ (hHeld.2.2.2.2.2.2.2.2.2.2.2.2.2.2.2.2.2.2.2.2.2.2.2.2))).trans (hHeld.2.2.2.2.2.2.2.2.2.2.2.2.2.2.2.2.2.2.2.2.2.2.2.2)
          refine ⟨_, rfl, ?_⟩
          replace HO_5 := Aside0.mk (Kd.R_below (tR HO_5) hb)
          replace HO_201000 := Aside0.mk (Kd.R_below (tR HO_201000) hb)
          replace BK200 := bB BK200 hb
          replace BK202 := bB BK202 hb
          replace HB := bH HB hb
          (try clear hb)
          (try clear hb2)
          (try clear hk)
          (try clear hi)
          refine hK.out _ _ ⟨(blk_cell BK200.out 0).trans rfl, HS1_, HS2_, HS3_, HS4_, HS5_, HS6_, HS7_, HS8_, HS9_, HS10_, HS11_, HS12_, HS13_, HS14_, HS15_, HS16_, HS17_, HS18_, HS19_, HS20_, HS21_, HS22_, HS23_, HS24_⟩ (fun hHeld => ?_)
          clear hK K
          refine norm_ (tV : Act.put _ (some 101) _ = _) ?_
          refine pure_ (i := 9) (N := some 102) #[Y_,Y_,Y_,Y_,Y_,Y_,Y_,Y_,Y_,Y_,N_,N_,N_,N_,N_,N_,N_,N_,N_,N_,N_,N_,N_,N_,N_,N_,N_,N_,N_,N_,N_,N_,N_,N_,N_,N_] rfl rfl (any_of HT_.out (by kernel_rfl)) (fun _ _ _ h => h) (Or.inl ⟨by rfl, tX⟩) tV ?_
          refine pure_ (i := 10) (N := some 103) #[Y_,Y_,Y_,Y_,Y_,Y_,Y_,Y_,Y_,Y_,Y_,N_,N_,N_,N_,N_,N_,N_,N_,N_,N_,N_,N_,N_,N_,N_,N_,N_,N_,N_,N_,N_,N_,N_,N_,N_] rfl rfl (any_of HT_.out (by kernel_rfl)) (fun _ _ _ h => h) (Or.inl ⟨by rfl, tX⟩) tV ?_
          refine pure_ (i := 11) (N := some 104) #[Y_,Y_,Y_,Y_,Y_,Y_,Y_,Y_,Y_,Y_,Y_,Y_,N_,N_,N_,N_,N_,N_,N_,N_,N_,N_,N_,N_,N_,N_,N_,N_,N_,N_,N_,N_,N_,N_,N_,N_] rfl rfl (any_of HT_.out (by kernel_rfl)) (fun _ _ _ h => h) (Or.inl ⟨by rfl, tX⟩) tV ?_
          refine pure_ (i := 12) (N := some 105) #[Y_,Y_,Y_,Y_,Y_,Y_,Y_,Y_,Y_,Y_,Y_,Y_,Y_,N_,N_,N_,N_,N_,N_,N_,N_,N_,N_,N_,N_,N_,N_,N_,N_,N_,N_,N_,N_,N_,N_,N_] rfl rfl (any_of HT_.out (by kernel_rfl)) (fun _ _ _ h => h) (Or.inl ⟨by rfl, tX⟩) tV ?_
          refine pure_ (i := 14) (N := some 107) #[Y_,Y_,Y_,Y_,Y_,Y_,Y_,Y_,Y_,Y_,Y_,Y_,Y_,N_,Y_,N_,N_,N_,N_,N_,N_,N_,N_,N_,N_,N_,N_,N_,N_,N_,N_,N_,N_,N_,N_,N_] rfl rfl (any_of HT_.out (by kernel_rfl)) (fun _ _ _ h => h) (Or.inl ⟨by rfl, tX⟩) tV ?_
          refine pure_ (i := 15) (N := some 108) #[Y_,Y_,Y_,Y_,Y_,Y_,Y_,Y_,Y_,Y_,Y_,Y_,Y_,N_,Y_,Y_,N_,N_,N_,N_,N_,N_,N_,N_,N_,N_,N_,N_,N_,N_,N_,N_,N_,N_,N_,N_] rfl rfl (any_of HT_.out (by kernel_rfl)) (fun _ _ _ h => h) (Or.inl ⟨by rfl, tX⟩) tV ?_
          refine pure_ (i := 16) (N := some 109) #[Y_,Y_,Y_,Y_,Y_,Y_,Y_,Y_,Y_,Y_,Y_,Y_,Y_,N_,Y_,Y_,Y_,N_,N_,N_,N_,N_,N_,N_,N_,N_,N_,N_,N_,N_,N_,N_,N_,N_,N_,N_] rfl rfl (any_of HT_.out (by kernel_rfl)) (fun _ _ _ h => h) (Or.inl ⟨by rfl, tX⟩) tV ?_
          refine take_ (i := 13) (N := some 106) (v := ?_) (a' := ?_) #[Y_,Y_,Y_,Y_,Y_,Y_,Y_,Y_,Y_,Y_,Y_,Y_,Y_,Y_,Y_,Y_,Y_,N_,N_,N_,N_,N_,N_,N_,N_,N_,N_,N_,N_,N_,N_,N_,N_,N_,N_,N_] rfl rfl (take_ofW HT_.out HW_.out (by kernel_rfl)) (fun _ _ _ h => h) (Or.inl ⟨by rfl, ?_⟩) hHeld ?_ ?_
          rotate_left
          ·rintro w' ⟨s0, s1, s2, s3, s4, s5, s6, s7, s8, s9, s10, s11, s12, s13, s14, s15, s16, s17, s18, s19, s20, s21, s22, s23, s24⟩
           go_simp
           with_reducible rfl
          rotate_left
          ·simp only [Act.put, List.setIfInBounds_toArray, List.set_cons_zero, List.set_cons_succ, i64_w, i32_w]
           rfl
          refine take_ (i := 17) (N := some 110) (v := ?_) (a' := ?_) #[Y_,Y_,Y_,Y_,Y_,Y_,Y_,Y_,Y_,Y_,Y_,Y_,Y_,Y_,Y_,Y_,Y_,Y_,N_,N_,N_,N_,N_,N_,N_,N_,N_,N_,N_,N_,N_,N_,N_,N_,N_,N_] rfl rfl (take_ofW HT_.out HW_.out (by kernel_rfl)) (fun _ _ _ h => h) (Or.inl ⟨by rfl, ?_⟩) hHeld ?_ ?_
          rotate_left
          ·rintro w' ⟨s0, s1, s2, s3, s4, s5, s6, s7, s8, s9, s10, s11, s12, s13, s14, s15, s16, s17, s18, s19, s20, s21, s22, s23, s24⟩
           go_simp
           with_reducible rfl
          rotate_left
          ·simp only [Act.put, List.setIfInBounds_toArray, List.set_cons_zero, List.set_cons_succ, i64_w, i32_w]
           rfl
          refine one_ (i := 18) (N := some 111) #[Y_,Y_,Y_,Y_,Y_,Y_,Y_,Y_,Y_,Y_,Y_,Y_,Y_,Y_,Y_,Y_,Y_,Y_,Y_,N_,N_,N_,N_,N_,N_,N_,N_,N_,N_,N_,N_,N_,N_,N_,N_,N_] rfl rfl (one_of HT_.out (by kernel_rfl)) (by decide) (fun K hK => ?_)
          refine goes_ Try.func37 (by kernel_rfl) rfl #[.agg #[.int .i64 ((rd_T58 x5_1 0).f0), .int .i64 ((rd_T58 x5_1 0).f1), .int .i64 ((rd_T58 x5_1 0).f2), .int .i64 ((rd_T58 x5_1 0).f3)], .agg #[.int .i64 ((rd_T58 x5_1 x12_2).f0), .int .i64 ((rd_T58 x5_1 x12_2).f1), .int .i64 ((rd_T58 x5_1 x12_2).f2), .int .i64 ((rd_T58 x5_1 x12_2).f3)]] (by rfl) rfl rfl tL ?_
          with_reducible refine (impl_IsSplit.calls k2 ((rd_T58 x5_1 0).f0) ((rd_T58 x5_1 0).f1) ((rd_T58 x5_1 0).f2) ((rd_T58 x5_1 0).f3) ((rd_T58 x5_1 x12_2).f0) ((rd_T58 x5_1 x12_2).f1) ((rd_T58 x5_1 x12_2).f2) ((rd_T58 x5_1 x12_2).f3) false _ A76.out).mono ?_
          rintro e w84 ⟨rfl, hb⟩
          have HS1_ := (hb.cell (World.block_lt_of_cell? _ _ (hHeld.2.1))).trans (hHeld.2.1)
          have HS2_ := (hb.cell (World.block_lt_of_cell? _ _ (hHeld.2.2.1))).trans (hHeld.2.2.1)
          have HS3_ := (hb.cell (World.block_lt_of_cell? _ _ (hHeld.2.2.2.1))).trans (hHeld.2.2.2.1)
          have HS4_ := (hb.cell (World.block_lt_of_cell? _ _ (hHeld.2.2.2.2.1))).trans (hHeld.2.2.2.2.1)
          have HS5_ := (hb.cell (World.block_lt_of_cell? _ _ (hHeld.2.2.2.2.2.1))).trans (hHeld.2.2.2.2.2.1)
          have HS6_ := (hb.cell (World.block_lt_of_cell? _ _ (hHeld.2.2.2.2.2.2.1))).trans (hHeld.2.2.2.2.2.2.1)
          have HS7_ := (hb.cell (World.block_lt_of_cell? _ _ (hHeld.2.2.2.2.2.2.2.1))).trans (hHeld.2.2.2.2.2.2.2.1)
          have HS8_ := (hb.cell (World.block_lt_of_cell? _ _ (hHeld.2.2.2.2.2.2.2.2.1))).trans (hHeld.2.2.2.2.2.2.2.2.1)
          have HS9_ := (hb.cell (World.block_lt_of_cell? _ _ (hHeld.2.2.2.2.2.2.2.2.2.1))).trans (hHeld.2.2.2.2.2.2.2.2.2.1)
          have HS10_ := (hb.cell (World.block_lt_of_cell? _ _ (hHeld.2.2.2.2.2.2.2.2.2.2.1))).trans (hHeld.2.2.2.2.2.2.2.2.2.2.1)
          have HS11_ := (hb.cell (World.block_lt_of_cell? _ _ (hHeld.2.2.2.2.2.2.2.2.2.2.2.1))).trans (hHeld.2.2.2.2.2.2.2.2.2.2.2.1)
          have HS12_ := (hb.cell (World.block_lt_of_cell? _ _ (hHeld.2.2.2.2.2.2.2.2.2.2.2.2.1))).trans (hHeld.2.2.2.2.2.2.2.2.2.2.2.2.1)
          have HS13_ := (hb.cell (World.block_lt_of_cell? _ _ (hHeld.2.2.2.2.2.2.2.2.2.2.2.2.2.1))).trans (hHeld.2.2.2.2.2.2.2.2.2.2.2.2.2.1)
          have HS14_ := (hb.cell (World.block_lt_of_cell? _ _ (hHeld.2.2.2.2.2.2.2.2.2.2.2.2.2.2.1))).trans (hHeld.2.2.2.2.2.2.2.2.2.2.2.2.2.2.1)
          have HS15_ := (hb.cell (World.block_lt_of_cell? _ _ (hHeld.2.2.2.2.2.2.2.2.2.2.2.2.2.2.2.1))).trans (hHeld.2.2.2.2.2.2.2.2.2.2.2.2.2.2.2.1)
          have HS16_ := (hb.cell (World.block_lt_of_cell? _ _ (hHeld.2.2.2.2.2.2.2.2.2.2.2.2.2.2.2.2.1))).trans (hHeld.2.2.2.2.2.2.2.2.2.2.2.2.2.2.2.2.1)
          have HS17_ := (hb.cell (World.block_lt_of_cell? _ _ (hHeld.2.2.2.2.2.2.2.2.2.2.2.2.2.2.2.2.2.1))).trans (hHeld.2.2.2.2.2.2.2.2.2.2.2.2.2.2.2.2.2.1)
          have HS18_ := (hb.cell (World.block_lt_of_cell? _ _ (hHeld.2.2.2.2.2.2.2.2.2.2.2.2.2.2.2.2.2.2.1))).trans (hHeld.2.2.2.2.2.2.2.2.2.2.2.2.2.2.2.2.2.2.1)
          have HS19_ := (hb.cell (World.block_lt_of_cell? _ _ (hHeld.2.2.2.2.2.2.2.2.2.2.2.2.2.2.2.2.2.2.2.1))).trans (hHeld.2.2.2.2.2.2.2.2.2.2.2.2.2.2.2.2.2.2.2.1)
          have HS20_ := (hb.cell (World.block_lt_of_cell? _ _ (hHeld.2.2.2.2.2.2.2.2.2.2.2.2.2.2.2.2.2.2.2.2.1))).trans (hHeld.2.2.2.2.2.2.2.2.2.2.2.2.2.2.2.2.2.2.2.2.1)
          have HS21_ := (hb.cell (World.block_lt_of_cell? _ _ (hHeld.2.2.2.2.2.2.2.2.2.2.2.2.2.2.2.2.2.2.2.2.2.1))).trans (hHeld.2.2.2.2.2.2.2.2.2.2.2.2.2.2.2.2.2.2.2.2.2.1)
          have HS22_ := (hb.cell (World.block_lt_of_cell? _ _ (hHeld.2.2.2.2.2.2.2.2.2.2.2.2.2.2.2.2.2.2.2.2.2.2.1))).trans (hHeld.2.2.2.2.2.2.2.2.2.2.2.2.2.2.2.2.2.2.2.2.2.2.1)
          have HS23_ := (hb.cell (World.block_lt_of_cell? _ _ (hHeld.2.2.2.2.2.2.2.2.2.2.2.2.2.2.2.2.2.2.2.2.2.2.2.1))).trans (hHeld.2.2.2.2.2.2.2.2.2.2.2.2.2.2.2.2.2.2.2.2.2.2.2.1)
          have HS24_ := (hb.cell (World.block_lt_of_cell? _ _ (hHeld.2.2.2.2.2.2.2.2.2.2.2.2.2.2.2.2.2.2.2.2.2.2.2.2))).trans (hHeld.2.2.2.2.2.2.2.2.2.2.2.2.2.2.2.2.2.2.2.2.2.2.2.2)
          refine ⟨_, rfl, ?_⟩
          replace HO_5 := Aside0.mk (Kd.R_below (tR HO_5) hb)
          replace HO_201000 := Aside0.mk (Kd.R_below (tR HO_201000) hb)
          replace BK200 := bB BK200 hb
          replace BK202 := bB BK202 hb
          replace HB := bH HB hb
          (try clear hb)
          (try clear hb2)
          (try clear hk)
          (try clear hi)
          refine hK.out _ _ ⟨(blk_cell BK200.out 0).trans rfl, HS1_, HS2_, HS3_, HS4_, HS5_, HS6_, HS7_, HS8_, HS9_, HS10_, HS11_, HS12_, HS13_, HS14_, HS15_, HS16_, HS17_, HS18_, HS19_, HS20_, HS21_, HS22_, HS23_, HS24_⟩ (fun hHeld => ?_)
          clear hK K
          refine norm_ (tV : Act.put _ (some 111) _ = _) ?_
          refine pure_ (i := 19) (N := some 112) #[Y_,Y_,Y_,Y_,Y_,Y_,Y_,Y_,Y_,Y_,Y_,Y_,Y_,Y_,Y_,Y_,Y_,Y_,Y_,Y_,N_,N_,N_,N_,N_,N_,N_,N_,N_,N_,N_,N_,N_,N_,N_,N_] rfl rfl (any_of HT_.out (by kernel_rfl)) (fun _ _ _ h => h) (Or.inl ⟨by rfl, tX⟩) tV ?_
          refine pure_ (i := 20) (N := some 113) #[Y_,Y_,Y_,Y_,Y_,Y_,Y_,Y_,Y_,Y_,Y_,Y_,Y_,Y_,Y_,Y_,Y_,Y_,Y_,Y_,Y_,N_,N_,N_,N_,N_,N_,N_,N_,N_,N_,N_,N_,N_,N_,N_] rfl rfl (any_of HT_.out (by kernel_rfl)) (fun _ _ _ h => h) (Or.inl ⟨by rfl, tX⟩) tV ?_
          refine pure_ (i := 21) (N := some 114) #[Y_,Y_,Y_,Y_,Y_,Y_,Y_,Y_,Y_,Y_,Y_,Y_,Y_,Y_,Y_,Y_,Y_,Y_,Y_,Y_,Y_,Y_,N_,N_,N_,N_,N_,N_,N_,N_,N_,N_,N_,N_,N_,N_] rfl rfl (any_of HT_.out (by kernel_rfl)) (fun _ _ _ h => h) (Or.inl ⟨by rfl, tX⟩) tV ?_
          refine pure_ (i := 23) (N := some 116) #[Y_,Y_,Y_,Y_,Y_,Y_,Y_,Y_,Y_,Y_,Y_,Y_,Y_,Y_,Y_,Y_,Y_,Y_,Y_,Y_,Y_,Y_,N_,Y_,N_,N_,N_,N_,N_,N_,N_,N_,N_,N_,N_,N_] rfl rfl (any_of HT_.out (by kernel_rfl)) (fun _ _ _ h => h) (Or.inl ⟨by rfl, tX⟩) tV ?_
          refine pure_ (i := 24) (N := some 117) #[Y_,Y_,Y_,Y_,Y_,Y_,Y_,Y_,Y_,Y_,Y_,Y_,Y_,Y_,Y_,Y_,Y_,Y_,Y_,Y_,Y_,Y_,N_,Y_,Y_,N_,N_,N_,N_,N_,N_,N_,N_,N_,N_,N_] rfl rfl (any_of HT_.out (by kernel_rfl)) (fun _ _ _ h => h) (Or.inl ⟨by rfl, tX⟩) tV ?_
          refine pure_ (i := 25) (N := some 118) #[Y_,Y_,Y_,Y_,Y_,Y_,Y_,Y_,Y_,Y_,Y_,Y_,Y_,Y_,Y_,Y_,Y_,Y_,Y_,Y_,Y_,Y_,N_,Y_,Y_,Y_,N_,N_,N_,N_,N_,N_,N_,N_,N_,N_] rfl rfl (any_of HT_.out (by kernel_rfl)) (fun _ _ _ h => h) (Or.inl ⟨by rfl, tX⟩) tV ?_
          refine pure_ (i := 26) (N := some 119) #[Y_,Y_,Y_,Y_,Y_,Y_,Y_,Y_,Y_,Y_,Y_,Y_,Y_,Y_,Y_,Y_,Y_,Y_,Y_,Y_,Y_,Y_,N_,Y_,Y_,Y_,Y_,N_,N_,N_,N_,N_,N_,N_,N_,N_] rfl rfl (any_of HT_.out (by kernel_rfl)) (fun _ _ _ h => h) (Or.inl ⟨by rfl, tX⟩) tV ?_
          refine pure_ (i := 29) (N := some 122) #[Y_,Y_,Y_,Y_,Y_,Y_,Y_,Y_,Y_,Y_,Y_,Y_,Y_,Y_,Y_,Y_,Y_,Y_,Y_,Y_,Y_,Y_,N_,Y_,Y_,Y_,Y_,N_,N_,Y_,N_,N_,N_,N_,N_,N_] rfl rfl (any_of HT_.out (by kernel_rfl)) (fun _ _ _ h => h) (Or.inl ⟨by rfl, tX⟩) tV ?_
          refine pure_ (i := 30) (N := some 123) #[Y_,Y_,Y_,Y_,Y_,Y_,Y_,Y_,Y_,Y_,Y_,Y_,Y_,Y_,Y_,Y_,Y_,Y_,Y_,Y_,Y_,Y_,N_,Y_,Y_,Y_,Y_,N_,N_,Y_,Y_,N_,N_,N_,N_,N_] rfl rfl (any_of HT_.out (by kernel_rfl)) (fun _ _ _ h => h) (Or.inl ⟨by rfl, tX⟩) tV ?_
          refine pure_ (i := 31) (N := some 124) #[Y_,Y_,Y_,Y_,Y_,Y_,Y_,Y_,Y_,Y_,Y_,Y_,Y_,Y_,Y_,Y_,Y_,Y_,Y_,Y_,Y_,Y_,N_,Y_,Y_,Y_,Y_,N_,N_,Y_,Y_,Y_,N_,N_,N_,N_] rfl rfl (any_of HT_.out (by kernel_rfl)) (fun _ _ _ h => h) (Or.inl ⟨by rfl, tX⟩) tV ?_
          refine pure_ (i := 32) (N := some 125) #[Y_,Y_,Y_,Y_,Y_,Y_,Y_,Y_,Y_,Y_,Y_,Y_,Y_,Y_,Y_,Y_,Y_,Y_,Y_,Y_,Y_,Y_,N_,Y_,Y_,Y_,Y_,N_,N_,Y_,Y_,Y_,Y_,N_,N_,N_] rfl rfl (any_of HT_.out (by kernel_rfl)) (fun _ _ _ h => h) (Or.inl ⟨by rfl, tX⟩) tV ?_
          refine take_ (i := 22) (N := some 115) (v := ?_) (a' := ?_) #[Y_,Y_,Y_,Y_,Y_,Y_,Y_,Y_,Y_,Y_,Y_,Y_,Y_,Y_,Y_,Y_,Y_,Y_,Y_,Y_,Y_,Y_,Y_,Y_,Y_,Y_,Y_,N_,N_,Y_,Y_,Y_,Y_,N_,N_,N_] rfl rfl (take_ofW HT_.out HW_.out (by kernel_rfl)) (fun _ _ _ h => h) (Or.inl ⟨by rfl, ?_⟩) hHeld ?_ ?_
          rotate_left
          ·rintro w' ⟨s0, s1, s2, s3, s4, s5, s6, s7, s8, s9, s10, s11, s12, s13, s14, s15, s16, s17, s18, s19, s20, s21, s22, s23, s24⟩
           go_simp
           with_reducible rfl
          rotate_left
          ·simp only [Act.put, List.setIfInBounds_toArray, List.set_cons_zero, List.set_cons_succ, i64_w, i32_w]
           rfl
          refine take_ (i := 27) (N := some 120) (v := ?_) (a' := ?_) #[Y_,Y_,Y_,Y_,Y_,Y_,Y_,Y_,Y_,Y_,Y_,Y_,Y_,Y_,Y_,Y_,Y_,Y_,Y_,Y_,Y_,Y_,Y_,Y_,Y_,Y_,Y_,Y_,N_,Y_,Y_,Y_,Y_,N_,N_,N_] rfl rfl (take_ofW HT_.out HW_.out (by kernel_rfl)) (fun _ _ _ h => h) (Or.inl ⟨by rfl, ?_⟩) hHeld ?_ ?_
          rotate_left
          ·rintro w' ⟨s0, s1, s2, s3, s4, s5, s6, s7, s8, s9, s10, s11, s12, s13, s14, s15, s16, s17, s18, s19, s20, s21, s22, s23, s24⟩
           go_simp
           with_reducible rfl
          rotate_left
          ·simp only [Act.put, List.setIfInBounds_toArray, List.set_cons_zero, List.set_cons_succ, i64_w, i32_w]
           rfl
          refine take_ (i := 33) (N := some 126) (v := ?_) (a' := ?_) #[Y_,Y_,Y_,Y_,Y_,Y_,Y_,Y_,Y_,Y_,Y_,Y_,Y_,Y_,Y_,Y_,Y_,Y_,Y_,Y_,Y_,Y_,Y_,Y_,Y_,Y_,Y_,Y_,N_,Y_,Y_,Y_,Y_,Y_,N_,N_] rfl rfl (take_ofW HT_.out HW_.out (by kernel_rfl)) (fun _ _ _ h => h) (Or.inl ⟨by rfl, ?_⟩) hHeld ?_ ?_
          rotate_left
          ·rintro w' ⟨s0, s1, s2, s3, s4, s5, s6, s7, s8, s9, s10, s11, s12, s13, s14, s15, s16, s17, s18, s19, s20, s21, s22, s23, s24⟩
           go_simp
           with_reducible rfl
          rotate_left
          ·simp only [Act.put, List.setIfInBounds_toArray, List.set_cons_zero, List.set_cons_succ, i64_w, i32_w]
           rfl
          refine one_ (i := 28) (N := some 121) #[Y_,Y_,Y_,Y_,Y_,Y_,Y_,Y_,Y_,Y_,Y_,Y_,Y_,Y_,Y_,Y_,Y_,Y_,Y_,Y_,Y_,Y_,Y_,Y_,Y_,Y_,Y_,Y_,Y_,Y_,Y_,Y_,Y_,Y_,N_,N_] rfl rfl (one_of HT_.out (by kernel_rfl)) (by decide) (fun K hK => ?_)
          refine goes_ Try.func53 (by kernel_rfl) rfl #[.slice Ao82 x201000_1.length co82, .int .i64 ((rd_T58 x5_1 x12_2).f0)] (by rfl) rfl rfl tL ?_
          with_reducible refine (impl_RootOf.calls k2 _ _ x201000_1 ((rd_T58 x5_1 x12_2).f0) t235 _ ?side1 ?side2 A78.out).mono ?_
          (case side1 => repeat (first | exact (Kd.R_reads' HO_201000.out).2.2 | (with_reducible refine Kd.C_alloc ?_ _) | (with_reducible refine Kd.C_drewN ?_ _) | (with_reducible refine Kd.C_drew ?_)))
          (case side2 => exact (Kd.R_reads' HO_201000.out).2.1)
          rintro e w85 ⟨rfl, hb⟩
          have HS1_ := (hb.cell (World.block_lt_of_cell? _ _ (hHeld.2.1))).trans (hHeld.2.1)
          have HS2_ := (hb.cell (World.block_lt_of_cell? _ _ (hHeld.2.2.1))).trans (hHeld.2.2.1)
          have HS3_ := (hb.cell (World.block_lt_of_cell? _ _ (hHeld.2.2.2.1))).trans (hHeld.2.2.2.1)
          have HS4_ := (hb.cell (World.block_lt_of_cell? _ _ (hHeld.2.2.2.2.1))).trans (hHeld.2.2.2.2.1)
          have HS5_ := (hb.cell (World.block_lt_of_cell? _ _ (hHeld.2.2.2.2.2.1))).trans (hHeld.2.2.2.2.2.1)
          have HS6_ := (hb.cell (World.block_lt_of_cell? _ _ (hHeld.2.2.2.2.2.2.1))).trans (hHeld.2.2.2.2.2.2.1)
          have HS7_ := (hb.cell (World.block_lt_of_cell? _ _ (hHeld.2.2.2.2.2.2.2.1))).trans (hHeld.2.2.2.2.2.2.2.1)
          have HS8_ := (hb.cell (World.block_lt_of_cell? _ _ (hHeld.2.2.2.2.2.2.2.2.1))).trans (hHeld.2.2.2.2.2.2.2.2.1)
          have HS9_ := (hb.cell (World.block_lt_of_cell? _ _ (hHeld.2.2.2.2.2.2.2.2.2.1))).trans (hHeld.2.2.2.2.2.2.2.2.2.1)
          have HS10_ := (hb.cell (World.block_lt_of_cell? _ _ (hHeld.2.2.2.2.2.2.2.2.2.2.1))).trans (hHeld.2.2.2.2.2.2.2.2.2.2.1)
          have HS11_ := (hb.cell (World.block_lt_of_cell? _ _ (hHeld.2.2.2.2.2.2.2.2.2.2.2.1))).trans (hHeld.2.2.2.2.2.2.2.2.2.2.2.1)
          have HS12_ := (hb.cell (World.block_lt_of_cell? _ _ (hHeld.2.2.2.2.2.2.2.2.2.2.2.2.1))).trans (hHeld.2.2.2.2.2.2.2.2.2.2.2.2.1)
          have HS13_ := (hb.cell (World.block_lt_of_cell? _ _ (hHeld.2.2.2.2.2.2.2.2.2.2.2.2.2.1))).trans (hHeld.2.2.2.2.2.2.2.2.2.2.2.2.2.1)
          have HS14_ := (hb.cell (World.block_lt_of_cell? _ _ (hHeld.2.2.2.2.2.2.2.2.2.2.2.2.2.2.1))).trans (hHeld.2.2.2.2.2.2.2.2.2.2.2.2.2.2.1)
          have HS15_ := (hb.cell (World.block_lt_of_cell? _ _ (hHeld.2.2.2.2.2.2.2.2.2.2.2.2.2.2.2.1))).trans (hHeld.2.2.2.2.2.2.2.2.2.2.2.2.2.2.2.1)
          have HS16_ := (hb.cell (World.block_lt_of_cell? _ _ (hHeld.2.2.2.2.2.2.2.2.2.2.2.2.2.2.2.2.1))).trans (hHeld.2.2.2.2.2.2.2.2.2.2.2.2.2.2.2.2.1)
          have HS17_ := (hb.cell (World.block_lt_of_cell? _ _ (hHeld.2.2.2.2.2.2.2.2.2.2.2.2.2.2.2.2.2.1))).trans (hHeld.2.2.2.2.2.2.2.2.2.2.2.2.2.2.2.2.2.1)
          have HS18_ := (hb.cell (World.block_lt_of_cell? _ _ (hHeld.2.2.2.2.2.2.2.2.2.2.2.2.2.2.2.2.2.2.1))).trans (hHeld.2.2.2.2.2.2.2.2.2.2.2.2.2.2.2.2.2.2.1)
          have HS19_ := (hb.cell (World.block_lt_of_cell? _ _ (hHeld.2.2.2.2.2.2.2.2.2.2.2.2.2.2.2.2.2.2.2.1))).trans (hHeld.2.2.2.2.2.2.2.2.2.2.2.2.2.2.2.2.2.2.2.1)
          have HS20_ := (hb.cell (World.block_lt_of_cell? _ _ (hHeld.2.2.2.2.2.2.2.2.2.2.2.2.2.2.2.2.2.2.2.2.1))).trans (hHeld.2.2.2.2.2.2.2.2.2.2.2.2.2.2.2.2.2.2.2.2.1)
          have HS21_ := (hb.cell (World.block_lt_of_cell? _ _ (hHeld.2.2.2.2.2.2.2.2.2.2.2.2.2.2.2.2.2.2.2.2.2.1))).trans (hHeld.2.2.2.2.2.2.2.2.2.2.2.2.2.2.2.2.2.2.2.2.2.1)
          have HS22_ := (hb.cell (World.block_lt_of_cell? _ _ (hHeld.2.2.2.2.2.2.2.2.2.2.2.2.2.2.2.2.2.2.2.2.2.2.1))).trans (hHeld.2.2.2.2.2.2.2.2.2.2.2.2.2.2.2.2.2.2.2.2.2.2.1)
          have HS23_ := (hb.cell (World.block_lt_of_cell? _ _ (hHeld.2.2.2.2.2.2.2.2.2.2.2.2.2.2.2.2.2.2.2.2.2.2.2.1))).trans (hHeld.2.2.2.2.2.2.2.2.2.2.2.2.2.2.2.2.2.2.2.2.2.2.2.1)
          have HS24_ := (hb.cell (World.block_lt_of_cell? _ _ (hHeld.2.2.2.2.2.2.2.2.2.2.2.2.2.2.2.2.2.2.2.2.2.2.2.2))).trans (hHeld.2.2.2.2.2.2.2.2.2.2.2.2.2.2.2.2.2.2.2.2.2.2.2.2)
          refine ⟨_, rfl, ?_⟩
          replace HO_5 := Aside0.mk (Kd.R_below (tR HO_5) hb)
          replace HO_201000 := Aside0.mk (Kd.R_below (tR HO_201000) hb)
          replace BK200 := bB BK200 hb
          replace BK202 := bB BK202 hb
          replace HB := bH HB hb
          (try clear hb)
          (try clear hb2)
          (try clear hk)
          (try clear hi)
          refine hK.out _ _ ⟨(blk_cell BK200.out 0).trans rfl, HS1_, HS2_, HS3_, HS4_, HS5_, HS6_, HS7_, HS8_, HS9_, HS10_, HS11_, HS12_, HS13_, HS14_, HS15_, HS16_, HS17_, HS18_, HS19_, HS20_, HS21_, HS22_, HS23_, HS24_⟩ (fun hHeld => ?_)
          clear hK K
          refine norm_ (tV : Act.put _ (some 121) _ = _) ?_
          refine pure_ (i := 34) (N := some 127) #[Y_,Y_,Y_,Y_,Y_,Y_,Y_,Y_,Y_,Y_,Y_,Y_,Y_,Y_,Y_,Y_,Y_,Y_,Y_,Y_,Y_,Y_,Y_,Y_,Y_,Y_,Y_,Y_,Y_,Y_,Y_,Y_,Y_,Y_,Y_,N_] rfl rfl (any_of HT_.out (by kernel_rfl)) (fun _ _ _ h => h) (Or.inl ⟨by rfl, tX⟩) tV ?_
          refine pure_ (i := 35) (N := some 128) #[Y_,Y_,Y_,Y_,Y_,Y_,Y_,Y_,Y_,Y_,Y_,Y_,Y_,Y_,Y_,Y_,Y_,Y_,Y_,Y_,Y_,Y_,Y_,Y_,Y_,Y_,Y_,Y_,Y_,Y_,Y_,Y_,Y_,Y_,Y_,Y_] rfl rfl (any_of HT_.out (by kernel_rfl)) (fun _ _ _ h => h) (Or.inl ⟨by rfl, tX⟩) tV ?_
          refine done_ (done_of HT_.out (by kernel_rfl)) ?_
          try go_wp2
          go_roundg k2
          case measure => have := HK1.out; have := HK2.out; omega
          case rel => exact ⟨(wrap64 (x12_2 + 1)), tS, H', ⟨by have := HK1.out; have := HK2.out; omega⟩, ⟨tR HO_5⟩, ⟨tR HO_201000⟩, ⟨tK BK200⟩, ⟨tK BK202⟩, ⟨tB⟩⟩
         rw [if_neg c79] at H
         have c79b0 : (t235 == ((rd_T58 x5_1 x12_2).f1)) = false := beq_eq_false_iff_ne.mpr c79
         have c79b1 : (t235 != ((rd_T58 x5_1 x12_2).f1)) = true := bne_iff_ne.mpr c79
         exact absurd ((Option.some.inj H).trans hT_) (by decide)
        replace c75 := Bool.eq_false_iff.mpr c75
        subst c75
        have H1 : (some false) = some r := by rw [if_neg (show ¬ (false = true) by decide)] at H; exact H
        clear H
        have H := H1
        clear H1
        exact absurd ((Option.some.inj H).trans hT_) (by decide)
       rw [if_neg c73] at H
       exact absurd H (by simp)
      rw [if_neg c72] at H
      exact absurd H (by simp)
     rw [if_neg c71] at H
     have c71b0 : decide (x12_2 < (x5_1.length : Int)) = false := decide_eq_false c71
     clear c71
     obtain ⟨y237, hy237⟩ : ∃ y_ : List Int, y_ = (([7] : List Int)) := ⟨_, rfl⟩
     replace H : (if y237.length + x201000_1.length < 17592186044416 then ((some (y237 ++ x201000_1 : List Int)).bind fun y240 => ((impl_SignHead.f k2 x203000_1 x203001_1 x203002_1 y240).bind fun bt244 => (if (bt244.2.2.2.2.2.2.2 == (x203001_1 == 0)) = true then (if (x5_1.length : Int) = 0 then (if bt244.2.2.2.2.2.2.2 = true then (some true) else (some (bt244.2.2.2.1 == 0 && (bt244.2.2.2.2.1 == 0 && (bt244.2.2.2.2.2.1 == 0 && (bt244.2.2.2.2.2.2.1 == 0)))))) else (if 0 < (x5_1.length : Int) then ((impl_AreConsistent.f k2 ((rd_T58 x5_1 0).f0) ((rd_T58 x5_1 0).f1) ((rd_T58 x5_1 0).f2) ((rd_T58 x5_1 0).f3) ((rd_T58 x5_1 0).f0) ((rd_T58 x5_1 0).f1) ((rd_T58 x5_1 0).f2) ((rd_T58 x5_1 0).f3) y240).bind fun t256 => (if t256 = true then (some false) else (if bt244.2.2.2.2.2.2.2 = true then (some true) else (some (bt244.2.2.2.1 == 0 && (bt244.2.2.2.2.1 == 0 && (bt244.2.2.2.2.2.1 == 0 && (bt244.2.2.2.2.2.2.1 == 0)))))))) else (none))) else (some false)))) else (none)) = some r := by first | (rw [hy237]; with_reducible exact H) | (have H2_ := (Option.bind_some _ _).symm.trans H; rw [hy237]; with_reducible exact H2_) | (have H2_ := (Option.bind_some _ _).symm.trans H; with_reducible exact H2_) | with_reducible exact H | (rw [hy237]; exact H) | exact H
     have Ny237 := Aside0.mk hy237
     clear hy237
     by_cases c86 : y237.length + x201000_1.length < 17592186044416
     ·rw [if_pos c86] at H
      have LMc86 := Aside0.mk c86
      clear c86
      obtain ⟨y240, hy240⟩ : ∃ y_ : List Int, y_ = (y237 ++ x201000_1) := ⟨_, rfl⟩
      replace H : ((impl_SignHead.f k2 x203000_1 x203001_1 x203002_1 y240).bind fun bt244 => (if (bt244.2.2.2.2.2.2.2 == (x203001_1 == 0)) = true then (if (x5_1.length : Int) = 0 then (if bt244.2.2.2.2.2.2.2 = true then (some true) else (some (bt244.2.2.2.1 == 0 && (bt244.2.2.2.2.1 == 0 && (bt244.2.2.2.2.2.1 == 0 && (bt244.2.2.2.2.2.2.1 == 0)))))) else (if 0 < (x5_1.length : Int) then ((impl_AreConsistent.f k2 ((rd_T58 x5_1 0).f0) ((rd_T58 x5_1 0).f1) ((rd_T58 x5_1 0).f2) ((rd_T58 x5_1 0).f3) ((rd_T58 x5_1 0).f0) ((rd_T58 x5_1 0).f1) ((rd_T58 x5_1 0).f2) ((rd_T58 x5_1 0).f3) y240).bind fun t256 => (if t256 = true then (some false) else (if bt244.2.2.2.2.2.2.2 = true then (some true) else (some (bt244.2.2.2.1 == 0 && (bt244.2.2.2.2.1 == 0 && (bt244.2.2.2.2.2.1 == 0 && (bt244.2.2.2.2.2.2.1 == 0)))))))) else (none))) else (some false))) = some r := by first | (rw [hy240]; with_reducible exact H) | (have H2_ := (Option.bind_some _ _).symm.trans H; rw [hy240]; with_reducible exact H2_) | (have H2_ := (Option.bind_some _ _).symm.trans H; with_reducible exact H2_) | with_reducible exact H | (rw [hy240]; exact H) | exact H
      have Ny240 := Aside0.mk hy240
      clear hy240
      replace H := Option.bind_eq_some_iff.mp H
      obtain ⟨⟨t244, t245, t246, t247, t248, t249, t250, t251⟩, A870, H⟩ := H
      try dsimp only at H
      have A87 := Aside0.mk A870
      clear A870
      by_cases c88 : (t251 == (x203001_1 == 0)) = true
      ·rw [if_pos c88] at H
       have c88b0 : (t251 == (x203001_1 == 0)) = true := c88
       (try (have c88b1 : decide (t251 = (x203001_1 == 0)) = true := by simpa using c88))
       (try (have c88b2 : (t251 == (x203001_1 == 0)) = true := by simpa using c88))
       clear c88
       by_cases c89 : (x5_1.length : Int) = 0
       ·rw [if_pos c89] at H
        have c89b0 : ((x5_1.length : Int) == 0) = true := beq_iff_eq.mpr c89
        have c89b1 : ((x5_1.length : Int) != 0) = false := bne_eq_false_iff_eq.mpr c89
        clear c89
        by_cases c90 : t251 = true
        ·subst c90
         have H1 : (some true) = some r := by rw [if_pos rfl] at H; exact H
         clear H
         have H := H1
         clear H1
         obtain rfl := Option.some.inj H
         obtain ⟨Ao91, co91, eo91⟩ := Kd.R_slice HO_5.out
         subst eo91
         try go_wp2_with (first | ((with_reducible refine gate_dst (N := 129) rfl ?_); (try (refine gate_guard (by rfl) ?_; dsimp only)); refine Kd.R_lit (Kd.int .i64) _ 3 ?hg (N := 129) ?hd (xs := ([7] : List Int)) (inner := [.int .i64 7]) (ok := fun _ => True) (okp := fun _ => True) ?hr ?hp (fun _ hk => hk) trivial (Below.refl _ _) (Nat.le_refl _) (by simp) ?_; (case hd => rfl); (case hg => rfl); (case hr => exact tG); (case hp => exact (Reps.one (show Kd.M (Kd.int .i64) _ _ _ 7 [.int .i64 7] from rfl) (Reps.none _ _))); intro v238 w92 ho93 hb hg_ hnew_; clear hg_ hnew_; (first | rw [← Ny237.out] at ho93 | (simp only [Int.reduceToNat] at ho93; rw [← Ny237.out] at ho93)); replace HO_5 := Aside0.mk (Kd.R_below (tR HO_5) hb); have HO239 := Aside0.mk (Kd.R_lower (Kd.R_new' ho93 (Kd.R_lt (tR HO_201000))) (below_size tB)); replace HO_201000 := Aside0.mk (Kd.R_elder' (tR HO_201000) (Kd.R_base ho93) hb); replace BK200 := bB BK200 hb; replace BK202 := bB BK202 hb; replace HB := bH HB hb; clear hb ho93; have hnb94 := NB200_202.out; have hnc94 := NB202_200.out; obtain ⟨hcz95_0, hfz95_0⟩ := bc1 BK200.out; obtain ⟨Ao97, co97, eo97⟩ := Kd.R_slice HO_201000.out; subst eo97) | ((with_reducible refine gate_builtin (b := .append) (xs := #[.tmp 129, .tmp 131]) rfl ?_); (try (refine gate_guard (by rfl) ?_; dsimp only)); at_builtin; refine Kd.R_append_rows (Kd.int .i64) (w0 := w) w.heap.size rfl (.tmp 129) (.tmp 131) 41 3 (.int .i64 0) 8 rfl Try.underlying41 info3 rfl (by decide) (by omega) v238 y237 x201000_1 _ _ _ (fun k_ => some k_ ≠ (.slice Ao97 x201000_1.length co97 : Value).ownBlock) (fun _ => False) rfl rfl ?aO ?aR (fun _ _ h => h) (fun _ h => h.elim) ?aF ?aB ?aS ?aL ?_; (case aR => repeat (first | exact (Kd.R_reads' HO_201000.out).2.2 | (with_reducible refine Kd.C_alloc ?_ _) | (with_reducible refine Kd.C_drewN ?_ _) | (with_reducible refine Kd.C_drew ?_))); (case aB => exact tB); (case aF => exact (fun k_ hk => Kd.fresh' (Kd.R_lt (tR HO_201000)) k_ hk)); (case aO => exact (by (with_reducible repeat (first | apply Kd.R_alloc | apply Kd.R_drewN | apply Kd.R_drew)); exact Kd.R_mono HO239.out (fun _ hk => hk.2))); (case aS => exact (below_size tB)); (case aL => have := LMc86.out; omega); intro v241 w96 ho hb hg hat; rw [← Ny240.out] at ho; replace HO_5 := Aside0.mk (Kd.R_over' (tR HO_5) (Kd.R_typed (tR HO239)) (by decide) hg); replace HO_201000 := Aside0.mk (Kd.R_after (ok := (fun _ => True)) (tR HO_201000) hg hat); replace BK200 := Aside0.mk (blk_grown (g := gb200) (o := .cells #[.slice Ao97 x201000_1.length co97] 45 (0, 0)) (tK BK200) hg (Kd.R_ne HO239.out BK200.out (by decide))); replace BK202 := Aside0.mk (blk_grown (g := gb202) (o := .cells #[.int .i64 x203000_1, .int .i64 x203001_1, .int .i64 x203002_1] 56 (0, 0)) (tK BK202) hg (Kd.R_ne HO239.out BK202.out (by decide))); replace HB := Aside0.mk (hb); have HO242 := Aside0.mk (ho); clear HO239; clear ho hb hg hat; obtain ⟨Ao98, co98, eo98⟩ := Kd.R_slice HO242.out; subst eo98) | ((with_reducible refine gate_dst (N := 13) rfl ?_); (try (refine gate_guard (by rfl) ?_; dsimp only)); refine box_event ?hg (N := 13) ?hd (cs := #[.slice none 0 0]) (t := 45) ?hr ?_; (case hd => rfl); (case hg => rfl); (case hr => exact tG); intro gb243 hg w99 hbox hb; replace HO_5 := Aside0.mk (Kd.R_below (tR HO_5) hb); replace HO_201000 := Aside0.mk (Kd.R_below (tR HO_201000) hb); replace HO242 := Aside0.mk (Kd.R_below (tR HO242) hb); have BK243 := Aside0.mk (hbox); have GW243 := gW HB hg; have GE243 := gW HB hg; replace HB := bH HB hb; have NB200_243 := nL BK200 hg; have NB243_200 := nR BK200 hg; replace BK200 := bB BK200 hb; have NB202_243 := nL BK202 hg; have NB243_202 := nR BK202 hg; replace BK202 := bB BK202 hb; clear hb hbox hg; have hnb100 := NB243_200.out; have hnc100 := NB200_243.out; have hnb101 := NB243_202.out; have hnc101 := NB202_243.out; obtain ⟨hcz102_0, hfz102_0⟩ := bc1 BK243.out; obtain ⟨hcz103_0, hcz103_1, hcz103_2, hfz103_0, hfz103_1, hfz103_2⟩ := bc3 BK202.out) | ((with_reducible refine gate_callee (f := 36) rfl ?_); refine goesL_ (some 137) rfl rfl Try.func36 (by kernel_rfl) rfl #[.agg #[.int .i64 x203000_1, .int .i64 x203001_1, .int .i64 x203002_1], .agg #[.slice Ao98 y240.length co98]] rfl tL ?_; (with_reducible refine (impl_SignHead.calls k2 x203000_1 x203001_1 x203002_1 _ _ y240 t244 t245 t246 t247 t248 t249 t250 true _ ?side1 ?side2 A87.out).mono ?_); (case side1 => refine (Kd.R_reads' (e := 3) (base := w.heap.size) (ok := fun k_ => some k_ ≠ (.slice Ao97 x201000_1.length co97 : Value).ownBlock) (n := y240.length) (c := co98) ?_).2.2; exact (by (with_reducible repeat (first | apply Kd.R_alloc | apply Kd.R_drewN | apply Kd.R_drew)); exact (Kd.R_mono (Kd.R_far (p := ⟨gb243, 0, none⟩) (Kd.R_types HO242.out BK243.out (by decide)) (fun _ hk => hk.2) (.slice Ao98 y240.length co98)) (fun _ h_ => h_.1)))); (case side2 => exact (Kd.R_reads' HO242.out).2.1); rintro e w104 ⟨rfl, hb⟩; refine ⟨_, rfl, ?_⟩; replace HO_5 := Aside0.mk (Kd.R_below (by (with_reducible repeat (first | apply Kd.R_alloc | apply Kd.R_drewN | apply Kd.R_drew)); exact (Kd.R_mono (Kd.R_far (p := ⟨gb243, 0, none⟩) (Kd.R_types HO_5.out BK243.out (by decide)) (fun _ hk => hk.2) (.slice Ao98 y240.length co98)) (fun _ h_ => h_.1))) hb); replace HO_201000 := Aside0.mk (Kd.R_below (by (with_reducible repeat (first | apply Kd.R_alloc | apply Kd.R_drewN | apply Kd.R_drew)); exact (Kd.R_mono (Kd.R_far (p := ⟨gb243, 0, none⟩) (Kd.R_types HO_201000.out BK243.out (by decide)) (fun _ hk => hk.2) (.slice Ao98 y240.length co98)) (fun _ h_ => h_.1))) hb); replace HO242 := Aside0.mk (Kd.R_below (by (with_reducible repeat (first | apply Kd.R_alloc | apply Kd.R_drewN | apply Kd.R_drew)); exact (Kd.R_mono (Kd.R_far (p := ⟨gb243, 0, none⟩) (Kd.R_types HO242.out BK243.out (by decide)) (fun _ hk => hk.2) (.slice Ao98 y240.length co98)) (fun _ h_ => h_.1))) hb); replace BK200 := Aside0.mk (blk_below (g := gb200) (o := .cells #[.slice Ao97 x201000_1.length co97] 45 (0, 0)) (kF NB200_243 BK200) hb); replace BK202 := Aside0.mk (blk_below (g := gb202) (o := .cells #[.int .i64 x203000_1, .int .i64 x203001_1, .int .i64 x203002_1] 56 (0, 0)) (kF NB202_243 BK202) hb); replace BK243 := Aside0.mk (blk_below (g := gb243) (o := .cells #[.slice Ao98 y240.length co98] 45 (0, 0)) (by (with_reducible repeat (first | refine blk_drewN ?_ _ | refine blk_drew ?_ | refine blk_alloc ?_ _)); refine blk_put (cs := #[.slice none 0 0]) ?_ 0 _ rfl; (with_reducible repeat (first | refine blk_drewN ?_ _ | refine blk_drew ?_ | refine blk_alloc ?_ _)); exact BK243.out) hb); replace HB := bH HB hb; (try clear hb); (try clear hb2); (try clear hk); (try clear hi)) | ((with_reducible refine gate_dst (N := 14) rfl ?_); (try (refine gate_guard (by rfl) ?_; dsimp only)); refine box_event ?hg (N := 14) ?hd (cs := #[.int .i64 0, .int .i64 0, .int .i64 0]) (t := 56) ?hr ?_; (case hd => rfl); (case hg => rfl); (case hr => exact tG); intro gb252 hg w105 hbox hb; replace HO_5 := Aside0.mk (Kd.R_below (tR HO_5) hb); replace HO_201000 := Aside0.mk (Kd.R_below (tR HO_201000) hb); replace HO242 := Aside0.mk (Kd.R_below (tR HO242) hb); have BK252 := Aside0.mk (hbox); have GW252 := gW HB hg; have GE252 := gW HB hg; replace HB := bH HB hb; have NB200_252 := nL BK200 hg; have NB252_200 := nR BK200 hg; replace BK200 := bB BK200 hb; have NB202_252 := nL BK202 hg; have NB252_202 := nR BK202 hg; replace BK202 := bB BK202 hb; have NB243_252 := nL BK243 hg; have NB252_243 := nR BK243 hg; replace BK243 := bB BK243 hb; clear hb hbox hg) | ((with_reducible refine gate_dst (N := 15) rfl ?_); (try (refine gate_guard (by rfl) ?_; dsimp only)); refine box_event ?hg (N := 15) ?hd (cs := #[.int .i64 0, .int .i64 0, .int .i64 0, .int .i64 0]) (t := 58) ?hr ?_; (case hd => rfl); (case hg => rfl); (case hr => exact tG); intro gb253 hg w106 hbox hb; replace HO_5 := Aside0.mk (Kd.R_below (Kd.R_elderB (tR HO_5) gb253 (Nat.le_of_eq hg.symm)) hb); replace HO_201000 := Aside0.mk (Kd.R_below (tR HO_201000) hb); replace HO242 := Aside0.mk (Kd.R_below (tR HO242) hb); have BK253 := Aside0.mk (hbox); have GW253 := gW HB hg; have GE253 := gW HB hg; replace HB := bH HB hb; have NB200_253 := nL BK200 hg; have NB253_200 := nR BK200 hg; replace BK200 := bB BK200 hb; have NB202_253 := nL BK202 hg; have NB253_202 := nR BK202 hg; replace BK202 := bB BK202 hb; have NB243_253 := nL BK243 hg; have NB253_243 := nR BK243 hg; replace BK243 := bB BK243 hb; have NB252_253 := nL BK252 hg; have NB253_252 := nR BK252 hg; replace BK252 := bB BK252 hb; clear hb hbox hg; have hnb107 := NB252_200.out; have hnc107 := NB200_252.out; have hnb108 := NB252_202.out; have hnc108 := NB202_252.out; have hnb109 := NB252_243.out; have hnc109 := NB243_252.out; have hnb110 := NB252_253.out; have hnc110 := NB253_252.out; obtain ⟨hcz111_0, hcz111_1, hcz111_2, hfz111_0, hfz111_1, hfz111_2⟩ := bc3 BK252.out; have hnb112 := NB253_200.out; have hnc112 := NB200_253.out; have hnb113 := NB253_202.out; have hnc113 := NB202_253.out; have hnb114 := NB253_243.out; have hnc114 := NB243_253.out; obtain ⟨hcz115_0, hcz115_1, hcz115_2, hcz115_3, hfz115_0, hfz115_1, hfz115_2, hfz115_3⟩ := bc4 BK253.out))
         have n0_ : Aside0 (Kd.R k58 58 (((((((w106.setCell ⟨gb252, 0, none⟩ (.int .i64 t244)).setCell ⟨gb252, 1, none⟩ (.int .i64 t245)).setCell ⟨gb252, 2, none⟩ (.int .i64 t246)).setCell ⟨gb253, 0, none⟩ (.int .i64 t247)).setCell ⟨gb253, 1, none⟩ (.int .i64 t248)).setCell ⟨gb253, 2, none⟩ (.int .i64 t249)).setCell ⟨gb253, 3, none⟩ (.int .i64 t250)) w.heap.size (fun k_ => k_ ≠ gb253) (.slice Ao91 x5_1.length co91) x5_1) := ⟨by (with_reducible repeat (first | apply Kd.R_alloc | apply Kd.R_drewN | apply Kd.R_drew)); exact Kd.R_mono (Kd.R_far (p := ⟨gb253, 3, none⟩) (Kd.R_far (p := ⟨gb253, 2, none⟩) (Kd.R_far (p := ⟨gb253, 1, none⟩) (Kd.R_far (p := ⟨gb253, 0, none⟩) (Kd.R_far (p := ⟨gb252, 2, none⟩) (Kd.R_far (p := ⟨gb252, 1, none⟩) (Kd.R_far (p := ⟨gb252, 0, none⟩) (Kd.R_mono (Kd.R_types HO_5.out BK252.out (by decide)) (fun k_ hk => (⟨hk, hk.1.2⟩ : _ ∧ k_ ≠ gb253))) (fun _ hk => hk.1.2) (.int .i64 t244)) (fun _ hk => hk.1.2) (.int .i64 t245)) (fun _ hk => hk.1.2) (.int .i64 t246)) (fun _ hk => hk.2) (.int .i64 t247)) (fun _ hk => hk.2) (.int .i64 t248)) (fun _ hk => hk.2) (.int .i64 t249)) (fun _ hk => hk.2) (.int .i64 t250)) (fun _ hk => hk.1.1.2)⟩
         have n1_ : Aside0 (Kd.R (Kd.int .i64) 3 (((((((w106.setCell ⟨gb252, 0, none⟩ (.int .i64 t244)).setCell ⟨gb252, 1, none⟩ (.int .i64 t245)).setCell ⟨gb252, 2, none⟩ (.int .i64 t246)).setCell ⟨gb253, 0, none⟩ (.int .i64 t247)).setCell ⟨gb253, 1, none⟩ (.int .i64 t248)).setCell ⟨gb253, 2, none⟩ (.int .i64 t249)).setCell ⟨gb253, 3, none⟩ (.int .i64 t250)) w.heap.size (fun k_ => some k_ ≠ (.slice Ao98 y240.length co98 : Value).ownBlock) (.slice Ao97 x201000_1.length co97) x201000_1) := ⟨by (with_reducible repeat (first | apply Kd.R_alloc | apply Kd.R_drewN | apply Kd.R_drew)); exact Kd.R_mono (Kd.R_far (p := ⟨gb253, 3, none⟩) (Kd.R_far (p := ⟨gb253, 2, none⟩) (Kd.R_far (p := ⟨gb253, 1, none⟩) (Kd.R_far (p := ⟨gb253, 0, none⟩) (Kd.R_far (p := ⟨gb252, 2, none⟩) (Kd.R_far (p := ⟨gb252, 1, none⟩) (Kd.R_far (p := ⟨gb252, 0, none⟩) (Kd.R_types (Kd.R_types HO_201000.out BK252.out (by decide)) BK253.out (by decide)) (fun _ hk => hk.1.2) (.int .i64 t244)) (fun _ hk => hk.1.2) (.int .i64 t245)) (fun _ hk => hk.1.2) (.int .i64 t246)) (fun _ hk => hk.2) (.int .i64 t247)) (fun _ hk => hk.2) (.int .i64 t248)) (fun _ hk => hk.2) (.int .i64 t249)) (fun _ hk => hk.2) (.int .i64 t250)) (fun _ hk => hk.1.1.2)⟩
         have n2_ : Aside0 (Kd.R (Kd.int .i64) 3 (((((((w106.setCell ⟨gb252, 0, none⟩ (.int .i64 t244)).setCell ⟨gb252, 1, none⟩ (.int .i64 t245)).setCell ⟨gb252, 2, none⟩ (.int .i64 t246)).setCell ⟨gb253, 0, none⟩ (.int .i64 t247)).setCell ⟨gb253, 1, none⟩ (.int .i64 t248)).setCell ⟨gb253, 2, none⟩ (.int .i64 t249)).setCell ⟨gb253, 3, none⟩ (.int .i64 t250)) w.heap.size (fun k_ => some k_ ≠ (.slice Ao97 x201000_1.length co97 : Value).ownBlock) (.slice Ao98 y240.length co98) y240) := ⟨by (with_reducible repeat (first | apply Kd.R_alloc | apply Kd.R_drewN | apply Kd.R_drew)); exact Kd.R_mono (Kd.R_far (p := ⟨gb253, 3, none⟩) (Kd.R_far (p := ⟨gb253, 2, none⟩) (Kd.R_far (p := ⟨gb253, 1, none⟩) (Kd.R_far (p := ⟨gb253, 0, none⟩) (Kd.R_far (p := ⟨gb252, 2, none⟩) (Kd.R_far (p := ⟨gb252, 1, none⟩) (Kd.R_far (p := ⟨gb252, 0, none⟩) (Kd.R_types (Kd.R_types HO242.out BK252.out (by decide)) BK253.out (by decide)) (fun _ hk => hk.1.2) (.int .i64 t244)) (fun _ hk => hk.1.2) (.int .i64 t245)) (fun _ hk => hk.1.2) (.int .i64 t246)) (fun _ hk => hk.2) (.int .i64 t247)) (fun _ hk => hk.2) (.int .i64 t248)) (fun _ hk => hk.2) (.int .i64 t249)) (fun _ hk => hk.2) (.int .i64 t250)) (fun _ hk => hk.1.1)⟩
         have n3_ : Aside0 ((((((((w106.setCell ⟨gb252, 0, none⟩ (.int .i64 t244)).setCell ⟨gb252, 1, none⟩ (.int .i64 t245)).setCell ⟨gb252, 2, none⟩ (.int .i64 t246)).setCell ⟨gb253, 0, none⟩ (.int .i64 t247)).setCell ⟨gb253, 1, none⟩ (.int .i64 t248)).setCell ⟨gb253, 2, none⟩ (.int .i64 t249)).setCell ⟨gb253, 3, none⟩ (.int .i64 t250)).heap[gb200]? = some (.cells #[.slice Ao97 x201000_1.length co97] 45 (0, 0))) := ⟨by (with_reducible repeat (first | refine blk_drewN ?_ _ | refine blk_drew ?_ | refine blk_alloc ?_ _)); refine blk_far ?_ NB200_253.out _; (with_reducible repeat (first | refine blk_drewN ?_ _ | refine blk_drew ?_ | refine blk_alloc ?_ _)); refine blk_far ?_ NB200_253.out _; (with_reducible repeat (first | refine blk_drewN ?_ _ | refine blk_drew ?_ | refine blk_alloc ?_ _)); refine blk_far ?_ NB200_253.out _; (with_reducible repeat (first | refine blk_drewN ?_ _ | refine blk_drew ?_ | refine blk_alloc ?_ _)); refine blk_far ?_ NB200_253.out _; (with_reducible repeat (first | refine blk_drewN ?_ _ | refine blk_drew ?_ | refine blk_alloc ?_ _)); refine blk_far ?_ NB200_252.out _; (with_reducible repeat (first | refine blk_drewN ?_ _ | refine blk_drew ?_ | refine blk_alloc ?_ _)); refine blk_far ?_ NB200_252.out _; (with_reducible repeat (first | refine blk_drewN ?_ _ | refine blk_drew ?_ | refine blk_alloc ?_ _)); refine blk_far ?_ NB200_252.out _; (with_reducible repeat (first | refine blk_drewN ?_ _ | refine blk_drew ?_ | refine blk_alloc ?_ _)); exact BK200.out⟩
         have n4_ : Aside0 ((((((((w106.setCell ⟨gb252, 0, none⟩ (.int .i64 t244)).setCell ⟨gb252, 1, none⟩ (.int .i64 t245)).setCell ⟨gb252, 2, none⟩ (.int .i64 t246)).setCell ⟨gb253, 0, none⟩ (.int .i64 t247)).setCell ⟨gb253, 1, none⟩ (.int .i64 t248)).setCell ⟨gb253, 2, none⟩ (.int .i64 t249)).setCell ⟨gb253, 3, none⟩ (.int .i64 t250)).heap[gb202]? = some (.cells #[.int .i64 x203000_1, .int .i64 x203001_1, .int .i64 x203002_1] 56 (0, 0))) := ⟨by (with_reducible repeat (first | refine blk_drewN ?_ _ | refine blk_drew ?_ | refine blk_alloc ?_ _)); refine blk_far ?_ NB202_253.out _; (with_reducible repeat (first | refine blk_drewN ?_ _ | refine blk_drew ?_ | refine blk_alloc ?_ _)); refine blk_far ?_ NB202_253.out _; (with_reducible repeat (first | refine blk_drewN ?_ _ | refine blk_drew ?_ | refine blk_alloc ?_ _)); refine blk_far ?_ NB202_253.out _; (with_reducible repeat (first | refine blk_drewN ?_ _ | refine blk_drew ?_ | refine blk_alloc ?_ _)); refine blk_far ?_ NB202_253.out _; (with_reducible repeat (first | refine blk_drewN ?_ _ | refine blk_drew ?_ | refine blk_alloc ?_ _)); refine blk_far ?_ NB202_252.out _; (with_reducible repeat (first | refine blk_drewN ?_ _ | refine blk_drew ?_ | refine blk_alloc ?_ _)); refine blk_far ?_ NB202_252.out _; (with_reducible repeat (first | refine blk_drewN ?_ _ | refine blk_drew ?_ | refine blk_alloc ?_ _)); refine blk_far ?_ NB202_252.out _; (with_reducible repeat (first | refine blk_drewN ?_ _ | refine blk_drew ?_ | refine blk_alloc ?_ _)); exact BK202.out⟩
         have n5_ : Aside0 ((((((((w106.setCell ⟨gb252, 0, none⟩ (.int .i64 t244)).setCell ⟨gb252, 1, none⟩ (.int .i64 t245)).setCell ⟨gb252, 2, none⟩ (.int .i64 t246)).setCell ⟨gb253, 0, none⟩ (.int .i64 t247)).setCell ⟨gb253, 1, none⟩ (.int .i64 t248)).setCell ⟨gb253, 2, none⟩ (.int .i64 t249)).setCell ⟨gb253, 3, none⟩ (.int .i64 t250)).heap[gb243]? = some (.cells #[.slice Ao98 y240.length co98] 45 (0, 0))) := ⟨by (with_reducible repeat (first | refine blk_drewN ?_ _ | refine blk_drew ?_ | refine blk_alloc ?_ _)); refine blk_far ?_ NB243_253.out _; (with_reducible repeat (first | refine blk_drewN ?_ _ | refine blk_drew ?_ | refine blk_alloc ?_ _)); refine blk_far ?_ NB243_253.out _; (with_reducible repeat (first | refine blk_drewN ?_ _ | refine blk_drew ?_ | refine blk_alloc ?_ _)); refine blk_far ?_ NB243_253.out _; (with_reducible repeat (first | refine blk_drewN ?_ _ | refine blk_drew ?_ | refine blk_alloc ?_ _)); refine blk_far ?_ NB243_253.out _; (with_reducible repeat (first | refine blk_drewN ?_ _ | refine blk_drew ?_ | refine blk_alloc ?_ _)); refine blk_far ?_ NB243_252.out _; (with_reducible repeat (first | refine blk_drewN ?_ _ | refine blk_drew ?_ | refine blk_alloc ?_ _)); refine blk_far ?_ NB243_252.out _; (with_reducible repeat (first | refine blk_drewN ?_ _ | refine blk_drew ?_ | refine blk_alloc ?_ _)); refine blk_far ?_ NB243_252.out _; (with_reducible repeat (first | refine blk_drewN ?_ _ | refine blk_drew ?_ | refine blk_alloc ?_ _)); exact BK243.out⟩
         have n6_ : Aside0 ((((((((w106.setCell ⟨gb252, 0, none⟩ (.int .i64 t244)).setCell ⟨gb252, 1, none⟩ (.int .i64 t245)).setCell ⟨gb252, 2, none⟩ (.int .i64 t246)).setCell ⟨gb253, 0, none⟩ (.int .i64 t247)).setCell ⟨gb253, 1, none⟩ (.int .i64 t248)).setCell ⟨gb253, 2, none⟩ (.int .i64 t249)).setCell ⟨gb253, 3, none⟩ (.int .i64 t250)).heap[gb252]? = some (.cells #[.int .i64 t244, .int .i64 t245, .int .i64 t246] 56 (0, 0))) := ⟨by (with_reducible repeat (first | refine blk_drewN ?_ _ | refine blk_drew ?_ | refine blk_alloc ?_ _)); refine blk_far ?_ NB252_253.out _; (with_reducible repeat (first | refine blk_drewN ?_ _ | refine blk_drew ?_ | refine blk_alloc ?_ _)); refine blk_far ?_ NB252_253.out _; (with_reducible repeat (first | refine blk_drewN ?_ _ | refine blk_drew ?_ | refine blk_alloc ?_ _)); refine blk_far ?_ NB252_253.out _; (with_reducible repeat (first | refine blk_drewN ?_ _ | refine blk_drew ?_ | refine blk_alloc ?_ _)); refine blk_far ?_ NB252_253.out _; (with_reducible repeat (first | refine blk_drewN ?_ _ | refine blk_drew ?_ | refine blk_alloc ?_ _)); refine blk_put (cs := #[.int .i64 t244, .int .i64 t245, .int .i64 0]) ?_ 2 _ rfl; (with_reducible repeat (first | refine blk_drewN ?_ _ | refine blk_drew ?_ | refine blk_alloc ?_ _)); refine blk_put (cs := #[.int .i64 t244, .int .i64 0, .int .i64 0]) ?_ 1 _ rfl; (with_reducible repeat (first | refine blk_drewN ?_ _ | refine blk_drew ?_ | refine blk_alloc ?_ _)); refine blk_put (cs := #[.int .i64 0, .int .i64 0, .int .i64 0]) ?_ 0 _ rfl; (with_reducible repeat (first | refine blk_drewN ?_ _ | refine blk_drew ?_ | refine blk_alloc ?_ _)); exact BK252.out⟩
         have n7_ : Aside0 ((((((((w106.setCell ⟨gb252, 0, none⟩ (.int .i64 t244)).setCell ⟨gb252, 1, none⟩ (.int .i64 t245)).setCell ⟨gb252, 2, none⟩ (.int .i64 t246)).setCell ⟨gb253, 0, none⟩ (.int .i64 t247)).setCell ⟨gb253, 1, none⟩ (.int .i64 t248)).setCell ⟨gb253, 2, none⟩ (.int .i64 t249)).setCell ⟨gb253, 3, none⟩ (.int .i64 t250)).heap[gb253]? = some (.cells #[.int .i64 t247, .int .i64 t248, .int .i64 t249, .int .i64 t250] 58 (0, 0))) := ⟨by (with_reducible repeat (first | refine blk_drewN ?_ _ | refine blk_drew ?_ | refine blk_alloc ?_ _)); refine blk_put (cs := #[.int .i64 t247, .int .i64 t248, .int .i64 t249, .int .i64 0]) ?_ 3 _ rfl; (with_reducible repeat (first | refine blk_drewN ?_ _ | refine blk_drew ?_ | refine blk_alloc ?_ _)); refine blk_put (cs := #[.int .i64 t247, .int .i64 t248, .int .i64 0, .int .i64 0]) ?_ 2 _ rfl; (with_reducible repeat (first | refine blk_drewN ?_ _ | refine blk_drew ?_ | refine blk_alloc ?_ _)); refine blk_put (cs := #[.int .i64 t247, .int .i64 0, .int .i64 0, .int .i64 0]) ?_ 1 _ rfl; (with_reducible repeat (first | refine blk_drewN ?_ _ | refine blk_drew ?_ | refine blk_alloc ?_ _)); refine blk_put (cs := #[.int .i64 0, .int .i64 0, .int .i64 0, .int .i64 0]) ?_ 0 _ rfl; exact kF NB253_252 BK253⟩
         have n8_ : Aside0 (Below w.heap.size w (((((((w106.setCell ⟨gb252, 0, none⟩ (.int .i64 t244)).setCell ⟨gb252, 1, none⟩ (.int .i64 t245)).setCell ⟨gb252, 2, none⟩ (.int .i64 t246)).setCell ⟨gb253, 0, none⟩ (.int .i64 t247)).setCell ⟨gb253, 1, none⟩ (.int .i64 t248)).setCell ⟨gb253, 2, none⟩ (.int .i64 t249)).setCell ⟨gb253, 3, none⟩ (.int .i64 t250))) := ⟨tB⟩
         (try clear HO_5)
         (try clear HO_201000)
         (try clear HO242)
         (try clear BK200)
         (try clear BK202)
         (try clear BK243)
         (try clear BK252)
         (try clear BK253)
         (try clear HB)
         generalize (((((((w106.setCell ⟨gb252, 0, none⟩ (.int .i64 t244)).setCell ⟨gb252, 1, none⟩ (.int .i64 t245)).setCell ⟨gb252, 2, none⟩ (.int .i64 t246)).setCell ⟨gb253, 0, none⟩ (.int .i64 t247)).setCell ⟨gb253, 1, none⟩ (.int .i64 t248)).setCell ⟨gb253, 2, none⟩ (.int .i64 t249)).setCell ⟨gb253, 3, none⟩ (.int .i64 t250)) = w116 at n0_ n1_ n2_ n3_ n4_ n5_ n6_ n7_ n8_ ⊢
         have HO_5 := n0_
         have HO_201000 := n1_
         have HO242 := n2_
         have BK200 := n3_
         have BK202 := n4_
         have BK243 := n5_
         have BK252 := n6_
         have BK253 := n7_
         have HB := n8_
         clear n0_ n1_ n2_ n3_ n4_ n5_ n6_ n7_ n8_
         replace HO_5 := Aside0.mk (Kd.R_drew HO_5.out)
         replace HO_201000 := Aside0.mk (Kd.R_drew HO_201000.out)
         replace HO242 := Aside0.mk (Kd.R_drew HO242.out)
         replace BK200 := Aside0.mk (blk_drew BK200.out)
         replace BK202 := Aside0.mk (blk_drew BK202.out)
         replace BK243 := Aside0.mk (blk_drew BK243.out)
         replace BK252 := Aside0.mk (blk_drew BK252.out)
         replace BK253 := Aside0.mk (blk_drew BK253.out)
         replace HB := Aside0.mk (below_drew1 HB.out)
         refine start_ (n := 30) (S := fun w' => w'.cell? ⟨gb202, 0, none⟩ = some (.int .i64 x203000_1) ∧ w'.cell? ⟨gb202, 1, none⟩ = some (.int .i64 x203001_1) ∧ w'.cell? ⟨gb202, 2, none⟩ = some (.int .i64 x203002_1)) (ds := []) #[N_,N_,N_,N_,N_,N_,N_,N_,N_,N_,N_,N_,N_,N_,N_,N_,N_,N_,N_,N_,N_,N_,N_,N_,N_,N_,N_,N_,N_,N_] (by kernel_rfl) rfl rfl tH (fun hHeld => ?_); refine with_tabW laws_FnPublicLogs.tab26 laws_FnPublicLogs.bits26 (fun HT_ HW_ => ?_)
         generalize w116.drew = w117 at HO_5 HO_201000 HO242 BK200 BK202 BK243 BK252 BK253 HB hHeld ⊢
         refine pure_ (i := 0) (N := some 141) #[Y_,N_,N_,N_,N_,N_,N_,N_,N_,N_,N_,N_,N_,N_,N_,N_,N_,N_,N_,N_,N_,N_,N_,N_,N_,N_,N_,N_,N_,N_] rfl rfl (any_of HT_.out (by kernel_rfl)) (fun _ _ _ h => h) (Or.inl ⟨by rfl, tX⟩) tV ?_
         refine pure_ (i := 1) (N := some 142) #[Y_,Y_,N_,N_,N_,N_,N_,N_,N_,N_,N_,N_,N_,N_,N_,N_,N_,N_,N_,N_,N_,N_,N_,N_,N_,N_,N_,N_,N_,N_] rfl rfl (any_of HT_.out (by kernel_rfl)) (fun _ _ _ h => h) (Or.inl ⟨by rfl, tX⟩) tV ?_
         refine take_ (i := 2) (N := some 143) (v := ?_) (a' := ?_) #[Y_,Y_,Y_,N_,N_,N_,N_,N_,N_,N_,N_,N_,N_,N_,N_,N_,N_,N_,N_,N_,N_,N_,N_,N_,N_,N_,N_,N_,N_,N_] rfl rfl (take_ofW HT_.out HW_.out (by kernel_rfl)) (fun _ _ _ h => h) (Or.inl ⟨by rfl, ?_⟩) hHeld ?_ ?_
         rotate_left
         ·rintro w' ⟨s0, s1, s2⟩
          go_simp
          with_reducible rfl
         rotate_left
         ·simp only [Act.put, List.setIfInBounds_toArray, List.set_cons_zero, List.set_cons_succ, i64_w, i32_w]
          rfl
         refine pure_ (i := 3) (N := some 144) #[Y_,Y_,Y_,Y_,N_,N_,N_,N_,N_,N_,N_,N_,N_,N_,N_,N_,N_,N_,N_,N_,N_,N_,N_,N_,N_,N_,N_,N_,N_,N_] rfl rfl (any_of HT_.out (by kernel_rfl)) (fun _ _ _ h => h) (Or.inl ⟨by rfl, tX⟩) tV ?_
         refine pure_ (i := 4) (N := some 145) #[Y_,Y_,Y_,Y_,Y_,N_,N_,N_,N_,N_,N_,N_,N_,N_,N_,N_,N_,N_,N_,N_,N_,N_,N_,N_,N_,N_,N_,N_,N_,N_] rfl rfl (any_of HT_.out (by kernel_rfl)) (fun _ _ _ h => h) (Or.inl ⟨by rfl, tX⟩) tV ?_
         refine pure_ (i := 5) (N := some 146) #[Y_,Y_,Y_,Y_,Y_,Y_,N_,N_,N_,N_,N_,N_,N_,N_,N_,N_,N_,N_,N_,N_,N_,N_,N_,N_,N_,N_,N_,N_,N_,N_] rfl rfl (any_of HT_.out (by kernel_rfl)) (fun _ _ _ h => h) (Or.inl ⟨by rfl, tX⟩) tV ?_
         refine pure_ (i := 6) (N := some 147) #[Y_,Y_,Y_,Y_,Y_,Y_,Y_,N_,N_,N_,N_,N_,N_,N_,N_,N_,N_,N_,N_,N_,N_,N_,N_,N_,N_,N_,N_,N_,N_,N_] rfl rfl (any_of HT_.out (by kernel_rfl)) (fun _ _ _ h => h) (Or.inl ⟨by rfl, tX⟩) tV ?_
         refine pure_ (i := 7) (N := some 148) #[Y_,Y_,Y_,Y_,Y_,Y_,Y_,Y_,N_,N_,N_,N_,N_,N_,N_,N_,N_,N_,N_,N_,N_,N_,N_,N_,N_,N_,N_,N_,N_,N_] rfl rfl (any_of HT_.out (by kernel_rfl)) (fun _ _ _ h => h) (Or.inl ⟨by rfl, tX⟩) tV ?_
         refine pure_ (i := 8) (N := some 149) #[Y_,Y_,Y_,Y_,Y_,Y_,Y_,Y_,Y_,N_,N_,N_,N_,N_,N_,N_,N_,N_,N_,N_,N_,N_,N_,N_,N_,N_,N_,N_,N_,N_] rfl rfl (any_of HT_.out (by kernel_rfl)) (fun _ _ _ h => h) (Or.inl ⟨by rfl, tX⟩) tV ?_
         refine pure_ (i := 9) (N := some 150) #[Y_,Y_,Y_,Y_,Y_,Y_,Y_,Y_,Y_,Y_,N_,N_,N_,N_,N_,N_,N_,N_,N_,N_,N_,N_,N_,N_,N_,N_,N_,N_,N_,N_] rfl rfl (any_of HT_.out (by kernel_rfl)) (fun _ _ _ h => h) (Or.inl ⟨by rfl, tX⟩) tV ?_
         refine pure_ (i := 10) (N := some 151) (v := undef) (a' := ?_) #[Y_,Y_,Y_,Y_,Y_,Y_,Y_,Y_,Y_,Y_,Y_,N_,N_,N_,N_,N_,N_,N_,N_,N_,N_,N_,N_,N_,N_,N_,N_,N_,N_,N_] rfl rfl (any_of HT_.out (by kernel_rfl)) (fun _ _ _ h => h) (Or.inr ⟨by rfl, rfl⟩) ?_ ?_
         rotate_left
         ·simp only [Act.put, List.setIfInBounds_toArray, List.set_cons_zero, List.set_cons_succ, i64_w, i32_w]
          rfl
         refine pure_ (i := 11) (N := some 152) (v := undef) (a' := ?_) #[Y_,Y_,Y_,Y_,Y_,Y_,Y_,Y_,Y_,Y_,Y_,Y_,N_,N_,N_,N_,N_,N_,N_,N_,N_,N_,N_,N_,N_,N_,N_,N_,N_,N_] rfl rfl (any_of HT_.out (by kernel_rfl)) (fun _ _ _ h => h) (Or.inr ⟨by rfl, rfl⟩) ?_ ?_
         rotate_left
         ·simp only [Act.put, List.setIfInBounds_toArray, List.set_cons_zero, List.set_cons_succ, i64_w, i32_w]
          rfl
         refine pure_ (i := 12) (N := some 153) (v := undef) (a' := ?_) #[Y_,Y_,Y_,Y_,Y_,Y_,Y_,Y_,Y_,Y_,Y_,Y_,Y_,N_,N_,N_,N_,N_,N_,N_,N_,N_,N_,N_,N_,N_,N_,N_,N_,N_] rfl rfl (any_of HT_.out (by kernel_rfl)) (fun _ _ _ h => h) (Or.inr ⟨by rfl, rfl⟩) ?_ ?_
         rotate_left
         ·simp only [Act.put, List.setIfInBounds_toArray, List.set_cons_zero, List.set_cons_succ, i64_w, i32_w]
          rfl
         refine pure_ (i := 13) (N := some 154) (v := undef) (a' := ?_) #[Y_,Y_,Y_,Y_,Y_,Y_,Y_,Y_,Y_,Y_,Y_,Y_,Y_,Y_,N_,N_,N_,N_,N_,N_,N_,N_,N_,N_,N_,N_,N_,N_,N_,N_] rfl rfl (any_of HT_.out (by kernel_rfl)) (fun _ _ _ h => h) (Or.inr ⟨by rfl, rfl⟩) ?_ ?_
         rotate_left
         ·simp only [Act.put, List.setIfInBounds_toArray, List.set_cons_zero, List.set_cons_succ, i64_w, i32_w]
          rfl
         refine pure_ (i := 14) (N := some 155) (v := undef) (a' := ?_) #[Y_,Y_,Y_,Y_,Y_,Y_,Y_,Y_,Y_,Y_,Y_,Y_,Y_,Y_,Y_,N_,N_,N_,N_,N_,N_,N_,N_,N_,N_,N_,N_,N_,N_,N_] rfl rfl (any_of HT_.out (by kernel_rfl)) (fun _ _ _ h => h) (Or.inr ⟨by rfl, rfl⟩) ?_ ?_
         rotate_left
         ·simp only [Act.put, List.setIfInBounds_toArray, List.set_cons_zero, List.set_cons_succ, i64_w, i32_w]
          rfl
         refine pure_ (i := 15) (N := some 156) (v := undef) (a' := ?_) #[Y_,Y_,Y_,Y_,Y_,Y_,Y_,Y_,Y_,Y_,Y_,Y_,Y_,Y_,Y_,Y_,N_,N_,N_,N_,N_,N_,N_,N_,N_,N_,N_,N_,N_,N_] rfl rfl (any_of HT_.out (by kernel_rfl)) (fun _ _ _ h => h) (Or.inr ⟨by rfl, rfl⟩) ?_ ?_
         rotate_left
         ·simp only [Act.put, List.setIfInBounds_toArray, List.set_cons_zero, List.set_cons_succ, i64_w, i32_w]
          rfl
         refine pure_ (i := 16) (N := some 157) (v := undef) (a' := ?_) #[Y_,Y_,Y_,Y_,Y_,Y_,Y_,Y_,Y_,Y_,Y_,Y_,Y_,Y_,Y_,Y_,Y_,N_,N_,N_,N_,N_,N_,N_,N_,N_,N_,N_,N_,N_] rfl rfl (any_of HT_.out (by kernel_rfl)) (fun _ _ _ h => h) (Or.inr ⟨by rfl, rfl⟩) ?_ ?_
         rotate_left
         ·simp only [Act.put, List.setIfInBounds_toArray, List.set_cons_zero, List.set_cons_succ, i64_w, i32_w]
          rfl
         refine pure_ (i := 17) (N := some 158) (v := undef) (a' := ?_) #[Y_,Y_,Y_,Y_,Y_,Y_,Y_,Y_,Y_,Y_,Y_,Y_,Y_,Y_,Y_,Y_,Y_,Y_,N_,N_,N_,N_,N_,N_,N_,N_,N_,N_,N_,N_] rfl rfl (any_of HT_.out (by kernel_rfl)) (fun _ _ _ h => h) (Or.inr ⟨by rfl, rfl⟩) ?_ ?_
         rotate_left
         ·simp only [Act.put, List.setIfInBounds_toArray, List.set_cons_zero, List.set_cons_succ, i64_w, i32_w]
          rfl
         refine pure_ (i := 18) (N := some 159) (v := undef) (a' := ?_) #[Y_,Y_,Y_,Y_,Y_,Y_,Y_,Y_,Y_,Y_,Y_,Y_,Y_,Y_,Y_,Y_,Y_,Y_,Y_,N_,N_,N_,N_,N_,N_,N_,N_,N_,N_,N_] rfl rfl (any_of HT_.out (by kernel_rfl)) (fun _ _ _ h => h) (Or.inr ⟨by rfl, rfl⟩) ?_ ?_
         rotate_left
         ·simp only [Act.put, List.setIfInBounds_toArray, List.set_cons_zero, List.set_cons_succ, i64_w, i32_w]
          rfl
         refine pure_ (i := 19) (N := some 160) #[Y_,Y_,Y_,Y_,Y_,Y_,Y_,Y_,Y_,Y_,Y_,Y_,Y_,Y_,Y_,Y_,Y_,Y_,Y_,Y_,N_,N_,N_,N_,N_,N_,N_,N_,N_,N_] rfl rfl (any_of HT_.out (by kernel_rfl)) (fun _ _ _ h => h) (Or.inl ⟨by rfl, tX⟩) tV ?_
         refine pure_ (i := 20) (N := some 161) #[Y_,Y_,Y_,Y_,Y_,Y_,Y_,Y_,Y_,Y_,Y_,Y_,Y_,Y_,Y_,Y_,Y_,Y_,Y_,Y_,Y_,N_,N_,N_,N_,N_,N_,N_,N_,N_] rfl rfl (any_of HT_.out (by kernel_rfl)) (fun _ _ _ h => h) (Or.inl ⟨by rfl, tX⟩) tV ?_
         refine pure_ (i := 21) (N := some 162) #[Y_,Y_,Y_,Y_,Y_,Y_,Y_,Y_,Y_,Y_,Y_,Y_,Y_,Y_,Y_,Y_,Y_,Y_,Y_,Y_,Y_,Y_,N_,N_,N_,N_,N_,N_,N_,N_] rfl rfl (any_of HT_.out (by kernel_rfl)) (fun _ _ _ h => h) (Or.inl ⟨by rfl, tX⟩) tV ?_
         refine pure_ (i := 22) (N := some 163) #[Y_,Y_,Y_,Y_,Y_,Y_,Y_,Y_,Y_,Y_,Y_,Y_,Y_,Y_,Y_,Y_,Y_,Y_,Y_,Y_,Y_,Y_,Y_,N_,N_,N_,N_,N_,N_,N_] rfl rfl (any_of HT_.out (by kernel_rfl)) (fun _ _ _ h => h) (Or.inl ⟨by rfl, tX⟩) tV ?_
         refine pure_ (i := 23) (N := some 164) #[Y_,Y_,Y_,Y_,Y_,Y_,Y_,Y_,Y_,Y_,Y_,Y_,Y_,Y_,Y_,Y_,Y_,Y_,Y_,Y_,Y_,Y_,Y_,Y_,N_,N_,N_,N_,N_,N_] rfl rfl (any_of HT_.out (by kernel_rfl)) (fun _ _ _ h => h) (Or.inl ⟨by rfl, tX⟩) tV ?_
         refine pure_ (i := 24) (N := some 165) (v := undef) (a' := ?_) #[Y_,Y_,Y_,Y_,Y_,Y_,Y_,Y_,Y_,Y_,Y_,Y_,Y_,Y_,Y_,Y_,Y_,Y_,Y_,Y_,Y_,Y_,Y_,Y_,Y_,N_,N_,N_,N_,N_] rfl rfl (any_of HT_.out (by kernel_rfl)) (fun _ _ _ h => h) (Or.inr ⟨by rfl, rfl⟩) ?_ ?_
         rotate_left
         ·simp only [Act.put, List.setIfInBounds_toArray, List.set_cons_zero, List.set_cons_succ, i64_w, i32_w]
          rfl
         refine pure_ (i := 25) (N := some 166) (v := undef) (a' := ?_) #[Y_,Y_,Y_,Y_,Y_,Y_,Y_,Y_,Y_,Y_,Y_,Y_,Y_,Y_,Y_,Y_,Y_,Y_,Y_,Y_,Y_,Y_,Y_,Y_,Y_,Y_,N_,N_,N_,N_] rfl rfl (any_of HT_.out (by kernel_rfl)) (fun _ _ _ h => h) (Or.inr ⟨by rfl, rfl⟩) ?_ ?_
         rotate_left
         ·simp only [Act.put, List.setIfInBounds_toArray, List.set_cons_zero, List.set_cons_succ, i64_w, i32_w]
          rfl
         refine pure_ (i := 26) (N := some 167) (v := undef) (a' := ?_) #[Y_,Y_,Y_,Y_,Y_,Y_,Y_,Y_,Y_,Y_,Y_,Y_,Y_,Y_,Y_,Y_,Y_,Y_,Y_,Y_,Y_,Y_,Y_,Y_,Y_,Y_,Y_,N_,N_,N_] rfl rfl (any_of HT_.out (by kernel_rfl)) (fun _ _ _ h => h) (Or.inr ⟨by rfl, rfl⟩) ?_ ?_
         rotate_left
         ·simp only [Act.put, List.setIfInBounds_toArray, List.set_cons_zero, List.set_cons_succ, i64_w, i32_w]
          rfl
         refine pure_ (i := 27) (N := some 168) #[Y_,Y_,Y_,Y_,Y_,Y_,Y_,Y_,Y_,Y_,Y_,Y_,Y_,Y_,Y_,Y_,Y_,Y_,Y_,Y_,Y_,Y_,Y_,Y_,Y_,Y_,Y_,Y_,N_,N_] rfl rfl (any_of HT_.out (by kernel_rfl)) (fun _ _ _ h => h) (Or.inl ⟨by rfl, tX⟩) tV ?_
         refine pure_ (i := 28) (N := some 169) #[Y_,Y_,Y_,Y_,Y_,Y_,Y_,Y_,Y_,Y_,Y_,Y_,Y_,Y_,Y_,Y_,Y_,Y_,Y_,Y_,Y_,Y_,Y_,Y_,Y_,Y_,Y_,Y_,Y_,N_] rfl rfl (any_of HT_.out (by kernel_rfl)) (fun _ _ _ h => h) (Or.inl ⟨by rfl, tX⟩) tV ?_
         refine pure_ (i := 29) (N := some 2) #[Y_,Y_,Y_,Y_,Y_,Y_,Y_,Y_,Y_,Y_,Y_,Y_,Y_,Y_,Y_,Y_,Y_,Y_,Y_,Y_,Y_,Y_,Y_,Y_,Y_,Y_,Y_,Y_,Y_,Y_] rfl rfl (any_of HT_.out (by kernel_rfl)) (fun _ _ _ h => h) (Or.inl ⟨by rfl, tX⟩) tV ?_
         refine done_ (done_of HT_.out (by kernel_rfl)) ?_
         try go_wp2
         go_ret
         exact ⟨tE, tB⟩
        replace c90 := Bool.eq_false_iff.mpr c90
        subst c90
        have H1 : (some (t247 == 0 && (t248 == 0 && (t249 == 0 && (t250 == 0))))) = some r := by rw [if_neg (show ¬ (false = true) by decide)] at H; exact H
        clear H
        have H := H1
        clear H1
        obtain rfl := Option.some.inj H
        obtain ⟨Ao118, co118, eo118⟩ := Kd.R_slice HO_5.out
        subst eo118
        try go_wp2_with (first | ((with_reducible refine gate_dst (N := 129) rfl ?_); (try (refine gate_guard (by rfl) ?_; dsimp only)); refine Kd.R_lit (Kd.int .i64) _ 3 ?hg (N := 129) ?hd (xs := ([7] : List Int)) (inner := [.int .i64 7]) (ok := fun _ => True) (okp := fun _ => True) ?hr ?hp (fun _ hk => hk) trivial (Below.refl _ _) (Nat.le_refl _) (by simp) ?_; (case hd => rfl); (case hg => rfl); (case hr => exact tG); (case hp => exact (Reps.one (show Kd.M (Kd.int .i64) _ _ _ 7 [.int .i64 7] from rfl) (Reps.none _ _))); intro v238 w119 ho120 hb hg_ hnew_; clear hg_ hnew_; (first | rw [← Ny237.out] at ho120 | (simp only [Int.reduceToNat] at ho120; rw [← Ny237.out] at ho120)); replace HO_5 := Aside0.mk (Kd.R_below (tR HO_5) hb); have HO239 := Aside0.mk (Kd.R_lower (Kd.R_new' ho120 (Kd.R_lt (tR HO_201000))) (below_size tB)); replace HO_201000 := Aside0.mk (Kd.R_elder' (tR HO_201000) (Kd.R_base ho120) hb); replace BK200 := bB BK200 hb; replace BK202 := bB BK202 hb; replace HB := bH HB hb; clear hb ho120; have hnb121 := NB200_202.out; have hnc121 := NB202_200.out; obtain ⟨hcz122_0, hfz122_0⟩ := bc1 BK200.out; obtain ⟨Ao124, co124, eo124⟩ := Kd.R_slice HO_201000.out; subst eo124) | ((with_reducible refine gate_builtin (b := .append) (xs := #[.tmp 129, .tmp 131]) rfl ?_); (try (refine gate_guard (by rfl) ?_; dsimp only)); at_builtin; refine Kd.R_append_rows (Kd.int .i64) (w0 := w) w.heap.size rfl (.tmp 129) (.tmp 131) 41 3 (.int .i64 0) 8 rfl Try.underlying41 info3 rfl (by decide) (by omega) v238 y237 x201000_1 _ _ _ (fun k_ => some k_ ≠ (.slice Ao124 x201000_1.length co124 : Value).ownBlock) (fun _ => False) rfl rfl ?aO ?aR (fun _ _ h => h) (fun _ h => h.elim) ?aF ?aB ?aS ?aL ?_; (case aR => repeat (first | exact (Kd.R_reads' HO_201000.out).2.2 | (with_reducible refine Kd.C_alloc ?_ _) | (with_reducible refine Kd.C_drewN ?_ _) | (with_reducible refine Kd.C_drew ?_))); (case aB => exact tB); (case aF => exact (fun k_ hk => Kd.fresh' (Kd.R_lt (tR HO_201000)) k_ hk)); (case aO => exact (by (with_reducible repeat (first | apply Kd.R_alloc | apply Kd.R_drewN | apply Kd.R_drew)); exact Kd.R_mono HO239.out (fun _ hk => hk.2))); (case aS => exact (below_size tB)); (case aL => have := LMc86.out; omega); intro v241 w123 ho hb hg hat; rw [← Ny240.out] at ho; replace HO_5 := Aside0.mk (Kd.R_over' (tR HO_5) (Kd.R_typed (tR HO239)) (by decide) hg); replace HO_201000 := Aside0.mk (Kd.R_after (ok := (fun _ => True)) (tR HO_201000) hg hat); replace BK200 := Aside0.mk (blk_grown (g := gb200) (o := .cells #[.slice Ao124 x201000_1.length co124] 45 (0, 0)) (tK BK200) hg (Kd.R_ne HO239.out BK200.out (by decide))); replace BK202 := Aside0.mk (blk_grown (g := gb202) (o := .cells #[.int .i64 x203000_1, .int .i64 x203001_1, .int .i64 x203002_1] 56 (0, 0)) (tK BK202) hg (Kd.R_ne HO239.out BK202.out (by decide))); replace HB := Aside0.mk (hb); have HO242 := Aside0.mk (ho); clear HO239; clear ho hb hg hat; obtain ⟨Ao125, co125, eo125⟩ := Kd.R_slice HO242.out; subst eo125) | ((with_reducible refine gate_dst (N := 13) rfl ?_); (try (refine gate_guard (by rfl) ?_; dsimp only)); refine box_event ?hg (N := 13) ?hd (cs := #[.slice none 0 0]) (t := 45) ?hr ?_; (case hd => rfl); (case hg => rfl); (case hr => exact tG); intro gb243 hg w126 hbox hb; replace HO_5 := Aside0.mk (Kd.R_below (tR HO_5) hb); replace HO_201000 := Aside0.mk (Kd.R_below (tR HO_201000) hb); replace HO242 := Aside0.mk (Kd.R_below (tR HO242) hb); have BK243 := Aside0.mk (hbox); have GW243 := gW HB hg; have GE243 := gW HB hg; replace HB := bH HB hb; have NB200_243 := nL BK200 hg; have NB243_200 := nR BK200 hg; replace BK200 := bB BK200 hb; have NB202_243 := nL BK202 hg; have NB243_202 := nR BK202 hg; replace BK202 := bB BK202 hb; clear hb hbox hg; have hnb127 := NB243_200.out; have hnc127 := NB200_243.out; have hnb128 := NB243_202.out; have hnc128 := NB202_243.out; obtain ⟨hcz129_0, hfz129_0⟩ := bc1 BK243.out; obtain ⟨hcz130_0, hcz130_1, hcz130_2, hfz130_0, hfz130_1, hfz130_2⟩ := bc3 BK202.out) | ((with_reducible refine gate_callee (f := 36) rfl ?_); refine goesL_ (some 137) rfl rfl Try.func36 (by kernel_rfl) rfl #[.agg #[.int .i64 x203000_1, .int .i64 x203001_1, .int .i64 x203002_1], .agg #[.slice Ao125 y240.length co125]] rfl tL ?_; (with_reducible refine (impl_SignHead.calls k2 x203000_1 x203001_1 x203002_1 _ _ y240 t244 t245 t246 t247 t248 t249 t250 false _ ?side1 ?side2 A87.out).mono ?_); (case side1 => refine (Kd.R_reads' (e := 3) (base := w.heap.size) (ok := fun k_ => some k_ ≠ (.slice Ao124 x201000_1.length co124 : Value).ownBlock) (n := y240.length) (c := co125) ?_).2.2; exact (by (with_reducible repeat (first | apply Kd.R_alloc | apply Kd.R_drewN | apply Kd.R_drew)); exact (Kd.R_mono (Kd.R_far (p := ⟨gb243, 0, none⟩) (Kd.R_types HO242.out BK243.out (by decide)) (fun _ hk => hk.2) (.slice Ao125 y240.length co125)) (fun _ h_ => h_.1)))); (case side2 => exact (Kd.R_reads' HO242.out).2.1); rintro e w131 ⟨rfl, hb⟩; refine ⟨_, rfl, ?_⟩; replace HO_5 := Aside0.mk (Kd.R_below (by (with_reducible repeat (first | apply Kd.R_alloc | apply Kd.R_drewN | apply Kd.R_drew)); exact (Kd.R_mono (Kd.R_far (p := ⟨gb243, 0, none⟩) (Kd.R_types HO_5.out BK243.out (by decide)) (fun _ hk => hk.2) (.slice Ao125 y240.length co125)) (fun _ h_ => h_.1))) hb); replace HO_201000 := Aside0.mk (Kd.R_below (by (with_reducible repeat (first | apply Kd.R_alloc | apply Kd.R_drewN | apply Kd.R_drew)); exact (Kd.R_mono (Kd.R_far (p := ⟨gb243, 0, none⟩) (Kd.R_types HO_201000.out BK243.out (by decide)) (fun _ hk => hk.2) (.slice Ao125 y240.length co125)) (fun _ h_ => h_.1))) hb); replace HO242 := Aside0.mk (Kd.R_below (by (with_reducible repeat (first | apply Kd.R_alloc | apply Kd.R_drewN | apply Kd.R_drew)); exact (Kd.R_mono (Kd.R_far (p := ⟨gb243, 0, none⟩) (Kd.R_types HO242.out BK243.out (by decide)) (fun _ hk => hk.2) (.slice Ao125 y240.length co125)) (fun _ h_ => h_.1))) hb); replace BK200 := Aside0.mk (blk_below (g := gb200) (o := .cells #[.slice Ao124 x201000_1.length co124] 45 (0, 0)) (kF NB200_243 BK200) hb); replace BK202 := Aside0.mk (blk_below (g := gb202) (o := .cells #[.int .i64 x203000_1, .int .i64 x203001_1, .int .i64 x203002_1] 56 (0, 0)) (kF NB202_243 BK202) hb); replace BK243 := Aside0.mk (blk_below (g := gb243) (o := .cells #[.slice Ao125 y240.length co125] 45 (0, 0)) (by (with_reducible repeat (first | refine blk_drewN ?_ _ | refine blk_drew ?_ | refine blk_alloc ?_ _)); refine blk_put (cs := #[.slice none 0 0]) ?_ 0 _ rfl; (with_reducible repeat (first | refine blk_drewN ?_ _ | refine blk_drew ?_ | refine blk_alloc ?_ _)); exact BK243.out) hb); replace HB := bH HB hb; (try clear hb); (try clear hb2); (try clear hk); (try clear hi)) | ((with_reducible refine gate_dst (N := 14) rfl ?_); (try (refine gate_guard (by rfl) ?_; dsimp only)); refine box_event ?hg (N := 14) ?hd (cs := #[.int .i64 0, .int .i64 0, .int .i64 0]) (t := 56) ?hr ?_; (case hd => rfl); (case hg => rfl); (case hr => exact tG); intro gb252 hg w132 hbox hb; replace HO_5 := Aside0.mk (Kd.R_below (tR HO_5) hb); replace HO_201000 := Aside0.mk (Kd.R_below (tR HO_201000) hb); replace HO242 := Aside0.mk (Kd.R_below (tR HO242) hb); have BK252 := Aside0.mk (hbox); have GW252 := gW HB hg; have GE252 := gW HB hg; replace HB := bH HB hb; have NB200_252 := nL BK200 hg; have NB252_200 := nR BK200 hg; replace BK200 := bB BK200 hb; have NB202_252 := nL BK202 hg; have NB252_202 := nR BK202 hg; replace BK202 := bB BK202 hb; have NB243_252 := nL BK243 hg; have NB252_243 := nR BK243 hg; replace BK243 := bB BK243 hb; clear hb hbox hg) | ((with_reducible refine gate_dst (N := 15) rfl ?_); (try (refine gate_guard (by rfl) ?_; dsimp only)); refine box_event ?hg (N := 15) ?hd (cs := #[.int .i64 0, .int .i64 0, .int .i64 0, .int .i64 0]) (t := 58) ?hr ?_; (case hd => rfl); (case hg => rfl); (case hr => exact tG); intro gb253 hg w133 hbox hb; replace HO_5 := Aside0.mk (Kd.R_below (Kd.R_elderB (tR HO_5) gb253 (Nat.le_of_eq hg.symm)) hb); replace HO_201000 := Aside0.mk (Kd.R_below (tR HO_201000) hb); replace HO242 := Aside0.mk (Kd.R_below (tR HO242) hb); have BK253 := Aside0.mk (hbox); have GW253 := gW HB hg; have GE253 := gW HB hg; replace HB := bH HB hb; have NB200_253 := nL BK200 hg; have NB253_200 := nR BK200 hg; replace BK200 := bB BK200 hb; have NB202_253 := nL BK202 hg; have NB253_202 := nR BK202 hg; replace BK202 := bB BK202 hb; have NB243_253 := nL BK243 hg; have NB253_243 := nR BK243 hg; replace BK243 := bB BK243 hb; have NB252_253 := nL BK252 hg; have NB253_252 := nR BK252 hg; replace BK252 := bB BK252 hb; clear hb hbox hg; have hnb134 := NB252_200.out; have hnc134 := NB200_252.out; have hnb135 := NB252_202.out; have hnc135 := NB202_252.out; have hnb136 := NB252_243.out; have hnc136 := NB243_252.out; have hnb137 := NB252_253.out; have hnc137 := NB253_252.out; obtain ⟨hcz138_0, hcz138_1, hcz138_2, hfz138_0, hfz138_1, hfz138_2⟩ := bc3 BK252.out; have hnb139 := NB253_200.out; have hnc139 := NB200_253.out; have hnb140 := NB253_202.out; have hnc140 := NB202_253.out; have hnb141 := NB253_243.out; have hnc141 := NB243_253.out; obtain ⟨hcz142_0, hcz142_1, hcz142_2, hcz142_3, hfz142_0, hfz142_1, hfz142_2, hfz142_3⟩ := bc4 BK253.out))
        have n0_ : Aside0 (Kd.R k58 58 (((((((w133.setCell ⟨gb252, 0, none⟩ (.int .i64 t244)).setCell ⟨gb252, 1, none⟩ (.int .i64 t245)).setCell ⟨gb252, 2, none⟩ (.int .i64 t246)).setCell ⟨gb253, 0, none⟩ (.int .i64 t247)).setCell ⟨gb253, 1, none⟩ (.int .i64 t248)).setCell ⟨gb253, 2, none⟩ (.int .i64 t249)).setCell ⟨gb253, 3, none⟩ (.int .i64 t250)) w.heap.size (fun k_ => k_ ≠ gb253) (.slice Ao118 x5_1.length co118) x5_1) := ⟨by (with_reducible repeat (first | apply Kd.R_alloc | apply Kd.R_drewN | apply Kd.R_drew)); exact Kd.R_mono (Kd.R_far (p := ⟨gb253, 3, none⟩) (Kd.R_far (p := ⟨gb253, 2, none⟩) (Kd.R_far (p := ⟨gb253, 1, none⟩) (Kd.R_far (p := ⟨gb253, 0, none⟩) (Kd.R_far (p := ⟨gb252, 2, none⟩) (Kd.R_far (p := ⟨gb252, 1, none⟩) (Kd.R_far (p := ⟨gb252, 0, none⟩) (Kd.R_mono (Kd.R_types HO_5.out BK252.out (by decide)) (fun k_ hk => (⟨hk, hk.1.2⟩ : _ ∧ k_ ≠ gb253))) (fun _ hk => hk.1.2) (.int .i64 t244)) (fun _ hk => hk.1.2) (.int .i64 t245)) (fun _ hk => hk.1.2) (.int .i64 t246)) (fun _ hk => hk.2) (.int .i64 t247)) (fun _ hk => hk.2) (.int .i64 t248)) (fun _ hk => hk.2) (.int .i64 t249)) (fun _ hk => hk.2) (.int .i64 t250)) (fun _ hk => hk.1.1.2)⟩
        have n1_ : Aside0 (Kd.R (Kd.int .i64) 3 (((((((w133.setCell ⟨gb252, 0, none⟩ (.int .i64 t244)).setCell ⟨gb252, 1, none⟩ (.int .i64 t245)).setCell ⟨gb252, 2, none⟩ (.int .i64 t246)).setCell ⟨gb253, 0, none⟩ (.int .i64 t247)).setCell ⟨gb253, 1, none⟩ (.int .i64 t248)).setCell ⟨gb253, 2, none⟩ (.int .i64 t249)).setCell ⟨gb253, 3, none⟩ (.int .i64 t250)) w.heap.size (fun k_ => some k_ ≠ (.slice Ao125 y240.length co125 : Value).ownBlock) (.slice Ao124 x201000_1.length co124) x201000_1) := ⟨by (with_reducible repeat (first | apply Kd.R_alloc | apply Kd.R_drewN | apply Kd.R_drew)); exact Kd.R_mono (Kd.R_far (p := ⟨gb253, 3, none⟩) (Kd.R_far (p := ⟨gb253, 2, none⟩) (Kd.R_far (p := ⟨gb253, 1, none⟩) (Kd.R_far (p := ⟨gb253, 0, none⟩) (Kd.R_far (p := ⟨gb252, 2, none⟩) (Kd.R_far (p := ⟨gb252, 1, none⟩) (Kd.R_far (p := ⟨gb252, 0, none⟩) (Kd.R_types (Kd.R_types HO_201000.out BK252.out (by decide)) BK253.out (by decide)) (fun _ hk => hk.1.2) (.int .i64 t244)) (fun _ hk => hk.1.2) (.int .i64 t245)) (fun _ hk => hk.1.2) (.int .i64 t246)) (fun _ hk => hk.2) (.int .i64 t247)) (fun _ hk => hk.2) (.int .i64 t248)) (fun _ hk => hk.2) (.int .i64 t249)) (fun _ hk => hk.2) (.int .i64 t250)) (fun _ hk => hk.1.1.2)⟩
        have n2_ : Aside0 (Kd.R (Kd.int .i64) 3 (((((((w133.setCell ⟨gb252, 0, none⟩ (.int .i64 t244)).setCell ⟨gb252, 1, none⟩ (.int .i64 t245)).setCell ⟨gb252, 2, none⟩ (.int .i64 t246)).setCell ⟨gb253, 0, none⟩ (.int .i64 t247)).setCell ⟨gb253, 1, none⟩ (.int .i64 t248)).setCell ⟨gb253, 2, none⟩ (.int .i64 t249)).setCell ⟨gb253, 3, none⟩ (.int .i64 t250)) w.heap.size (fun k_ => some k_ ≠ (.slice Ao124 x201000_1.length co124 : Value).ownBlock) (.slice Ao125 y240.length co125) y240) := ⟨by (with_reducible repeat (first | apply Kd.R_alloc | apply Kd.R_drewN | apply Kd.R_drew)); exact Kd.R_mono (Kd.R_far (p := ⟨gb253, 3, none⟩) (Kd.R_far (p := ⟨gb253, 2, none⟩) (Kd.R_far (p := ⟨gb253, 1, none⟩) (Kd.R_far (p := ⟨gb253, 0, none⟩) (Kd.R_far (p := ⟨gb252, 2, none⟩) (Kd.R_far (p := ⟨gb252, 1, none⟩) (Kd.R_far (p := ⟨gb252, 0, none⟩) (Kd.R_types (Kd.R_types HO242.out BK252.out (by decide)) BK253.out (by decide)) (fun _ hk => hk.1.2) (.int .i64 t244)) (fun _ hk => hk.1.2) (.int .i64 t245)) (fun _ hk => hk.1.2) (.int .i64 t246)) (fun _ hk => hk.2) (.int .i64 t247)) (fun _ hk => hk.2) (.int .i64 t248)) (fun _ hk => hk.2) (.int .i64 t249)) (fun _ hk => hk.2) (.int .i64 t250)) (fun _ hk => hk.1.1)⟩
        have n3_ : Aside0 ((((((((w133.setCell ⟨gb252, 0, none⟩ (.int .i64 t244)).setCell ⟨gb252, 1, none⟩ (.int .i64 t245)).setCell ⟨gb252, 2, none⟩ (.int .i64 t246)).setCell ⟨gb253, 0, none⟩ (.int .i64 t247)).setCell ⟨gb253, 1, none⟩ (.int .i64 t248)).setCell ⟨gb253, 2, none⟩ (.int .i64 t249)).setCell ⟨gb253, 3, none⟩ (.int .i64 t250)).heap[gb200]? = some (.cells #[.slice Ao124 x201000_1.length co124] 45 (0, 0))) := ⟨by (with_reducible repeat (first | refine blk_drewN ?_ _ | refine blk_drew ?_ | refine blk_alloc ?_ _)); refine blk_far ?_ NB200_253.out _; (with_reducible repeat (first | refine blk_drewN ?_ _ | refine blk_drew ?_ | refine blk_alloc ?_ _)); refine blk_far ?_ NB200_253.out _; (with_reducible repeat (first | refine blk_drewN ?_ _ | refine blk_drew ?_ | refine blk_alloc ?_ _)); refine blk_far ?_ NB200_253.out _; (with_reducible repeat (first | refine blk_drewN ?_ _ | refine blk_drew ?_ | refine blk_alloc ?_ _)); refine blk_far ?_ NB200_253.out _; (with_reducible repeat (first | refine blk_drewN ?_ _ | refine blk_drew ?_ | refine blk_alloc ?_ _)); refine blk_far ?_ NB200_252.out _; (with_reducible repeat (first | refine blk_drewN ?_ _ | refine blk_drew ?_ | refine blk_alloc ?_ _)); refine blk_far ?_ NB200_252.out _; (with_reducible repeat (first | refine blk_drewN ?_ _ | refine blk_drew ?_ | refine blk_alloc ?_ _)); refine blk_far ?_ NB200_252.out _; (with_reducible repeat (first | refine blk_drewN ?_ _ | refine blk_drew ?_ | refine blk_alloc ?_ _)); exact BK200.out⟩
        have n4_ : Aside0 ((((((((w133.setCell ⟨gb252, 0, none⟩ (.int .i64 t244)).setCell ⟨gb252, 1, none⟩ (.int .i64 t245)).setCell ⟨gb252, 2, none⟩ (.int .i64 t246)).setCell ⟨gb253, 0, none⟩ (.int .i64 t247)).setCell ⟨gb253, 1, none⟩ (.int .i64 t248)).setCell ⟨gb253, 2, none⟩ (.int .i64 t249)).setCell ⟨gb253, 3, none⟩ (.int .i64 t250)).heap[gb202]? = some (.cells #[.int .i64 x203000_1, .int .i64 x203001_1, .int .i64 x203002_1] 56 (0, 0))) := ⟨by (with_reducible repeat (first | refine blk_drewN ?_ _ | refine blk_drew ?_ | refine blk_alloc ?_ _)); refine blk_far ?_ NB202_253.out _; (with_reducible repeat (first | refine blk_drewN ?_ _ | refine blk_drew ?_ | refine blk_alloc ?_ _)); refine blk_far ?_ NB202_253.out _; (with_reducible repeat (first | refine blk_drewN ?_ _ | refine blk_drew ?_ | refine blk_alloc ?_ _)); refine blk_far ?_ NB202_253.out _; (with_reducible repeat (first | refine blk_drewN ?_ _ | refine blk_drew ?_ | refine blk_alloc ?_ _)); refine blk_far ?_ NB202_253.out _; (with_reducible repeat (first | refine blk_drewN ?_ _ | refine blk_drew ?_ | refine blk_alloc ?_ _)); refine blk_far ?_ NB202_252.out _; (with_reducible repeat (first | refine blk_drewN ?_ _ | refine blk_drew ?_ | refine blk_alloc ?_ _)); refine blk_far ?_ NB202_252.out _; (with_reducible repeat (first | refine blk_drewN ?_ _ | refine blk_drew ?_ | refine blk_alloc ?_ _)); refine blk_far ?_ NB202_252.out _; (with_reducible repeat (first | refine blk_drewN ?_ _ | refine blk_drew ?_ | refine blk_alloc ?_ _)); exact BK202.out⟩
        have n5_ : Aside0 ((((((((w133.setCell ⟨gb252, 0, none⟩ (.int .i64 t244)).setCell ⟨gb252, 1, none⟩ (.int .i64 t245)).setCell ⟨gb252, 2, none⟩ (.int .i64 t246)).setCell ⟨gb253, 0, none⟩ (.int .i64 t247)).setCell ⟨gb253, 1, none⟩ (.int .i64 t248)).setCell ⟨gb253, 2, none⟩ (.int .i64 t249)).setCell ⟨gb253, 3, none⟩ (.int .i64 t250)).heap[gb243]? = some (.cells #[.slice Ao125 y240.length co125] 45 (0, 0))) := ⟨by (with_reducible repeat (first | refine blk_drewN ?_ _ | refine blk_drew ?_ | refine blk_alloc ?_ _)); refine blk_far ?_ NB243_253.out _; (with_reducible repeat (first | refine blk_drewN ?_ _ | refine blk_drew ?_ | refine blk_alloc ?_ _)); refine blk_far ?_ NB243_253.out _; (with_reducible repeat (first | refine blk_drewN ?_ _ | refine blk_drew ?_ | refine blk_alloc ?_ _)); refine blk_far ?_ NB243_253.out _; (with_reducible repeat (first | refine blk_drewN ?_ _ | refine blk_drew ?_ | refine blk_alloc ?_ _)); refine blk_far ?_ NB243_253.out _; (with_reducible repeat (first | refine blk_drewN ?_ _ | refine blk_drew ?_ | refine blk_alloc ?_ _)); refine blk_far ?_ NB243_252.out _; (with_reducible repeat (first | refine blk_drewN ?_ _ | refine blk_drew ?_ | refine blk_alloc ?_ _)); refine blk_far ?_ NB243_252.out _; (with_reducible repeat (first | refine blk_drewN ?_ _ | refine blk_drew ?_ | refine blk_alloc ?_ _)); refine blk_far ?_ NB243_252.out _; (with_reducible repeat (first | refine blk_drewN ?_ _ | refine blk_drew ?_ | refine blk_alloc ?_ _)); exact BK243.out⟩
        have n6_ : Aside0 ((((((((w133.setCell ⟨gb252, 0, none⟩ (.int .i64 t244)).setCell ⟨gb252, 1, none⟩ (.int .i64 t245)).setCell ⟨gb252, 2, none⟩ (.int .i64 t246)).setCell ⟨gb253, 0, none⟩ (.int .i64 t247)).setCell ⟨gb253, 1, none⟩ (.int .i64 t248)).setCell ⟨gb253, 2, none⟩ (.int .i64 t249)).setCell ⟨gb253, 3, none⟩ (.int .i64 t250)).heap[gb252]? = some (.cells #[.int .i64 t244, .int .i64 t245, .int .i64 t246] 56 (0, 0))) := ⟨by (with_reducible repeat (first | refine blk_drewN ?_ _ | refine blk_drew ?_ | refine blk_alloc ?_ _)); refine blk_far ?_ NB252_253.out _; (with_reducible repeat (first | refine blk_drewN ?_ _ | refine blk_drew ?_ | refine blk_alloc ?_ _)); refine blk_far ?_ NB252_253.out _; (with_reducible repeat (first | refine blk_drewN ?_ _ | refine blk_drew ?_ | refine blk_alloc ?_ _)); refine blk_far ?_ NB252_253.out _; (with_reducible repeat (first | refine blk_drewN ?_ _ | refine blk_drew ?_ | refine blk_alloc ?_ _)); refine blk_far ?_ NB252_253.out _; (with_reducible repeat (first | refine blk_drewN ?_ _ | refine blk_drew ?_ | refine blk_alloc ?_ _)); refine blk_put (cs := #[.int .i64 t244, .int .i64 t245, .int .i64 0]) ?_ 2 _ rfl; (with_reducible repeat (first | refine blk_drewN ?_ _ | refine blk_drew ?_ | refine blk_alloc ?_ _)); refine blk_put (cs := #[.int .i64 t244, .int .i64 0, .int .i64 0]) ?_ 1 _ rfl; (with_reducible repeat (first | refine blk_drewN ?_ _ | refine blk_drew ?_ | refine blk_alloc ?_ _)); refine blk_put (cs := #[.int .i64 0, .int .i64 0, .int .i64 0]) ?_ 0 _ rfl; (with_reducible repeat (first | refine blk_drewN ?_ _ | refine blk_drew ?_ | refine blk_alloc ?_ _)); exact BK252.out⟩
        have n7_ : Aside0 ((((((((w133.setCell ⟨gb252, 0, none⟩ (.int .i64 t244)).setCell ⟨gb252, 1, none⟩ (.int .i64 t245)).setCell ⟨gb252, 2, none⟩ (.int .i64 t246)).setCell ⟨gb253, 0, none⟩ (.int .i64 t247)).setCell ⟨gb253, 1, none⟩ (.int .i64 t248)).setCell ⟨gb253, 2, none⟩ (.int .i64 t249)).setCell ⟨gb253, 3, none⟩ (.int .i64 t250)).heap[gb253]? = some (.cells #[.int .i64 t247, .int .i64 t248, .int .i64 t249, .int .i64 t250] 58 (0, 0))) := ⟨by (with_reducible repeat (first | refine blk_drewN ?_ _ | refine blk_drew ?_ | refine blk_alloc ?_ _)); refine blk_put (cs := #[.int .i64 t247, .int .i64 t248, .int .i64 t249, .int .i64 0]) ?_ 3 _ rfl; (with_reducible repeat (first | refine blk_drewN ?_ _ | refine blk_drew ?_ | refine blk_alloc ?_ _)); refine blk_put (cs := #[.int .i64 t247, .int .i64 t248, .int .i64 0, .int .i64 0]) ?_ 2 _ rfl; (with_reducible repeat (first | refine blk_drewN ?_ _ | refine blk_drew ?_ | refine blk_alloc ?_ _)); refine blk_put (cs := #[.int .i64 t247, .int .i64 0, .int .i64 0, .int .i64 0]) ?_ 1 _ rfl; (with_reducible repeat (first | refine blk_drewN ?_ _ | refine blk_drew ?_ | refine blk_alloc ?_ _)); refine blk_put (cs := #[.int .i64 0, .int .i64 0, .int .i64 0, .int .i64 0]) ?_ 0 _ rfl; exact kF NB253_252 BK253⟩
        have n8_ : Aside0 (Below w.heap.size w (((((((w133.setCell ⟨gb252, 0, none⟩ (.int .i64 t244)).setCell ⟨gb252, 1, none⟩ (.int .i64 t245)).setCell ⟨gb252, 2, none⟩ (.int .i64 t246)).setCell ⟨gb253, 0, none⟩ (.int .i64 t247)).setCell ⟨gb253, 1, none⟩ (.int .i64 t248)).setCell ⟨gb253, 2, none⟩ (.int .i64 t249)).setCell ⟨gb253, 3, none⟩ (.int .i64 t250))) := ⟨tB⟩
        (try clear HO_5)
        (try clear HO_201000)
        (try clear HO242)
        (try clear BK200)
        (try clear BK202)
        (try clear BK243)
        (try clear BK252)
        (try clear BK253)
        (try clear HB)
        generalize (((((((w133.setCell ⟨gb252, 0, none⟩ (.int .i64 t244)).setCell ⟨gb252, 1, none⟩ (.int .i64 t245)).setCell ⟨gb252, 2, none⟩ (.int .i64 t246)).setCell ⟨gb253, 0, none⟩ (.int .i64 t247)).setCell ⟨gb253, 1, none⟩ (.int .i64 t248)).setCell ⟨gb253, 2, none⟩ (.int .i64 t249)).setCell ⟨gb253, 3, none⟩ (.int .i64 t250)) = w143 at n0_ n1_ n2_ n3_ n4_ n5_ n6_ n7_ n8_ ⊢
        have HO_5 := n0_
        have HO_201000 := n1_
        have HO242 := n2_
        have BK200 := n3_
        have BK202 := n4_
        have BK243 := n5_
        have BK252 := n6_
        have BK253 := n7_
        have HB := n8_
        clear n0_ n1_ n2_ n3_ n4_ n5_ n6_ n7_ n8_
        replace HO_5 := Aside0.mk (Kd.R_drew HO_5.out)
        replace HO_201000 := Aside0.mk (Kd.R_drew HO_201000.out)
        replace HO242 := Aside0.mk (Kd.R_drew HO242.out)
        replace BK200 := Aside0.mk (blk_drew BK200.out)
        replace BK202 := Aside0.mk (blk_drew BK202.out)
        replace BK243 := Aside0.mk (blk_drew BK243.out)
        replace BK252 := Aside0.mk (blk_drew BK252.out)
        replace BK253 := Aside0.mk (blk_drew BK253.out)
        replace HB := Aside0.mk (below_drew1 HB.out)
        refine start_ (n := 30) (S := fun w' => w'.cell? ⟨gb202, 0, none⟩ = some (.int .i64 x203000_1) ∧ w'.cell? ⟨gb202, 1, none⟩ = some (.int .i64 x203001_1) ∧ w'.cell? ⟨gb202, 2, none⟩ = some (.int .i64 x203002_1) ∧ w'.cell? ⟨gb253, 0, none⟩ = some (.int .i64 t247) ∧ w'.cell? ⟨gb253, 1, none⟩ = some (.int .i64 t248) ∧ w'.cell? ⟨gb253, 2, none⟩ = some (.int .i64 t249) ∧ w'.cell? ⟨gb253, 3, none⟩ = some (.int .i64 t250)) (ds := []) #[N_,N_,N_,N_,N_,N_,N_,N_,N_,N_,N_,N_,N_,N_,N_,N_,N_,N_,N_,N_,N_,N_,N_,N_,N_,N_,N_,N_,N_,N_] (by kernel_rfl) rfl rfl tH (fun hHeld => ?_); refine with_tabW laws_FnPublicLogs.tab26 laws_FnPublicLogs.bits26 (fun HT_ HW_ => ?_)
        generalize w143.drew = w144 at HO_5 HO_201000 HO242 BK200 BK202 BK243 BK252 BK253 HB hHeld ⊢
        refine pure_ (i := 0) (N := some 141) #[Y_,N_,N_,N_,N_,N_,N_,N_,N_,N_,N_,N_,N_,N_,N_,N_,N_,N_,N_,N_,N_,N_,N_,N_,N_,N_,N_,N_,N_,N_] rfl rfl (any_of HT_.out (by kernel_rfl)) (fun _ _ _ h => h) (Or.inl ⟨by rfl, tX⟩) tV ?_
        refine pure_ (i := 1) (N := some 142) #[Y_,Y_,N_,N_,N_,N_,N_,N_,N_,N_,N_,N_,N_,N_,N_,N_,N_,N_,N_,N_,N_,N_,N_,N_,N_,N_,N_,N_,N_,N_] rfl rfl (any_of HT_.out (by kernel_rfl)) (fun _ _ _ h => h) (Or.inl ⟨by rfl, tX⟩) tV ?_
        refine take_ (i := 2) (N := some 143) (v := ?_) (a' := ?_) #[Y_,Y_,Y_,N_,N_,N_,N_,N_,N_,N_,N_,N_,N_,N_,N_,N_,N_,N_,N_,N_,N_,N_,N_,N_,N_,N_,N_,N_,N_,N_] rfl rfl (take_ofW HT_.out HW_.out (by kernel_rfl)) (fun _ _ _ h => h) (Or.inl ⟨by rfl, ?_⟩) hHeld ?_ ?_
        rotate_left
        ·rintro w' ⟨s0, s1, s2, s3, s4, s5, s6⟩
         go_simp
         with_reducible rfl
        rotate_left
        ·simp only [Act.put, List.setIfInBounds_toArray, List.set_cons_zero, List.set_cons_succ, i64_w, i32_w]
         rfl
        refine pure_ (i := 3) (N := some 144) #[Y_,Y_,Y_,Y_,N_,N_,N_,N_,N_,N_,N_,N_,N_,N_,N_,N_,N_,N_,N_,N_,N_,N_,N_,N_,N_,N_,N_,N_,N_,N_] rfl rfl (any_of HT_.out (by kernel_rfl)) (fun _ _ _ h => h) (Or.inl ⟨by rfl, tX⟩) tV ?_
        refine pure_ (i := 4) (N := some 145) #[Y_,Y_,Y_,Y_,Y_,N_,N_,N_,N_,N_,N_,N_,N_,N_,N_,N_,N_,N_,N_,N_,N_,N_,N_,N_,N_,N_,N_,N_,N_,N_] rfl rfl (any_of HT_.out (by kernel_rfl)) (fun _ _ _ h => h) (Or.inl ⟨by rfl, tX⟩) tV ?_
        refine pure_ (i := 5) (N := some 146) #[Y_,Y_,Y_,Y_,Y_,Y_,N_,N_,N_,N_,N_,N_,N_,N_,N_,N_,N_,N_,N_,N_,N_,N_,N_,N_,N_,N_,N_,N_,N_,N_] rfl rfl (any_of HT_.out (by kernel_rfl)) (fun _ _ _ h => h) (Or.inl ⟨by rfl, tX⟩) tV ?_
        refine pure_ (i := 6) (N := some 147) #[Y_,Y_,Y_,Y_,Y_,Y_,Y_,N_,N_,N_,N_,N_,N_,N_,N_,N_,N_,N_,N_,N_,N_,N_,N_,N_,N_,N_,N_,N_,N_,N_] rfl rfl (any_of HT_.out (by kernel_rfl)) (fun _ _ _ h => h) (Or.inl ⟨by rfl, tX⟩) tV ?_
        refine pure_ (i := 7) (N := some 148) #[Y_,Y_,Y_,Y_,Y_,Y_,Y_,Y_,N_,N_,N_,N_,N_,N_,N_,N_,N_,N_,N_,N_,N_,N_,N_,N_,N_,N_,N_,N_,N_,N_] rfl rfl (any_of HT_.out (by kernel_rfl)) (fun _ _ _ h => h) (Or.inl ⟨by rfl, tX⟩) tV ?_
        refine pure_ (i := 8) (N := some 149) #[Y_,Y_,Y_,Y_,Y_,Y_,Y_,Y_,Y_,N_,N_,N_,N_,N_,N_,N_,N_,N_,N_,N_,N_,N_,N_,N_,N_,N_,N_,N_,N_,N_] rfl rfl (any_of HT_.out (by kernel_rfl)) (fun _ _ _ h => h) (Or.inl ⟨by rfl, tX⟩) tV ?_
        refine pure_ (i := 9) (N := some 150) #[Y_,Y_,Y_,Y_,Y_,Y_,Y_,Y_,Y_,Y_,N_,N_,N_,N_,N_,N_,N_,N_,N_,N_,N_,N_,N_,N_,N_,N_,N_,N_,N_,N_] rfl rfl (any_of HT_.out (by kernel_rfl)) (fun _ _ _ h => h) (Or.inl ⟨by rfl, tX⟩) tV ?_
        refine pure_ (i := 10) (N := some 151) (v := undef) (a' := ?_) #[Y_,Y_,Y_,Y_,Y_,Y_,Y_,Y_,Y_,Y_,Y_,N_,N_,N_,N_,N_,N_,N_,N_,N_,N_,N_,N_,N_,N_,N_,N_,N_,N_,N_] rfl rfl (any_of HT_.out (by kernel_rfl)) (fun _ _ _ h => h) (Or.inr ⟨by rfl, rfl⟩) ?_ ?_
        rotate_left
        ·simp only [Act.put, List.setIfInBounds_toArray, List.set_cons_zero, List.set_cons_succ, i64_w, i32_w]
         rfl
        refine pure_ (i := 11) (N := some 152) (v := undef) (a' := ?_) #[Y_,Y_,Y_,Y_,Y_,Y_,Y_,Y_,Y_,Y_,Y_,Y_,N_,N_,N_,N_,N_,N_,N_,N_,N_,N_,N_,N_,N_,N_,N_,N_,N_,N_] rfl rfl (any_of HT_.out (by kernel_rfl)) (fun _ _ _ h => h) (Or.inr ⟨by rfl, rfl⟩) ?_ ?_
        rotate_left
        ·simp only [Act.put, List.setIfInBounds_toArray, List.set_cons_zero, List.set_cons_succ, i64_w, i32_w]
         rfl
        refine pure_ (i := 12) (N := some 153) (v := undef) (a' := ?_) #[Y_,Y_,Y_,Y_,Y_,Y_,Y_,Y_,Y_,Y_,Y_,Y_,Y_,N_,N_,N_,N_,N_,N_,N_,N_,N_,N_,N_,N_,N_,N_,N_,N_,N_] rfl rfl (any_of HT_.out (by kernel_rfl)) (fun _ _ _ h => h) (Or.inr ⟨by rfl, rfl⟩) ?_ ?_
        rotate_left
        ·simp only [Act.put, List.setIfInBounds_toArray, List.set_cons_zero, List.set_cons_succ, i64_w, i32_w]
         rfl
        refine pure_ (i := 13) (N := some 154) (v := undef) (a' := ?_) #[Y_,Y_,Y_,Y_,Y_,Y_,Y_,Y_,Y_,Y_,Y_,Y_,Y_,Y_,N_,N_,N_,N_,N_,N_,N_,N_,N_,N_,N_,N_,N_,N_,N_,N_] rfl rfl (any_of HT_.out (by kernel_rfl)) (fun _ _ _ h => h) (Or.inr ⟨by rfl, rfl⟩) ?_ ?_
        rotate_left
        ·simp only [Act.put, List.setIfInBounds_toArray, List.set_cons_zero, List.set_cons_succ, i64_w, i32_w]
         rfl
        refine pure_ (i := 14) (N := some 155) (v := undef) (a' := ?_) #[Y_,Y_,Y_,Y_,Y_,Y_,Y_,Y_,Y_,Y_,Y_,Y_,Y_,Y_,Y_,N_,N_,N_,N_,N_,N_,N_,N_,N_,N_,N_,N_,N_,N_,N_] rfl rfl (any_of HT_.out (by kernel_rfl)) (fun _ _ _ h => h) (Or.inr ⟨by rfl, rfl⟩) ?_ ?_
        rotate_left
        ·simp only [Act.put, List.setIfInBounds_toArray, List.set_cons_zero, List.set_cons_succ, i64_w, i32_w]
         rfl
        refine pure_ (i := 15) (N := some 156) (v := undef) (a' := ?_) #[Y_,Y_,Y_,Y_,Y_,Y_,Y_,Y_,Y_,Y_,Y_,Y_,Y_,Y_,Y_,Y_,N_,N_,N_,N_,N_,N_,N_,N_,N_,N_,N_,N_,N_,N_] rfl rfl (any_of HT_.out (by kernel_rfl)) (fun _ _ _ h => h) (Or.inr ⟨by rfl, rfl⟩) ?_ ?_
        rotate_left
        ·simp only [Act.put, List.setIfInBounds_toArray, List.set_cons_zero, List.set_cons_succ, i64_w, i32_w]
         rfl
        refine pure_ (i := 16) (N := some 157) (v := undef) (a' := ?_) #[Y_,Y_,Y_,Y_,Y_,Y_,Y_,Y_,Y_,Y_,Y_,Y_,Y_,Y_,Y_,Y_,Y_,N_,N_,N_,N_,N_,N_,N_,N_,N_,N_,N_,N_,N_] rfl rfl (any_of HT_.out (by kernel_rfl)) (fun _ _ _ h => h) (Or.inr ⟨by rfl, rfl⟩) ?_ ?_
        rotate_left
        ·simp only [Act.put, List.setIfInBounds_toArray, List.set_cons_zero, List.set_cons_succ, i64_w, i32_w]
         rfl
        refine pure_ (i := 17) (N := some 158) (v := undef) (a' := ?_) #[Y_,Y_,Y_,Y_,Y_,Y_,Y_,Y_,Y_,Y_,Y_,Y_,Y_,Y_,Y_,Y_,Y_,Y_,N_,N_,N_,N_,N_,N_,N_,N_,N_,N_,N_,N_] rfl rfl (any_of HT_.out (by kernel_rfl)) (fun _ _ _ h => h) (Or.inr ⟨by rfl, rfl⟩) ?_ ?_
        rotate_left
        ·simp only [Act.put, List.setIfInBounds_toArray, List.set_cons_zero, List.set_cons_succ, i64_w, i32_w]
         rfl
        refine pure_ (i := 18) (N := some 159) (v := undef) (a' := ?_) #[Y_,Y_,Y_,Y_,Y_,Y_,Y_,Y_,Y_,Y_,Y_,Y_,Y_,Y_,Y_,Y_,Y_,Y_,Y_,N_,N_,N_,N_,N_,N_,N_,N_,N_,N_,N_] rfl rfl (any_of HT_.out (by kernel_rfl)) (fun _ _ _ h => h) (Or.inr ⟨by rfl, rfl⟩) ?_ ?_
        rotate_left
        ·simp only [Act.put, List.setIfInBounds_toArray, List.set_cons_zero, List.set_cons_succ, i64_w, i32_w]
         rfl
        refine pure_ (i := 19) (N := some 160) #[Y_,Y_,Y_,Y_,Y_,Y_,Y_,Y_,Y_,Y_,Y_,Y_,Y_,Y_,Y_,Y_,Y_,Y_,Y_,Y_,N_,N_,N_,N_,N_,N_,N_,N_,N_,N_] rfl rfl (any_of HT_.out (by kernel_rfl)) (fun _ _ _ h => h) (Or.inl ⟨by rfl, tX⟩) tV ?_
        refine pure_ (i := 20) (N := some 161) #[Y_,Y_,Y_,Y_,Y_,Y_,Y_,Y_,Y_,Y_,Y_,Y_,Y_,Y_,Y_,Y_,Y_,Y_,Y_,Y_,Y_,N_,N_,N_,N_,N_,N_,N_,N_,N_] rfl rfl (any_of HT_.out (by kernel_rfl)) (fun _ _ _ h => h) (Or.inl ⟨by rfl, tX⟩) tV ?_
        refine pure_ (i := 21) (N := some 162) #[Y_,Y_,Y_,Y_,Y_,Y_,Y_,Y_,Y_,Y_,Y_,Y_,Y_,Y_,Y_,Y_,Y_,Y_,Y_,Y_,Y_,Y_,N_,N_,N_,N_,N_,N_,N_,N_] rfl rfl (any_of HT_.out (by kernel_rfl)) (fun _ _ _ h => h) (Or.inl ⟨by rfl, tX⟩) tV ?_
        refine pure_ (i := 22) (N := some 163) #[Y_,Y_,Y_,Y_,Y_,Y_,Y_,Y_,Y_,Y_,Y_,Y_,Y_,Y_,Y_,Y_,Y_,Y_,Y_,Y_,Y_,Y_,Y_,N_,N_,N_,N_,N_,N_,N_] rfl rfl (any_of HT_.out (by kernel_rfl)) (fun _ _ _ h => h) (Or.inl ⟨by rfl, tX⟩) tV ?_
        refine pure_ (i := 23) (N := some 164) #[Y_,Y_,Y_,Y_,Y_,Y_,Y_,Y_,Y_,Y_,Y_,Y_,Y_,Y_,Y_,Y_,Y_,Y_,Y_,Y_,Y_,Y_,Y_,Y_,N_,N_,N_,N_,N_,N_] rfl rfl (any_of HT_.out (by kernel_rfl)) (fun _ _ _ h => h) (Or.inl ⟨by rfl, tX⟩) tV ?_
        refine pure_ (i := 25) (N := some 166) #[Y_,Y_,Y_,Y_,Y_,Y_,Y_,Y_,Y_,Y_,Y_,Y_,Y_,Y_,Y_,Y_,Y_,Y_,Y_,Y_,Y_,Y_,Y_,Y_,N_,Y_,N_,N_,N_,N_] rfl rfl (any_of HT_.out (by kernel_rfl)) (fun _ _ _ h => h) (Or.inl ⟨by rfl, tX⟩) tV ?_
        refine take_ (i := 24) (N := some 165) (v := ?_) (a' := ?_) #[Y_,Y_,Y_,Y_,Y_,Y_,Y_,Y_,Y_,Y_,Y_,Y_,Y_,Y_,Y_,Y_,Y_,Y_,Y_,Y_,Y_,Y_,Y_,Y_,Y_,Y_,N_,N_,N_,N_] rfl rfl (take_ofW HT_.out HW_.out (by kernel_rfl)) (fun _ _ _ h => h) (Or.inl ⟨by rfl, ?_⟩) hHeld ?_ ?_
        rotate_left
        ·rintro w' ⟨s0, s1, s2, s3, s4, s5, s6⟩
         go_simp
         with_reducible rfl
        rotate_left
        ·simp only [Act.put, List.setIfInBounds_toArray, List.set_cons_zero, List.set_cons_succ, i64_w, i32_w]
         rfl
        refine pure_ (i := 26) (N := some 167) #[Y_,Y_,Y_,Y_,Y_,Y_,Y_,Y_,Y_,Y_,Y_,Y_,Y_,Y_,Y_,Y_,Y_,Y_,Y_,Y_,Y_,Y_,Y_,Y_,Y_,Y_,Y_,N_,N_,N_] rfl rfl (any_of HT_.out (by kernel_rfl)) (fun _ _ _ h => h) (Or.inl ⟨by rfl, tX⟩) tV ?_
        refine pure_ (i := 27) (N := some 168) #[Y_,Y_,Y_,Y_,Y_,Y_,Y_,Y_,Y_,Y_,Y_,Y_,Y_,Y_,Y_,Y_,Y_,Y_,Y_,Y_,Y_,Y_,Y_,Y_,Y_,Y_,Y_,Y_,N_,N_] rfl rfl (any_of HT_.out (by kernel_rfl)) (fun _ _ _ h => h) (Or.inl ⟨by rfl, tX⟩) tV ?_
        refine pure_ (i := 28) (N := some 169) #[Y_,Y_,Y_,Y_,Y_,Y_,Y_,Y_,Y_,Y_,Y_,Y_,Y_,Y_,Y_,Y_,Y_,Y_,Y_,Y_,Y_,Y_,Y_,Y_,Y_,Y_,Y_,Y_,Y_,N_] rfl rfl (any_of HT_.out (by kernel_rfl)) (fun _ _ _ h => h) (Or.inl ⟨by rfl, tX⟩) tV ?_
        refine pure_ (i := 29) (N := some 2) #[Y_,Y_,Y_,Y_,Y_,Y_,Y_,Y_,Y_,Y_,Y_,Y_,Y_,Y_,Y_,Y_,Y_,Y_,Y_,Y_,Y_,Y_,Y_,Y_,Y_,Y_,Y_,Y_,Y_,Y_] rfl rfl (any_of HT_.out (by kernel_rfl)) (fun _ _ _ h => h) (Or.inl ⟨by rfl, tX⟩) tV ?_
        refine done_ (done_of HT_.out (by kernel_rfl)) ?_
        try go_wp2
        go_ret
        exact ⟨tE, tB⟩
       rw [if_neg c89] at H
       have c89b0 : ((x5_1.length : Int) == 0) = false := beq_eq_false_iff_ne.mpr c89
       have c89b1 : ((x5_1.length : Int) != 0) = true := bne_iff_ne.mpr c89
       have c89b2 : ¬ (x5_1 = []) := fun h_ => c89 (by rw [h_]; rfl)
       by_cases c145 : 0 < (x5_1.length : Int)
       ·rw [if_pos c145] at H
        have c145b0 : decide (0 < (x5_1.length : Int)) = true := decide_eq_true c145
        have c145b1 : decide (0 < x5_1.length) = true := decide_eq_true (by omega)
        clear c145
        replace H := Option.bind_eq_some_iff.mp H
        obtain ⟨t256, A1460, H⟩ := H
        try dsimp only at H
        have A146 := Aside0.mk A1460
        clear A1460
        by_cases c147 : t256 = true
        ·subst c147
         have H1 : (some false) = some r := by rw [if_pos rfl] at H; exact H
         clear H
         have H := H1
         clear H1
         exact absurd ((Option.some.inj H).trans hT_) (by decide)
        replace c147 := Bool.eq_false_iff.mpr c147
        subst c147
        have H1 : (if t251 = true then (some true) else (some (t247 == 0 && (t248 == 0 && (t249 == 0 && (t250 == 0)))))) = some r := by rw [if_neg (show ¬ (false = true) by decide)] at H; exact H
        clear H
        have H := H1
        clear H1
        by_cases c148 : t251 = true
        ·subst c148
         have H1 : (some true) = some r := by rw [if_pos rfl] at H; exact H
         clear H
         have H := H1
         clear H1
         obtain rfl := Option.some.inj H
         obtain ⟨Ao149, co149, eo149⟩ := Kd.R_slice HO_5.out
         subst eo149
         try go_wp2_with (first | ((with_reducible refine gate_dst (N := 129) rfl ?_); (try (refine gate_guard (by rfl) ?_; dsimp only)); refine Kd.R_lit (Kd.int .i64) _ 3 ?hg (N := 129) ?hd (xs := ([7] : List Int)) (inner := [.int .i64 7]) (ok := fun _ => True) (okp := fun _ => True) ?hr ?hp (fun _ hk => hk) trivial (Below.refl _ _) (Nat.le_refl _) (by simp) ?_; (case hd => rfl); (case hg => rfl); (case hr => exact tG); (case hp => exact (Reps.one (show Kd.M (Kd.int .i64) _ _ _ 7 [.int .i64 7] from rfl) (Reps.none _ _))); intro v238 w150 ho151 hb hg_ hnew_; clear hg_ hnew_; (first | rw [← Ny237.out] at ho151 | (simp only [Int.reduceToNat] at ho151; rw [← Ny237.out] at ho151)); replace HO_5 := Aside0.mk (Kd.R_below (tR HO_5) hb); have HO239 := Aside0.mk (Kd.R_lower (Kd.R_new' ho151 (Kd.R_lt (tR HO_201000))) (below_size tB)); replace HO_201000 := Aside0.mk (Kd.R_elder' (tR HO_201000) (Kd.R_base ho151) hb); replace BK200 := bB BK200 hb; replace BK202 := bB BK202 hb; replace HB := bH HB hb; clear hb ho151; have hnb152 := NB200_202.out; have hnc152 := NB202_200.out; obtain ⟨hcz153_0, hfz153_0⟩ := bc1 BK200.out; obtain ⟨Ao155, co155, eo155⟩ := Kd.R_slice HO_201000.out; subst eo155) | ((with_reducible refine gate_builtin (b := .append) (xs := #[.tmp 129, .tmp 131]) rfl ?_); (try (refine gate_guard (by rfl) ?_; dsimp only)); at_builtin; refine Kd.R_append_rows (Kd.int .i64) (w0 := w) w.heap.size rfl (.tmp 129) (.tmp 131) 41 3 (.int .i64 0) 8 rfl Try.underlying41 info3 rfl (by decide) (by omega) v238 y237 x201000_1 _ _ _ (fun k_ => some k_ ≠ (.slice Ao155 x201000_1.length co155 : Value).ownBlock) (fun _ => False) rfl rfl ?aO ?aR (fun _ _ h => h) (fun _ h => h.elim) ?aF ?aB ?aS ?aL ?_; (case aR => repeat (first | exact (Kd.R_reads' HO_201000.out).2.2 | (with_reducible refine Kd.C_alloc ?_ _) | (with_reducible refine Kd.C_drewN ?_ _) | (with_reducible refine Kd.C_drew ?_))); (case aB => exact tB); (case aF => exact (fun k_ hk => Kd.fresh' (Kd.R_lt (tR HO_201000)) k_ hk)); (case aO => exact (by (with_reducible repeat (first | apply Kd.R_alloc | apply Kd.R_drewN | apply Kd.R_drew)); exact Kd.R_mono HO239.out (fun _ hk => hk.2))); (case aS => exact (below_size tB)); (case aL => have := LMc86.out; omega); intro v241 w154 ho hb hg hat; rw [← Ny240.out] at ho; replace HO_5 := Aside0.mk (Kd.R_over' (tR HO_5) (Kd.R_typed (tR HO239)) (by decide) hg); replace HO_201000 := Aside0.mk (Kd.R_after (ok := (fun _ => True)) (tR HO_201000) hg hat); replace BK200 := Aside0.mk (blk_grown (g := gb200) (o := .cells #[.slice Ao155 x201000_1.length co155] 45 (0, 0)) (tK BK200) hg (Kd.R_ne HO239.out BK200.out (by decide))); replace BK202 := Aside0.mk (blk_grown (g := gb202) (o := .cells #[.int .i64 x203000_1, .int .i64 x203001_1, .int .i64 x203002_1] 56 (0, 0)) (tK BK202) hg (Kd.R_ne HO239.out BK202.out (by decide))); replace HB := Aside0.mk (hb); have HO242 := Aside0.mk (ho); clear HO239; clear ho hb hg hat; obtain ⟨Ao156, co156, eo156⟩ := Kd.R_slice HO242.out; subst eo156) | ((with_reducible refine gate_dst (N := 13) rfl ?_); (try (refine gate_guard (by rfl) ?_; dsimp only)); refine box_event ?hg (N := 13) ?hd (cs := #[.slice none 0 0]) (t := 45) ?hr ?_; (case hd => rfl); (case hg => rfl); (case hr => exact tG); intro gb243 hg w157 hbox hb; replace HO_5 := Aside0.mk (Kd.R_below (tR HO_5) hb); replace HO_201000 := Aside0.mk (Kd.R_below (tR HO_201000) hb); replace HO242 := Aside0.mk (Kd.R_below (tR HO242) hb); have BK243 := Aside0.mk (hbox); have GW243 := gW HB hg; have GE243 := gW HB hg; replace HB := bH HB hb; have NB200_243 := nL BK200 hg; have NB243_200 := nR BK200 hg; replace BK200 := bB BK200 hb; have NB202_243 := nL BK202 hg; have NB243_202 := nR BK202 hg; replace BK202 := bB BK202 hb; clear hb hbox hg; have hnb158 := NB243_200.out; have hnc158 := NB200_243.out; have hnb159 := NB243_202.out; have hnc159 := NB202_243.out; obtain ⟨hcz160_0, hfz160_0⟩ := bc1 BK243.out; obtain ⟨hcz161_0, hcz161_1, hcz161_2, hfz161_0, hfz161_1, hfz161_2⟩ := bc3 BK202.out) | ((with_reducible refine gate_callee (f := 36) rfl ?_); refine goesL_ (some 137) rfl rfl Try.func36 (by kernel_rfl) rfl #[.agg #[.int .i64 x203000_1, .int .i64 x203001_1, .int .i64 x203002_1], .agg #[.slice Ao156 y240.length co156]] rfl tL ?_; (with_reducible refine (impl_SignHead.calls k2 x203000_1 x203001_1 x203002_1 _ _ y240 t244 t245 t246 t247 t248 t249 t250 true _ ?side1 ?side2 A87.out).mono ?_); (case side1 => refine (Kd.R_reads' (e := 3) (base := w.heap.size) (ok := fun k_ => some k_ ≠ (.slice Ao155 x201000_1.length co155 : Value).ownBlock) (n := y240.length) (c := co156) ?_).2.2; exact (by (with_reducible repeat (first | apply Kd.R_alloc | apply Kd.R_drewN | apply Kd.R_drew)); exact (Kd.R_mono (Kd.R_far (p := ⟨gb243, 0, none⟩) (Kd.R_types HO242.out BK243.out (by decide)) (fun _ hk => hk.2) (.slice Ao156 y240.length co156)) (fun _ h_ => h_.1)))); (case side2 => exact (Kd.R_reads' HO242.out).2.1); rintro e w162 ⟨rfl, hb⟩; refine ⟨_, rfl, ?_⟩; replace HO_5 := Aside0.mk (Kd.R_below (by (with_reducible repeat (first | apply Kd.R_alloc | apply Kd.R_drewN | apply Kd.R_drew)); exact (Kd.R_mono (Kd.R_far (p := ⟨gb243, 0, none⟩) (Kd.R_types HO_5.out BK243.out (by decide)) (fun _ hk => hk.2) (.slice Ao156 y240.length co156)) (fun _ h_ => h_.1))) hb); replace HO_201000 := Aside0.mk (Kd.R_below (by (with_reducible repeat (first | apply Kd.R_alloc | apply Kd.R_drewN | apply Kd.R_drew)); exact (Kd.R_mono (Kd.R_far (p := ⟨gb243, 0, none⟩) (Kd.R_types HO_201000.out BK243.out (by decide)) (fun _ hk => hk.2) (.slice Ao156 y240.length co156)) (fun _ h_ => h_.1))) hb); replace HO242 := Aside0.mk (Kd.R_below (by (with_reducible repeat (first | apply Kd.R_alloc | apply Kd.R_drewN | apply Kd.R_drew)); exact (Kd.R_mono (Kd.R_far (p := ⟨gb243, 0, none⟩) (Kd.R_types HO242.out BK243.out (by decide)) (fun _ hk => hk.2) (.slice Ao156 y240.length co156)) (fun _ h_ => h_.1))) hb); replace BK200 := Aside0.mk (blk_below (g := gb200) (o := .cells #[.slice Ao155 x201000_1.length co155] 45 (0, 0)) (kF NB200_243 BK200) hb); replace BK202 := Aside0.mk (blk_below (g := gb202) (o := .cells #[.int .i64 x203000_1, .int .i64 x203001_1, .int .i64 x203002_1] 56 (0, 0)) (kF NB202_243 BK202) hb); replace BK243 := Aside0.mk (blk_below (g := gb243) (o := .cells #[.slice Ao156 y240.length co156] 45 (0, 0)) (by (with_reducible repeat (first | refine blk_drewN ?_ _ | refine blk_drew ?_ | refine blk_alloc ?_ _)); refine blk_put (cs := #[.slice none 0 0]) ?_ 0 _ rfl; (with_reducible repeat (first | refine blk_drewN ?_ _ | refine blk_drew ?_ | refine blk_alloc ?_ _)); exact BK243.out) hb); replace HB := bH HB hb; (try clear hb); (try clear hb2); (try clear hk); (try clear hi)) | ((with_reducible refine gate_dst (N := 14) rfl ?_); (try (refine gate_guard (by rfl) ?_; dsimp only)); refine box_event ?hg (N := 14) ?hd (cs := #[.int .i64 0, .int .i64 0, .int .i64 0]) (t := 56) ?hr ?_; (case hd => rfl); (case hg => rfl); (case hr => exact tG); intro gb252 hg w163 hbox hb; replace HO_5 := Aside0.mk (Kd.R_below (tR HO_5) hb); replace HO_201000 := Aside0.mk (Kd.R_below (tR HO_201000) hb); replace HO242 := Aside0.mk (Kd.R_below (tR HO242) hb); have BK252 := Aside0.mk (hbox); have GW252 := gW HB hg; have GE252 := gW HB hg; replace HB := bH HB hb; have NB200_252 := nL BK200 hg; have NB252_200 := nR BK200 hg; replace BK200 := bB BK200 hb; have NB202_252 := nL BK202 hg; have NB252_202 := nR BK202 hg; replace BK202 := bB BK202 hb; have NB243_252 := nL BK243 hg; have NB252_243 := nR BK243 hg; replace BK243 := bB BK243 hb; clear hb hbox hg) | ((with_reducible refine gate_dst (N := 15) rfl ?_); (try (refine gate_guard (by rfl) ?_; dsimp only)); refine box_event ?hg (N := 15) ?hd (cs := #[.int .i64 0, .int .i64 0, .int .i64 0, .int .i64 0]) (t := 58) ?hr ?_; (case hd => rfl); (case hg => rfl); (case hr => exact tG); intro gb253 hg w164 hbox hb; replace HO_5 := Aside0.mk (Kd.R_below (Kd.R_elderB (tR HO_5) gb253 (Nat.le_of_eq hg.symm)) hb); replace HO_201000 := Aside0.mk (Kd.R_below (tR HO_201000) hb); replace HO242 := Aside0.mk (Kd.R_below (tR HO242) hb); have BK253 := Aside0.mk (hbox); have GW253 := gW HB hg; have GE253 := gW HB hg; replace HB := bH HB hb; have NB200_253 := nL BK200 hg; have NB253_200 := nR BK200 hg; replace BK200 := bB BK200 hb; have NB202_253 := nL BK202 hg; have NB253_202 := nR BK202 hg; replace BK202 := bB BK202 hb; have NB243_253 := nL BK243 hg; have NB253_243 := nR BK243 hg; replace BK243 := bB BK243 hb; have NB252_253 := nL BK252 hg; have NB253_252 := nR BK252 hg; replace BK252 := bB BK252 hb; clear hb hbox hg; have hnb165 := NB252_200.out; have hnc165 := NB200_252.out; have hnb166 := NB252_202.out; have hnc166 := NB202_252.out; have hnb167 := NB252_243.out; have hnc167 := NB243_252.out; have hnb168 := NB252_253.out; have hnc168 := NB253_252.out; obtain ⟨hcz169_0, hcz169_1, hcz169_2, hfz169_0, hfz169_1, hfz169_2⟩ := bc3 BK252.out; have hnb170 := NB253_200.out; have hnc170 := NB200_253.out; have hnb171 := NB253_202.out; have hnc171 := NB202_253.out; have hnb172 := NB253_243.out; have hnc172 := NB243_253.out; obtain ⟨hcz173_0, hcz173_1, hcz173_2, hcz173_3, hfz173_0, hfz173_1, hfz173_2, hfz173_3⟩ := bc4 BK253.out))
         have n0_ : Aside0 (Kd.R k58 58 (((((((w164.setCell ⟨gb252, 0, none⟩ (.int .i64 t244)).setCell ⟨gb252, 1, none⟩ (.int .i64 t245)).setCell ⟨gb252, 2, none⟩ (.int .i64 t246)).setCell ⟨gb253, 0, none⟩ (.int .i64 t247)).setCell ⟨gb253, 1, none⟩ (.int .i64 t248)).setCell ⟨gb253, 2, none⟩ (.int .i64 t249)).setCell ⟨gb253, 3, none⟩ (.int .i64 t250)) w.heap.size (fun k_ => k_ ≠ gb253) (.slice Ao149 x5_1.length co149) x5_1) := ⟨by (with_reducible repeat (first | apply Kd.R_alloc | apply Kd.R_drewN | apply Kd.R_drew)); exact Kd.R_mono (Kd.R_far (p := ⟨gb253, 3, none⟩) (Kd.R_far (p := ⟨gb253, 2, none⟩) (Kd.R_far (p := ⟨gb253, 1, none⟩) (Kd.R_far (p := ⟨gb253, 0, none⟩) (Kd.R_far (p := ⟨gb252, 2, none⟩) (Kd.R_far (p := ⟨gb252, 1, none⟩) (Kd.R_far (p := ⟨gb252, 0, none⟩) (Kd.R_mono (Kd.R_types HO_5.out BK252.out (by decide)) (fun k_ hk => (⟨hk, hk.1.2⟩ : _ ∧ k_ ≠ gb253))) (fun _ hk => hk.1.2) (.int .i64 t244)) (fun _ hk => hk.1.2) (.int .i64 t245)) (fun _ hk => hk.1.2) (.int .i64 t246)) (fun _ hk => hk.2) (.int .i64 t247)) (fun _ hk => hk.2) (.int .i64 t248)) (fun _ hk => hk.2) (.int .i64 t249)) (fun _ hk => hk.2) (.int .i64 t250)) (fun _ hk => hk.1.1.2)⟩
         have n1_ : Aside0 (Kd.R (Kd.int .i64) 3 (((((((w164.setCell ⟨gb252, 0, none⟩ (.int .i64 t244)).setCell ⟨gb252, 1, none⟩ (.int .i64 t245)).setCell ⟨gb252, 2, none⟩ (.int .i64 t246)).setCell ⟨gb253, 0, none⟩ (.int .i64 t247)).setCell ⟨gb253, 1, none⟩ (.int .i64 t248)).setCell ⟨gb253, 2, none⟩ (.int .i64 t249)).setCell ⟨gb253, 3, none⟩ (.int .i64 t250)) w.heap.size (fun k_ => some k_ ≠ (.slice Ao156 y240.length co156 : Value).ownBlock) (.slice Ao155 x201000_1.length co155) x201000_1) := ⟨by (with_reducible repeat (first | apply Kd.R_alloc | apply Kd.R_drewN | apply Kd.R_drew)); exact Kd.R_mono (Kd.R_far (p := ⟨gb253, 3, none⟩) (Kd.R_far (p := ⟨gb253, 2, none⟩) (Kd.R_far (p := ⟨gb253, 1, none⟩) (Kd.R_far (p := ⟨gb253, 0, none⟩) (Kd.R_far (p := ⟨gb252, 2, none⟩) (Kd.R_far (p := ⟨gb252, 1, none⟩) (Kd.R_far (p := ⟨gb252, 0, none⟩) (Kd.R_types (Kd.R_types HO_201000.out BK252.out (by decide)) BK253.out (by decide)) (fun _ hk => hk.1.2) (.int .i64 t244)) (fun _ hk => hk.1.2) (.int .i64 t245)) (fun _ hk => hk.1.2) (.int .i64 t246)) (fun _ hk => hk.2) (.int .i64 t247)) (fun _ hk => hk.2) (.int .i64 t248)) (fun _ hk => hk.2) (.int .i64 t249)) (fun _ hk => hk.2) (.int .i64 t250)) (fun _ hk => hk.1.1.2)⟩
         have n2_ : Aside0 (Kd.R (Kd.int .i64) 3 (((((((w164.setCell ⟨gb252, 0, none⟩ (.int .i64 t244)).setCell ⟨gb252, 1, none⟩ (.int .i64 t245)).setCell ⟨gb252, 2, none⟩ (.int .i64 t246)).setCell ⟨gb253, 0, none⟩ (.int .i64 t247)).setCell ⟨gb253, 1, none⟩ (.int .i64 t248)).setCell ⟨gb253, 2, none⟩ (.int .i64 t249)).setCell ⟨gb253, 3, none⟩ (.int .i64 t250)) w.heap.size (fun k_ => some k_ ≠ (.slice Ao155 x201000_1.length co155 : Value).ownBlock) (.slice Ao156 y240.length co156) y240) := ⟨by (with_reducible repeat (first | apply Kd.R_alloc | apply Kd.R_drewN | apply Kd.R_drew)); exact Kd.R_mono (Kd.R_far (p := ⟨gb253, 3, none⟩) (Kd.R_far (p := ⟨gb253, 2, none⟩) (Kd.R_far (p := ⟨gb253, 1, none⟩) (Kd.R_far (p := ⟨gb253, 0, none⟩) (Kd.R_far (p := ⟨gb252, 2, none⟩) (Kd.R_far (p := ⟨gb252, 1, none⟩) (Kd.R_far (p := ⟨gb252, 0, none⟩) (Kd.R_types (Kd.R_types HO242.out BK252.out (by decide)) BK253.out (by decide)) (fun _ hk => hk.1.2) (.int .i64 t244)) (fun _ hk => hk.1.2) (.int .i64 t245)) (fun _ hk => hk.1.2) (.int .i64 t246)) (fun _ hk => hk.2) (.int .i64 t247)) (fun _ hk => hk.2) (.int .i64 t248)) (fun _ hk => hk.2) (.int .i64 t249)) (fun _ hk => hk.2) (.int .i64 t250)) (fun _ hk => hk.1.1)⟩
         have n3_ : Aside0 ((((((((w164.setCell ⟨gb252, 0, none⟩ (.int .i64 t244)).setCell ⟨gb252, 1, none⟩ (.int .i64 t245)).setCell ⟨gb252, 2, none⟩ (.int .i64 t246)).setCell ⟨gb253, 0, none⟩ (.int .i64 t247)).setCell ⟨gb253, 1, none⟩ (.int .i64 t248)).setCell ⟨gb253, 2, none⟩ (.int .i64 t249)).setCell ⟨gb253, 3, none⟩ (.int .i64 t250)).heap[gb200]? = some (.cells #[.slice Ao155 x201000_1.length co155] 45 (0, 0))) := ⟨by (with_reducible repeat (first | refine blk_drewN ?_ _ | refine blk_drew ?_ | refine blk_alloc ?_ _)); refine blk_far ?_ NB200_253.out _; (with_reducible repeat (first | refine blk_drewN ?_ _ | refine blk_drew ?_ | refine blk_alloc ?_ _)); refine blk_far ?_ NB200_253.out _; (with_reducible repeat (first | refine blk_drewN ?_ _ | refine blk_drew ?_ | refine blk_alloc ?_ _)); refine blk_far ?_ NB200_253.out _; (with_reducible repeat (first | refine blk_drewN ?_ _ | refine blk_drew ?_ | refine blk_alloc ?_ _)); refine blk_far ?_ NB200_253.out _; (with_reducible repeat (first | refine blk_drewN ?_ _ | refine blk_drew ?_ | refine blk_alloc ?_ _)); refine blk_far ?_ NB200_252.out _; (with_reducible repeat (first | refine blk_drewN ?_ _ | refine blk_drew ?_ | refine blk_alloc ?_ _)); refine blk_far ?_ NB200_252.out _; (with_reducible repeat (first | refine blk_drewN ?_ _ | refine blk_drew ?_ | refine blk_alloc ?_ _)); refine blk_far ?_ NB200_252.out _; (with_reducible repeat (first | refine blk_drewN ?_ _ | refine blk_drew ?_ | refine blk_alloc ?_ _)); exact BK200.out⟩
         have n4_ : Aside0 ((((((((w164.setCell ⟨gb252, 0, none⟩ (.int .i64 t244)).setCell ⟨gb252, 1, none⟩ (.int .i64 t245)).setCell ⟨gb252, 2, none⟩ (.int .i64 t246)).setCell ⟨gb253, 0, none⟩ (.int .i64 t247)).setCell ⟨gb253, 1, none⟩ (.int .i64 t248)).setCell ⟨gb253, 2, none⟩ (.int .i64 t249)).setCell ⟨gb253, 3, none⟩ (.int .i64 t250)).heap[gb202]? = some (.cells #[.int .i64 x203000_1, .int .i64 x203001_1, .int .i64 x203002_1] 56 (0, 0))) := ⟨by (with_reducible repeat (first | refine blk_drewN ?_ _ | refine blk_drew ?_ | refine blk_alloc ?_ _)); refine blk_far ?_ NB202_253.out _; (with_reducible repeat (first | refine blk_drewN ?_ _ | refine blk_drew ?_ | refine blk_alloc ?_ _)); refine blk_far ?_ NB202_253.out _; (with_reducible repeat (first | refine blk_drewN ?_ _ | refine blk_drew ?_ | refine blk_alloc ?_ _)); refine blk_far ?_ NB202_253.out _; (with_reducible repeat (first | refine blk_drewN ?_ _ | refine blk_drew ?_ | refine blk_alloc ?_ _)); refine blk_far ?_ NB202_253.out _; (with_reducible repeat (first | refine blk_drewN ?_ _ | refine blk_drew ?_ | refine blk_alloc ?_ _)); refine blk_far ?_ NB202_252.out _; (with_reducible repeat (first | refine blk_drewN ?_ _ | refine blk_drew ?_ | refine blk_alloc ?_ _)); refine blk_far ?_ NB202_252.out _; (with_reducible repeat (first | refine blk_drewN ?_ _ | refine blk_drew ?_ | refine blk_alloc ?_ _)); refine blk_far ?_ NB202_252.out _; (with_reducible repeat (first | refine blk_drewN ?_ _ | refine blk_drew ?_ | refine blk_alloc ?_ _)); exact BK202.out⟩
         have n5_ : Aside0 ((((((((w164.setCell ⟨gb252, 0, none⟩ (.int .i64 t244)).setCell ⟨gb252, 1, none⟩ (.int .i64 t245)).setCell ⟨gb252, 2, none⟩ (.int .i64 t246)).setCell ⟨gb253, 0, none⟩ (.int .i64 t247)).setCell ⟨gb253, 1, none⟩ (.int .i64 t248)).setCell ⟨gb253, 2, none⟩ (.int .i64 t249)).setCell ⟨gb253, 3, none⟩ (.int .i64 t250)).heap[gb243]? = some (.cells #[.slice Ao156 y240.length co156] 45 (0, 0))) := ⟨by (with_reducible repeat (first | refine blk_drewN ?_ _ | refine blk_drew ?_ | refine blk_alloc ?_ _)); refine blk_far ?_ NB243_253.out _; (with_reducible repeat (first | refine blk_drewN ?_ _ | refine blk_drew ?_ | refine blk_alloc ?_ _)); refine blk_far ?_ NB243_253.out _; (with_reducible repeat (first | refine blk_drewN ?_ _ | refine blk_drew ?_ | refine blk_alloc ?_ _)); refine blk_far ?_ NB243_253.out _; (with_reducible repeat (first | refine blk_drewN ?_ _ | refine blk_drew ?_ | refine blk_alloc ?_ _)); refine blk_far ?_ NB243_253.out _; (with_reducible repeat (first | refine blk_drewN ?_ _ | refine blk_drew ?_ | refine blk_alloc ?_ _)); refine blk_far ?_ NB243_252.out _; (with_reducible repeat (first | refine blk_drewN ?_ _ | refine blk_drew ?_ | refine blk_alloc ?_ _)); refine blk_far ?_ NB243_252.out _; (with_reducible repeat (first | refine blk_drewN ?_ _ | refine blk_drew ?_ | refine blk_alloc ?_ _)); refine blk_far ?_ NB243_252.out _; (with_reducible repeat (first | refine blk_drewN ?_ _ | refine blk_drew ?_ | refine blk_alloc ?_ _)); exact BK243.out⟩
         have n6_ : Aside0 ((((((((w164.setCell ⟨gb252, 0, none⟩ (.int .i64 t244)).setCell ⟨gb252, 1, none⟩ (.int .i64 t245)).setCell ⟨gb252, 2, none⟩ (.int .i64 t246)).setCell ⟨gb253, 0, none⟩ (.int .i64 t247)).setCell ⟨gb253, 1, none⟩ (.int .i64 t248)).setCell ⟨gb253, 2, none⟩ (.int .i64 t249)).setCell ⟨gb253, 3, none⟩ (.int .i64 t250)).heap[gb252]? = some (.cells #[.int .i64 t244, .int .i64 t245, .int .i64 t246] 56 (0, 0))) := ⟨by (with_reducible repeat (first | refine blk_drewN ?_ _ | refine blk_drew ?_ | refine blk_alloc ?_ _)); refine blk_far ?_ NB252_253.out _; (with_reducible repeat (first | refine blk_drewN ?_ _ | refine blk_drew ?_ | refine blk_alloc ?_ _)); refine blk_far ?_ NB252_253.out _; (with_reducible repeat (first | refine blk_drewN ?_ _ | refine blk_drew ?_ | refine blk_alloc ?_ _)); refine blk_far ?_ NB252_253.out _; (with_reducible repeat (first | refine blk_drewN ?_ _ | refine blk_drew ?_ | refine blk_alloc ?_ _)); refine blk_far ?_ NB252_253.out _; (with_reducible repeat (first | refine blk_drewN ?_ _ | refine blk_drew ?_ | refine blk_alloc ?_ _)); refine blk_put (cs := #[.int .i64 t244, .int .i64 t245, .int .i64 0]) ?_ 2 _ rfl; (with_reducible repeat (first | refine blk_drewN ?_ _ | refine blk_drew ?_ | refine blk_alloc ?_ _)); refine blk_put (cs := #[.int .i64 t244, .int .i64 0, .int .i64 0]) ?_ 1 _ rfl; (with_reducible repeat (first | refine blk_drewN ?_ _ | refine blk_drew ?_ | refine blk_alloc ?_ _)); refine blk_put (cs := #[.int .i64 0, .int .i64 0, .int .i64 0]) ?_ 0 _ rfl; (with_reducible repeat (first | refine blk_drewN ?_ _ | refine blk_drew ?_ | refine blk_alloc ?_ _)); exact BK252.out⟩
         have n7_ : Aside0 ((((((((w164.setCell ⟨gb252, 0, none⟩ (.int .i64 t244)).setCell ⟨gb252, 1, none⟩ (.int .i64 t245)).setCell ⟨gb252, 2, none⟩ (.int .i64 t246)).setCell ⟨gb253, 0, none⟩ (.int .i64 t247)).setCell ⟨gb253, 1, none⟩ (.int .i64 t248)).setCell ⟨gb253, 2, none⟩ (.int .i64 t249)).setCell ⟨gb253, 3, none⟩ (.int .i64 t250)).heap[gb253]? = some (.cells #[.int .i64 t247, .int .i64 t248, .int .i64 t249, .int .i64 t250] 58 (0, 0))) := ⟨by (with_reducible repeat (first | refine blk_drewN ?_ _ | refine blk_drew ?_ | refine blk_alloc ?_ _)); refine blk_put (cs := #[.int .i64 t247, .int .i64 t248, .int .i64 t249, .int .i64 0]) ?_ 3 _ rfl; (with_reducible repeat (first | refine blk_drewN ?_ _ | refine blk_drew ?_ | refine blk_alloc ?_ _)); refine blk_put (cs := #[.int .i64 t247, .int .i64 t248, .int .i64 0, .int .i64 0]) ?_ 2 _ rfl; (with_reducible repeat (first | refine blk_drewN ?_ _ | refine blk_drew ?_ | refine blk_alloc ?_ _)); refine blk_put (cs := #[.int .i64 t247, .int .i64 0, .int .i64 0, .int .i64 0]) ?_ 1 _ rfl; (with_reducible repeat (first | refine blk_drewN ?_ _ | refine blk_drew ?_ | refine blk_alloc ?_ _)); refine blk_put (cs := #[.int .i64 0, .int .i64 0, .int .i64 0, .int .i64 0]) ?_ 0 _ rfl; exact kF NB253_252 BK253⟩
         have n8_ : Aside0 (Below w.heap.size w (((((((w164.setCell ⟨gb252, 0, none⟩ (.int .i64 t244)).setCell ⟨gb252, 1, none⟩ (.int .i64 t245)).setCell ⟨gb252, 2, none⟩ (.int .i64 t246)).setCell ⟨gb253, 0, none⟩ (.int .i64 t247)).setCell ⟨gb253, 1, none⟩ (.int .i64 t248)).setCell ⟨gb253, 2, none⟩ (.int .i64 t249)).setCell ⟨gb253, 3, none⟩ (.int .i64 t250))) := ⟨tB⟩
         (try clear HO_5)
         (try clear HO_201000)
         (try clear HO242)
         (try clear BK200)
         (try clear BK202)
         (try clear BK243)
         (try clear BK252)
         (try clear BK253)
         (try clear HB)
         generalize (((((((w164.setCell ⟨gb252, 0, none⟩ (.int .i64 t244)).setCell ⟨gb252, 1, none⟩ (.int .i64 t245)).setCell ⟨gb252, 2, none⟩ (.int .i64 t246)).setCell ⟨gb253, 0, none⟩ (.int .i64 t247)).setCell ⟨gb253, 1, none⟩ (.int .i64 t248)).setCell ⟨gb253, 2, none⟩ (.int .i64 t249)).setCell ⟨gb253, 3, none⟩ (.int .i64 t250)) = w174 at n0_ n1_ n2_ n3_ n4_ n5_ n6_ n7_ n8_ ⊢
         have HO_5 := n0_
         have HO_201000 := n1_
         have HO242 := n2_
         have BK200 := n3_
         have BK202 := n4_
         have BK243 := n5_
         have BK252 := n6_
         have BK253 := n7_
         have HB := n8_
         clear n0_ n1_ n2_ n3_ n4_ n5_ n6_ n7_ n8_
         replace HO_5 := Aside0.mk (Kd.R_drew HO_5.out)
         replace HO_201000 := Aside0.mk (Kd.R_drew HO_201000.out)
         replace HO242 := Aside0.mk (Kd.R_drew HO242.out)
         replace BK200 := Aside0.mk (blk_drew BK200.out)
         replace BK202 := Aside0.mk (blk_drew BK202.out)
         replace BK243 := Aside0.mk (blk_drew BK243.out)
         replace BK252 := Aside0.mk (blk_drew BK252.out)
         replace BK253 := Aside0.mk (blk_drew BK253.out)
         replace HB := Aside0.mk (below_drew1 HB.out)
         have p254 : 0 ≤ (0 : Int) := (by omega)
         have q254 : 0 < (x5_1.length : Int) := of_decide_eq_true tA
         obtain ⟨ad254, e254, hx254_0, hx254_1, hx254_2, hx254_3⟩ := at_T58 (Kd.R_reads' HO_5.out).2.2 0 p254 q254
         cases e254
         have qi254 : (0 < x5_1.length) = True := eq_true (by omega)
         (try rw [show ((0 : Int)).toNat = 0 from rfl] at hx254_0)
         (try rw [show 0 * 4 = 0 from rfl] at hx254_0)
         (try rw [Addr.add_zero'] at hx254_0)
         (try rw [show ((0 : Int)).toNat = 0 from rfl] at hx254_1)
         (try rw [show 0 * 4 = 0 from rfl] at hx254_1)
         (try rw [Addr.add_zero'] at hx254_1)
         (try rw [show ((0 : Int)).toNat = 0 from rfl] at hx254_2)
         (try rw [show 0 * 4 = 0 from rfl] at hx254_2)
         (try rw [Addr.add_zero'] at hx254_2)
         (try rw [show ((0 : Int)).toNat = 0 from rfl] at hx254_3)
         (try rw [show 0 * 4 = 0 from rfl] at hx254_3)
         (try rw [Addr.add_zero'] at hx254_3)
         replace p254 := eq_true p254
         replace q254 := eq_true q254
         have p255 : 0 ≤ (0 : Int) := (by omega)
         have q255 : 0 < (x5_1.length : Int) := of_decide_eq_true tA
         obtain ⟨ad255, e255, hx255_0, hx255_1, hx255_2, hx255_3⟩ := at_T58 (Kd.R_reads' HO_5.out).2.2 0 p255 q255
         obtain rfl : ad254 = ad255 := (by injection e255)
         have qi255 : (0 < x5_1.length) = True := eq_true (by omega)
         (try rw [show ((0 : Int)).toNat = 0 from rfl] at hx255_0)
         (try rw [show 0 * 4 = 0 from rfl] at hx255_0)
         (try rw [Addr.add_zero'] at hx255_0)
         (try rw [show ((0 : Int)).toNat = 0 from rfl] at hx255_1)
         (try rw [show 0 * 4 = 0 from rfl] at hx255_1)
         (try rw [Addr.add_zero'] at hx255_1)
         (try rw [show ((0 : Int)).toNat = 0 from rfl] at hx255_2)
         (try rw [show 0 * 4 = 0 from rfl] at hx255_2)
         (try rw [Addr.add_zero'] at hx255_2)
         (try rw [show ((0 : Int)).toNat = 0 from rfl] at hx255_3)
         (try rw [show 0 * 4 = 0 from rfl] at hx255_3)
         (try rw [Addr.add_zero'] at hx255_3)
         replace p255 := eq_true p255
         replace q255 := eq_true q255
         refine start_ (n := 30) (S := fun w' => w'.cell? ⟨gb202, 0, none⟩ = some (.int .i64 x203000_1) ∧ w'.cell? ⟨gb202, 1, none⟩ = some (.int .i64 x203001_1) ∧ w'.cell? ⟨gb202, 2, none⟩ = some (.int .i64 x203002_1) ∧ w'.cell? ⟨gb243, 0, none⟩ = some (.slice Ao156 y240.length co156) ∧ w'.cell? ad254 = some (.int .i64 ((rd_T58 x5_1 0).f0)) ∧ w'.cell? ⟨ad254.block, ad254.off + 1, none⟩ = some (.int .i64 ((rd_T58 x5_1 0).f1)) ∧ w'.cell? ⟨ad254.block, ad254.off + 2, none⟩ = some (.int .i64 ((rd_T58 x5_1 0).f2)) ∧ w'.cell? ⟨ad254.block, ad254.off + 3, none⟩ = some (.int .i64 ((rd_T58 x5_1 0).f3)) ∧ w'.cell? ad254 = some (.int .i64 ((rd_T58 x5_1 0).f0)) ∧ w'.cell? ⟨ad254.block, ad254.off + 1, none⟩ = some (.int .i64 ((rd_T58 x5_1 0).f1)) ∧ w'.cell? ⟨ad254.block, ad254.off + 2, none⟩ = some (.int .i64 ((rd_T58 x5_1 0).f2)) ∧ w'.cell? ⟨ad254.block, ad254.off + 3, none⟩ = some (.int .i64 ((rd_T58 x5_1 0).f3))) (ds := []) #[N_,N_,N_,N_,N_,N_,N_,N_,N_,N_,N_,N_,N_,N_,N_,N_,N_,N_,N_,N_,N_,N_,N_,N_,N_,N_,N_,N_,N_,N_] (by kernel_rfl) rfl rfl ⟨(blk_cell BK202.out 0).trans rfl, (blk_cell BK202.out 1).trans rfl, (blk_cell BK202.out 2).trans rfl, (blk_cell BK243.out 0).trans rfl, hx254_0, hx254_1, hx254_2, hx254_3, hx255_0, hx255_1, hx255_2, hx255_3⟩ (fun hHeld => ?_); refine with_tabW laws_FnPublicLogs.tab26 laws_FnPublicLogs.bits26 (fun HT_ HW_ => ?_)
         generalize w174.drew = w175 at HO_5 HO_201000 HO242 BK200 BK202 BK243 BK252 BK253 HB hx254_0 hx254_1 hx254_2 hx254_3 hx255_0 hx255_1 hx255_2 hx255_3 hHeld ⊢
         refine pure_ (i := 0) (N := some 141) #[Y_,N_,N_,N_,N_,N_,N_,N_,N_,N_,N_,N_,N_,N_,N_,N_,N_,N_,N_,N_,N_,N_,N_,N_,N_,N_,N_,N_,N_,N_] rfl rfl (any_of HT_.out (by kernel_rfl)) (fun _ _ _ h => h) (Or.inl ⟨by rfl, tX⟩) tV ?_
         refine pure_ (i := 1) (N := some 142) #[Y_,Y_,N_,N_,N_,N_,N_,N_,N_,N_,N_,N_,N_,N_,N_,N_,N_,N_,N_,N_,N_,N_,N_,N_,N_,N_,N_,N_,N_,N_] rfl rfl (any_of HT_.out (by kernel_rfl)) (fun _ _ _ h => h) (Or.inl ⟨by rfl, tX⟩) tV ?_
         refine take_ (i := 2) (N := some 143) (v := ?_) (a' := ?_) #[Y_,Y_,Y_,N_,N_,N_,N_,N_,N_,N_,N_,N_,N_,N_,N_,N_,N_,N_,N_,N_,N_,N_,N_,N_,N_,N_,N_,N_,N_,N_] rfl rfl (take_ofW HT_.out HW_.out (by kernel_rfl)) (fun _ _ _ h => h) (Or.inl ⟨by rfl, ?_⟩) hHeld ?_ ?_
         rotate_left
         ·rintro w' ⟨s0, s1, s2, s3, s4, s5, s6, s7, s8, s9, s10, s11⟩
          go_simp
          with_reducible rfl
         rotate_left
         ·simp only [Act.put, List.setIfInBounds_toArray, List.set_cons_zero, List.set_cons_succ, i64_w, i32_w]
          rfl
         refine pure_ (i := 3) (N := some 144) #[Y_,Y_,Y_,Y_,N_,N_,N_,N_,N_,N_,N_,N_,N_,N_,N_,N_,N_,N_,N_,N_,N_,N_,N_,N_,N_,N_,N_,N_,N_,N_] rfl rfl (any_of HT_.out (by kernel_rfl)) (fun _ _ _ h => h) (Or.inl ⟨by rfl, tX⟩) tV ?_
         refine pure_ (i := 4) (N := some 145) #[Y_,Y_,Y_,Y_,Y_,N_,N_,N_,N_,N_,N_,N_,N_,N_,N_,N_,N_,N_,N_,N_,N_,N_,N_,N_,N_,N_,N_,N_,N_,N_] rfl rfl (any_of HT_.out (by kernel_rfl)) (fun _ _ _ h => h) (Or.inl ⟨by rfl, tX⟩) tV ?_
         refine pure_ (i := 5) (N := some 146) #[Y_,Y_,Y_,Y_,Y_,Y_,N_,N_,N_,N_,N_,N_,N_,N_,N_,N_,N_,N_,N_,N_,N_,N_,N_,N_,N_,N_,N_,N_,N_,N_] rfl rfl (any_of HT_.out (by kernel_rfl)) (fun _ _ _ h => h) (Or.inl ⟨by rfl, tX⟩) tV ?_
         refine pure_ (i := 6) (N := some 147) #[Y_,Y_,Y_,Y_,Y_,Y_,Y_,N_,N_,N_,N_,N_,N_,N_,N_,N_,N_,N_,N_,N_,N_,N_,N_,N_,N_,N_,N_,N_,N_,N_] rfl rfl (any_of HT_.out (by kernel_rfl)) (fun _ _ _ h => h) (Or.inl ⟨by rfl, tX⟩) tV ?_
         refine pure_ (i := 7) (N := some 148) #[Y_,Y_,Y_,Y_,Y_,Y_,Y_,Y_,N_,N_,N_,N_,N_,N_,N_,N_,N_,N_,N_,N_,N_,N_,N_,N_,N_,N_,N_,N_,N_,N_] rfl rfl (any_of HT_.out (by kernel_rfl)) (fun _ _ _ h => h) (Or.inl ⟨by rfl, tX⟩) tV ?_
         refine pure_ (i := 8) (N := some 149) #[Y_,Y_,Y_,Y_,Y_,Y_,Y_,Y_,Y_,N_,N_,N_,N_,N_,N_,N_,N_,N_,N_,N_,N_,N_,N_,N_,N_,N_,N_,N_,N_,N_] rfl rfl (any_of HT_.out (by kernel_rfl)) (fun _ _ _ h => h) (Or.inl ⟨by rfl, tX⟩) tV ?_
         refine pure_ (i := 9) (N := some 150) #[Y_,Y_,Y_,Y_,Y_,Y_,Y_,Y_,Y_,Y_,N_,N_,N_,N_,N_,N_,N_,N_,N_,N_,N_,N_,N_,N_,N_,N_,N_,N_,N_,N_] rfl rfl (any_of HT_.out (by kernel_rfl)) (fun _ _ _ h => h) (Or.inl ⟨by rfl, tX⟩) tV ?_
         refine pure_ (i := 10) (N := some 151) #[Y_,Y_,Y_,Y_,Y_,Y_,Y_,Y_,Y_,Y_,Y_,N_,N_,N_,N_,N_,N_,N_,N_,N_,N_,N_,N_,N_,N_,N_,N_,N_,N_,N_] rfl rfl (any_of HT_.out (by kernel_rfl)) (fun _ _ _ h => h) (Or.inl ⟨by rfl, tX⟩) tV ?_
         refine pure_ (i := 11) (N := some 152) #[Y_,Y_,Y_,Y_,Y_,Y_,Y_,Y_,Y_,Y_,Y_,Y_,N_,N_,N_,N_,N_,N_,N_,N_,N_,N_,N_,N_,N_,N_,N_,N_,N_,N_] rfl rfl (any_of HT_.out (by kernel_rfl)) (fun _ _ _ h => h) (Or.inl ⟨by rfl, tX⟩) tV ?_
         refine pure_ (i := 13) (N := some 154) #[Y_,Y_,Y_,Y_,Y_,Y_,Y_,Y_,Y_,Y_,Y_,Y_,N_,Y_,N_,N_,N_,N_,N_,N_,N_,N_,N_,N_,N_,N_,N_,N_,N_,N_] rfl rfl (any_of HT_.out (by kernel_rfl)) (fun _ _ _ h => h) (Or.inl ⟨by rfl, tX⟩) tV ?_
         refine pure_ (i := 14) (N := some 155) #[Y_,Y_,Y_,Y_,Y_,Y_,Y_,Y_,Y_,Y_,Y_,Y_,N_,Y_,Y_,N_,N_,N_,N_,N_,N_,N_,N_,N_,N_,N_,N_,N_,N_,N_] rfl rfl (any_of HT_.out (by kernel_rfl)) (fun _ _ _ h => h) (Or.inl ⟨by rfl, tX⟩) tV ?_
         refine take_ (i := 12) (N := some 153) (v := ?_) (a' := ?_) #[Y_,Y_,Y_,Y_,Y_,Y_,Y_,Y_,Y_,Y_,Y_,Y_,Y_,Y_,Y_,N_,N_,N_,N_,N_,N_,N_,N_,N_,N_,N_,N_,N_,N_,N_] rfl rfl (take_ofW HT_.out HW_.out (by kernel_rfl)) (fun _ _ _ h => h) (Or.inl ⟨by rfl, ?_⟩) hHeld ?_ ?_
         rotate_left
         ·rintro w' ⟨s0, s1, s2, s3, s4, s5, s6, s7, s8, s9, s10, s11⟩
          go_simp
          with_reducible rfl
         rotate_left
         ·simp only [Act.put, List.setIfInBounds_toArray, List.set_cons_zero, List.set_cons_succ, i64_w, i32_w]
          rfl
         refine take_ (i := 15) (N := some 156) (v := ?_) (a' := ?_) #[Y_,Y_,Y_,Y_,Y_,Y_,Y_,Y_,Y_,Y_,Y_,Y_,Y_,Y_,Y_,Y_,N_,N_,N_,N_,N_,N_,N_,N_,N_,N_,N_,N_,N_,N_] rfl rfl (take_ofW HT_.out HW_.out (by kernel_rfl)) (fun _ _ _ h => h) (Or.inl ⟨by rfl, ?_⟩) hHeld ?_ ?_
         rotate_left
         ·rintro w' ⟨s0, s1, s2, s3, s4, s5, s6, s7, s8, s9, s10, s11⟩
          go_simp
          with_reducible rfl
         rotate_left
         ·simp only [Act.put, List.setIfInBounds_toArray, List.set_cons_zero, List.set_cons_succ, i64_w, i32_w]
          rfl
         refine take_ (i := 16) (N := some 157) (v := ?_) (a' := ?_) #[Y_,Y_,Y_,Y_,Y_,Y_,Y_,Y_,Y_,Y_,Y_,Y_,Y_,Y_,Y_,Y_,Y_,N_,N_,N_,N_,N_,N_,N_,N_,N_,N_,N_,N_,N_] rfl rfl (take_ofW HT_.out HW_.out (by kernel_rfl)) (fun _ _ _ h => h) (Or.inl ⟨by rfl, ?_⟩) hHeld ?_ ?_
         rotate_left
         ·rintro w' ⟨s0, s1, s2, s3, s4, s5, s6, s7, s8, s9, s10, s11⟩
          go_simp
          with_reducible rfl
         rotate_left
         ·simp only [Act.put, List.setIfInBounds_toArray, List.set_cons_zero, List.set_cons_succ, i64_w, i32_w]
          rfl
         refine one_ (i := 17) (N := some 158) #[Y_,Y_,Y_,Y_,Y_,Y_,Y_,Y_,Y_,Y_,Y_,Y_,Y_,Y_,Y_,Y_,Y_,Y_,N_,N_,N_,N_,N_,N_,N_,N_,N_,N_,N_,N_] rfl rfl (one_of HT_.out (by kernel_rfl)) (by decide) (fun K hK => ?_)
         refine goes_ Try.func39 (by kernel_rfl) rfl #[.agg #[.int .i64 ((rd_T58 x5_1 0).f0), .int .i64 ((rd_T58 x5_1 0).f1), .int .i64 ((rd_T58 x5_1 0).f2), .int .i64 ((rd_T58 x5_1 0).f3)], .agg #[.int .i64 ((rd_T58 x5_1 0).f0), .int .i64 ((rd_T58 x5_1 0).f1), .int .i64 ((rd_T58 x5_1 0).f2), .int .i64 ((rd_T58 x5_1 0).f3)], .agg #[.slice Ao156 y240.length co156]] (by rfl) rfl rfl tL ?_
         with_reducible refine (impl_AreConsistent.calls k2 ((rd_T58 x5_1 0).f0) ((rd_T58 x5_1 0).f1) ((rd_T58 x5_1 0).f2) ((rd_T58 x5_1 0).f3) ((rd_T58 x5_1 0).f0) ((rd_T58 x5_1 0).f1) ((rd_T58 x5_1 0).f2) ((rd_T58 x5_1 0).f3) _ _ y240 false _ ?side1 ?side2 A146.out).mono ?_
         (case side1 => repeat (first | exact (Kd.R_reads' HO242.out).2.2 | (with_reducible refine Kd.C_alloc ?_ _) | (with_reducible refine Kd.C_drewN ?_ _) | (with_reducible refine Kd.C_drew ?_)))
         (case side2 => exact (Kd.R_reads' HO242.out).2.1)
         rintro e w176 ⟨rfl, hb⟩
         have HS4_ := (hb.cell (World.block_lt_of_cell? _ _ (hHeld.2.2.2.2.1))).trans (hHeld.2.2.2.2.1)
         have HS5_ := (hb.cell (World.block_lt_of_cell? _ _ (hHeld.2.2.2.2.2.1))).trans (hHeld.2.2.2.2.2.1)
         have HS6_ := (hb.cell (World.block_lt_of_cell? _ _ (hHeld.2.2.2.2.2.2.1))).trans (hHeld.2.2.2.2.2.2.1)
         have HS7_ := (hb.cell (World.block_lt_of_cell? _ _ (hHeld.2.2.2.2.2.2.2.1))).trans (hHeld.2.2.2.2.2.2.2.1)
         have HS8_ := (hb.cell (World.block_lt_of_cell? _ _ (hHeld.2.2.2.2.2.2.2.2.1))).trans (hHeld.2.2.2.2.2.2.2.2.1)
         have HS9_ := (hb.cell (World.block_lt_of_cell? _ _ (hHeld.2.2.2.2.2.2.2.2.2.1))).trans (hHeld.2.2.2.2.2.2.2.2.2.1)
         have HS10_ := (hb.cell (World.block_lt_of_cell? _ _ (hHeld.2.2.2.2.2.2.2.2.2.2.1))).trans (hHeld.2.2.2.2.2.2.2.2.2.2.1)
         have HS11_ := (hb.cell (World.block_lt_of_cell? _ _ (hHeld.2.2.2.2.2.2.2.2.2.2.2))).trans (hHeld.2.2.2.2.2.2.2.2.2.2.2)
         refine ⟨_, rfl, ?_⟩
         replace HO_5 := Aside0.mk (Kd.R_below (tR HO_5) hb)
         replace HO_201000 := Aside0.mk (Kd.R_below (tR HO_201000) hb)
         replace HO242 := Aside0.mk (Kd.R_below (tR HO242) hb)
         replace BK200 := bB BK200 hb
         replace BK202 := bB BK202 hb
         replace BK243 := bB BK243 hb
         replace BK252 := bB BK252 hb
         replace BK253 := bB BK253 hb
         replace HB := bH HB hb
         (try clear hb)
         (try clear hb2)
         (try clear hk)
         (try clear hi)
         refine hK.out _ _ ⟨(blk_cell BK202.out 0).trans rfl, (blk_cell BK202.out 1).trans rfl, (blk_cell BK202.out 2).trans rfl, (blk_cell BK243.out 0).trans rfl, HS4_, HS5_, HS6_, HS7_, HS8_, HS9_, HS10_, HS11_⟩ (fun hHeld => ?_)
         clear hK K
         refine norm_ (tV : Act.put _ (some 158) _ = _) ?_
         refine pure_ (i := 18) (N := some 159) #[Y_,Y_,Y_,Y_,Y_,Y_,Y_,Y_,Y_,Y_,Y_,Y_,Y_,Y_,Y_,Y_,Y_,Y_,Y_,N_,N_,N_,N_,N_,N_,N_,N_,N_,N_,N_] rfl rfl (any_of HT_.out (by kernel_rfl)) (fun _ _ _ h => h) (Or.inl ⟨by rfl, tX⟩) tV ?_
         refine pure_ (i := 19) (N := some 160) #[Y_,Y_,Y_,Y_,Y_,Y_,Y_,Y_,Y_,Y_,Y_,Y_,Y_,Y_,Y_,Y_,Y_,Y_,Y_,Y_,N_,N_,N_,N_,N_,N_,N_,N_,N_,N_] rfl rfl (any_of HT_.out (by kernel_rfl)) (fun _ _ _ h => h) (Or.inl ⟨by rfl, tX⟩) tV ?_
         refine pure_ (i := 20) (N := some 161) #[Y_,Y_,Y_,Y_,Y_,Y_,Y_,Y_,Y_,Y_,Y_,Y_,Y_,Y_,Y_,Y_,Y_,Y_,Y_,Y_,Y_,N_,N_,N_,N_,N_,N_,N_,N_,N_] rfl rfl (any_of HT_.out (by kernel_rfl)) (fun _ _ _ h => h) (Or.inl ⟨by rfl, tX⟩) tV ?_
         refine pure_ (i := 21) (N := some 162) #[Y_,Y_,Y_,Y_,Y_,Y_,Y_,Y_,Y_,Y_,Y_,Y_,Y_,Y_,Y_,Y_,Y_,Y_,Y_,Y_,Y_,Y_,N_,N_,N_,N_,N_,N_,N_,N_] rfl rfl (any_of HT_.out (by kernel_rfl)) (fun _ _ _ h => h) (Or.inl ⟨by rfl, tX⟩) tV ?_
         refine pure_ (i := 22) (N := some 163) #[Y_,Y_,Y_,Y_,Y_,Y_,Y_,Y_,Y_,Y_,Y_,Y_,Y_,Y_,Y_,Y_,Y_,Y_,Y_,Y_,Y_,Y_,Y_,N_,N_,N_,N_,N_,N_,N_] rfl rfl (any_of HT_.out (by kernel_rfl)) (fun _ _ _ h => h) (Or.inl ⟨by rfl, tX⟩) tV ?_
         refine pure_ (i := 23) (N := some 164) #[Y_,Y_,Y_,Y_,Y_,Y_,Y_,Y_,Y_,Y_,Y_,Y_,Y_,Y_,Y_,Y_,Y_,Y_,Y_,Y_,Y_,Y_,Y_,Y_,N_,N_,N_,N_,N_,N_] rfl rfl (any_of HT_.out (by kernel_rfl)) (fun _ _ _ h => h) (Or.inl ⟨by rfl, tX⟩) tV ?_
         refine pure_ (i := 24) (N := some 165) (v := undef) (a' := ?_) #[Y_,Y_,Y_,Y_,Y_,Y_,Y_,Y_,Y_,Y_,Y_,Y_,Y_,Y_,Y_,Y_,Y_,Y_,Y_,Y_,Y_,Y_,Y_,Y_,Y_,N_,N_,N_,N_,N_] rfl rfl (any_of HT_.out (by kernel_rfl)) (fun _ _ _ h => h) (Or.inr ⟨by rfl, rfl⟩) ?_ ?_
         rotate_left
         ·simp only [Act.put, List.setIfInBounds_toArray, List.set_cons_zero, List.set_cons_succ, i64_w, i32_w]
          rfl
         refine pure_ (i := 25) (N := some 166) (v := undef) (a' := ?_) #[Y_,Y_,Y_,Y_,Y_,Y_,Y_,Y_,Y_,Y_,Y_,Y_,Y_,Y_,Y_,Y_,Y_,Y_,Y_,Y_,Y_,Y_,Y_,Y_,Y_,Y_,N_,N_,N_,N_] rfl rfl (any_of HT_.out (by kernel_rfl)) (fun _ _ _ h => h) (Or.inr ⟨by rfl, rfl⟩) ?_ ?_
         rotate_left
         ·simp only [Act.put, List.setIfInBounds_toArray, List.set_cons_zero, List.set_cons_succ, i64_w, i32_w]
          rfl
         refine pure_ (i := 26) (N := some 167) (v := undef) (a' := ?_) #[Y_,Y_,Y_,Y_,Y_,Y_,Y_,Y_,Y_,Y_,Y_,Y_,Y_,Y_,Y_,Y_,Y_,Y_,Y_,Y_,Y_,Y_,Y_,Y_,Y_,Y_,Y_,N_,N_,N_] rfl rfl (any_of HT_.out (by kernel_rfl)) (fun _ _ _ h => h) (Or.inr ⟨by rfl, rfl⟩) ?_ ?_
         rotate_left
         ·simp only [Act.put, List.setIfInBounds_toArray, List.set_cons_zero, List.set_cons_succ, i64_w, i32_w]
          rfl
         refine pure_ (i := 27) (N := some 168) #[Y_,Y_,Y_,Y_,Y_,Y_,Y_,Y_,Y_,Y_,Y_,Y_,Y_,Y_,Y_,Y_,Y_,Y_,Y_,Y_,Y_,Y_,Y_,Y_,Y_,Y_,Y_,Y_,N_,N_] rfl rfl (any_of HT_.out (by kernel_rfl)) (fun _ _ _ h => h) (Or.inl ⟨by rfl, tX⟩) tV ?_
         refine pure_ (i := 28) (N := some 169) #[Y_,Y_,Y_,Y_,Y_,Y_,Y_,Y_,Y_,Y_,Y_,Y_,Y_,Y_,Y_,Y_,Y_,Y_,Y_,Y_,Y_,Y_,Y_,Y_,Y_,Y_,Y_,Y_,Y_,N_] rfl rfl (any_of HT_.out (by kernel_rfl)) (fun _ _ _ h => h) (Or.inl ⟨by rfl, tX⟩) tV ?_
         refine pure_ (i := 29) (N := some 2) #[Y_,Y_,Y_,Y_,Y_,Y_,Y_,Y_,Y_,Y_,Y_,Y_,Y_,Y_,Y_,Y_,Y_,Y_,Y_,Y_,Y_,Y_,Y_,Y_,Y_,Y_,Y_,Y_,Y_,Y_] rfl rfl (any_of HT_.out (by kernel_rfl)) (fun _ _ _ h => h) (Or.inl ⟨by rfl, tX⟩) tV ?_
         refine done_ (done_of HT_.out (by kernel_rfl)) ?_
         try go_wp2
         go_ret
         exact ⟨tE, tB⟩
        replace c148 := Bool.eq_false_iff.mpr c148
        subst c148
        have H1 : (some (t247 == 0 && (t248 == 0 && (t249 == 0 && (t250 == 0))))) = some r := by rw [if_neg (show ¬ (false = true) by decide)] at H; exact H
        clear H
        have H := H1
        clear H1
        obtain rfl := Option.some.inj H
        obtain ⟨Ao177, co177, eo177⟩ := Kd.R_slice HO_5.out
        subst eo177
        try go_wp2_with (first | ((with_reducible refine gate_dst (N := 129) rfl ?_); (try (refine gate_guard (by rfl) ?_; dsimp only)); refine Kd.R_lit (Kd.int .i64) _ 3 ?hg (N := 129) ?hd (xs := ([7] : List Int)) (inner := [.int .i64 7]) (ok := fun _ => True) (okp := fun _ => True) ?hr ?hp (fun _ hk => hk) trivial (Below.refl _ _) (Nat.le_refl _) (by simp) ?_; (case hd => rfl); (case hg => rfl); (case hr => exact tG); (case hp => exact (Reps.one (show Kd.M (Kd.int .i64) _ _ _ 7 [.int .i64 7] from rfl) (Reps.none _ _))); intro v238 w178 ho179 hb hg_ hnew_; clear hg_ hnew_; (first | rw [← Ny237.out] at ho179 | (simp only [Int.reduceToNat] at ho179; rw [← Ny237.out] at ho179)); replace HO_5 := Aside0.mk (Kd.R_below (tR HO_5) hb); have HO239 := Aside0.mk (Kd.R_lower (Kd.R_new' ho179 (Kd.R_lt (tR HO_201000))) (below_size tB)); replace HO_201000 := Aside0.mk (Kd.R_elder' (tR HO_201000) (Kd.R_base ho179) hb); replace BK200 := bB BK200 hb; replace BK202 := bB BK202 hb; replace HB := bH HB hb; clear hb ho179; have hnb180 := NB200_202.out; have hnc180 := NB202_200.out; obtain ⟨hcz181_0, hfz181_0⟩ := bc1 BK200.out; obtain ⟨Ao183, co183, eo183⟩ := Kd.R_slice HO_201000.out; subst eo183) | ((with_reducible refine gate_builtin (b := .append) (xs := #[.tmp 129, .tmp 131]) rfl ?_); (try (refine gate_guard (by rfl) ?_; dsimp only)); at_builtin; refine Kd.R_append_rows (Kd.int .i64) (w0 := w) w.heap.size rfl (.tmp 129) (.tmp 131) 41 3 (.int .i64 0) 8 rfl Try.underlying41 info3 rfl (by decide) (by omega) v238 y237 x201000_1 _ _ _ (fun k_ => some k_ ≠ (.slice Ao183 x201000_1.length co183 : Value).ownBlock) (fun _ => False) rfl rfl ?aO ?aR (fun _ _ h => h) (fun _ h => h.elim) ?aF ?aB ?aS ?aL ?_; (case aR => repeat (first | exact (Kd.R_reads' HO_201000.out).2.2 | (with_reducible refine Kd.C_alloc ?_ _) | (with_reducible refine Kd.C_drewN ?_ _) | (with_reducible refine Kd.C_drew ?_))); (case aB => exact tB); (case aF => exact (fun k_ hk => Kd.fresh' (Kd.R_lt (tR HO_201000)) k_ hk)); (case aO => exact (by (with_reducible repeat (first | apply Kd.R_alloc | apply Kd.R_drewN | apply Kd.R_drew)); exact Kd.R_mono HO239.out (fun _ hk => hk.2))); (case aS => exact (below_size tB)); (case aL => have := LMc86.out; omega); intro v241 w182 ho hb hg hat; rw [← Ny240.out] at ho; replace HO_5 := Aside0.mk (Kd.R_over' (tR HO_5) (Kd.R_typed (tR HO239)) (by decide) hg); replace HO_201000 := Aside0.mk (Kd.R_after (ok := (fun _ => True)) (tR HO_201000) hg hat); replace BK200 := Aside0.mk (blk_grown (g := gb200) (o := .cells #[.slice Ao183 x201000_1.length co183] 45 (0, 0)) (tK BK200) hg (Kd.R_ne HO239.out BK200.out (by decide))); replace BK202 := Aside0.mk (blk_grown (g := gb202) (o := .cells #[.int .i64 x203000_1, .int .i64 x203001_1, .int .i64 x203002_1] 56 (0, 0)) (tK BK202) hg (Kd.R_ne HO239.out BK202.out (by decide))); replace HB := Aside0.mk (hb); have HO242 := Aside0.mk (ho); clear HO239; clear ho hb hg hat; obtain ⟨Ao184, co184, eo184⟩ := Kd.R_slice HO242.out; subst eo184) | ((with_reducible refine gate_dst (N := 13) rfl ?_); (try (refine gate_guard (by rfl) ?_; dsimp only)); refine box_event ?hg (N := 13) ?hd (cs := #[.slice none 0 0]) (t := 45) ?hr ?_; (case hd => rfl); (case hg => rfl); (case hr => exact tG); intro gb243 hg w185 hbox hb; replace HO_5 := Aside0.mk (Kd.R_below (tR HO_5) hb); replace HO_201000 := Aside0.mk (Kd.R_below (tR HO_201000) hb); replace HO242 := Aside0.mk (Kd.R_below (tR HO242) hb); have BK243 := Aside0.mk (hbox); have GW243 := gW HB hg; have GE243 := gW HB hg; replace HB := bH HB hb; have NB200_243 := nL BK200 hg; have NB243_200 := nR BK200 hg; replace BK200 := bB BK200 hb; have NB202_243 := nL BK202 hg; have NB243_202 := nR BK202 hg; replace BK202 := bB BK202 hb; clear hb hbox hg; have hnb186 := NB243_200.out; have hnc186 := NB200_243.out; have hnb187 := NB243_202.out; have hnc187 := NB202_243.out; obtain ⟨hcz188_0, hfz188_0⟩ := bc1 BK243.out; obtain ⟨hcz189_0, hcz189_1, hcz189_2, hfz189_0, hfz189_1, hfz189_2⟩ := bc3 BK202.out) | ((with_reducible refine gate_callee (f := 36) rfl ?_); refine goesL_ (some 137) rfl rfl Try.func36 (by kernel_rfl) rfl #[.agg #[.int .i64 x203000_1, .int .i64 x203001_1, .int .i64 x203002_1], .agg #[.slice Ao184 y240.length co184]] rfl tL ?_; (with_reducible refine (impl_SignHead.calls k2 x203000_1 x203001_1 x203002_1 _ _ y240 t244 t245 t246 t247 t248 t249 t250 false _ ?side1 ?side2 A87.out).mono ?_); (case side1 => refine (Kd.R_reads' (e := 3) (base := w.heap.size) (ok := fun k_ => some k_ ≠ (.slice Ao183 x201000_1.length co183 : Value).ownBlock) (n := y240.length) (c := co184) ?_).2.2; exact (by (with_reducible repeat (first | apply Kd.R_alloc | apply Kd.R_drewN | apply Kd.R_drew)); exact (Kd.R_mono (Kd.R_far (p := ⟨gb243, 0, none⟩) (Kd.R_types HO242.out BK243.out (by decide)) (fun _ hk => hk.2) (.slice Ao184 y240.length co184)) (fun _ h_ => h_.1)))); (case side2 => exact (Kd.R_reads' HO242.out).2.1); rintro e w190 ⟨rfl, hb⟩; refine ⟨_, rfl, ?_⟩; replace HO_5 := Aside0.mk (Kd.R_below (by (with_reducible repeat (first | apply Kd.R_alloc | apply Kd.R_drewN | apply Kd.R_drew)); exact (Kd.R_mono (Kd.R_far (p := ⟨gb243, 0, none⟩) (Kd.R_types HO_5.out BK243.out (by decide)) (fun _ hk => hk.2) (.slice Ao184 y240.length co184)) (fun _ h_ => h_.1))) hb); replace HO_201000 := Aside0.mk (Kd.R_below (by (with_reducible repeat (first | apply Kd.R_alloc | apply Kd.R_drewN | apply Kd.R_drew)); exact (Kd.R_mono (Kd.R_far (p := ⟨gb243, 0, none⟩) (Kd.R_types HO_201000.out BK243.out (by decide)) (fun _ hk => hk.2) (.slice Ao184 y240.length co184)) (fun _ h_ => h_.1))) hb); replace HO242 := Aside0.mk (Kd.R_below (by (with_reducible repeat (first | apply Kd.R_alloc | apply Kd.R_drewN | apply Kd.R_drew)); exact (Kd.R_mono (Kd.R_far (p := ⟨gb243, 0, none⟩) (Kd.R_types HO242.out BK243.out (by decide)) (fun _ hk => hk.2) (.slice Ao184 y240.length co184)) (fun _ h_ => h_.1))) hb); replace BK200 := Aside0.mk (blk_below (g := gb200) (o := .cells #[.slice Ao183 x201000_1.length co183] 45 (0, 0)) (kF NB200_243 BK200) hb); replace BK202 := Aside0.mk (blk_below (g := gb202) (o := .cells #[.int .i64 x203000_1, .int .i64 x203001_1, .int .i64 x203002_1] 56 (0, 0)) (kF NB202_243 BK202) hb); replace BK243 := Aside0.mk (blk_below (g := gb243) (o := .cells #[.slice Ao184 y240.length co184] 45 (0, 0)) (by (with_reducible repeat (first | refine blk_drewN ?_ _ | refine blk_drew ?_ | refine blk_alloc ?_ _)); refine blk_put (cs := #[.slice none 0 0]) ?_ 0 _ rfl; (with_reducible repeat (first | refine blk_drewN ?_ _ | refine blk_drew ?_ | refine blk_alloc ?_ _)); exact BK243.out) hb); replace HB := bH HB hb; (try clear hb); (try clear hb2); (try clear hk); (try clear hi)) | ((with_reducible refine gate_dst (N := 14) rfl ?_); (try (refine gate_guard (by rfl) ?_; dsimp only)); refine box_event ?hg (N := 14) ?hd (cs := #[.int .i64 0, .int .i64 0, .int .i64 0]) (t := 56) ?hr ?_; (case hd => rfl); (case hg => rfl); (case hr => exact tG); intro gb252 hg w191 hbox hb; replace HO_5 := Aside0.mk (Kd.R_below (tR HO_5) hb); replace HO_201000 := Aside0.mk (Kd.R_below (tR HO_201000) hb); replace HO242 := Aside0.mk (Kd.R_below (tR HO242) hb); have BK252 := Aside0.mk (hbox); have GW252 := gW HB hg; have GE252 := gW HB hg; replace HB := bH HB hb; have NB200_252 := nL BK200 hg; have NB252_200 := nR BK200 hg; replace BK200 := bB BK200 hb; have NB202_252 := nL BK202 hg; have NB252_202 := nR BK202 hg; replace BK202 := bB BK202 hb; have NB243_252 := nL BK243 hg; have NB252_243 := nR BK243 hg; replace BK243 := bB BK243 hb; clear hb hbox hg) | ((with_reducible refine gate_dst (N := 15) rfl ?_); (try (refine gate_guard (by rfl) ?_; dsimp only)); refine box_event ?hg (N := 15) ?hd (cs := #[.int .i64 0, .int .i64 0, .int .i64 0, .int .i64 0]) (t := 58) ?hr ?_; (case hd => rfl); (case hg => rfl); (case hr => exact tG); intro gb253 hg w192 hbox hb; replace HO_5 := Aside0.mk (Kd.R_below (Kd.R_elderB (tR HO_5) gb253 (Nat.le_of_eq hg.symm)) hb); replace HO_201000 := Aside0.mk (Kd.R_below (tR HO_201000) hb); replace HO242 := Aside0.mk (Kd.R_below (tR HO242) hb); have BK253 := Aside0.mk (hbox); have GW253 := gW HB hg; have GE253 := gW HB hg; replace HB := bH HB hb; have NB200_253 := nL BK200 hg; have NB253_200 := nR BK200 hg; replace BK200 := bB BK200 hb; have NB202_253 := nL BK202 hg; have NB253_202 := nR BK202 hg; replace BK202 := bB BK202 hb; have NB243_253 := nL BK243 hg; have NB253_243 := nR BK243 hg; replace BK243 := bB BK243 hb; have NB252_253 := nL BK252 hg; have NB253_252 := nR BK252 hg; replace BK252 := bB BK252 hb; clear hb hbox hg; have hnb193 := NB252_200.out; have hnc193 := NB200_252.out; have hnb194 := NB252_202.out; have hnc194 := NB202_252.out; have hnb195 := NB252_243.out; have hnc195 := NB243_252.out; have hnb196 := NB252_253.out; have hnc196 := NB253_252.out; obtain ⟨hcz197_0, hcz197_1, hcz197_2, hfz197_0, hfz197_1, hfz197_2⟩ := bc3 BK252.out; have hnb198 := NB253_200.out; have hnc198 := NB200_253.out; have hnb199 := NB253_202.out; have hnc199 := NB202_253.out; have hnb200 := NB253_243.out; have hnc200 := NB243_253.out; obtain ⟨hcz201_0, hcz201_1, hcz201_2, hcz201_3, hfz201_0, hfz201_1, hfz201_2, hfz201_3⟩ := bc4 BK253.out))
        have n0_ : Aside0 (Kd.R k58 58 (((((((w192.setCell ⟨gb252, 0, none⟩ (.int .i64 t244)).setCell ⟨gb252, 1, none⟩ (.int .i64 t245)).setCell ⟨gb252, 2, none⟩ (.int .i64 t246)).setCell ⟨gb253, 0, none⟩ (.int .i64 t247)).setCell ⟨gb253, 1, none⟩ (.int .i64 t248)).setCell ⟨gb253, 2, none⟩ (.int .i64 t249)).setCell ⟨gb253, 3, none⟩ (.int .i64 t250)) w.heap.size (fun k_ => k_ ≠ gb253) (.slice Ao177 x5_1.length co177) x5_1) := ⟨by (with_reducible repeat (first | apply Kd.R_alloc | apply Kd.R_drewN | apply Kd.R_drew)); exact Kd.R_mono (Kd.R_far (p := ⟨gb253, 3, none⟩) (Kd.R_far (p := ⟨gb253, 2, none⟩) (Kd.R_far (p := ⟨gb253, 1, none⟩) (Kd.R_far (p := ⟨gb253, 0, none⟩) (Kd.R_far (p := ⟨gb252, 2, none⟩) (Kd.R_far (p := ⟨gb252, 1, none⟩) (Kd.R_far (p := ⟨gb252, 0, none⟩) (Kd.R_mono (Kd.R_types HO_5.out BK252.out (by decide)) (fun k_ hk => (⟨hk, hk.1.2⟩ : _ ∧ k_ ≠ gb253))) (fun _ hk => hk.1.2) (.int .i64 t244)) (fun _ hk => hk.1.2) (.int .i64 t245)) (fun _ hk => hk.1.2) (.int .i64 t246)) (fun _ hk => hk.2) (.int .i64 t247)) (fun _ hk => hk.2) (.int .i64 t248)) (fun _ hk => hk.2) (.int .i64 t249)) (fun _ hk => hk.2) (.int .i64 t250)) (fun _ hk => hk.1.1.2)⟩
        have n1_ : Aside0 (Kd.R (Kd.int .i64) 3 (((((((w192.setCell ⟨gb252, 0, none⟩ (.int .i64 t244)).setCell ⟨gb252, 1, none⟩ (.int .i64 t245)).setCell ⟨gb252, 2, none⟩ (.int .i64 t246)).setCell ⟨gb253, 0, none⟩ (.int .i64 t247)).setCell ⟨gb253, 1, none⟩ (.int .i64 t248)).setCell ⟨gb253, 2, none⟩ (.int .i64 t249)).setCell ⟨gb253, 3, none⟩ (.int .i64 t250)) w.heap.size (fun k_ => some k_ ≠ (.slice Ao184 y240.length co184 : Value).ownBlock) (.slice Ao183 x201000_1.length co183) x201000_1) := ⟨by (with_reducible repeat (first | apply Kd.R_alloc | apply Kd.R_drewN | apply Kd.R_drew)); exact Kd.R_mono (Kd.R_far (p := ⟨gb253, 3, none⟩) (Kd.R_far (p := ⟨gb253, 2, none⟩) (Kd.R_far (p := ⟨gb253, 1, none⟩) (Kd.R_far (p := ⟨gb253, 0, none⟩) (Kd.R_far (p := ⟨gb252, 2, none⟩) (Kd.R_far (p := ⟨gb252, 1, none⟩) (Kd.R_far (p := ⟨gb252, 0, none⟩) (Kd.R_types (Kd.R_types HO_201000.out BK252.out (by decide)) BK253.out (by decide)) (fun _ hk => hk.1.2) (.int .i64 t244)) (fun _ hk => hk.1.2) (.int .i64 t245)) (fun _ hk => hk.1.2) (.int .i64 t246)) (fun _ hk => hk.2) (.int .i64 t247)) (fun _ hk => hk.2) (.int .i64 t248)) (fun _ hk => hk.2) (.int .i64 t249)) (fun _ hk => hk.2) (.int .i64 t250)) (fun _ hk => hk.1.1.2)⟩
        have n2_ : Aside0 (Kd.R (Kd.int .i64) 3 (((((((w192.setCell ⟨gb252, 0, none⟩ (.int .i64 t244)).setCell ⟨gb252, 1, none⟩ (.int .i64 t245)).setCell ⟨gb252, 2, none⟩ (.int .i64 t246)).setCell ⟨gb253, 0, none⟩ (.int .i64 t247)).setCell ⟨gb253, 1, none⟩ (.int .i64 t248)).setCell ⟨gb253, 2, none⟩ (.int .i64 t249)).setCell ⟨gb253, 3, none⟩ (.int .i64 t250)) w.heap.size (fun k_ => some k_ ≠ (.slice Ao183 x201000_1.length co183 : Value).ownBlock) (.slice Ao184 y240.length co184) y240) := ⟨by (with_reducible repeat (first | apply Kd.R_alloc | apply Kd.R_drewN | apply Kd.R_drew)); exact Kd.R_mono (Kd.R_far (p := ⟨gb253, 3, none⟩) (Kd.R_far (p := ⟨gb253, 2, none⟩) (Kd.R_far (p := ⟨gb253, 1, none⟩) (Kd.R_far (p := ⟨gb253, 0, none⟩) (Kd.R_far (p := ⟨gb252, 2, none⟩) (Kd.R_far (p := ⟨gb252, 1, none⟩) (Kd.R_far (p := ⟨gb252, 0, none⟩) (Kd.R_types (Kd.R_types HO242.out BK252.out (by decide)) BK253.out (by decide)) (fun _ hk => hk.1.2) (.int .i64 t244)) (fun _ hk => hk.1.2) (.int .i64 t245)) (fun _ hk => hk.1.2) (.int .i64 t246)) (fun _ hk => hk.2) (.int .i64 t247)) (fun _ hk => hk.2) (.int .i64 t248)) (fun _ hk => hk.2) (.int .i64 t249)) (fun _ hk => hk.2) (.int .i64 t250)) (fun _ hk => hk.1.1)⟩
        have n3_ : Aside0 ((((((((w192.setCell ⟨gb252, 0, none⟩ (.int .i64 t244)).setCell ⟨gb252, 1, none⟩ (.int .i64 t245)).setCell ⟨gb252, 2, none⟩ (.int .i64 t246)).setCell ⟨gb253, 0, none⟩ (.int .i64 t247)).setCell ⟨gb253, 1, none⟩ (.int .i64 t248)).setCell ⟨gb253, 2, none⟩ (.int .i64 t249)).setCell ⟨gb253, 3, none⟩ (.int .i64 t250)).heap[gb200]? = some (.cells #[.slice Ao183 x201000_1.length co183] 45 (0, 0))) := ⟨by (with_reducible repeat (first | refine blk_drewN ?_ _ | refine blk_drew ?_ | refine blk_alloc ?_ _)); refine blk_far ?_ NB200_253.out _; (with_reducible repeat (first | refine blk_drewN ?_ _ | refine blk_drew ?_ | refine blk_alloc ?_ _)); refine blk_far ?_ NB200_253.out _; (with_reducible repeat (first | refine blk_drewN ?_ _ | refine blk_drew ?_ | refine blk_alloc ?_ _)); refine blk_far ?_ NB200_253.out _; (with_reducible repeat (first | refine blk_drewN ?_ _ | refine blk_drew ?_ | refine blk_alloc ?_ _)); refine blk_far ?_ NB200_253.out _; (with_reducible repeat (first | refine blk_drewN ?_ _ | refine blk_drew ?_ | refine blk_alloc ?_ _)); refine blk_far ?_ NB200_252.out _; (with_reducible repeat (first | refine blk_drewN ?_ _ | refine blk_drew ?_ | refine blk_alloc ?_ _)); refine blk_far ?_ NB200_252.out _; (with_reducible repeat (first | refine blk_drewN ?_ _ | refine blk_drew ?_ | refine blk_alloc ?_ _)); refine blk_far ?_ NB200_252.out _; (with_reducible repeat (first | refine blk_drewN ?_ _ | refine blk_drew ?_ | refine blk_alloc ?_ _)); exact BK200.out⟩
        have n4_ : Aside0 ((((((((w192.setCell ⟨gb252, 0, none⟩ (.int .i64 t244)).setCell ⟨gb252, 1, none⟩ (.int .i64 t245)).setCell ⟨gb252, 2, none⟩ (.int .i64 t246)).setCell ⟨gb253, 0, none⟩ (.int .i64 t247)).setCell ⟨gb253, 1, none⟩ (.int .i64 t248)).setCell ⟨gb253, 2, none⟩ (.int .i64 t249)).setCell ⟨gb253, 3, none⟩ (.int .i64 t250)).heap[gb202]? = some (.cells #[.int .i64 x203000_1, .int .i64 x203001_1, .int .i64 x203002_1] 56 (0, 0))) := ⟨by (with_reducible repeat (first | refine blk_drewN ?_ _ | refine blk_drew ?_ | refine blk_alloc ?_ _)); refine blk_far ?_ NB202_253.out _; (with_reducible repeat (first | refine blk_drewN ?_ _ | refine blk_drew ?_ | refine blk_alloc ?_ _)); refine blk_far ?_ NB202_253.out _; (with_reducible repeat (first | refine blk_drewN ?_ _ | refine blk_drew ?_ | refine blk_alloc ?_ _)); refine blk_far ?_ NB202_253.out _; (with_reducible repeat (first | refine blk_drewN ?_ _ | refine blk_drew ?_ | refine blk_alloc ?_ _)); refine blk_far ?_ NB202_253.out _; (with_reducible repeat (first | refine blk_drewN ?_ _ | refine blk_drew ?_ | refine blk_alloc ?_ _)); refine blk_far ?_ NB202_252.out _; (with_reducible repeat (first | refine blk_drewN ?_ _ | refine blk_drew ?_ | refine blk_alloc ?_ _)); refine blk_far ?_ NB202_252.out _; (with_reducible repeat (first | refine blk_drewN ?_ _ | refine blk_drew ?_ | refine blk_alloc ?_ _)); refine blk_far ?_ NB202_252.out _; (with_reducible repeat (first | refine blk_drewN ?_ _ | refine blk_drew ?_ | refine blk_alloc ?_ _)); exact BK202.out⟩
        have n5_ : Aside0 ((((((((w192.setCell ⟨gb252, 0, none⟩ (.int .i64 t244)).setCell ⟨gb252, 1, none⟩ (.int .i64 t245)).setCell ⟨gb252, 2, none⟩ (.int .i64 t246)).setCell ⟨gb253, 0, none⟩ (.int .i64 t247)).setCell ⟨gb253, 1, none⟩ (.int .i64 t248)).setCell ⟨gb253, 2, none⟩ (.int .i64 t249)).setCell ⟨gb253, 3, none⟩ (.int .i64 t250)).heap[gb243]? = some (.cells #[.slice Ao184 y240.length co184] 45 (0, 0))) := ⟨by (with_reducible repeat (first | refine blk_drewN ?_ _ | refine blk_drew ?_ | refine blk_alloc ?_ _)); refine blk_far ?_ NB243_253.out _; (with_reducible repeat (first | refine blk_drewN ?_ _ | refine blk_drew ?_ | refine blk_alloc ?_ _)); refine blk_far ?_ NB243_253.out _; (with_reducible repeat (first | refine blk_drewN ?_ _ | refine blk_drew ?_ | refine blk_alloc ?_ _)); refine blk_far ?_ NB243_253.out _; (with_reducible repeat (first | refine blk_drewN ?_ _ | refine blk_drew ?_ | refine blk_alloc ?_ _)); refine blk_far ?_ NB243_253.out _; (with_reducible repeat (first | refine blk_drewN ?_ _ | refine blk_drew ?_ | refine blk_alloc ?_ _)); refine blk_far ?_ NB243_252.out _; (with_reducible repeat (first | refine blk_drewN ?_ _ | refine blk_drew ?_ | refine blk_alloc ?_ _)); refine blk_far ?_ NB243_252.out _; (with_reducible repeat (first | refine blk_drewN ?_ _ | refine blk_drew ?_ | refine blk_alloc ?_ _)); refine blk_far ?_ NB243_252.out _; (with_reducible repeat (first | refine blk_drewN ?_ _ | refine blk_drew ?_ | refine blk_alloc ?_ _)); exact BK243.out⟩
        have n6_ : Aside0 ((((((((w192.setCell ⟨gb252, 0, none⟩ (.int .i64 t244)).setCell ⟨gb252, 1, none⟩ (.int .i64 t245)).setCell ⟨gb252, 2, none⟩ (.int .i64 t246)).setCell ⟨gb253, 0, none⟩ (.int .i64 t247)).setCell ⟨gb253, 1, none⟩ (.int .i64 t248)).setCell ⟨gb253, 2, none⟩ (.int .i64 t249)).setCell ⟨gb253, 3, none⟩ (.int .i64 t250)).heap[gb252]? = some (.cells #[.int .i64 t244, .int .i64 t245, .int .i64 t246] 56 (0, 0))) := ⟨by (with_reducible repeat (first | refine blk_drewN ?_ _ | refine blk_drew ?_ | refine blk_alloc ?_ _)); refine blk_far ?_ NB252_253.out _; (with_reducible repeat (first | refine blk_drewN ?_ _ | refine blk_drew ?_ | refine blk_alloc ?_ _)); refine blk_far ?_ NB252_253.out _; (with_reducible repeat (first | refine blk_drewN ?_ _ | refine blk_drew ?_ | refine blk_alloc ?_ _)); refine blk_far ?_ NB252_253.out _; (with_reducible repeat (first | refine blk_drewN ?_ _ | refine blk_drew ?_ | refine blk_alloc ?_ _)); refine blk_far ?_ NB252_253.out _; (with_reducible repeat (first | refine blk_drewN ?_ _ | refine blk_drew ?_ | refine blk_alloc ?_ _)); refine blk_put (cs := #[.int .i64 t244, .int .i64 t245, .int .i64 0]) ?_ 2 _ rfl; (with_reducible repeat (first | refine blk_drewN ?_ _ | refine blk_drew ?_ | refine blk_alloc ?_ _)); refine blk_put (cs := #[.int .i64 t244, .int .i64 0, .int .i64 0]) ?_ 1 _ rfl; (with_reducible repeat (first | refine blk_drewN ?_ _ | refine blk_drew ?_ | refine blk_alloc ?_ _)); refine blk_put (cs := #[.int .i64 0, .int .i64 0, .int .i64 0]) ?_ 0 _ rfl; (with_reducible repeat (first | refine blk_drewN ?_ _ | refine blk_drew ?_ | refine blk_alloc ?_ _)); exact BK252.out⟩
        have n7_ : Aside0 ((((((((w192.setCell ⟨gb252, 0, none⟩ (.int .i64 t244)).setCell ⟨gb252, 1, none⟩ (.int .i64 t245)).setCell ⟨gb252, 2, none⟩ (.int .i64 t246)).setCell ⟨gb253, 0, none⟩ (.int .i64 t247)).setCell ⟨gb253, 1, none⟩ (.int .i64 t248)).setCell ⟨gb253, 2, none⟩ (.int .i64 t249)).setCell ⟨gb253, 3, none⟩ (.int .i64 t250)).heap[gb253]? = some (.cells #[.int .i64 t247, .int .i64 t248, .int .i64 t249, .int .i64 t250] 58 (0, 0))) := ⟨by (with_reducible repeat (first | refine blk_drewN ?_ _ | refine blk_drew ?_ | refine blk_alloc ?_ _)); refine blk_put (cs := #[.int .i64 t247, .int .i64 t248, .int .i64 t249, .int .i64 0]) ?_ 3 _ rfl; (with_reducible repeat (first | refine blk_drewN ?_ _ | refine blk_drew ?_ | refine blk_alloc ?_ _)); refine blk_put (cs := #[.int .i64 t247, .int .i64 t248, .int .i64 0, .int .i64 0]) ?_ 2 _ rfl; (with_reducible repeat (first | refine blk_drewN ?_ _ | refine blk_drew ?_ | refine blk_alloc ?_ _)); refine blk_put (cs := #[.int .i64 t247, .int .i64 0, .int .i64 0, .int .i64 0]) ?_ 1 _ rfl; (with_reducible repeat (first | refine blk_drewN ?_ _ | refine blk_drew ?_ | refine blk_alloc ?_ _)); refine blk_put (cs := #[.int .i64 0, .int .i64 0, .int .i64 0, .int .i64 0]) ?_ 0 _ rfl; exact kF NB253_252 BK253⟩
        have n8_ : Aside0 (Below w.heap.size w (((((((w192.setCell ⟨gb252, 0, none⟩ (.int .i64 t244)).setCell ⟨gb252, 1, none⟩ (.int .i64 t245)).setCell ⟨gb252, 2, none⟩ (.int .i64 t246)).setCell ⟨gb253, 0, none⟩ (.int .i64 t247)).setCell ⟨gb253, 1, none⟩ (.int .i64 t248)).setCell ⟨gb253, 2, none⟩ (.int .i64 t249)).setCell ⟨gb253, 3, none⟩ (.int .i64 t250))) := ⟨tB⟩
        (try clear HO_5)
        (try clear HO_201000)
        (try clear HO242)
        (try clear BK200)
        (try clear BK202)
        (try clear BK243)
        (try clear BK252)
        (try clear BK253)
        (try clear HB)
        generalize (((((((w192.setCell ⟨gb252, 0, none⟩ (.int .i64 t244)).setCell ⟨gb252, 1, none⟩ (.int .i64 t245)).setCell ⟨gb252, 2, none⟩ (.int .i64 t246)).setCell ⟨gb253, 0, none⟩ (.int .i64 t247)).setCell ⟨gb253, 1, none⟩ (.int .i64 t248)).setCell ⟨gb253, 2, none⟩ (.int .i64 t249)).setCell ⟨gb253, 3, none⟩ (.int .i64 t250)) = w202 at n0_ n1_ n2_ n3_ n4_ n5_ n6_ n7_ n8_ ⊢
        have HO_5 := n0_
        have HO_201000 := n1_
        have HO242 := n2_
        have BK200 := n3_
        have BK202 := n4_
        have BK243 := n5_
        have BK252 := n6_
        have BK253 := n7_
        have HB := n8_
        clear n0_ n1_ n2_ n3_ n4_ n5_ n6_ n7_ n8_
        replace HO_5 := Aside0.mk (Kd.R_drew HO_5.out)
        replace HO_201000 := Aside0.mk (Kd.R_drew HO_201000.out)
        replace HO242 := Aside0.mk (Kd.R_drew HO242.out)
        replace BK200 := Aside0.mk (blk_drew BK200.out)
        replace BK202 := Aside0.mk (blk_drew BK202.out)
        replace BK243 := Aside0.mk (blk_drew BK243.out)
        replace BK252 := Aside0.mk (blk_drew BK252.out)
        replace BK253 := Aside0.mk (blk_drew BK253.out)
        replace HB := Aside0.mk (below_drew1 HB.out)
        have p254 : 0 ≤ (0 : Int) := (by omega)
        have q254 : 0 < (x5_1.length : Int) := of_decide_eq_true tA
        obtain ⟨ad254, e254, hx254_0, hx254_1, hx254_2, hx254_3⟩ := at_T58 (Kd.R_reads' HO_5.out).2.2 0 p254 q254
        cases e254
        have qi254 : (0 < x5_1.length) = True := eq_true (by omega)
        (try rw [show ((0 : Int)).toNat = 0 from rfl] at hx254_0)
        (try rw [show 0 * 4 = 0 from rfl] at hx254_0)
        (try rw [Addr.add_zero'] at hx254_0)
        (try rw [show ((0 : Int)).toNat = 0 from rfl] at hx254_1)
        (try rw [show 0 * 4 = 0 from rfl] at hx254_1)
        (try rw [Addr.add_zero'] at hx254_1)
        (try rw [show ((0 : Int)).toNat = 0 from rfl] at hx254_2)
        (try rw [show 0 * 4 = 0 from rfl] at hx254_2)
        (try rw [Addr.add_zero'] at hx254_2)
        (try rw [show ((0 : Int)).toNat = 0 from rfl] at hx254_3)
        (try rw [show 0 * 4 = 0 from rfl] at hx254_3)
        (try rw [Addr.add_zero'] at hx254_3)
        replace p254 := eq_true p254
        replace q254 := eq_true q254
        have p255 : 0 ≤ (0 : Int) := (by omega)
        have q255 : 0 < (x5_1.length : Int) := of_decide_eq_true tA
        obtain ⟨ad255, e255, hx255_0, hx255_1, hx255_2, hx255_3⟩ := at_T58 (Kd.R_reads' HO_5.out).2.2 0 p255 q255
        obtain rfl : ad254 = ad255 := (by injection e255)
        have qi255 : (0 < x5_1.length) = True := eq_true (by omega)
        (try rw [show ((0 : Int)).toNat = 0 from rfl] at hx255_0)
        (try rw [show 0 * 4 = 0 from rfl] at hx255_0)
        (try rw [Addr.add_zero'] at hx255_0)
        (try rw [show ((0 : Int)).toNat = 0 from rfl] at hx255_1)
        (try rw [show 0 * 4 = 0 from rfl] at hx255_1)
        (try rw [Addr.add_zero'] at hx255_1)
        (try rw [show ((0 : Int)).toNat = 0 from rfl] at hx255_2)
        (try rw [show 0 * 4 = 0 from rfl] at hx255_2)
        (try rw [Addr.add_zero'] at hx255_2)
        (try rw [show ((0 : Int)).toNat = 0 from rfl] at hx255_3)
        (try rw [show 0 * 4 = 0 from rfl] at hx255_3)
        (try rw [Addr.add_zero'] at hx255_3)
        replace p255 := eq_true p255
        replace q255 := eq_true q255
        refine start_ (n := 30) (S := fun w' => w'.cell? ⟨gb202, 0, none⟩ = some (.int .i64 x203000_1) ∧ w'.cell? ⟨gb202, 1, none⟩ = some (.int .i64 x203001_1) ∧ w'.cell? ⟨gb202, 2, none⟩ = some (.int .i64 x203002_1) ∧ w'.cell? ⟨gb243, 0, none⟩ = some (.slice Ao184 y240.length co184) ∧ w'.cell? ⟨gb253, 0, none⟩ = some (.int .i64 t247) ∧ w'.cell? ⟨gb253, 1, none⟩ = some (.int .i64 t248) ∧ w'.cell? ⟨gb253, 2, none⟩ = some (.int .i64 t249) ∧ w'.cell? ⟨gb253, 3, none⟩ = some (.int .i64 t250) ∧ w'.cell? ad254 = some (.int .i64 ((rd_T58 x5_1 0).f0)) ∧ w'.cell? ⟨ad254.block, ad254.off + 1, none⟩ = some (.int .i64 ((rd_T58 x5_1 0).f1)) ∧ w'.cell? ⟨ad254.block, ad254.off + 2, none⟩ = some (.int .i64 ((rd_T58 x5_1 0).f2)) ∧ w'.cell? ⟨ad254.block, ad254.off + 3, none⟩ = some (.int .i64 ((rd_T58 x5_1 0).f3)) ∧ w'.cell? ad254 = some (.int .i64 ((rd_T58 x5_1 0).f0)) ∧ w'.cell? ⟨ad254.block, ad254.off + 1, none⟩ = some (.int .i64 ((rd_T58 x5_1 0).f1)) ∧ w'.cell? ⟨ad254.block, ad254.off + 2, none⟩ = some (.int .i64 ((rd_T58 x5_1 0).f2)) ∧ w'.cell? ⟨ad254.block, ad254.off + 3, none⟩ = some (.int .i64 ((rd_T58 x5_1 0).f3))) (ds := []) #[N_,N_,N_,N_,N_,N_,N_,N_,N_,N_,N_,N_,N_,N_,N_,N_,N_,N_,N_,N_,N_,N_,N_,N_,N_,N_,N_,N_,N_,N_] (by kernel_rfl) rfl rfl ⟨(blk_cell BK202.out 0).trans rfl, (blk_cell BK202.out 1).trans rfl, (blk_cell BK202.out 2).trans rfl, (blk_cell BK243.out 0).trans rfl, (blk_cell BK253.out 0).trans rfl, (blk_cell BK253.out 1).trans rfl, (blk_cell BK253.out 2).trans rfl, (blk_cell BK253.out 3).trans rfl, hx254_0, hx254_1, hx254_2, hx254_3, hx255_0, hx255_1, hx255_2, hx255_3⟩ (fun hHeld => ?_); refine with_tabW laws_FnPublicLogs.tab26 laws_FnPublicLogs.bits26 (fun HT_ HW_ => ?_)
        generalize w202.drew = w203 at HO_5 HO_201000 HO242 BK200 BK202 BK243 BK252 BK253 HB hx254_0 hx254_1 hx254_2 hx254_3 hx255_0 hx255_1 hx255_2 hx255_3 hHeld ⊢
        refine pure_ (i := 0) (N := some 141) #[Y_,N_,N_,N_,N_,N_,N_,N_,N_,N_,N_,N_,N_,N_,N_,N_,N_,N_,N_,N_,N_,N_,N_,N_,N_,N_,N_,N_,N_,N_] rfl rfl (any_of HT_.out (by kernel_rfl)) (fun _ _ _ h => h) (Or.inl ⟨by rfl, tX⟩) tV ?_
        refine pure_ (i := 1) (N := some 142) #[Y_,Y_,N_,N_,N_,N_,N_,N_,N_,N_,N_,N_,N_,N_,N_,N_,N_,N_,N_,N_,N_,N_,N_,N_,N_,N_,N_,N_,N_,N_] rfl rfl (any_of HT_.out (by kernel_rfl)) (fun _ _ _ h => h) (Or.inl ⟨by rfl, tX⟩) tV ?_
        refine take_ (i := 2) (N := some 143) (v := ?_) (a' := ?_) #[Y_,Y_,Y_,N_,N_,N_,N_,N_,N_,N_,N_,N_,N_,N_,N_,N_,N_,N_,N_,N_,N_,N_,N_,N_,N_,N_,N_,N_,N_,N_] rfl rfl (take_ofW HT_.out HW_.out (by kernel_rfl)) (fun _ _ _ h => h) (Or.inl ⟨by rfl, ?_⟩) hHeld ?_ ?_
        rotate_left
        ·rintro w' ⟨s0, s1, s2, s3, s4, s5, s6, s7, s8, s9, s10, s11, s12, s13, s14, s15⟩
         go_simp
         with_reducible rfl
        rotate_left
        ·simp only [Act.put, List.setIfInBounds_toArray, List.set_cons_zero, List.set_cons_succ, i64_w, i32_w]
         rfl
        refine pure_ (i := 3) (N := some 144) #[Y_,Y_,Y_,Y_,N_,N_,N_,N_,N_,N_,N_,N_,N_,N_,N_,N_,N_,N_,N_,N_,N_,N_,N_,N_,N_,N_,N_,N_,N_,N_] rfl rfl (any_of HT_.out (by kernel_rfl)) (fun _ _ _ h => h) (Or.inl ⟨by rfl, tX⟩) tV ?_
        refine pure_ (i := 4) (N := some 145) #[Y_,Y_,Y_,Y_,Y_,N_,N_,N_,N_,N_,N_,N_,N_,N_,N_,N_,N_,N_,N_,N_,N_,N_,N_,N_,N_,N_,N_,N_,N_,N_] rfl rfl (any_of HT_.out (by kernel_rfl)) (fun _ _ _ h => h) (Or.inl ⟨by rfl, tX⟩) tV ?_
        refine pure_ (i := 5) (N := some 146) #[Y_,Y_,Y_,Y_,Y_,Y_,N_,N_,N_,N_,N_,N_,N_,N_,N_,N_,N_,N_,N_,N_,N_,N_,N_,N_,N_,N_,N_,N_,N_,N_] rfl rfl (any_of HT_.out (by kernel_rfl)) (fun _ _ _ h => h) (Or.inl ⟨by rfl, tX⟩) tV ?_
        refine pure_ (i := 6) (N := some 147) #[Y_,Y_,Y_,Y_,Y_,Y_,Y_,N_,N_,N_,N_,N_,N_,N_,N_,N_,N_,N_,N_,N_,N_,N_,N_,N_,N_,N_,N_,N_,N_,N_] rfl rfl (any_of HT_.out (by kernel_rfl)) (fun _ _ _ h => h) (Or.inl ⟨by rfl, tX⟩) tV ?_
        refine pure_ (i := 7) (N := some 148) #[Y_,Y_,Y_,Y_,Y_,Y_,Y_,Y_,N_,N_,N_,N_,N_,N_,N_,N_,N_,N_,N_,N_,N_,N_,N_,N_,N_,N_,N_,N_,N_,N_] rfl rfl (any_of HT_.out (by kernel_rfl)) (fun _ _ _ h => h) (Or.inl ⟨by rfl, tX⟩) tV ?_
        refine pure_ (i := 8) (N := some 149) #[Y_,Y_,Y_,Y_,Y_,Y_,Y_,Y_,Y_,N_,N_,N_,N_,N_,N_,N_,N_,N_,N_,N_,N_,N_,N_,N_,N_,N_,N_,N_,N_,N_] rfl rfl (any_of HT_.out (by kernel_rfl)) (fun _ _ _ h => h) (Or.inl ⟨by rfl, tX⟩) tV ?_
        refine pure_ (i := 9) (N := some 150) #[Y_,Y_,Y_,Y_,Y_,Y_,Y_,Y_,Y_,Y_,N_,N_,N_,N_,N_,N_,N_,N_,N_,N_,N_,N_,N_,N_,N_,N_,N_,N_,N_,N_] rfl rfl (any_of HT_.out (by kernel_rfl)) (fun _ _ _ h => h) (Or.inl ⟨by rfl, tX⟩) tV ?_
        refine pure_ (i := 10) (N := some 151) #[Y_,Y_,Y_,Y_,Y_,Y_,Y_,Y_,Y_,Y_,Y_,N_,N_,N_,N_,N_,N_,N_,N_,N_,N_,N_,N_,N_,N_,N_,N_,N_,N_,N_] rfl rfl (any_of HT_.out (by kernel_rfl)) (fun _ _ _ h => h) (Or.inl ⟨by rfl, tX⟩) tV ?_
        refine pure_ (i := 11) (N := some 152) #[Y_,Y_,Y_,Y_,Y_,Y_,Y_,Y_,Y_,Y_,Y_,Y_,N_,N_,N_,N_,N_,N_,N_,N_,N_,N_,N_,N_,N_,N_,N_,N_,N_,N_] rfl rfl (any_of HT_.out (by kernel_rfl)) (fun _ _ _ h => h) (Or.inl ⟨by rfl, tX⟩) tV ?_
        refine pure_ (i := 13) (N := some 154) #[Y_,Y_,Y_,Y_,Y_,Y_,Y_,Y_,Y_,Y_,Y_,Y_,N_,Y_,N_,N_,N_,N_,N_,N_,N_,N_,N_,N_,N_,N_,N_,N_,N_,N_] rfl rfl (any_of HT_.out (by kernel_rfl)) (fun _ _ _ h => h) (Or.inl ⟨by rfl, tX⟩) tV ?_
        refine pure_ (i := 14) (N := some 155) #[Y_,Y_,Y_,Y_,Y_,Y_,Y_,Y_,Y_,Y_,Y_,Y_,N_,Y_,Y_,N_,N_,N_,N_,N_,N_,N_,N_,N_,N_,N_,N_,N_,N_,N_] rfl rfl (any_of HT_.out (by kernel_rfl)) (fun _ _ _ h => h) (Or.inl ⟨by rfl, tX⟩) tV ?_
        refine take_ (i := 12) (N := some 153) (v := ?_) (a' := ?_) #[Y_,Y_,Y_,Y_,Y_,Y_,Y_,Y_,Y_,Y_,Y_,Y_,Y_,Y_,Y_,N_,N_,N_,N_,N_,N_,N_,N_,N_,N_,N_,N_,N_,N_,N_] rfl rfl (take_ofW HT_.out HW_.out (by kernel_rfl)) (fun _ _ _ h => h) (Or.inl ⟨by rfl, ?_⟩) hHeld ?_ ?_
        rotate_left
        ·rintro w' ⟨s0, s1, s2, s3, s4, s5, s6, s7, s8, s9, s10, s11, s12, s13, s14, s15⟩
         go_simp
         with_reducible rfl
        rotate_left
        ·simp only [Act.put, List.setIfInBounds_toArray, List.set_cons_zero, List.set_cons_succ, i64_w, i32_w]
         rfl
        refine take_ (i := 15) (N := some 156) (v := ?_) (a' := ?_) #[Y_,Y_,Y_,Y_,Y_,Y_,Y_,Y_,Y_,Y_,Y_,Y_,Y_,Y_,Y_,Y_,N_,N_,N_,N_,N_,N_,N_,N_,N_,N_,N_,N_,N_,N_] rfl rfl (take_ofW HT_.out HW_.out (by kernel_rfl)) (fun _ _ _ h => h) (Or.inl ⟨by rfl, ?_⟩) hHeld ?_ ?_
        rotate_left
        ·rintro w' ⟨s0, s1, s2, s3, s4, s5, s6, s7, s8, s9, s10, s11, s12, s13, s14, s15⟩
         go_simp
         with_reducible rfl
        rotate_left
        ·simp only [Act.put, List.setIfInBounds_toArray, List.set_cons_zero, List.set_cons_succ, i64_w, i32_w]
         rfl
        refine take_ (i := 16) (N := some 157) (v := ?_) (a' := ?_) #[Y_,Y_,Y_,Y_,Y_,Y_,Y_,Y_,Y_,Y_,Y_,Y_,Y_,Y_,Y_,Y_,Y_,N_,N_,N_,N_,N_,N_,N_,N_,N_,N_,N_,N_,N_] rfl rfl (take_ofW HT_.out HW_.out (by kernel_rfl)) (fun _ _ _ h => h) (Or.inl ⟨by rfl, ?_⟩) hHeld ?_ ?_
        rotate_left
        ·rintro w' ⟨s0, s1, s2, s3, s4, s5, s6, s7, s8, s9, s10, s11, s12, s13, s14, s15⟩
         go_simp
         with_reducible rfl
        rotate_left
        ·simp only [Act.put, List.setIfInBounds_toArray, List.set_cons_zero, List.set_cons_succ, i64_w, i32_w]
         rfl
        refine one_ (i := 17) (N := some 158) #[Y_,Y_,Y_,Y_,Y_,Y_,Y_,Y_,Y_,Y_,Y_,Y_,Y_,Y_,Y_,Y_,Y_,Y_,N_,N_,N_,N_,N_,N_,N_,N_,N_,N_,N_,N_] rfl rfl (one_of HT_.out (by kernel_rfl)) (by decide) (fun K hK => ?_)
        refine goes_ Try.func39 (by kernel_rfl) rfl #[.agg #[.int .i64 ((rd_T58 x5_1 0).f0), .int .i64 ((rd_T58 x5_1 0).f1), .int .i64 ((rd_T58 x5_1 0).f2), .int .i64 ((rd_T58 x5_1 0).f3)], .agg #[.int .i64 ((rd_T58 x5_1 0).f0), .int .i64 ((rd_T58 x5_1 0).f1), .int .i64 ((rd_T58 x5_1 0).f2), .int .i64 ((rd_T58 x5_1 0).f3)], .agg #[.slice Ao184 y240.length co184]] (by rfl) rfl rfl tL ?_
        with_reducible refine (impl_AreConsistent.calls k2 ((rd_T58 x5_1 0).f0) ((rd_T58 x5_1 0).f1) ((rd_T58 x5_1 0).f2) ((rd_T58 x5_1 0).f3) ((rd_T58 x5_1 0).f0) ((rd_T58 x5_1 0).f1) ((rd_T58 x5_1 0).f2) ((rd_T58 x5_1 0).f3) _ _ y240 false _ ?side1 ?side2 A146.out).mono ?_
        (case side1 => repeat (first | exact (Kd.R_reads' HO242.out).2.2 | (with_reducible refine Kd.C_alloc ?_ _) | (with_reducible refine Kd.C_drewN ?_ _) | (with_reducible refine Kd.C_drew ?_)))
        (case side2 => exact (Kd.R_reads' HO242.out).2.1)
        rintro e w204 ⟨rfl, hb⟩
        have HS8_ := (hb.cell (World.block_lt_of_cell? _ _ (hHeld.2.2.2.2.2.2.2.2.1))).trans (hHeld.2.2.2.2.2.2.2.2.1)
        have HS9_ := (hb.cell (World.block_lt_of_cell? _ _ (hHeld.2.2.2.2.2.2.2.2.2.1))).trans (hHeld.2.2.2.2.2.2.2.2.2.1)
        have HS10_ := (hb.cell (World.block_lt_of_cell? _ _ (hHeld.2.2.2.2.2.2.2.2.2.2.1))).trans (hHeld.2.2.2.2.2.2.2.2.2.2.1)
        have HS11_ := (hb.cell (World.block_lt_of_cell? _ _ (hHeld.2.2.2.2.2.2.2.2.2.2.2.1))).trans (hHeld.2.2.2.2.2.2.2.2.2.2.2.1)
        have HS12_ := (hb.cell (World.block_lt_of_cell? _ _ (hHeld.2.2.2.2.2.2.2.2.2.2.2.2.1))).trans (hHeld.2.2.2.2.2.2.2.2.2.2.2.2.1)
        have HS13_ := (hb.cell (World.block_lt_of_cell? _ _ (hHeld.2.2.2.2.2.2.2.2.2.2.2.2.2.1))).trans (hHeld.2.2.2.2.2.2.2.2.2.2.2.2.2.1)
        have HS14_ := (hb.cell (World.block_lt_of_cell? _ _ (hHeld.2.2.2.2.2.2.2.2.2.2.2.2.2.2.1))).trans (hHeld.2.2.2.2.2.2.2.2.2.2.2.2.2.2.1)
        have HS15_ := (hb.cell (World.block_lt_of_cell? _ _ (hHeld.2.2.2.2.2.2.2.2.2.2.2.2.2.2.2))).trans (hHeld.2.2.2.2.2.2.2.2.2.2.2.2.2.2.2)
        refine ⟨_, rfl, ?_⟩
        replace HO_5 := Aside0.mk (Kd.R_below (tR HO_5) hb)
        replace HO_201000 := Aside0.mk (Kd.R_below (tR HO_201000) hb)
        replace HO242 := Aside0.mk (Kd.R_below (tR HO242) hb)
        replace BK200 := bB BK200 hb
        replace BK202 := bB BK202 hb
        replace BK243 := bB BK243 hb
        replace BK252 := bB BK252 hb
        replace BK253 := bB BK253 hb
        replace HB := bH HB hb
        (try clear hb)
        (try clear hb2)
        (try clear hk)
        (try clear hi)
        refine hK.out _ _ ⟨(blk_cell BK202.out 0).trans rfl, (blk_cell BK202.out 1).trans rfl, (blk_cell BK202.out 2).trans rfl, (blk_cell BK243.out 0).trans rfl, (blk_cell BK253.out 0).trans rfl, (blk_cell BK253.out 1).trans rfl, (blk_cell BK253.out 2).trans rfl, (blk_cell BK253.out 3).trans rfl, HS8_, HS9_, HS10_, HS11_, HS12_, HS13_, HS14_, HS15_⟩ (fun hHeld => ?_)
        clear hK K
        refine norm_ (tV : Act.put _ (some 158) _ = _) ?_
        refine pure_ (i := 18) (N := some 159) #[Y_,Y_,Y_,Y_,Y_,Y_,Y_,Y_,Y_,Y_,Y_,Y_,Y_,Y_,Y_,Y_,Y_,Y_,Y_,N_,N_,N_,N_,N_,N_,N_,N_,N_,N_,N_] rfl rfl (any_of HT_.out (by kernel_rfl)) (fun _ _ _ h => h) (Or.inl ⟨by rfl, tX⟩) tV ?_
        refine pure_ (i := 19) (N := some 160) #[Y_,Y_,Y_,Y_,Y_,Y_,Y_,Y_,Y_,Y_,Y_,Y_,Y_,Y_,Y_,Y_,Y_,Y_,Y_,Y_,N_,N_,N_,N_,N_,N_,N_,N_,N_,N_] rfl rfl (any_of HT_.out (by kernel_rfl)) (fun _ _ _ h => h) (Or.inl ⟨by rfl, tX⟩) tV ?_
        refine pure_ (i := 20) (N := some 161) #[Y_,Y_,Y_,Y_,Y_,Y_,Y_,Y_,Y_,Y_,Y_,Y_,Y_,Y_,Y_,Y_,Y_,Y_,Y_,Y_,Y_,N_,N_,N_,N_,N_,N_,N_,N_,N_] rfl rfl (any_of HT_.out (by kernel_rfl)) (fun _ _ _ h => h) (Or.inl ⟨by rfl, tX⟩) tV ?_
        refine pure_ (i := 21) (N := some 162) #[Y_,Y_,Y_,Y_,Y_,Y_,Y_,Y_,Y_,Y_,Y_,Y_,Y_,Y_,Y_,Y_,Y_,Y_,Y_,Y_,Y_,Y_,N_,N_,N_,N_,N_,N_,N_,N_] rfl rfl (any_of HT_.out (by kernel_rfl)) (fun _ _ _ h => h) (Or.inl ⟨by rfl, tX⟩) tV ?_
        refine pure_ (i := 22) (N := some 163) #[Y_,Y_,Y_,Y_,Y_,Y_,Y_,Y_,Y_,Y_,Y_,Y_,Y_,Y_,Y_,Y_,Y_,Y_,Y_,Y_,Y_,Y_,Y_,N_,N_,N_,N_,N_,N_,N_] rfl rfl (any_of HT_.out (by kernel_rfl)) (fun _ _ _ h => h) (Or.inl ⟨by rfl, tX⟩) tV ?_
        refine pure_ (i := 23) (N := some 164) #[Y_,Y_,Y_,Y_,Y_,Y_,Y_,Y_,Y_,Y_,Y_,Y_,Y_,Y_,Y_,Y_,Y_,Y_,Y_,Y_,Y_,Y_,Y_,Y_,N_,N_,N_,N_,N_,N_] rfl rfl (any_of HT_.out (by kernel_rfl)) (fun _ _ _ h => h) (Or.inl ⟨by rfl, tX⟩) tV ?_
        refine pure_ (i := 25) (N := some 166) #[Y_,Y_,Y_,Y_,Y_,Y_,Y_,Y_,Y_,Y_,Y_,Y_,Y_,Y_,Y_,Y_,Y_,Y_,Y_,Y_,Y_,Y_,Y_,Y_,N_,Y_,N_,N_,N_,N_] rfl rfl (any_of HT_.out (by kernel_rfl)) (fun _ _ _ h => h) (Or.inl ⟨by rfl, tX⟩) tV ?_
        refine take_ (i := 24) (N := some 165) (v := ?_) (a' := ?_) #[Y_,Y_,Y_,Y_,Y_,Y_,Y_,Y_,Y_,Y_,Y_,Y_,Y_,Y_,Y_,Y_,Y_,Y_,Y_,Y_,Y_,Y_,Y_,Y_,Y_,Y_,N_,N_,N_,N_] rfl rfl (take_ofW HT_.out HW_.out (by kernel_rfl)) (fun _ _ _ h => h) (Or.inl ⟨by rfl, ?_⟩) hHeld ?_ ?_
        rotate_left
        ·rintro w' ⟨s0, s1, s2, s3, s4, s5, s6, s7, s8, s9, s10, s11, s12, s13, s14, s15⟩
         go_simp
         with_reducible rfl
        rotate_left
        ·simp only [Act.put, List.setIfInBounds_toArray, List.set_cons_zero, List.set_cons_succ, i64_w, i32_w]
         rfl
        refine pure_ (i := 26) (N := some 167) #[Y_,Y_,Y_,Y_,Y_,Y_,Y_,Y_,Y_,Y_,Y_,Y_,Y_,Y_,Y_,Y_,Y_,Y_,Y_,Y_,Y_,Y_,Y_,Y_,Y_,Y_,Y_,N_,N_,N_] rfl rfl (any_of HT_.out (by kernel_rfl)) (fun _ _ _ h => h) (Or.inl ⟨by rfl, tX⟩) tV ?_
        refine pure_ (i := 27) (N := some 168) #[Y_,Y_,Y_,Y_,Y_,Y_,Y_,Y_,Y_,Y_,Y_,Y_,Y_,Y_,Y_,Y_,Y_,Y_,Y_,Y_,Y_,Y_,Y_,Y_,Y_,Y_,Y_,Y_,N_,N_] rfl rfl (any_of HT_.out (by kernel_rfl)) (fun _ _ _ h => h) (Or.inl ⟨by rfl, tX⟩) tV ?_
        refine pure_ (i := 28) (N := some 169) #[Y_,Y_,Y_,Y_,Y_,Y_,Y_,Y_,Y_,Y_,Y_,Y_,Y_,Y_,Y_,Y_,Y_,Y_,Y_,Y_,Y_,Y_,Y_,Y_,Y_,Y_,Y_,Y_,Y_,N_] rfl rfl (any_of HT_.out (by kernel_rfl)) (fun _ _ _ h => h) (Or.inl ⟨by rfl, tX⟩) tV ?_
        refine pure_ (i := 29) (N := some 2) #[Y_,Y_,Y_,Y_,Y_,Y_,Y_,Y_,Y_,Y_,Y_,Y_,Y_,Y_,Y_,Y_,Y_,Y_,Y_,Y_,Y_,Y_,Y_,Y_,Y_,Y_,Y_,Y_,Y_,Y_] rfl rfl (any_of HT_.out (by kernel_rfl)) (fun _ _ _ h => h) (Or.inl ⟨by rfl, tX⟩) tV ?_
        refine done_ (done_of HT_.out (by kernel_rfl)) ?_
        try go_wp2
        go_ret
        exact ⟨tE, tB⟩
       rw [if_neg c145] at H
       exact absurd H (by simp)
      rw [if_neg c88] at H
      have c88b0 : (t251 == (x203001_1 == 0)) = false := by simpa using c88
      (try (have c88b1 : decide (t251 = (x203001_1 == 0)) = false := by simpa using c88))
      (try (have c88b2 : (t251 == (x203001_1 == 0)) = false := by simpa using c88))
      (try (have c88b3 : ¬ (t251 = (x203001_1 == 0)) := by simpa using c88))
      clear c88
      exact absurd ((Option.some.inj H).trans hT_) (by decide)
     rw [if_neg c86] at H
     exact absurd H (by simp)

end Go.Proofs.Ytfaecdhobmalfaa.ZFnPublicLogs
