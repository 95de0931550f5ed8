/- The machine side: for each Go function a Lean function and the contract that the Go code answers as it does; printed by program (wip/tmpl/pprint.sh). -/
import Derived.Test.YtjggdakbphjomaaZFnClaimsx0
import Derived.Test.YtjggdakbphjomaaZFnClaimsx9
import Derived.Test.YtjggdakbphjomaaZFnClaimsx13
namespace Go.Proofs.Ytjggdakbphjomaa.ZFnClaims
open Go.RowKit Go.Proofs.YtjggdakbphjomaaW.PrintWords Go.Proofs.YtjggdakbphjomaaW.PrintLast Go.Proofs.YtjggdakbphjomaaW.PrintMore
attribute [local go_sem] max2_int min2_int max_two min_two max_three min_three max_four min_four   -- for this text's walks alone
set_option linter.unusedVariables false
set_option linter.unusedSimpArgs false

/-! ### spec_l28Any: function 111 -/
def spec_l28Any.f (k : Nat) (s0_0 : List Int) (s0_1 : Int) (s0_2 : Int) : Option (Int × (List (S104)) × Int × Int) := (spec_l28List.f k s0_0 s0_1 s0_2).bind fun bt357 => ((spec_l1Below.f s0_0 bt357.2.2.1 bt357.2.2.2 10).bind fun bt364 => (if bt364.1 = 0 then ((spec_l1Int.f s0_0 bt364.2.1 bt364.2.2 (([(-1), 0, 1000000, 1000001] : List Int))).bind fun bt370 => (some (bt370.1, bt357.2.1, bt370.2.1, bt370.2.2))) else (if bt364.1 = 1 then ((spec_l1Below.f s0_0 bt364.2.1 bt364.2.2 9).bind fun bt373 => ((spec_l1Below.f s0_0 bt373.2.1 bt373.2.2 6).bind fun bt376 => ((spec_l1Int.f s0_0 bt376.2.1 bt376.2.2 (([(-1), 5, 1000001] : List Int))).bind fun bt382 => ((spec_l1Int.f s0_0 bt382.2.1 bt382.2.2 (([30, 31] : List Int))).bind fun bt388 => ((spec_l1Below.f s0_0 bt388.2.1 bt388.2.2 5).bind fun bt391 => (if bt357.2.1.length < 2932031007402 then (some (bt357.1, (bt357.2.1 ++ [(⟨wrap64 (bt373.1 - 1), bt376.1, 0, bt382.1, bt388.1, bt391.1⟩ : S104)]), bt391.2.1, bt391.2.2)) else (none))))))) else (some (bt357.1, bt357.2.1, bt364.2.1, bt364.2.2)))))
theorem spec_l28Any.mono : ∀ a0 a1 a2 k, LeO (spec_l28Any.f k a0 a1 a2) (spec_l28Any.f (k + 1) a0 a1 a2) := by
 intro a0 a1 a2 k
 unfold spec_l28Any.f
 repeat' first
   | (with_reducible exact spec_l28List.mono _ _ _ _)
   | (with_reducible exact LeO.refl _)
   | (with_reducible exact LeO.none _)
   | (with_reducible refine LeO.ite ?_ ?_)
   | (with_reducible refine LeO.bind ?_ (fun _ => ?_))
   | exact spec_l28List.mono _ _ _ _
   | exact LeO.none _
   | refine LeO.ite ?_ ?_
   | refine LeO.bind ?_ (fun _ => ?_)
def spec_l28Any.T6 : Bool × List (List Nat × List Nat) := (true, [([], []), ([0], [0]), ([], []), ([2], [2]), ([3], [3]), ([], []), ([5, 3], [5]), ([], []), ([], []), ([7, 8, 6], [7, 8]), ([], []), ([], []), ([10, 11, 9], [10, 11]), ([], []), ([13, 12], [13]), ([4, 6, 9, 12, 14], [4, 6, 9, 12, 14]), ([15], [15]), ([1, 16, 14], [1, 16]), ([0, 1, 2, 3, 4, 5, 6, 7, 8, 9, 10, 11, 12, 13, 14, 15, 16, 17], []), ([18, 17, 17, 0, 1, 2, 3, 4, 5, 6, 7, 8, 9, 10, 11, 12, 13, 14, 15, 16, 17], [17, 18])])
def spec_l28Any.B6 : List Nat := [0, 1, 0, 4, 12, 0, 44, 0, 0, 492, 0, 0, 4076, 0, 16364, 32764, 65532, 131071, 262143, 524287]
theorem spec_l28Any.tab6 : rtab .any (opsOf Try.f111 6) = spec_l28Any.T6 := by kernel_rfl
theorem spec_l28Any.bits6 : waitsOk spec_l28Any.T6.2 spec_l28Any.B6 = true := by kernel_rfl
set_option maxHeartbeats 8000000 in
set_option maxRecDepth 100000 in
theorem spec_l28Any.calls (k : Nat) (g : Nat) (s0_0 : List Int) (s0_1 : Int) (s0_2 : Int) (r1 : Int) (r2 : List (S104)) (r3 : Int) (r4 : Int) (w0 w : World) (hI : IsS139 w0 w g s0_0 s0_1 s0_2) (hB : Below w0.heap.size w0 w) (h : spec_l28Any.f k s0_0 s0_1 s0_2 = some (r1, r2, r3, r4)) :
  Calls Try.prog 111 #[.pointer (some ⟨g, 0, none⟩)] w fun e w' => ∃ v1_ : Value, e = .returned (.agg #[.int .i64 r1, v1_]) ∧ Kd.R k104 104 w' w.heap.size (fun _ => True) v1_ r2 ∧ IsS139 w0 w' g s0_0 r3 r4 ∧ Below w0.heap.size w0 w' ∧ KeepBut w w' g none := by
 have hu35 := Try.underlying35
 have hu104 := Try.underlying104
 have HI0 := Aside0.mk hI
 have HK := Aside0.mk (KeepBut.refl w g none)
 have HL := Aside0.mk hB.size
 clear hI
 have HW0 := Aside0.mk hB.size
 have HB := Aside0.mk hB
 clear hB
 have H : ((spec_l28List.f k s0_0 s0_1 s0_2).bind fun bt357 => ((spec_l1Below.f s0_0 bt357.2.2.1 bt357.2.2.2 10).bind fun bt364 => (if bt364.1 = 0 then ((spec_l1Int.f s0_0 bt364.2.1 bt364.2.2 (([(-1), 0, 1000000, 1000001] : List Int))).bind fun bt370 => (some (bt370.1, bt357.2.1, bt370.2.1, bt370.2.2))) else (if bt364.1 = 1 then ((spec_l1Below.f s0_0 bt364.2.1 bt364.2.2 9).bind fun bt373 => ((spec_l1Below.f s0_0 bt373.2.1 bt373.2.2 6).bind fun bt376 => ((spec_l1Int.f s0_0 bt376.2.1 bt376.2.2 (([(-1), 5, 1000001] : List Int))).bind fun bt382 => ((spec_l1Int.f s0_0 bt382.2.1 bt382.2.2 (([30, 31] : List Int))).bind fun bt388 => ((spec_l1Below.f s0_0 bt388.2.1 bt388.2.2 5).bind fun bt391 => (if bt357.2.1.length < 2932031007402 then (some (bt357.1, (bt357.2.1 ++ [(⟨wrap64 (bt373.1 - 1), bt376.1, 0, bt382.1, bt388.1, bt391.1⟩ : S104)]), bt391.2.1, bt391.2.2)) else (none))))))) else (some (bt357.1, bt357.2.1, bt364.2.1, bt364.2.2)))))) = some (r1, r2, r3, r4) := h
 clear h
 replace H := Option.bind_eq_some_iff.mp H
 obtain ⟨⟨t357, t358, t361, t362⟩, A20, H⟩ := H
 try dsimp only at H
 have A2 := Aside0.mk A20
 clear A20
 replace H := Option.bind_eq_some_iff.mp H
 obtain ⟨⟨t364, t365, t366⟩, A30, H⟩ := H
 try dsimp only at H
 have A3 := Aside0.mk A30
 clear A30
 by_cases c4 : t364 = 0
 ·rw [if_pos c4] at H
  have c4b0 : (t364 == 0) = true := beq_iff_eq.mpr c4
  have c4b1 : (t364 != 0) = false := bne_eq_false_iff_eq.mpr c4
  clear c4
  obtain ⟨y367, hy367⟩ : ∃ y_ : List Int, y_ = (([(-1), 0, 1000000, 1000001] : List Int)) := ⟨_, rfl⟩
  replace H : ((spec_l1Int.f s0_0 t365 t366 y367).bind fun bt370 => (some (bt370.1, t358, bt370.2.1, bt370.2.2))) = some (r1, r2, r3, r4) := by first | (rw [hy367]; with_reducible exact H) | (have H2_ := (Option.bind_some _ _).symm.trans H; rw [hy367]; with_reducible exact H2_) | (have H2_ := (Option.bind_some _ _).symm.trans H; with_reducible exact H2_) | with_reducible exact H | (rw [hy367]; exact H) | exact H
  have Ny367 := Aside0.mk hy367
  clear hy367
  replace H := Option.bind_eq_some_iff.mp H
  obtain ⟨⟨t370, t371, t372⟩, A50, H⟩ := H
  try dsimp only at H
  have A5 := Aside0.mk A50
  clear A50
  simp only [Option.some.injEq, Prod.mk.injEq] at H
  obtain ⟨rfl, rfl, rfl, rfl⟩ := H
  go_enter Try.func111, Try.ntmps111
  go_wp2_with (first | ((with_reducible refine gate_dst (N := 2) rfl ?_); refine box_event ?hg (N := 2) ?hd (cs := #[.int .i64 0, .slice none 0 0]) (t := 35) ?hr ?_; (case hd => rfl); (case hg => rfl); (case hr => exact tG); intro gb356 hg w6 hbox hb; replace HB := Aside0.mk (below_step (by repeat (first | (with_reducible first | exact HB.out | apply below_alloc | apply pw_below_drewN | apply below_drew1 | refine below_set ?_ (IsS139.ge HI0.out)) | exact HB.out)) hb); have BK356 := Aside0.mk (hbox); have GW356 := Aside0.mk ((by rw [hg]; exact (keep_size (w := w) (g := g) (row := none) (by repeat (first | (with_reducible first | exact HK.out | apply KeepBut.set_ | apply keep_drewN | apply keep_drew | apply keep_alloc) | exact HK.out))) : w.heap.size ≤ gb356)); have GE356 := Aside0.mk ((Nat.le_trans HW0.out (by rw [hg]; exact (keep_size (w := w) (g := g) (row := none) (by repeat (first | (with_reducible first | exact HK.out | apply KeepBut.set_ | apply keep_drewN | apply keep_drew | apply keep_alloc) | exact HK.out))) : w.heap.size ≤ gb356) : w0.heap.size ≤ gb356)); replace HK := Aside0.mk (KeepBut.trans (by repeat (first | (with_reducible first | exact HK.out | apply KeepBut.set_ | apply keep_drewN | apply keep_drew | apply keep_alloc) | exact HK.out)) (KeepBut.of_below hb g none) (.inl rfl)); have NB0_356 := Aside0.mk ((by rw [hg]; exact Nat.ne_of_lt (IsS139.lt (show IsS139 w0 _ g s0_0 s0_1 s0_2 from by repeat (first | (with_reducible first | exact HI0.out | apply IsS139.alloc | apply IsS139.drewN | apply IsS139.drew | apply IsS139.set_1 | apply IsS139.set_2) | exact HI0.out))) : g ≠ gb356)); have NB356_0 := Aside0.mk ((by rw [hg]; exact Nat.ne_of_gt (IsS139.lt (show IsS139 w0 _ g s0_0 s0_1 s0_2 from by repeat (first | (with_reducible first | exact HI0.out | apply IsS139.alloc | apply IsS139.drewN | apply IsS139.drew | apply IsS139.set_1 | apply IsS139.set_2) | exact HI0.out))) : gb356 ≠ g)); replace HI0 := Aside0.mk (IsS139.below (by repeat (first | (with_reducible first | exact HI0.out | apply IsS139.alloc | apply IsS139.drewN | apply IsS139.drew | apply IsS139.set_1 | apply IsS139.set_2) | exact HI0.out)) hb); clear hb hbox hg) | ((with_reducible refine gate_callee (f := 135) rfl ?_); refine goesL_ (some 5) rfl rfl Try.func135 (by kernel_rfl) rfl #[.pointer (some ⟨g, 0, none⟩)] rfl tL ?_; (with_reducible refine (spec_l28List.calls k g s0_0 s0_1 s0_2 t357 t358 t361 t362 w0 _ ?side1 ?side2 A2.out).mono ?_); (case side1 => repeat (first | (with_reducible first | exact HI0.out | apply IsS139.alloc | apply IsS139.drewN | apply IsS139.drew | apply IsS139.set_1 | apply IsS139.set_2 | refine IsS139.far ?_ NB0_356.out _) | exact HI0.out)); (case side2 => repeat (first | (with_reducible first | exact HB.out | apply below_alloc | apply pw_below_drewN | apply below_drew1 | refine below_set ?_ (IsS139.ge HI0.out) | refine below_set ?_ GE356.out) | exact HB.out)); rintro e w7 ⟨v359, rfl, ho0, hi, hb, hk⟩; refine ⟨_, rfl, ?_⟩; replace BK356 := Aside0.mk (KeepBut.blk hk (g' := gb356) (o := .cells #[.int .i64 0, .slice none 0 0] 35 (0, 0)) (tK BK356) NB356_0.out (by simp)); have HO360 := Aside0.mk (Kd.R_lower ho0 (keep_size (w := w) (g := g) (row := none) (by repeat (first | (with_reducible first | exact HK.out | apply KeepBut.set_ | apply keep_drewN | apply keep_drew | apply keep_alloc | refine keep_far ?_ GW356.out _) | exact HK.out)))); replace HK := Aside0.mk (KeepBut.trans (by repeat (first | (with_reducible first | exact HK.out | apply KeepBut.set_ | apply keep_drewN | apply keep_drew | apply keep_alloc | refine keep_far ?_ GW356.out _) | exact HK.out)) hk (.inl rfl)); replace HB := Aside0.mk (hb); replace HI0 := Aside0.mk (hi); (try clear hb); (try clear hb2); (try clear hk); (try clear hi); (try clear ho0)) | ((with_reducible refine gate_dst (N := 3) rfl ?_); refine box_event ?hg (N := 3) ?hd (cs := #[.int .i64 0, .slice none 0 0]) (t := 35) ?hr ?_; (case hd => rfl); (case hg => rfl); (case hr => exact tG); intro gb363 hg w8 hbox hb; replace HO360 := Aside0.mk (Kd.R_below (tR HO360) hb); replace HB := Aside0.mk (below_step (by repeat (first | (with_reducible first | exact HB.out | apply below_alloc | apply pw_below_drewN | apply below_drew1 | refine below_set ?_ (IsS139.ge HI0.out) | refine below_set ?_ GE356.out) | exact HB.out)) hb); have BK363 := Aside0.mk (hbox); have GW363 := Aside0.mk ((by rw [hg]; exact (keep_size (w := w) (g := g) (row := none) (by repeat (first | (with_reducible first | exact HK.out | apply KeepBut.set_ | apply keep_drewN | apply keep_drew | apply keep_alloc | refine keep_far ?_ GW356.out _) | exact HK.out))) : w.heap.size ≤ gb363)); have GE363 := Aside0.mk ((Nat.le_trans HW0.out (by rw [hg]; exact (keep_size (w := w) (g := g) (row := none) (by repeat (first | (with_reducible first | exact HK.out | apply KeepBut.set_ | apply keep_drewN | apply keep_drew | apply keep_alloc | refine keep_far ?_ GW356.out _) | exact HK.out))) : w.heap.size ≤ gb363) : w0.heap.size ≤ gb363)); replace HK := Aside0.mk (KeepBut.trans (by repeat (first | (with_reducible first | exact HK.out | apply KeepBut.set_ | apply keep_drewN | apply keep_drew | apply keep_alloc | refine keep_far ?_ GW356.out _) | exact HK.out)) (KeepBut.of_below hb g none) (.inl rfl)); have NB356_363 := nL BK356 hg; have NB363_356 := nR BK356 hg; replace BK356 := bB BK356 hb; have NB0_363 := Aside0.mk ((by rw [hg]; exact Nat.ne_of_lt (IsS139.lt (show IsS139 w0 _ g s0_0 t361 t362 from by repeat (first | (with_reducible first | exact HI0.out | apply IsS139.alloc | apply IsS139.drewN | apply IsS139.drew | apply IsS139.set_1 | apply IsS139.set_2 | refine IsS139.far ?_ NB0_356.out _) | exact HI0.out))) : g ≠ gb363)); have NB363_0 := Aside0.mk ((by rw [hg]; exact Nat.ne_of_gt (IsS139.lt (show IsS139 w0 _ g s0_0 t361 t362 from by repeat (first | (with_reducible first | exact HI0.out | apply IsS139.alloc | apply IsS139.drewN | apply IsS139.drew | apply IsS139.set_1 | apply IsS139.set_2 | refine IsS139.far ?_ NB0_356.out _) | exact HI0.out))) : gb363 ≠ g)); replace HI0 := Aside0.mk (IsS139.below (by repeat (first | (with_reducible first | exact HI0.out | apply IsS139.alloc | apply IsS139.drewN | apply IsS139.drew | apply IsS139.set_1 | apply IsS139.set_2 | refine IsS139.far ?_ NB0_356.out _) | exact HI0.out)) hb); clear hb hbox hg; have hnb9 := NB363_356.out; have hnc9 := NB356_363.out; have hnb10 := NB363_0.out; have hnc10 := NB0_363.out; obtain ⟨hcz11_0, hcz11_1, hfz11_0, hfz11_1⟩ := bc2 BK363.out; obtain ⟨Ao12, co12, eo12⟩ := Kd.R_slice HO360.out; subst eo12) | ((with_reducible refine gate_callee (f := 96) rfl ?_); refine goesL_ (some 7) rfl rfl Try.func96 (by kernel_rfl) rfl #[.pointer (some ⟨g, 0, none⟩), .int .i64 10] rfl tL ?_; (with_reducible refine (spec_l1Below.calls g s0_0 t361 t362 10 t364 t365 t366 w0 _ ?side1 ?side2 A3.out).mono ?_); (case side1 => repeat (first | (with_reducible first | exact HI0.out | apply IsS139.alloc | apply IsS139.drewN | apply IsS139.drew | apply IsS139.set_1 | apply IsS139.set_2 | refine IsS139.far ?_ NB0_356.out _ | refine IsS139.far ?_ NB0_363.out _) | exact HI0.out)); (case side2 => repeat (first | (with_reducible first | exact HB.out | apply below_alloc | apply pw_below_drewN | apply below_drew1 | refine below_set ?_ (IsS139.ge HI0.out) | refine below_set ?_ GE356.out | refine below_set ?_ GE363.out) | exact HB.out)); rintro e w13 ⟨rfl, hi, hb, hk⟩; refine ⟨_, rfl, ?_⟩; replace BK356 := Aside0.mk (KeepBut.blk hk (g' := gb356) (o := .cells #[.int .i64 0, .slice none 0 0] 35 (0, 0)) (kF NB356_363 BK356) NB356_0.out (by simp)); replace HO360 := Aside0.mk (Kd.R_mono (Kd.R_keep (IsS139.apart (show IsS139 w0 _ g s0_0 t361 t362 from by repeat (first | (with_reducible first | exact HI0.out | apply IsS139.alloc | apply IsS139.drewN | apply IsS139.drew | apply IsS139.set_1 | apply IsS139.set_2 | refine IsS139.far ?_ NB0_356.out _ | refine IsS139.far ?_ NB0_363.out _) | exact HI0.out)) (kR HO360 BK363) (by decide)) hk (fun _ h => h.2)) (fun _ h => h.1)); replace BK363 := Aside0.mk (KeepBut.blk hk (g' := gb363) (o := .cells #[.int .i64 t357, .slice Ao12 t358.length co12] 35 (0, 0)) (by (with_reducible repeat (first | refine blk_drewN ?_ _ | refine blk_drew ?_ | refine blk_alloc ?_ _)); refine blk_put (cs := #[.int .i64 t357, .slice none 0 0]) ?_ 1 _ rfl; (with_reducible repeat (first | refine blk_drewN ?_ _ | refine blk_drew ?_ | refine blk_alloc ?_ _)); refine blk_put (cs := #[.int .i64 0, .slice none 0 0]) ?_ 0 _ rfl; (with_reducible repeat (first | refine blk_drewN ?_ _ | refine blk_drew ?_ | refine blk_alloc ?_ _)); exact BK363.out) NB363_0.out (by simp)); replace HK := Aside0.mk (KeepBut.trans (by repeat (first | (with_reducible first | exact HK.out | apply KeepBut.set_ | apply keep_drewN | apply keep_drew | apply keep_alloc | refine keep_far ?_ GW356.out _ | refine keep_far ?_ GW363.out _) | exact HK.out)) hk (.inl rfl)); replace HB := Aside0.mk (hb); replace HI0 := Aside0.mk (hi); (try clear hb); (try clear hb2); (try clear hk); (try clear hi)) | ((with_reducible refine gate_dst (N := 11) rfl ?_); refine Kd.R_lit (Kd.int .i64) _ 3 ?hg (N := 11) ?hd (xs := ([(-1), 0, 1000000, 1000001] : List Int)) (inner := [.int .i64 (-1), .int .i64 0, .int .i64 1000000, .int .i64 1000001]) (ok := fun _ => True) (okp := fun _ => True) ?hr ?hp (fun _ hk => hk) trivial (Below.refl _ _) (Nat.le_refl _) (by simp) ?_; (case hd => rfl); (case hg => rfl); (case hr => exact tG); (case hp => exact (Reps.one (show Kd.M (Kd.int .i64) _ _ _ (-1) [.int .i64 (-1)] from rfl) (Reps.one (show Kd.M (Kd.int .i64) _ _ _ 0 [.int .i64 0] from rfl) (Reps.one (show Kd.M (Kd.int .i64) _ _ _ 1000000 [.int .i64 1000000] from rfl) (Reps.one (show Kd.M (Kd.int .i64) _ _ _ 1000001 [.int .i64 1000001] from rfl) (Reps.none _ _)))))); intro v368 w14 ho15 hb hg_ hnew_; clear hg_ hnew_; (first | rw [← Ny367.out] at ho15 | (simp only [Int.reduceToNat] at ho15; rw [← Ny367.out] at ho15)); replace HO360 := Aside0.mk (Kd.R_below (tR HO360) hb); have HO369 := Aside0.mk (Kd.R_lower ho15 (keep_size (w := w) (g := g) (row := none) (by repeat (first | (with_reducible first | exact HK.out | apply KeepBut.set_ | apply keep_drewN | apply keep_drew | apply keep_alloc | refine keep_far ?_ GW356.out _ | refine keep_far ?_ GW363.out _) | exact HK.out)))); replace BK356 := bB BK356 hb; replace BK363 := bB BK363 hb; replace HK := Aside0.mk (KeepBut.trans (by repeat (first | (with_reducible first | exact HK.out | apply KeepBut.set_ | apply keep_drewN | apply keep_drew | apply keep_alloc | refine keep_far ?_ GW356.out _ | refine keep_far ?_ GW363.out _) | exact HK.out)) (KeepBut.of_below hb g none) (.inl rfl)); replace HB := Aside0.mk (below_step (by repeat (first | (with_reducible first | exact HB.out | apply below_alloc | apply pw_below_drewN | apply below_drew1 | refine below_set ?_ (IsS139.ge HI0.out) | refine below_set ?_ GE356.out | refine below_set ?_ GE363.out) | exact HB.out)) hb); replace HI0 := Aside0.mk (IsS139.below (by repeat (first | (with_reducible first | exact HI0.out | apply IsS139.alloc | apply IsS139.drewN | apply IsS139.drew | apply IsS139.set_1 | apply IsS139.set_2 | refine IsS139.far ?_ NB0_356.out _ | refine IsS139.far ?_ NB0_363.out _) | exact HI0.out)) hb); clear hb ho15; obtain ⟨Ao16, co16, eo16⟩ := Kd.R_slice HO369.out; subst eo16) | ((with_reducible refine gate_callee (f := 112) rfl ?_); refine goesL_ (some 12) rfl rfl Try.func112 (by kernel_rfl) rfl #[.pointer (some ⟨g, 0, none⟩), .slice Ao16 y367.length co16] rfl tL ?_; (with_reducible refine (spec_l1Int.calls g s0_0 t365 t366 _ _ y367 t370 t371 t372 w0 _ ?side1 ?side2 ?side3 ?side4 ?side5 A5.out).mono ?_); (case side1 => repeat (first | (with_reducible first | exact HI0.out | apply IsS139.alloc | apply IsS139.drewN | apply IsS139.drew | apply IsS139.set_1 | apply IsS139.set_2 | refine IsS139.far ?_ NB0_356.out _ | refine IsS139.far ?_ NB0_363.out _) | exact HI0.out)); (case side2 => repeat (first | (with_reducible first | exact HB.out | apply below_alloc | apply pw_below_drewN | apply below_drew1 | refine below_set ?_ (IsS139.ge HI0.out) | refine below_set ?_ GE356.out | refine below_set ?_ GE363.out) | exact HB.out)); (case side3 => exact tC (Kd.R_reads' HO369.out).2.2); (case side4 => exact (Kd.R_reads' HO369.out).2.1); (case side5 => exact far_slice (IsS139.own_ne HI0.out HO369.out (by decide))); rintro e w17 ⟨rfl, hi, hb, hk⟩; refine ⟨_, rfl, ?_⟩; replace BK356 := Aside0.mk (KeepBut.blk hk (g' := gb356) (o := .cells #[.int .i64 0, .slice none 0 0] 35 (0, 0)) (tK BK356) NB356_0.out (by simp)); replace HO360 := Aside0.mk (Kd.R_mono (Kd.R_keep (IsS139.apart (show IsS139 w0 _ g s0_0 t365 t366 from by repeat (first | (with_reducible first | exact HI0.out | apply IsS139.alloc | apply IsS139.drewN | apply IsS139.drew | apply IsS139.set_1 | apply IsS139.set_2 | refine IsS139.far ?_ NB0_356.out _ | refine IsS139.far ?_ NB0_363.out _) | exact HI0.out)) (tR HO360) (by decide)) hk (fun _ h => h.2)) (fun _ h => h.1)); replace BK363 := Aside0.mk (KeepBut.blk hk (g' := gb363) (o := .cells #[.int .i64 t357, .slice Ao12 t358.length co12] 35 (0, 0)) (tK BK363) NB363_0.out (by simp)); replace HO369 := Aside0.mk (Kd.R_mono (Kd.R_keep (IsS139.apart (show IsS139 w0 _ g s0_0 t365 t366 from by repeat (first | (with_reducible first | exact HI0.out | apply IsS139.alloc | apply IsS139.drewN | apply IsS139.drew | apply IsS139.set_1 | apply IsS139.set_2 | refine IsS139.far ?_ NB0_356.out _ | refine IsS139.far ?_ NB0_363.out _) | exact HI0.out)) (tR HO369) (by decide)) hk (fun _ h => h.2)) (fun _ h => h.1)); replace HK := Aside0.mk (KeepBut.trans (by repeat (first | (with_reducible first | exact HK.out | apply KeepBut.set_ | apply keep_drewN | apply keep_drew | apply keep_alloc | refine keep_far ?_ GW356.out _ | refine keep_far ?_ GW363.out _) | exact HK.out)) hk (.inl rfl)); replace HB := Aside0.mk (hb); replace HI0 := Aside0.mk (hi); (try clear hb); (try clear hb2); (try clear hk); (try clear hi); obtain ⟨hcz18_0, hcz18_1, hfz18_0, hfz18_1⟩ := bc2 BK363.out; have hnb19 := NB356_0.out; have hnc19 := NB0_356.out; obtain ⟨hcz20_0, hcz20_1, hfz20_0, hfz20_1⟩ := bc2 BK356.out))
  refine bodyPost_ret (results_cell_row rfl _ _ gb356 35 #[.int .i64 t370, .slice Ao12 t358.length co12] (0, 0) _ rfl (by (with_reducible repeat (first | refine blk_drewN ?_ _ | refine blk_drew ?_ | refine blk_alloc ?_ _)); refine blk_put (cs := #[.int .i64 t370, .slice none 0 0]) ?_ 1 _ rfl; (with_reducible repeat (first | refine blk_drewN ?_ _ | refine blk_drew ?_ | refine blk_alloc ?_ _)); refine blk_put (cs := #[.int .i64 0, .slice none 0 0]) ?_ 0 _ rfl; exact kF NB356_363 BK356) Try.underlying35 rfl (by kernel_rfl)) rfl ?_
  exact ⟨_, tE, by (with_reducible repeat (first | apply Kd.R_alloc | apply Kd.R_drewN | apply Kd.R_drew)); exact Kd.R_mono (Kd.R_far (p := ⟨gb356, 1, none⟩) (Kd.R_far (p := ⟨gb356, 0, none⟩) (Kd.R_far (p := ⟨gb363, 0, none⟩) (Kd.R_types (Kd.R_types HO360.out BK363.out (by decide)) BK356.out (by decide)) (fun _ hk => hk.1.2) (.int .i64 t370)) (fun _ hk => hk.2) (.int .i64 t370)) (fun _ hk => hk.2) (.slice Ao12 t358.length co12)) (fun _ hk => trivial), by repeat (first | (with_reducible first | exact HI0.out | apply IsS139.alloc | apply IsS139.drewN | apply IsS139.drew | apply IsS139.set_1 | apply IsS139.set_2 | refine IsS139.far ?_ NB0_356.out _ | refine IsS139.far ?_ NB0_363.out _) | exact HI0.out), by repeat (first | (with_reducible first | exact HB.out | apply below_alloc | apply pw_below_drewN | apply below_drew1 | refine below_set ?_ (IsS139.ge HI0.out) | refine below_set ?_ GE356.out | refine below_set ?_ GE363.out) | exact HB.out), by repeat (first | (with_reducible first | exact HK.out | apply KeepBut.set_ | apply keep_drewN | apply keep_drew | apply keep_alloc | refine keep_far ?_ GW356.out _ | refine keep_far ?_ GW363.out _) | exact HK.out)⟩
 rw [if_neg c4] at H
 have c4b0 : (t364 == 0) = false := beq_eq_false_iff_ne.mpr c4
 have c4b1 : (t364 != 0) = true := bne_iff_ne.mpr c4
 by_cases c21 : t364 = 1
 ·rw [if_pos c21] at H
  have c21b0 : (t364 == 1) = true := beq_iff_eq.mpr c21
  have c21b1 : (t364 != 1) = false := bne_eq_false_iff_eq.mpr c21
  clear c21
  replace H := Option.bind_eq_some_iff.mp H
  obtain ⟨⟨t373, t374, t375⟩, A220, H⟩ := H
  try dsimp only at H
  have A22 := Aside0.mk A220
  clear A220
  replace H := Option.bind_eq_some_iff.mp H
  obtain ⟨⟨t376, t377, t378⟩, A230, H⟩ := H
  try dsimp only at H
  have A23 := Aside0.mk A230
  clear A230
  obtain ⟨y379, hy379⟩ : ∃ y_ : List Int, y_ = (([(-1), 5, 1000001] : List Int)) := ⟨_, rfl⟩
  replace H : ((spec_l1Int.f s0_0 t377 t378 y379).bind fun bt382 => ((spec_l1Int.f s0_0 bt382.2.1 bt382.2.2 (([30, 31] : List Int))).bind fun bt388 => ((spec_l1Below.f s0_0 bt388.2.1 bt388.2.2 5).bind fun bt391 => (if t358.length < 2932031007402 then (some (t357, (t358 ++ [(⟨wrap64 (t373 - 1), t376, 0, bt382.1, bt388.1, bt391.1⟩ : S104)]), bt391.2.1, bt391.2.2)) else (none))))) = some (r1, r2, r3, r4) := by first | (rw [hy379]; with_reducible exact H) | (have H2_ := (Option.bind_some _ _).symm.trans H; rw [hy379]; with_reducible exact H2_) | (have H2_ := (Option.bind_some _ _).symm.trans H; with_reducible exact H2_) | with_reducible exact H | (rw [hy379]; exact H) | exact H
  have Ny379 := Aside0.mk hy379
  clear hy379
  replace H := Option.bind_eq_some_iff.mp H
  obtain ⟨⟨t382, t383, t384⟩, A240, H⟩ := H
  try dsimp only at H
  have A24 := Aside0.mk A240
  clear A240
  obtain ⟨y385, hy385⟩ : ∃ y_ : List Int, y_ = (([30, 31] : List Int)) := ⟨_, rfl⟩
  replace H : ((spec_l1Int.f s0_0 t383 t384 y385).bind fun bt388 => ((spec_l1Below.f s0_0 bt388.2.1 bt388.2.2 5).bind fun bt391 => (if t358.length < 2932031007402 then (some (t357, (t358 ++ [(⟨wrap64 (t373 - 1), t376, 0, t382, bt388.1, bt391.1⟩ : S104)]), bt391.2.1, bt391.2.2)) else (none)))) = some (r1, r2, r3, r4) := by first | (rw [hy385]; with_reducible exact H) | (have H2_ := (Option.bind_some _ _).symm.trans H; rw [hy385]; with_reducible exact H2_) | (have H2_ := (Option.bind_some _ _).symm.trans H; with_reducible exact H2_) | with_reducible exact H | (rw [hy385]; exact H) | exact H
  have Ny385 := Aside0.mk hy385
  clear hy385
  replace H := Option.bind_eq_some_iff.mp H
  obtain ⟨⟨t388, t389, t390⟩, A250, H⟩ := H
  try dsimp only at H
  have A25 := Aside0.mk A250
  clear A250
  replace H := Option.bind_eq_some_iff.mp H
  obtain ⟨⟨t391, t392, t393⟩, A260, H⟩ := H
  try dsimp only at H
  have A26 := Aside0.mk A260
  clear A260
  by_cases c27 : t358.length < 2932031007402
  ·rw [if_pos c27] at H
   have LMc27 := Aside0.mk c27
   clear c27
   obtain ⟨y394, hy394⟩ : ∃ y_ : List (S104), y_ = (t358 ++ [(⟨wrap64 (t373 - 1), t376, 0, t382, t388, t391⟩ : S104)]) := ⟨_, rfl⟩
   replace H : (some (t357, y394, t392, t393)) = some (r1, r2, r3, r4) := by first | (rw [hy394]; with_reducible exact H) | (have H2_ := (Option.bind_some _ _).symm.trans H; rw [hy394]; with_reducible exact H2_) | (have H2_ := (Option.bind_some _ _).symm.trans H; with_reducible exact H2_) | with_reducible exact H | (rw [hy394]; exact H) | exact H
   have Ny394 := Aside0.mk hy394
   clear hy394
   simp only [Option.some.injEq, Prod.mk.injEq] at H
   obtain ⟨rfl, rfl, rfl, rfl⟩ := H
   go_enter Try.func111, Try.ntmps111
   try go_wp2_with (first | ((with_reducible refine gate_dst (N := 2) rfl ?_); refine box_event ?hg (N := 2) ?hd (cs := #[.int .i64 0, .slice none 0 0]) (t := 35) ?hr ?_; (case hd => rfl); (case hg => rfl); (case hr => exact tG); intro gb356 hg w28 hbox hb; replace HB := Aside0.mk (below_step (by repeat (first | (with_reducible first | exact HB.out | apply below_alloc | apply pw_below_drewN | apply below_drew1 | refine below_set ?_ (IsS139.ge HI0.out)) | exact HB.out)) hb); have BK356 := Aside0.mk (hbox); have GW356 := Aside0.mk ((by rw [hg]; exact (keep_size (w := w) (g := g) (row := none) (by repeat (first | (with_reducible first | exact HK.out | apply KeepBut.set_ | apply keep_drewN | apply keep_drew | apply keep_alloc) | exact HK.out))) : w.heap.size ≤ gb356)); have GE356 := Aside0.mk ((Nat.le_trans HW0.out (by rw [hg]; exact (keep_size (w := w) (g := g) (row := none) (by repeat (first | (with_reducible first | exact HK.out | apply KeepBut.set_ | apply keep_drewN | apply keep_drew | apply keep_alloc) | exact HK.out))) : w.heap.size ≤ gb356) : w0.heap.size ≤ gb356)); replace HK := Aside0.mk (KeepBut.trans (by repeat (first | (with_reducible first | exact HK.out | apply KeepBut.set_ | apply keep_drewN | apply keep_drew | apply keep_alloc) | exact HK.out)) (KeepBut.of_below hb g none) (.inl rfl)); have NB0_356 := Aside0.mk ((by rw [hg]; exact Nat.ne_of_lt (IsS139.lt (show IsS139 w0 _ g s0_0 s0_1 s0_2 from by repeat (first | (with_reducible first | exact HI0.out | apply IsS139.alloc | apply IsS139.drewN | apply IsS139.drew | apply IsS139.set_1 | apply IsS139.set_2) | exact HI0.out))) : g ≠ gb356)); have NB356_0 := Aside0.mk ((by rw [hg]; exact Nat.ne_of_gt (IsS139.lt (show IsS139 w0 _ g s0_0 s0_1 s0_2 from by repeat (first | (with_reducible first | exact HI0.out | apply IsS139.alloc | apply IsS139.drewN | apply IsS139.drew | apply IsS139.set_1 | apply IsS139.set_2) | exact HI0.out))) : gb356 ≠ g)); replace HI0 := Aside0.mk (IsS139.below (by repeat (first | (with_reducible first | exact HI0.out | apply IsS139.alloc | apply IsS139.drewN | apply IsS139.drew | apply IsS139.set_1 | apply IsS139.set_2) | exact HI0.out)) hb); clear hb hbox hg) | ((with_reducible refine gate_callee (f := 135) rfl ?_); refine goesL_ (some 5) rfl rfl Try.func135 (by kernel_rfl) rfl #[.pointer (some ⟨g, 0, none⟩)] rfl tL ?_; (with_reducible refine (spec_l28List.calls k g s0_0 s0_1 s0_2 t357 t358 t361 t362 w0 _ ?side1 ?side2 A2.out).mono ?_); (case side1 => repeat (first | (with_reducible first | exact HI0.out | apply IsS139.alloc | apply IsS139.drewN | apply IsS139.drew | apply IsS139.set_1 | apply IsS139.set_2 | refine IsS139.far ?_ NB0_356.out _) | exact HI0.out)); (case side2 => repeat (first | (with_reducible first | exact HB.out | apply below_alloc | apply pw_below_drewN | apply below_drew1 | refine below_set ?_ (IsS139.ge HI0.out) | refine below_set ?_ GE356.out) | exact HB.out)); rintro e w29 ⟨v359, rfl, ho0, hi, hb, hk⟩; refine ⟨_, rfl, ?_⟩; replace BK356 := Aside0.mk (KeepBut.blk hk (g' := gb356) (o := .cells #[.int .i64 0, .slice none 0 0] 35 (0, 0)) (tK BK356) NB356_0.out (by simp)); have HO360 := Aside0.mk (Kd.R_lower ho0 (keep_size (w := w) (g := g) (row := none) (by repeat (first | (with_reducible first | exact HK.out | apply KeepBut.set_ | apply keep_drewN | apply keep_drew | apply keep_alloc | refine keep_far ?_ GW356.out _) | exact HK.out)))); replace HK := Aside0.mk (KeepBut.trans (by repeat (first | (with_reducible first | exact HK.out | apply KeepBut.set_ | apply keep_drewN | apply keep_drew | apply keep_alloc | refine keep_far ?_ GW356.out _) | exact HK.out)) hk (.inl rfl)); replace HB := Aside0.mk (hb); replace HI0 := Aside0.mk (hi); (try clear hb); (try clear hb2); (try clear hk); (try clear hi); (try clear ho0)) | ((with_reducible refine gate_dst (N := 3) rfl ?_); refine box_event ?hg (N := 3) ?hd (cs := #[.int .i64 0, .slice none 0 0]) (t := 35) ?hr ?_; (case hd => rfl); (case hg => rfl); (case hr => exact tG); intro gb363 hg w30 hbox hb; replace HO360 := Aside0.mk (Kd.R_below (tR HO360) hb); replace HB := Aside0.mk (below_step (by repeat (first | (with_reducible first | exact HB.out | apply below_alloc | apply pw_below_drewN | apply below_drew1 | refine below_set ?_ (IsS139.ge HI0.out) | refine below_set ?_ GE356.out) | exact HB.out)) hb); have BK363 := Aside0.mk (hbox); have GW363 := Aside0.mk ((by rw [hg]; exact (keep_size (w := w) (g := g) (row := none) (by repeat (first | (with_reducible first | exact HK.out | apply KeepBut.set_ | apply keep_drewN | apply keep_drew | apply keep_alloc | refine keep_far ?_ GW356.out _) | exact HK.out))) : w.heap.size ≤ gb363)); have GE363 := Aside0.mk ((Nat.le_trans HW0.out (by rw [hg]; exact (keep_size (w := w) (g := g) (row := none) (by repeat (first | (with_reducible first | exact HK.out | apply KeepBut.set_ | apply keep_drewN | apply keep_drew | apply keep_alloc | refine keep_far ?_ GW356.out _) | exact HK.out))) : w.heap.size ≤ gb363) : w0.heap.size ≤ gb363)); replace HK := Aside0.mk (KeepBut.trans (by repeat (first | (with_reducible first | exact HK.out | apply KeepBut.set_ | apply keep_drewN | apply keep_drew | apply keep_alloc | refine keep_far ?_ GW356.out _) | exact HK.out)) (KeepBut.of_below hb g none) (.inl rfl)); have NB356_363 := nL BK356 hg; have NB363_356 := nR BK356 hg; replace BK356 := bB BK356 hb; have NB0_363 := Aside0.mk ((by rw [hg]; exact Nat.ne_of_lt (IsS139.lt (show IsS139 w0 _ g s0_0 t361 t362 from by repeat (first | (with_reducible first | exact HI0.out | apply IsS139.alloc | apply IsS139.drewN | apply IsS139.drew | apply IsS139.set_1 | apply IsS139.set_2 | refine IsS139.far ?_ NB0_356.out _) | exact HI0.out))) : g ≠ gb363)); have NB363_0 := Aside0.mk ((by rw [hg]; exact Nat.ne_of_gt (IsS139.lt (show IsS139 w0 _ g s0_0 t361 t362 from by repeat (first | (with_reducible first | exact HI0.out | apply IsS139.alloc | apply IsS139.drewN | apply IsS139.drew | apply IsS139.set_1 | apply IsS139.set_2 | refine IsS139.far ?_ NB0_356.out _) | exact HI0.out))) : gb363 ≠ g)); replace HI0 := Aside0.mk (IsS139.below (by repeat (first | (with_reducible first | exact HI0.out | apply IsS139.alloc | apply IsS139.drewN | apply IsS139.drew | apply IsS139.set_1 | apply IsS139.set_2 | refine IsS139.far ?_ NB0_356.out _) | exact HI0.out)) hb); clear hb hbox hg; have hnb31 := NB363_356.out; have hnc31 := NB356_363.out; have hnb32 := NB363_0.out; have hnc32 := NB0_363.out; obtain ⟨hcz33_0, hcz33_1, hfz33_0, hfz33_1⟩ := bc2 BK363.out; obtain ⟨Ao34, co34, eo34⟩ := Kd.R_slice HO360.out; subst eo34) | ((with_reducible refine gate_callee (f := 96) rfl ?_); refine goesL_ (some 7) rfl rfl Try.func96 (by kernel_rfl) rfl #[.pointer (some ⟨g, 0, none⟩), .int .i64 10] rfl tL ?_; (with_reducible refine (spec_l1Below.calls g s0_0 t361 t362 10 t364 t365 t366 w0 _ ?side1 ?side2 A3.out).mono ?_); (case side1 => repeat (first | (with_reducible first | exact HI0.out | apply IsS139.alloc | apply IsS139.drewN | apply IsS139.drew | apply IsS139.set_1 | apply IsS139.set_2 | refine IsS139.far ?_ NB0_356.out _ | refine IsS139.far ?_ NB0_363.out _) | exact HI0.out)); (case side2 => repeat (first | (with_reducible first | exact HB.out | apply below_alloc | apply pw_below_drewN | apply below_drew1 | refine below_set ?_ (IsS139.ge HI0.out) | refine below_set ?_ GE356.out | refine below_set ?_ GE363.out) | exact HB.out)); rintro e w35 ⟨rfl, hi, hb, hk⟩; refine ⟨_, rfl, ?_⟩; replace BK356 := Aside0.mk (KeepBut.blk hk (g' := gb356) (o := .cells #[.int .i64 0, .slice none 0 0] 35 (0, 0)) (kF NB356_363 BK356) NB356_0.out (by simp)); replace HO360 := Aside0.mk (Kd.R_mono (Kd.R_keep (IsS139.apart (show IsS139 w0 _ g s0_0 t361 t362 from by repeat (first | (with_reducible first | exact HI0.out | apply IsS139.alloc | apply IsS139.drewN | apply IsS139.drew | apply IsS139.set_1 | apply IsS139.set_2 | refine IsS139.far ?_ NB0_356.out _ | refine IsS139.far ?_ NB0_363.out _) | exact HI0.out)) (kR HO360 BK363) (by decide)) hk (fun _ h => h.2)) (fun _ h => h.1)); replace BK363 := Aside0.mk (KeepBut.blk hk (g' := gb363) (o := .cells #[.int .i64 t357, .slice Ao34 t358.length co34] 35 (0, 0)) (by (with_reducible repeat (first | refine blk_drewN ?_ _ | refine blk_drew ?_ | refine blk_alloc ?_ _)); refine blk_put (cs := #[.int .i64 t357, .slice none 0 0]) ?_ 1 _ rfl; (with_reducible repeat (first | refine blk_drewN ?_ _ | refine blk_drew ?_ | refine blk_alloc ?_ _)); refine blk_put (cs := #[.int .i64 0, .slice none 0 0]) ?_ 0 _ rfl; (with_reducible repeat (first | refine blk_drewN ?_ _ | refine blk_drew ?_ | refine blk_alloc ?_ _)); exact BK363.out) NB363_0.out (by simp)); replace HK := Aside0.mk (KeepBut.trans (by repeat (first | (with_reducible first | exact HK.out | apply KeepBut.set_ | apply keep_drewN | apply keep_drew | apply keep_alloc | refine keep_far ?_ GW356.out _ | refine keep_far ?_ GW363.out _) | exact HK.out)) hk (.inl rfl)); replace HB := Aside0.mk (hb); replace HI0 := Aside0.mk (hi); (try clear hb); (try clear hb2); (try clear hk); (try clear hi)))
   replace HO360 := Aside0.mk (Kd.R_drew HO360.out)
   replace BK356 := Aside0.mk (blk_drew BK356.out)
   replace BK363 := Aside0.mk (blk_drew BK363.out)
   replace HI0 := Aside0.mk (IsS139.drew HI0.out)
   replace HK := Aside0.mk (keep_drew HK.out)
   replace HB := Aside0.mk (below_drew1 HB.out)
   refine start_ (n := 20) (S := fun w' => w'.cell? ⟨gb363, 0, none⟩ = some (.int .i64 t357) ∧ w'.cell? ⟨gb363, 1, none⟩ = some (.slice Ao34 t358.length co34)) (ds := [19]) (bm 20 0) (by kernel_rfl) rfl (by kernel_rfl) tH (fun hHeld => ?_); refine with_tabW spec_l28Any.tab6 spec_l28Any.bits6 (fun HT_ HW_ => ?_)
   generalize w35.drew = w36 at HO360 BK356 BK363 HI0 HK HB hHeld ⊢
   refine pI 0 16 (bm 20 1) ?_
   refine pI 2 18 (bm 20 5) ?_
   refine pI 5 21 (bm 20 37) ?_
   refine pI 7 23 (bm 20 165) ?_
   refine pI 10 26 (bm 20 1189) ?_
   refine pI 13 29 (bm 20 9381) ?_
   refine pT 1 17 (bm 20 9383) hHeld ?_
   refine join_ (σ := Value × Value) 7 (bm 20 12287) (fun s_ => [(19, .int .i64 t373), (22, .int .i64 t376), (24, s_.1), (25, .int .i64 t382), (27, s_.2), (20, .int .i64 (wrap64 (t373 - 1)))]) (fun s_ w' => (w'.cell? ⟨gb363, 0, none⟩ = some (.int .i64 t357) ∧ w'.cell? ⟨gb363, 1, none⟩ = some (.slice Ao34 t358.length co34)) ∧ (Kd.R k104 104 w' w.heap.size (fun _ => True) (.slice Ao34 t358.length co34) t358) ∧ (Kd.R (Kd.int .i64) 3 w' w.heap.size (fun k_ => some k_ ≠ (s_.2 : Value).ownBlock) s_.1 y379) ∧ (Kd.R (Kd.int .i64) 3 w' w.heap.size (fun k_ => some k_ ≠ (s_.1 : Value).ownBlock) s_.2 y385) ∧ (w'.heap[gb356]? = some (.cells #[.int .i64 0, .slice none 0 0] 35 (0, 0))) ∧ (w'.heap[gb363]? = some (.cells #[.int .i64 t357, .slice Ao34 t358.length co34] 35 (0, 0))) ∧ (IsS139 w0 w' g s0_0 t383 t384) ∧ (KeepBut w w' g none) ∧ (Below w0.heap.size w0 w')) ?_ ?_
   ·rintro ⟨v380, v386⟩ w45 hS_
    dsimp only at hS_
    obtain ⟨hHeld, h0_, h1_, h2_, h3_, h4_, h5_, h6_, h7_⟩ := hS_
    replace HO360 := Aside0.mk h0_
    have HO381 := Aside0.mk h1_
    have HO387 := Aside0.mk h2_
    replace BK356 := Aside0.mk h3_
    replace BK363 := Aside0.mk h4_
    replace HI0 := Aside0.mk h5_
    replace HK := Aside0.mk h6_
    replace HB := Aside0.mk h7_
    clear h0_ h1_ h2_ h3_ h4_ h5_ h6_ h7_
    obtain ⟨Ao46, co46, eo46⟩ := Kd.R_slice HO387.out
    (first | subst eo46 | (injection eo46 with f1_ f2_ f3_; have f4_ := f1_.symm; have f5_ := f3_.symm; clear f1_ f2_ f3_; subst f4_; subst f5_))
    refine norm_ tM ?_
    refine one_ (i := 12) (N := some 28) (bm 20 16383) rfl rfl (one_of HT_.out (by kernel_rfl)) (by decide) (fun K hK => ?_)
    refine goes_ Try.func112 (by kernel_rfl) rfl #[.pointer (some ⟨g, 0, none⟩), .slice Ao46 y385.length co46] (by rfl) rfl rfl tL ?_
    with_reducible refine (spec_l1Int.calls g s0_0 t383 t384 _ _ y385 t388 t389 t390 w0 _ ?side1 ?side2 ?side3 ?side4 ?side5 A25.out).mono ?_
    (case side1 => repeat (first | (with_reducible first | exact HI0.out | apply IsS139.alloc | apply IsS139.drewN | apply IsS139.drew | apply IsS139.set_1 | apply IsS139.set_2 | refine IsS139.far ?_ NB0_356.out _ | refine IsS139.far ?_ NB0_363.out _) | exact HI0.out))
    (case side2 => repeat (first | (with_reducible first | exact HB.out | apply below_alloc | apply pw_below_drewN | apply below_drew1 | refine below_set ?_ (IsS139.ge HI0.out) | refine below_set ?_ GE356.out | refine below_set ?_ GE363.out) | exact HB.out))
    (case side3 => exact tC (Kd.R_reads' HO387.out).2.2)
    (case side4 => exact (Kd.R_reads' HO387.out).2.1)
    (case side5 => exact far_slice (IsS139.own_ne HI0.out HO387.out (by decide)))
    rintro e w47 ⟨rfl, hi, hb, hk⟩
    refine ⟨_, rfl, ?_⟩
    replace BK356 := Aside0.mk (KeepBut.blk hk (g' := gb356) (o := .cells #[.int .i64 0, .slice none 0 0] 35 (0, 0)) (tK BK356) NB356_0.out (by simp))
    replace HO360 := Aside0.mk (Kd.R_mono (Kd.R_keep (IsS139.apart (show IsS139 w0 _ g s0_0 t383 t384 from by repeat (first | (with_reducible first | exact HI0.out | apply IsS139.alloc | apply IsS139.drewN | apply IsS139.drew | apply IsS139.set_1 | apply IsS139.set_2 | refine IsS139.far ?_ NB0_356.out _ | refine IsS139.far ?_ NB0_363.out _) | exact HI0.out)) (tR HO360) (by decide)) hk (fun _ h => h.2)) (fun _ h => h.1))
    replace BK363 := Aside0.mk (KeepBut.blk hk (g' := gb363) (o := .cells #[.int .i64 t357, .slice Ao34 t358.length co34] 35 (0, 0)) (tK BK363) NB363_0.out (by simp))
    replace HO381 := Aside0.mk (Kd.R_mono (Kd.R_keep (IsS139.apart (show IsS139 w0 _ g s0_0 t383 t384 from by repeat (first | (with_reducible first | exact HI0.out | apply IsS139.alloc | apply IsS139.drewN | apply IsS139.drew | apply IsS139.set_1 | apply IsS139.set_2 | refine IsS139.far ?_ NB0_356.out _ | refine IsS139.far ?_ NB0_363.out _) | exact HI0.out)) (tR HO381) (by decide)) hk (fun _ h => h.2)) (fun _ h => h.1))
    replace HO387 := Aside0.mk (Kd.R_mono (Kd.R_keep (IsS139.apart (show IsS139 w0 _ g s0_0 t383 t384 from by repeat (first | (with_reducible first | exact HI0.out | apply IsS139.alloc | apply IsS139.drewN | apply IsS139.drew | apply IsS139.set_1 | apply IsS139.set_2 | refine IsS139.far ?_ NB0_356.out _ | refine IsS139.far ?_ NB0_363.out _) | exact HI0.out)) (tR HO387) (by decide)) hk (fun _ h => h.2)) (fun _ h => h.1))
    replace HK := Aside0.mk (KeepBut.trans (by repeat (first | (with_reducible first | exact HK.out | apply KeepBut.set_ | apply keep_drewN | apply keep_drew | apply keep_alloc | refine keep_far ?_ GW356.out _ | refine keep_far ?_ GW363.out _) | exact HK.out)) hk (.inl rfl))
    replace HB := Aside0.mk (hb)
    replace HI0 := Aside0.mk (hi)
    (try clear hb)
    (try clear hb2)
    (try clear hk)
    (try clear hi)
    refine hK.out _ _ tH (fun hHeld => ?_)
    clear hK K
    refine norm_ (tV : Act.put _ (some 28) _ = _) ?_
    refine one_ (i := 14) (N := some 30) (bm 20 32767) rfl rfl (one_of HT_.out (by kernel_rfl)) (by decide) (fun K hK => ?_)
    refine goes_ Try.func96 (by kernel_rfl) rfl #[.pointer (some ⟨g, 0, none⟩), .int .i64 5] (by rfl) rfl rfl tL ?_
    with_reducible refine (spec_l1Below.calls g s0_0 t389 t390 5 t391 t392 t393 w0 _ ?side1 ?side2 A26.out).mono ?_
    (case side1 => repeat (first | (with_reducible first | exact HI0.out | apply IsS139.alloc | apply IsS139.drewN | apply IsS139.drew | apply IsS139.set_1 | apply IsS139.set_2 | refine IsS139.far ?_ NB0_356.out _ | refine IsS139.far ?_ NB0_363.out _) | exact HI0.out))
    (case side2 => repeat (first | (with_reducible first | exact HB.out | apply below_alloc | apply pw_below_drewN | apply below_drew1 | refine below_set ?_ (IsS139.ge HI0.out) | refine below_set ?_ GE356.out | refine below_set ?_ GE363.out) | exact HB.out))
    rintro e w48 ⟨rfl, hi, hb, hk⟩
    refine ⟨_, rfl, ?_⟩
    replace BK356 := Aside0.mk (KeepBut.blk hk (g' := gb356) (o := .cells #[.int .i64 0, .slice none 0 0] 35 (0, 0)) (tK BK356) NB356_0.out (by simp))
    replace HO360 := Aside0.mk (Kd.R_mono (Kd.R_keep (IsS139.apart (show IsS139 w0 _ g s0_0 t389 t390 from by repeat (first | (with_reducible first | exact HI0.out | apply IsS139.alloc | apply IsS139.drewN | apply IsS139.drew | apply IsS139.set_1 | apply IsS139.set_2 | refine IsS139.far ?_ NB0_356.out _ | refine IsS139.far ?_ NB0_363.out _) | exact HI0.out)) (tR HO360) (by decide)) hk (fun _ h => h.2)) (fun _ h => h.1))
    replace BK363 := Aside0.mk (KeepBut.blk hk (g' := gb363) (o := .cells #[.int .i64 t357, .slice Ao34 t358.length co34] 35 (0, 0)) (tK BK363) NB363_0.out (by simp))
    replace HO381 := Aside0.mk (Kd.R_mono (Kd.R_keep (IsS139.apart (show IsS139 w0 _ g s0_0 t389 t390 from by repeat (first | (with_reducible first | exact HI0.out | apply IsS139.alloc | apply IsS139.drewN | apply IsS139.drew | apply IsS139.set_1 | apply IsS139.set_2 | refine IsS139.far ?_ NB0_356.out _ | refine IsS139.far ?_ NB0_363.out _) | exact HI0.out)) (tR HO381) (by decide)) hk (fun _ h => h.2)) (fun _ h => h.1))
    replace HO387 := Aside0.mk (Kd.R_mono (Kd.R_keep (IsS139.apart (show IsS139 w0 _ g s0_0 t389 t390 from by repeat (first | (with_reducible first | exact HI0.out | apply IsS139.alloc | apply IsS139.drewN | apply IsS139.drew | apply IsS139.set_1 | apply IsS139.set_2 | refine IsS139.far ?_ NB0_356.out _ | refine IsS139.far ?_ NB0_363.out _) | exact HI0.out)) (tR HO387) (by decide)) hk (fun _ h => h.2)) (fun _ h => h.1))
    replace HK := Aside0.mk (KeepBut.trans (by repeat (first | (with_reducible first | exact HK.out | apply KeepBut.set_ | apply keep_drewN | apply keep_drew | apply keep_alloc | refine keep_far ?_ GW356.out _ | refine keep_far ?_ GW363.out _) | exact HK.out)) hk (.inl rfl))
    replace HB := Aside0.mk (hb)
    replace HI0 := Aside0.mk (hi)
    (try clear hb)
    (try clear hb2)
    (try clear hk)
    (try clear hi)
    refine hK.out _ _ tH (fun hHeld => ?_)
    clear hK K
    refine norm_ (tV : Act.put _ (some 30) _ = _) ?_
    refine pI 15 31 (bm 20 65535) ?_
    refine one_ (i := 16) (N := some 32) (bm 20 131071) rfl rfl (one_of HT_.out (by kernel_rfl)) (by decide) (fun K hK => ?_)
    refine value_ (w1 := ?_) (v := ?_) (by rfl) rfl ?_ ?_
    rotate_left 2
    ·go_simp
     constructor
     ·rfl
     rfl
    refine hK.out _ _ ⟨(blk_cell (blk_alloc BK363.out _) 0).trans rfl, (blk_cell (blk_alloc BK363.out _) 1).trans rfl⟩ (fun hHeld => ?_)
    clear hK K
    refine norm_ (tV : Act.put _ (some 32) _ = _) ?_
    refine one_ (i := 17) (N := some 33) (bm 20 262143) rfl rfl (one_of HT_.out (by kernel_rfl)) (by decide) (fun K hK => ?_)
    refine Kd.R_append_step k104 w.heap.size (by rfl) (.tmp 17) (.tmp 32) 33 104 (.agg #[(.int .i64 0), (.int .i64 0), (.int .i64 0), (.int .i64 0), (.int .i64 0), (.int .i64 0)]) 48 rfl Try.underlying33 info104 rfl (by decide) (by omega) (.slice Ao34 t358.length co34) t358 (⟨wrap64 (t373 - 1), t376, 0, t382, t388, t391⟩ : S104) [.int .i64 (wrap64 (t373 - 1)), .int .i64 t376, .int .i64 0, .int .i64 t382, .int .i64 t388, .int .i64 t391] (fun _ => True) (fun _ => False) rfl rfl ?aP (fun _ hk => hk.elim) ?aF ?aO (Below.refl _ _) ?aS ?aL ?_
    (case aP => exact k104_mkM _ _ _ (⟨wrap64 (t373 - 1), t376, 0, t382, t388, t391⟩ : S104))
    (case aF => exact (fun _ _ => trivial))
    (case aO => exact (tR HO360))
    (case aS => exact (keep_size (w := w) (g := g) (row := none) (by repeat (first | (with_reducible first | exact HK.out | apply KeepBut.set_ | apply keep_drewN | apply keep_drew | apply keep_alloc | refine keep_far ?_ GW356.out _ | refine keep_far ?_ GW363.out _) | exact HK.out))))
    (case aL => have := LMc27.out; omega)
    intro v395 w49 ho hb hg hat
    rw [← Ny394.out] at ho
    replace BK356 := Aside0.mk (blk_grown (g := gb356) (o := .cells #[.int .i64 0, .slice none 0 0] 35 (0, 0)) (tK BK356) hg (Kd.R_ne HO360.out BK356.out (by decide)))
    replace BK363 := Aside0.mk (blk_grown (g := gb363) (o := .cells #[.int .i64 t357, .slice Ao34 t358.length co34] 35 (0, 0)) (tK BK363) hg (Kd.R_ne HO360.out BK363.out (by decide)))
    replace HO381 := Aside0.mk (Kd.R_over' (tR HO381) (Kd.R_typed (tR HO360)) (by decide) hg)
    replace HO387 := Aside0.mk (Kd.R_over' (tR HO387) (Kd.R_typed (tR HO360)) (by decide) hg)
    replace HB := Aside0.mk (below_weaken (by repeat (first | (with_reducible first | exact HB.out | apply below_alloc | apply pw_below_drewN | apply below_drew1 | refine below_set ?_ (IsS139.ge HI0.out) | refine below_set ?_ GE356.out | refine below_set ?_ GE363.out) | exact HB.out)) HL.out hb)
    replace HI0 := Aside0.mk (IsS139.grown' HI0 hg (IsS139.own_ne HI0.out HO360.out (by decide)) (by intro q_; repeat (first | (with_reducible first | exact q_ | apply IsS139.alloc | apply IsS139.drewN | apply IsS139.drew | apply IsS139.set_1 | apply IsS139.set_2 | refine IsS139.far ?_ NB0_356.out _ | refine IsS139.far ?_ NB0_363.out _) | exact q_)))
    replace HK := Aside0.mk (KeepBut.trans (by repeat (first | (with_reducible first | exact HK.out | apply KeepBut.set_ | apply keep_drewN | apply keep_drew | apply keep_alloc | refine keep_far ?_ GW356.out _ | refine keep_far ?_ GW363.out _) | exact HK.out)) (KeepBut.of_grown hg g) (Kd.R_base2 HO360.out))
    have HO396 := Aside0.mk (ho)
    clear HO360
    clear ho hb hg hat
    obtain ⟨Ao50, co50, eo50⟩ := Kd.R_slice HO396.out
    (first | subst eo50 | (injection eo50 with f1_ f2_ f3_; have f4_ := f1_.symm; have f5_ := f3_.symm; clear f1_ f2_ f3_; subst f4_; subst f5_))
    refine hK.out _ _ tH (fun hHeld => ?_)
    clear hK K
    refine norm_ (tV : Act.put _ (some 33) _ = _) ?_
    refine pI 18 34 (bm 20 524287) ?_
    refine last_ (i := 19) (N := none) (bm 20 1048575) rfl rfl (one_of HT_.out (by kernel_rfl)) (by decide) (fun K hK => ?_)
    have hs51 : w49.cell? ⟨gb363, 1, none⟩ = some (.slice Ao34 t358.length co34) := (blk_cell BK363.out 1).trans rfl
    have hfs51 := blk_frozen BK363.out 1
    have hns51_0 := NB356_363.out
    have hms51_0 := NB363_356.out
    refine skip_ (w1 := ?_) (by rfl) rfl ?_ ?_
    rotate_left
    ·go_simp
     rfl
    refine hK.out _ _ ?_
    clear hK K
    refine done_ (done_of HT_.out (by kernel_rfl)) ?_
    obtain ⟨hcz52_0, hcz52_1, hfz52_0, hfz52_1⟩ := bc2 BK363.out
    have hnb53 := NB356_0.out
    have hnc53 := NB0_356.out
    obtain ⟨hcz54_0, hcz54_1, hfz54_0, hfz54_1⟩ := bc2 BK356.out
    try go_wp2
    refine bodyPost_ret (results_cell_row rfl _ _ gb356 35 #[.int .i64 t357, .slice Ao50 y394.length co50] (0, 0) _ rfl (by (with_reducible repeat (first | refine blk_drewN ?_ _ | refine blk_drew ?_ | refine blk_alloc ?_ _)); refine blk_put (cs := #[.int .i64 t357, .slice none 0 0]) ?_ 1 _ rfl; (with_reducible repeat (first | refine blk_drewN ?_ _ | refine blk_drew ?_ | refine blk_alloc ?_ _)); refine blk_put (cs := #[.int .i64 0, .slice none 0 0]) ?_ 0 _ rfl; exact kF NB356_363 BK356) Try.underlying35 rfl (by kernel_rfl)) rfl ?_
    exact ⟨_, tE, by (with_reducible repeat (first | apply Kd.R_alloc | apply Kd.R_drewN | apply Kd.R_drew)); exact Kd.R_mono (Kd.R_far (p := ⟨gb356, 1, none⟩) (Kd.R_far (p := ⟨gb356, 0, none⟩) (Kd.R_far (p := ⟨gb363, 1, none⟩) (Kd.R_types (Kd.R_types HO396.out BK363.out (by decide)) BK356.out (by decide)) (fun _ hk => hk.1.2) (.slice Ao50 y394.length co50)) (fun _ hk => hk.2) (.int .i64 t357)) (fun _ hk => hk.2) (.slice Ao50 y394.length co50)) (fun _ hk => trivial), by repeat (first | (with_reducible first | exact HI0.out | apply IsS139.alloc | apply IsS139.drewN | apply IsS139.drew | apply IsS139.set_1 | apply IsS139.set_2 | refine IsS139.far ?_ NB0_356.out _ | refine IsS139.far ?_ NB0_363.out _) | exact HI0.out), by repeat (first | (with_reducible first | exact HB.out | apply below_alloc | apply pw_below_drewN | apply below_drew1 | refine below_set ?_ (IsS139.ge HI0.out) | refine below_set ?_ GE356.out | refine below_set ?_ GE363.out) | exact HB.out), by repeat (first | (with_reducible first | exact HK.out | apply KeepBut.set_ | apply keep_drewN | apply keep_drew | apply keep_alloc | refine keep_far ?_ GW356.out _ | refine keep_far ?_ GW363.out _) | exact HK.out)⟩
   intro hJ3_6_8_9_11
   refine join_ (σ := Value) 8 (bm 20 10239) (fun s_ => [(19, .int .i64 t373), (22, .int .i64 t376), (24, s_), (25, .int .i64 t382), (20, .int .i64 (wrap64 (t373 - 1)))]) (fun s_ w' => (w'.cell? ⟨gb363, 0, none⟩ = some (.int .i64 t357) ∧ w'.cell? ⟨gb363, 1, none⟩ = some (.slice Ao34 t358.length co34)) ∧ (Kd.R k104 104 w' w.heap.size (fun _ => True) (.slice Ao34 t358.length co34) t358) ∧ (Kd.R (Kd.int .i64) 3 w' w.heap.size (fun _ => True) s_ y379) ∧ (w'.heap[gb356]? = some (.cells #[.int .i64 0, .slice none 0 0] 35 (0, 0))) ∧ (w'.heap[gb363]? = some (.cells #[.int .i64 t357, .slice Ao34 t358.length co34] 35 (0, 0))) ∧ (IsS139 w0 w' g s0_0 t383 t384) ∧ (KeepBut w w' g none) ∧ (Below w0.heap.size w0 w')) ?_ ?_
   ·rintro v380 w43 ⟨hHeld, h0_, h1_, h2_, h3_, h4_, h5_, h6_⟩
    replace HO360 := Aside0.mk h0_
    have HO381 := Aside0.mk h1_
    replace BK356 := Aside0.mk h2_
    replace BK363 := Aside0.mk h3_
    replace HI0 := Aside0.mk h4_
    replace HK := Aside0.mk h5_
    replace HB := Aside0.mk h6_
    clear h0_ h1_ h2_ h3_ h4_ h5_ h6_
    refine norm_ tM ?_
    refine one_ (i := 11) (N := some 27) (bm 20 12287) rfl rfl (one_of HT_.out (by kernel_rfl)) (by decide) (fun K hK => ?_)
    refine Kd.R_lit_step (Kd.int .i64) _ 3 ?hg (N := 27) ?hd (xs := ([30, 31] : List Int)) (inner := [.int .i64 30, .int .i64 31]) (ok := fun _ => True) (okp := fun _ => True) ?hr ?hp (fun _ hk => hk) trivial (Below.refl _ _) (Nat.le_refl _) (by simp) ?_; (case hd => rfl); (case hg => rfl); (case hr => exact tG); (case hp => exact (Reps.one (show Kd.M (Kd.int .i64) _ _ _ 30 [.int .i64 30] from rfl) (Reps.one (show Kd.M (Kd.int .i64) _ _ _ 31 [.int .i64 31] from rfl) (Reps.none _ _))))
    intro v386 w44 ho45 hb hg_ hnew_
    clear hg_ hnew_
    (first | rw [← Ny385.out] at ho45 | (simp only [Int.reduceToNat] at ho45; rw [← Ny385.out] at ho45))
    replace HO360 := Aside0.mk (Kd.R_below (tR HO360) hb)
    have HO387 := Aside0.mk (Kd.R_lower (Kd.R_new' ho45 (Kd.R_lt (tR HO381))) (keep_size (w := w) (g := g) (row := none) (by repeat (first | (with_reducible first | exact HK.out | apply KeepBut.set_ | apply keep_drewN | apply keep_drew | apply keep_alloc | refine keep_far ?_ GW356.out _ | refine keep_far ?_ GW363.out _) | exact HK.out))))
    replace HO381 := Aside0.mk (Kd.R_elder' (tR HO381) (Kd.R_base ho45) hb)
    replace BK356 := bB BK356 hb
    replace BK363 := bB BK363 hb
    replace HK := Aside0.mk (KeepBut.trans (by repeat (first | (with_reducible first | exact HK.out | apply KeepBut.set_ | apply keep_drewN | apply keep_drew | apply keep_alloc | refine keep_far ?_ GW356.out _ | refine keep_far ?_ GW363.out _) | exact HK.out)) (KeepBut.of_below hb g none) (.inl rfl))
    replace HB := Aside0.mk (below_step (by repeat (first | (with_reducible first | exact HB.out | apply below_alloc | apply pw_below_drewN | apply below_drew1 | refine below_set ?_ (IsS139.ge HI0.out) | refine below_set ?_ GE356.out | refine below_set ?_ GE363.out) | exact HB.out)) hb)
    replace HI0 := Aside0.mk (IsS139.below (by repeat (first | (with_reducible first | exact HI0.out | apply IsS139.alloc | apply IsS139.drewN | apply IsS139.drew | apply IsS139.set_1 | apply IsS139.set_2 | refine IsS139.far ?_ NB0_356.out _ | refine IsS139.far ?_ NB0_363.out _) | exact HI0.out)) hb)
    clear hb ho45
    refine hK.out _ _ tH (fun hHeld => ?_)
    clear hK K
    refine norm_ (tV : Act.put _ (some 27) _ = _) ?_
    exact norm_ tM (hJ3_6_8_9_11 (v380, v386) _ ⟨hHeld, tR HO360, (by (with_reducible repeat (first | apply Kd.R_alloc | apply Kd.R_drewN | apply Kd.R_drew)); exact Kd.R_mono HO381.out (fun _ hk => hk.2)), (by (with_reducible repeat (first | apply Kd.R_alloc | apply Kd.R_drewN | apply Kd.R_drew)); exact Kd.R_mono HO387.out (fun _ hk => hk.2)), tK BK356, tK BK363, (by repeat (first | (with_reducible first | exact HI0.out | apply IsS139.alloc | apply IsS139.drewN | apply IsS139.drew | apply IsS139.set_1 | apply IsS139.set_2 | refine IsS139.far ?_ NB0_356.out _ | refine IsS139.far ?_ NB0_363.out _) | exact HI0.out)), (by repeat (first | (with_reducible first | exact HK.out | apply KeepBut.set_ | apply keep_drewN | apply keep_drew | apply keep_alloc | refine keep_far ?_ GW356.out _ | refine keep_far ?_ GW363.out _) | exact HK.out)), (by repeat (first | (with_reducible first | exact HB.out | apply below_alloc | apply pw_below_drewN | apply below_drew1 | refine below_set ?_ (IsS139.ge HI0.out) | refine below_set ?_ GE356.out | refine below_set ?_ GE363.out) | exact HB.out))⟩)
   intro hJ3_6_8_9
   refine join_ (σ := Value × Value) 8 (bm 20 11775) (fun s_ => [(19, .int .i64 t373), (22, .int .i64 t376), (24, s_.1), (27, s_.2), (20, .int .i64 (wrap64 (t373 - 1)))]) (fun s_ w' => (w'.cell? ⟨gb363, 0, none⟩ = some (.int .i64 t357) ∧ w'.cell? ⟨gb363, 1, none⟩ = some (.slice Ao34 t358.length co34)) ∧ (Kd.R k104 104 w' w.heap.size (fun _ => True) (.slice Ao34 t358.length co34) t358) ∧ (Kd.R (Kd.int .i64) 3 w' w.heap.size (fun k_ => some k_ ≠ (s_.2 : Value).ownBlock) s_.1 y379) ∧ (Kd.R (Kd.int .i64) 3 w' w.heap.size (fun k_ => some k_ ≠ (s_.1 : Value).ownBlock) s_.2 y385) ∧ (w'.heap[gb356]? = some (.cells #[.int .i64 0, .slice none 0 0] 35 (0, 0))) ∧ (w'.heap[gb363]? = some (.cells #[.int .i64 t357, .slice Ao34 t358.length co34] 35 (0, 0))) ∧ (IsS139 w0 w' g s0_0 t377 t378) ∧ (KeepBut w w' g none) ∧ (Below w0.heap.size w0 w')) ?_ ?_
   ·rintro ⟨v380, v386⟩ w43 hS_
    dsimp only at hS_
    obtain ⟨hHeld, h0_, h1_, h2_, h3_, h4_, h5_, h6_, h7_⟩ := hS_
    replace HO360 := Aside0.mk h0_
    have HO381 := Aside0.mk h1_
    have HO387 := Aside0.mk h2_
    replace BK356 := Aside0.mk h3_
    replace BK363 := Aside0.mk h4_
    replace HI0 := Aside0.mk h5_
    replace HK := Aside0.mk h6_
    replace HB := Aside0.mk h7_
    clear h0_ h1_ h2_ h3_ h4_ h5_ h6_ h7_
    obtain ⟨Ao44, co44, eo44⟩ := Kd.R_slice HO381.out
    (first | subst eo44 | (injection eo44 with f1_ f2_ f3_; have f4_ := f1_.symm; have f5_ := f3_.symm; clear f1_ f2_ f3_; subst f4_; subst f5_))
    refine norm_ tM ?_
    refine one_ (i := 9) (N := some 25) (bm 20 12287) rfl rfl (one_of HT_.out (by kernel_rfl)) (by decide) (fun K hK => ?_)
    refine goes_ Try.func112 (by kernel_rfl) rfl #[.pointer (some ⟨g, 0, none⟩), .slice Ao44 y379.length co44] (by rfl) rfl rfl tL ?_
    with_reducible refine (spec_l1Int.calls g s0_0 t377 t378 _ _ y379 t382 t383 t384 w0 _ ?side1 ?side2 ?side3 ?side4 ?side5 A24.out).mono ?_
    (case side1 => repeat (first | (with_reducible first | exact HI0.out | apply IsS139.alloc | apply IsS139.drewN | apply IsS139.drew | apply IsS139.set_1 | apply IsS139.set_2 | refine IsS139.far ?_ NB0_356.out _ | refine IsS139.far ?_ NB0_363.out _) | exact HI0.out))
    (case side2 => repeat (first | (with_reducible first | exact HB.out | apply below_alloc | apply pw_below_drewN | apply below_drew1 | refine below_set ?_ (IsS139.ge HI0.out) | refine below_set ?_ GE356.out | refine below_set ?_ GE363.out) | exact HB.out))
    (case side3 => exact tC (Kd.R_reads' HO381.out).2.2)
    (case side4 => exact (Kd.R_reads' HO381.out).2.1)
    (case side5 => exact far_slice (IsS139.own_ne HI0.out HO381.out (by decide)))
    rintro e w45 ⟨rfl, hi, hb, hk⟩
    refine ⟨_, rfl, ?_⟩
    replace BK356 := Aside0.mk (KeepBut.blk hk (g' := gb356) (o := .cells #[.int .i64 0, .slice none 0 0] 35 (0, 0)) (tK BK356) NB356_0.out (by simp))
    replace HO360 := Aside0.mk (Kd.R_mono (Kd.R_keep (IsS139.apart (show IsS139 w0 _ g s0_0 t377 t378 from by repeat (first | (with_reducible first | exact HI0.out | apply IsS139.alloc | apply IsS139.drewN | apply IsS139.drew | apply IsS139.set_1 | apply IsS139.set_2 | refine IsS139.far ?_ NB0_356.out _ | refine IsS139.far ?_ NB0_363.out _) | exact HI0.out)) (tR HO360) (by decide)) hk (fun _ h => h.2)) (fun _ h => h.1))
    replace BK363 := Aside0.mk (KeepBut.blk hk (g' := gb363) (o := .cells #[.int .i64 t357, .slice Ao34 t358.length co34] 35 (0, 0)) (tK BK363) NB363_0.out (by simp))
    replace HO381 := Aside0.mk (Kd.R_mono (Kd.R_keep (IsS139.apart (show IsS139 w0 _ g s0_0 t377 t378 from by repeat (first | (with_reducible first | exact HI0.out | apply IsS139.alloc | apply IsS139.drewN | apply IsS139.drew | apply IsS139.set_1 | apply IsS139.set_2 | refine IsS139.far ?_ NB0_356.out _ | refine IsS139.far ?_ NB0_363.out _) | exact HI0.out)) (tR HO381) (by decide)) hk (fun _ h => h.2)) (fun _ h => h.1))
    replace HO387 := Aside0.mk (Kd.R_mono (Kd.R_keep (IsS139.apart (show IsS139 w0 _ g s0_0 t377 t378 from by repeat (first | (with_reducible first | exact HI0.out | apply IsS139.alloc | apply IsS139.drewN | apply IsS139.drew | apply IsS139.set_1 | apply IsS139.set_2 | refine IsS139.far ?_ NB0_356.out _ | refine IsS139.far ?_ NB0_363.out _) | exact HI0.out)) (tR HO387) (by decide)) hk (fun _ h => h.2)) (fun _ h => h.1))
    replace HK := Aside0.mk (KeepBut.trans (by repeat (first | (with_reducible first | exact HK.out | apply KeepBut.set_ | apply keep_drewN | apply keep_drew | apply keep_alloc | refine keep_far ?_ GW356.out _ | refine keep_far ?_ GW363.out _) | exact HK.out)) hk (.inl rfl))
    replace HB := Aside0.mk (hb)
    replace HI0 := Aside0.mk (hi)
    (try clear hb)
    (try clear hb2)
    (try clear hk)
    (try clear hi)
    refine hK.out _ _ tH (fun hHeld => ?_)
    clear hK K
    refine norm_ (tV : Act.put _ (some 25) _ = _) ?_
    exact norm_ tM (hJ3_6_8_9_11 (.slice Ao44 y379.length co44, v386) _ ⟨hHeld, tR HO360, tR HO381, tR HO387, tK BK356, tK BK363, (by repeat (first | (with_reducible first | exact HI0.out | apply IsS139.alloc | apply IsS139.drewN | apply IsS139.drew | apply IsS139.set_1 | apply IsS139.set_2 | refine IsS139.far ?_ NB0_356.out _ | refine IsS139.far ?_ NB0_363.out _) | exact HI0.out)), (by repeat (first | (with_reducible first | exact HK.out | apply KeepBut.set_ | apply keep_drewN | apply keep_drew | apply keep_alloc | refine keep_far ?_ GW356.out _ | refine keep_far ?_ GW363.out _) | exact HK.out)), (by repeat (first | (with_reducible first | exact HB.out | apply below_alloc | apply pw_below_drewN | apply below_drew1 | refine below_set ?_ (IsS139.ge HI0.out) | refine below_set ?_ GE356.out | refine below_set ?_ GE363.out) | exact HB.out))⟩)
   intro hJ3_6_8_11
   refine join_ (σ := Value) 9 (bm 20 9727) (fun s_ => [(19, .int .i64 t373), (22, .int .i64 t376), (24, s_), (20, .int .i64 (wrap64 (t373 - 1)))]) (fun s_ w' => (w'.cell? ⟨gb363, 0, none⟩ = some (.int .i64 t357) ∧ w'.cell? ⟨gb363, 1, none⟩ = some (.slice Ao34 t358.length co34)) ∧ (Kd.R k104 104 w' w.heap.size (fun _ => True) (.slice Ao34 t358.length co34) t358) ∧ (Kd.R (Kd.int .i64) 3 w' w.heap.size (fun _ => True) s_ y379) ∧ (w'.heap[gb356]? = some (.cells #[.int .i64 0, .slice none 0 0] 35 (0, 0))) ∧ (w'.heap[gb363]? = some (.cells #[.int .i64 t357, .slice Ao34 t358.length co34] 35 (0, 0))) ∧ (IsS139 w0 w' g s0_0 t377 t378) ∧ (KeepBut w w' g none) ∧ (Below w0.heap.size w0 w')) ?_ ?_
   ·rintro v380 w41 ⟨hHeld, h0_, h1_, h2_, h3_, h4_, h5_, h6_⟩
    replace HO360 := Aside0.mk h0_
    have HO381 := Aside0.mk h1_
    replace BK356 := Aside0.mk h2_
    replace BK363 := Aside0.mk h3_
    replace HI0 := Aside0.mk h4_
    replace HK := Aside0.mk h5_
    replace HB := Aside0.mk h6_
    clear h0_ h1_ h2_ h3_ h4_ h5_ h6_
    obtain ⟨Ao42, co42, eo42⟩ := Kd.R_slice HO381.out
    (first | subst eo42 | (injection eo42 with f1_ f2_ f3_; have f4_ := f1_.symm; have f5_ := f3_.symm; clear f1_ f2_ f3_; subst f4_; subst f5_))
    refine norm_ tM ?_
    refine two_ (i := 9) (j := 11) (Ni := some 25) (Nj := some 27) (bm 20 10239) (bm 20 11775) rfl rfl rfl rfl (two_of HT_.out (by kernel_rfl)) (by decide) (by decide) (fun K hK => ?_) (fun K hK => ?_)
    ·refine goes_ Try.func112 (by kernel_rfl) rfl #[.pointer (some ⟨g, 0, none⟩), .slice Ao42 y379.length co42] (by rfl) rfl rfl tL ?_
     with_reducible refine (spec_l1Int.calls g s0_0 t377 t378 _ _ y379 t382 t383 t384 w0 _ ?side1 ?side2 ?side3 ?side4 ?side5 A24.out).mono ?_
     (case side1 => repeat (first | (with_reducible first | exact HI0.out | apply IsS139.alloc | apply IsS139.drewN | apply IsS139.drew | apply IsS139.set_1 | apply IsS139.set_2 | refine IsS139.far ?_ NB0_356.out _ | refine IsS139.far ?_ NB0_363.out _) | exact HI0.out))
     (case side2 => repeat (first | (with_reducible first | exact HB.out | apply below_alloc | apply pw_below_drewN | apply below_drew1 | refine below_set ?_ (IsS139.ge HI0.out) | refine below_set ?_ GE356.out | refine below_set ?_ GE363.out) | exact HB.out))
     (case side3 => exact tC (Kd.R_reads' HO381.out).2.2)
     (case side4 => exact (Kd.R_reads' HO381.out).2.1)
     (case side5 => exact far_slice (IsS139.own_ne HI0.out HO381.out (by decide)))
     rintro e w43 ⟨rfl, hi, hb, hk⟩
     refine ⟨_, rfl, ?_⟩
     replace BK356 := Aside0.mk (KeepBut.blk hk (g' := gb356) (o := .cells #[.int .i64 0, .slice none 0 0] 35 (0, 0)) (tK BK356) NB356_0.out (by simp))
     replace HO360 := Aside0.mk (Kd.R_mono (Kd.R_keep (IsS139.apart (show IsS139 w0 _ g s0_0 t377 t378 from by repeat (first | (with_reducible first | exact HI0.out | apply IsS139.alloc | apply IsS139.drewN | apply IsS139.drew | apply IsS139.set_1 | apply IsS139.set_2 | refine IsS139.far ?_ NB0_356.out _ | refine IsS139.far ?_ NB0_363.out _) | exact HI0.out)) (tR HO360) (by decide)) hk (fun _ h => h.2)) (fun _ h => h.1))
     replace BK363 := Aside0.mk (KeepBut.blk hk (g' := gb363) (o := .cells #[.int .i64 t357, .slice Ao34 t358.length co34] 35 (0, 0)) (tK BK363) NB363_0.out (by simp))
     replace HO381 := Aside0.mk (Kd.R_mono (Kd.R_keep (IsS139.apart (show IsS139 w0 _ g s0_0 t377 t378 from by repeat (first | (with_reducible first | exact HI0.out | apply IsS139.alloc | apply IsS139.drewN | apply IsS139.drew | apply IsS139.set_1 | apply IsS139.set_2 | refine IsS139.far ?_ NB0_356.out _ | refine IsS139.far ?_ NB0_363.out _) | exact HI0.out)) (tR HO381) (by decide)) hk (fun _ h => h.2)) (fun _ h => h.1))
     replace HK := Aside0.mk (KeepBut.trans (by repeat (first | (with_reducible first | exact HK.out | apply KeepBut.set_ | apply keep_drewN | apply keep_drew | apply keep_alloc | refine keep_far ?_ GW356.out _ | refine keep_far ?_ GW363.out _) | exact HK.out)) hk (.inl rfl))
     replace HB := Aside0.mk (hb)
     replace HI0 := Aside0.mk (hi)
     (try clear hb)
     (try clear hb2)
     (try clear hk)
     (try clear hi)
     refine hK.out _ _ tH (fun hHeld => ?_)
     clear hK K
     refine norm_ (tV : Act.put _ (some 25) _ = _) ?_
     exact norm_ tM (hJ3_6_8_9 (.slice Ao42 y379.length co42) _ ⟨hHeld, tR HO360, tR HO381, tK BK356, tK BK363, (by repeat (first | (with_reducible first | exact HI0.out | apply IsS139.alloc | apply IsS139.drewN | apply IsS139.drew | apply IsS139.set_1 | apply IsS139.set_2 | refine IsS139.far ?_ NB0_356.out _ | refine IsS139.far ?_ NB0_363.out _) | exact HI0.out)), (by repeat (first | (with_reducible first | exact HK.out | apply KeepBut.set_ | apply keep_drewN | apply keep_drew | apply keep_alloc | refine keep_far ?_ GW356.out _ | refine keep_far ?_ GW363.out _) | exact HK.out)), (by repeat (first | (with_reducible first | exact HB.out | apply below_alloc | apply pw_below_drewN | apply below_drew1 | refine below_set ?_ (IsS139.ge HI0.out) | refine below_set ?_ GE356.out | refine below_set ?_ GE363.out) | exact HB.out))⟩)
    refine Kd.R_lit_step (Kd.int .i64) _ 3 ?hg (N := 27) ?hd (xs := ([30, 31] : List Int)) (inner := [.int .i64 30, .int .i64 31]) (ok := fun _ => True) (okp := fun _ => True) ?hr ?hp (fun _ hk => hk) trivial (Below.refl _ _) (Nat.le_refl _) (by simp) ?_; (case hd => rfl); (case hg => rfl); (case hr => exact tG); (case hp => exact (Reps.one (show Kd.M (Kd.int .i64) _ _ _ 30 [.int .i64 30] from rfl) (Reps.one (show Kd.M (Kd.int .i64) _ _ _ 31 [.int .i64 31] from rfl) (Reps.none _ _))))
    intro v386 w42 ho43 hb hg_ hnew_
    clear hg_ hnew_
    (first | rw [← Ny385.out] at ho43 | (simp only [Int.reduceToNat] at ho43; rw [← Ny385.out] at ho43))
    replace HO360 := Aside0.mk (Kd.R_below (tR HO360) hb)
    have HO387 := Aside0.mk (Kd.R_lower (Kd.R_new' ho43 (Kd.R_lt (tR HO381))) (keep_size (w := w) (g := g) (row := none) (by repeat (first | (with_reducible first | exact HK.out | apply KeepBut.set_ | apply keep_drewN | apply keep_drew | apply keep_alloc | refine keep_far ?_ GW356.out _ | refine keep_far ?_ GW363.out _) | exact HK.out))))
    replace HO381 := Aside0.mk (Kd.R_elder' (tR HO381) (Kd.R_base ho43) hb)
    replace BK356 := bB BK356 hb
    replace BK363 := bB BK363 hb
    replace HK := Aside0.mk (KeepBut.trans (by repeat (first | (with_reducible first | exact HK.out | apply KeepBut.set_ | apply keep_drewN | apply keep_drew | apply keep_alloc | refine keep_far ?_ GW356.out _ | refine keep_far ?_ GW363.out _) | exact HK.out)) (KeepBut.of_below hb g none) (.inl rfl))
    replace HB := Aside0.mk (below_step (by repeat (first | (with_reducible first | exact HB.out | apply below_alloc | apply pw_below_drewN | apply below_drew1 | refine below_set ?_ (IsS139.ge HI0.out) | refine below_set ?_ GE356.out | refine below_set ?_ GE363.out) | exact HB.out)) hb)
    replace HI0 := Aside0.mk (IsS139.below (by repeat (first | (with_reducible first | exact HI0.out | apply IsS139.alloc | apply IsS139.drewN | apply IsS139.drew | apply IsS139.set_1 | apply IsS139.set_2 | refine IsS139.far ?_ NB0_356.out _ | refine IsS139.far ?_ NB0_363.out _) | exact HI0.out)) hb)
    clear hb ho43
    refine hK.out _ _ tH (fun hHeld => ?_)
    clear hK K
    refine norm_ (tV : Act.put _ (some 27) _ = _) ?_
    exact norm_ tM (hJ3_6_8_11 ((.slice Ao42 y379.length co42), v386) _ ⟨hHeld, tR HO360, (by (with_reducible repeat (first | apply Kd.R_alloc | apply Kd.R_drewN | apply Kd.R_drew)); exact Kd.R_mono HO381.out (fun _ hk => hk.2)), (by (with_reducible repeat (first | apply Kd.R_alloc | apply Kd.R_drewN | apply Kd.R_drew)); exact Kd.R_mono HO387.out (fun _ hk => hk.2)), tK BK356, tK BK363, (by repeat (first | (with_reducible first | exact HI0.out | apply IsS139.alloc | apply IsS139.drewN | apply IsS139.drew | apply IsS139.set_1 | apply IsS139.set_2 | refine IsS139.far ?_ NB0_356.out _ | refine IsS139.far ?_ NB0_363.out _) | exact HI0.out)), (by repeat (first | (with_reducible first | exact HK.out | apply KeepBut.set_ | apply keep_drewN | apply keep_drew | apply keep_alloc | refine keep_far ?_ GW356.out _ | refine keep_far ?_ GW363.out _) | exact HK.out)), (by repeat (first | (with_reducible first | exact HB.out | apply below_alloc | apply pw_below_drewN | apply below_drew1 | refine below_set ?_ (IsS139.ge HI0.out) | refine below_set ?_ GE356.out | refine below_set ?_ GE363.out) | exact HB.out))⟩)
   intro hJ3_6_8
   refine join_ (σ := Value) 9 (bm 20 11519) (fun s_ => [(19, .int .i64 t373), (22, .int .i64 t376), (27, s_), (20, .int .i64 (wrap64 (t373 - 1)))]) (fun s_ w' => (w'.cell? ⟨gb363, 0, none⟩ = some (.int .i64 t357) ∧ w'.cell? ⟨gb363, 1, none⟩ = some (.slice Ao34 t358.length co34)) ∧ (Kd.R k104 104 w' w.heap.size (fun _ => True) (.slice Ao34 t358.length co34) t358) ∧ (Kd.R (Kd.int .i64) 3 w' w.heap.size (fun _ => True) s_ y385) ∧ (w'.heap[gb356]? = some (.cells #[.int .i64 0, .slice none 0 0] 35 (0, 0))) ∧ (w'.heap[gb363]? = some (.cells #[.int .i64 t357, .slice Ao34 t358.length co34] 35 (0, 0))) ∧ (IsS139 w0 w' g s0_0 t377 t378) ∧ (KeepBut w w' g none) ∧ (Below w0.heap.size w0 w')) ?_ ?_
   ·rintro v386 w41 ⟨hHeld, h0_, h1_, h2_, h3_, h4_, h5_, h6_⟩
    replace HO360 := Aside0.mk h0_
    have HO387 := Aside0.mk h1_
    replace BK356 := Aside0.mk h2_
    replace BK363 := Aside0.mk h3_
    replace HI0 := Aside0.mk h4_
    replace HK := Aside0.mk h5_
    replace HB := Aside0.mk h6_
    clear h0_ h1_ h2_ h3_ h4_ h5_ h6_
    refine norm_ tM ?_
    refine one_ (i := 8) (N := some 24) (bm 20 11775) rfl rfl (one_of HT_.out (by kernel_rfl)) (by decide) (fun K hK => ?_)
    refine Kd.R_lit_step (Kd.int .i64) _ 3 ?hg (N := 24) ?hd (xs := ([(-1), 5, 1000001] : List Int)) (inner := [.int .i64 (-1), .int .i64 5, .int .i64 1000001]) (ok := fun _ => True) (okp := fun _ => True) ?hr ?hp (fun _ hk => hk) trivial (Below.refl _ _) (Nat.le_refl _) (by simp) ?_; (case hd => rfl); (case hg => rfl); (case hr => exact tG); (case hp => exact (Reps.one (show Kd.M (Kd.int .i64) _ _ _ (-1) [.int .i64 (-1)] from rfl) (Reps.one (show Kd.M (Kd.int .i64) _ _ _ 5 [.int .i64 5] from rfl) (Reps.one (show Kd.M (Kd.int .i64) _ _ _ 1000001 [.int .i64 1000001] from rfl) (Reps.none _ _)))))
    intro v380 w42 ho43 hb hg_ hnew_
    clear hg_ hnew_
    (first | rw [← Ny379.out] at ho43 | (simp only [Int.reduceToNat] at ho43; rw [← Ny379.out] at ho43))
    replace HO360 := Aside0.mk (Kd.R_below (tR HO360) hb)
    have HO381 := Aside0.mk (Kd.R_lower (Kd.R_new' ho43 (Kd.R_lt (tR HO387))) (keep_size (w := w) (g := g) (row := none) (by repeat (first | (with_reducible first | exact HK.out | apply KeepBut.set_ | apply keep_drewN | apply keep_drew | apply keep_alloc | refine keep_far ?_ GW356.out _ | refine keep_far ?_ GW363.out _) | exact HK.out))))
    replace HO387 := Aside0.mk (Kd.R_elder' (tR HO387) (Kd.R_base ho43) hb)
    replace BK356 := bB BK356 hb
    replace BK363 := bB BK363 hb
    replace HK := Aside0.mk (KeepBut.trans (by repeat (first | (with_reducible first | exact HK.out | apply KeepBut.set_ | apply keep_drewN | apply keep_drew | apply keep_alloc | refine keep_far ?_ GW356.out _ | refine keep_far ?_ GW363.out _) | exact HK.out)) (KeepBut.of_below hb g none) (.inl rfl))
    replace HB := Aside0.mk (below_step (by repeat (first | (with_reducible first | exact HB.out | apply below_alloc | apply pw_below_drewN | apply below_drew1 | refine below_set ?_ (IsS139.ge HI0.out) | refine below_set ?_ GE356.out | refine below_set ?_ GE363.out) | exact HB.out)) hb)
    replace HI0 := Aside0.mk (IsS139.below (by repeat (first | (with_reducible first | exact HI0.out | apply IsS139.alloc | apply IsS139.drewN | apply IsS139.drew | apply IsS139.set_1 | apply IsS139.set_2 | refine IsS139.far ?_ NB0_356.out _ | refine IsS139.far ?_ NB0_363.out _) | exact HI0.out)) hb)
    clear hb ho43
    refine hK.out _ _ tH (fun hHeld => ?_)
    clear hK K
    refine norm_ (tV : Act.put _ (some 24) _ = _) ?_
    exact norm_ tM (hJ3_6_8_11 (v380, v386) _ ⟨hHeld, tR HO360, (by (with_reducible repeat (first | apply Kd.R_alloc | apply Kd.R_drewN | apply Kd.R_drew)); exact Kd.R_mono HO381.out (fun _ hk => hk.2)), (by (with_reducible repeat (first | apply Kd.R_alloc | apply Kd.R_drewN | apply Kd.R_drew)); exact Kd.R_mono HO387.out (fun _ hk => hk.2)), tK BK356, tK BK363, (by repeat (first | (with_reducible first | exact HI0.out | apply IsS139.alloc | apply IsS139.drewN | apply IsS139.drew | apply IsS139.set_1 | apply IsS139.set_2 | refine IsS139.far ?_ NB0_356.out _ | refine IsS139.far ?_ NB0_363.out _) | exact HI0.out)), (by repeat (first | (with_reducible first | exact HK.out | apply KeepBut.set_ | apply keep_drewN | apply keep_drew | apply keep_alloc | refine keep_far ?_ GW356.out _ | refine keep_far ?_ GW363.out _) | exact HK.out)), (by repeat (first | (with_reducible first | exact HB.out | apply below_alloc | apply pw_below_drewN | apply below_drew1 | refine below_set ?_ (IsS139.ge HI0.out) | refine below_set ?_ GE356.out | refine below_set ?_ GE363.out) | exact HB.out))⟩)
   intro hJ3_6_11
   refine join_ (σ := Value × Value) 9 (bm 20 11711) (fun s_ => [(19, .int .i64 t373), (24, s_.1), (27, s_.2), (20, .int .i64 (wrap64 (t373 - 1)))]) (fun s_ w' => (w'.cell? ⟨gb363, 0, none⟩ = some (.int .i64 t357) ∧ w'.cell? ⟨gb363, 1, none⟩ = some (.slice Ao34 t358.length co34)) ∧ (Kd.R k104 104 w' w.heap.size (fun _ => True) (.slice Ao34 t358.length co34) t358) ∧ (Kd.R (Kd.int .i64) 3 w' w.heap.size (fun k_ => some k_ ≠ (s_.2 : Value).ownBlock) s_.1 y379) ∧ (Kd.R (Kd.int .i64) 3 w' w.heap.size (fun k_ => some k_ ≠ (s_.1 : Value).ownBlock) s_.2 y385) ∧ (w'.heap[gb356]? = some (.cells #[.int .i64 0, .slice none 0 0] 35 (0, 0))) ∧ (w'.heap[gb363]? = some (.cells #[.int .i64 t357, .slice Ao34 t358.length co34] 35 (0, 0))) ∧ (IsS139 w0 w' g s0_0 t374 t375) ∧ (KeepBut w w' g none) ∧ (Below w0.heap.size w0 w')) ?_ ?_
   ·rintro ⟨v380, v386⟩ w42 hS_
    dsimp only at hS_
    obtain ⟨hHeld, h0_, h1_, h2_, h3_, h4_, h5_, h6_, h7_⟩ := hS_
    replace HO360 := Aside0.mk h0_
    have HO381 := Aside0.mk h1_
    have HO387 := Aside0.mk h2_
    replace BK356 := Aside0.mk h3_
    replace BK363 := Aside0.mk h4_
    replace HI0 := Aside0.mk h5_
    replace HK := Aside0.mk h6_
    replace HB := Aside0.mk h7_
    clear h0_ h1_ h2_ h3_ h4_ h5_ h6_ h7_
    refine norm_ tM ?_
    refine one_ (i := 6) (N := some 22) (bm 20 11775) rfl rfl (one_of HT_.out (by kernel_rfl)) (by decide) (fun K hK => ?_)
    refine goes_ Try.func96 (by kernel_rfl) rfl #[.pointer (some ⟨g, 0, none⟩), .int .i64 6] (by rfl) rfl rfl tL ?_
    with_reducible refine (spec_l1Below.calls g s0_0 t374 t375 6 t376 t377 t378 w0 _ ?side1 ?side2 A23.out).mono ?_
    (case side1 => repeat (first | (with_reducible first | exact HI0.out | apply IsS139.alloc | apply IsS139.drewN | apply IsS139.drew | apply IsS139.set_1 | apply IsS139.set_2 | refine IsS139.far ?_ NB0_356.out _ | refine IsS139.far ?_ NB0_363.out _) | exact HI0.out))
    (case side2 => repeat (first | (with_reducible first | exact HB.out | apply below_alloc | apply pw_below_drewN | apply below_drew1 | refine below_set ?_ (IsS139.ge HI0.out) | refine below_set ?_ GE356.out | refine below_set ?_ GE363.out) | exact HB.out))
    rintro e w43 ⟨rfl, hi, hb, hk⟩
    refine ⟨_, rfl, ?_⟩
    replace BK356 := Aside0.mk (KeepBut.blk hk (g' := gb356) (o := .cells #[.int .i64 0, .slice none 0 0] 35 (0, 0)) (tK BK356) NB356_0.out (by simp))
    replace HO360 := Aside0.mk (Kd.R_mono (Kd.R_keep (IsS139.apart (show IsS139 w0 _ g s0_0 t374 t375 from by repeat (first | (with_reducible first | exact HI0.out | apply IsS139.alloc | apply IsS139.drewN | apply IsS139.drew | apply IsS139.set_1 | apply IsS139.set_2 | refine IsS139.far ?_ NB0_356.out _ | refine IsS139.far ?_ NB0_363.out _) | exact HI0.out)) (tR HO360) (by decide)) hk (fun _ h => h.2)) (fun _ h => h.1))
    replace BK363 := Aside0.mk (KeepBut.blk hk (g' := gb363) (o := .cells #[.int .i64 t357, .slice Ao34 t358.length co34] 35 (0, 0)) (tK BK363) NB363_0.out (by simp))
    replace HO381 := Aside0.mk (Kd.R_mono (Kd.R_keep (IsS139.apart (show IsS139 w0 _ g s0_0 t374 t375 from by repeat (first | (with_reducible first | exact HI0.out | apply IsS139.alloc | apply IsS139.drewN | apply IsS139.drew | apply IsS139.set_1 | apply IsS139.set_2 | refine IsS139.far ?_ NB0_356.out _ | refine IsS139.far ?_ NB0_363.out _) | exact HI0.out)) (tR HO381) (by decide)) hk (fun _ h => h.2)) (fun _ h => h.1))
    replace HO387 := Aside0.mk (Kd.R_mono (Kd.R_keep (IsS139.apart (show IsS139 w0 _ g s0_0 t374 t375 from by repeat (first | (with_reducible first | exact HI0.out | apply IsS139.alloc | apply IsS139.drewN | apply IsS139.drew | apply IsS139.set_1 | apply IsS139.set_2 | refine IsS139.far ?_ NB0_356.out _ | refine IsS139.far ?_ NB0_363.out _) | exact HI0.out)) (tR HO387) (by decide)) hk (fun _ h => h.2)) (fun _ h => h.1))
    replace HK := Aside0.mk (KeepBut.trans (by repeat (first | (with_reducible first | exact HK.out | apply KeepBut.set_ | apply keep_drewN | apply keep_drew | apply keep_alloc | refine keep_far ?_ GW356.out _ | refine keep_far ?_ GW363.out _) | exact HK.out)) hk (.inl rfl))
    replace HB := Aside0.mk (hb)
    replace HI0 := Aside0.mk (hi)
    (try clear hb)
    (try clear hb2)
    (try clear hk)
    (try clear hi)
    refine hK.out _ _ tH (fun hHeld => ?_)
    clear hK K
    refine norm_ (tV : Act.put _ (some 22) _ = _) ?_
    exact norm_ tM (hJ3_6_8_11 (v380, v386) _ ⟨hHeld, tR HO360, tR HO381, tR HO387, tK BK356, tK BK363, (by repeat (first | (with_reducible first | exact HI0.out | apply IsS139.alloc | apply IsS139.drewN | apply IsS139.drew | apply IsS139.set_1 | apply IsS139.set_2 | refine IsS139.far ?_ NB0_356.out _ | refine IsS139.far ?_ NB0_363.out _) | exact HI0.out)), (by repeat (first | (with_reducible first | exact HK.out | apply KeepBut.set_ | apply keep_drewN | apply keep_drew | apply keep_alloc | refine keep_far ?_ GW356.out _ | refine keep_far ?_ GW363.out _) | exact HK.out)), (by repeat (first | (with_reducible first | exact HB.out | apply below_alloc | apply pw_below_drewN | apply below_drew1 | refine below_set ?_ (IsS139.ge HI0.out) | refine below_set ?_ GE356.out | refine below_set ?_ GE363.out) | exact HB.out))⟩)
   intro hJ3_8_11
   refine join_ (σ := Unit) 10 (bm 20 9471) (fun s_ => [(19, .int .i64 t373), (22, .int .i64 t376), (20, .int .i64 (wrap64 (t373 - 1)))]) (fun s_ w' => (w'.cell? ⟨gb363, 0, none⟩ = some (.int .i64 t357) ∧ w'.cell? ⟨gb363, 1, none⟩ = some (.slice Ao34 t358.length co34)) ∧ (Kd.R k104 104 w' w.heap.size (fun _ => True) (.slice Ao34 t358.length co34) t358) ∧ (w'.heap[gb356]? = some (.cells #[.int .i64 0, .slice none 0 0] 35 (0, 0))) ∧ (w'.heap[gb363]? = some (.cells #[.int .i64 t357, .slice Ao34 t358.length co34] 35 (0, 0))) ∧ (IsS139 w0 w' g s0_0 t377 t378) ∧ (KeepBut w w' g none) ∧ (Below w0.heap.size w0 w')) ?_ ?_
   ·rintro _ w39 ⟨hHeld, h0_, h1_, h2_, h3_, h4_, h5_⟩
    replace HO360 := Aside0.mk h0_
    replace BK356 := Aside0.mk h1_
    replace BK363 := Aside0.mk h2_
    replace HI0 := Aside0.mk h3_
    replace HK := Aside0.mk h4_
    replace HB := Aside0.mk h5_
    clear h0_ h1_ h2_ h3_ h4_ h5_
    refine norm_ tM ?_
    refine two_ (i := 8) (j := 11) (Ni := some 24) (Nj := some 27) (bm 20 9727) (bm 20 11519) rfl rfl rfl rfl (two_of HT_.out (by kernel_rfl)) (by decide) (by decide) (fun K hK => ?_) (fun K hK => ?_)
    ·refine Kd.R_lit_step (Kd.int .i64) _ 3 ?hg (N := 24) ?hd (xs := ([(-1), 5, 1000001] : List Int)) (inner := [.int .i64 (-1), .int .i64 5, .int .i64 1000001]) (ok := fun _ => True) (okp := fun _ => True) ?hr ?hp (fun _ hk => hk) trivial (Below.refl _ _) (Nat.le_refl _) (by simp) ?_; (case hd => rfl); (case hg => rfl); (case hr => exact tG); (case hp => exact (Reps.one (show Kd.M (Kd.int .i64) _ _ _ (-1) [.int .i64 (-1)] from rfl) (Reps.one (show Kd.M (Kd.int .i64) _ _ _ 5 [.int .i64 5] from rfl) (Reps.one (show Kd.M (Kd.int .i64) _ _ _ 1000001 [.int .i64 1000001] from rfl) (Reps.none _ _)))))
     intro v380 w40 ho41 hb hg_ hnew_
     clear hg_ hnew_
     (first | rw [← Ny379.out] at ho41 | (simp only [Int.reduceToNat] at ho41; rw [← Ny379.out] at ho41))
     replace HO360 := Aside0.mk (Kd.R_below (tR HO360) hb)
     have HO381 := Aside0.mk (Kd.R_lower ho41 (keep_size (w := w) (g := g) (row := none) (by repeat (first | (with_reducible first | exact HK.out | apply KeepBut.set_ | apply keep_drewN | apply keep_drew | apply keep_alloc | refine keep_far ?_ GW356.out _ | refine keep_far ?_ GW363.out _) | exact HK.out))))
     replace BK356 := bB BK356 hb
     replace BK363 := bB BK363 hb
     replace HK := Aside0.mk (KeepBut.trans (by repeat (first | (with_reducible first | exact HK.out | apply KeepBut.set_ | apply keep_drewN | apply keep_drew | apply keep_alloc | refine keep_far ?_ GW356.out _ | refine keep_far ?_ GW363.out _) | exact HK.out)) (KeepBut.of_below hb g none) (.inl rfl))
     replace HB := Aside0.mk (below_step (by repeat (first | (with_reducible first | exact HB.out | apply below_alloc | apply pw_below_drewN | apply below_drew1 | refine below_set ?_ (IsS139.ge HI0.out) | refine below_set ?_ GE356.out | refine below_set ?_ GE363.out) | exact HB.out)) hb)
     replace HI0 := Aside0.mk (IsS139.below (by repeat (first | (with_reducible first | exact HI0.out | apply IsS139.alloc | apply IsS139.drewN | apply IsS139.drew | apply IsS139.set_1 | apply IsS139.set_2 | refine IsS139.far ?_ NB0_356.out _ | refine IsS139.far ?_ NB0_363.out _) | exact HI0.out)) hb)
     clear hb ho41
     refine hK.out _ _ tH (fun hHeld => ?_)
     clear hK K
     refine norm_ (tV : Act.put _ (some 24) _ = _) ?_
     exact norm_ tM (hJ3_6_8 (v380) _ ⟨hHeld, tR HO360, tR HO381, tK BK356, tK BK363, (by repeat (first | (with_reducible first | exact HI0.out | apply IsS139.alloc | apply IsS139.drewN | apply IsS139.drew | apply IsS139.set_1 | apply IsS139.set_2 | refine IsS139.far ?_ NB0_356.out _ | refine IsS139.far ?_ NB0_363.out _) | exact HI0.out)), (by repeat (first | (with_reducible first | exact HK.out | apply KeepBut.set_ | apply keep_drewN | apply keep_drew | apply keep_alloc | refine keep_far ?_ GW356.out _ | refine keep_far ?_ GW363.out _) | exact HK.out)), (by repeat (first | (with_reducible first | exact HB.out | apply below_alloc | apply pw_below_drewN | apply below_drew1 | refine below_set ?_ (IsS139.ge HI0.out) | refine below_set ?_ GE356.out | refine below_set ?_ GE363.out) | exact HB.out))⟩)
    refine Kd.R_lit_step (Kd.int .i64) _ 3 ?hg (N := 27) ?hd (xs := ([30, 31] : List Int)) (inner := [.int .i64 30, .int .i64 31]) (ok := fun _ => True) (okp := fun _ => True) ?hr ?hp (fun _ hk => hk) trivial (Below.refl _ _) (Nat.le_refl _) (by simp) ?_; (case hd => rfl); (case hg => rfl); (case hr => exact tG); (case hp => exact (Reps.one (show Kd.M (Kd.int .i64) _ _ _ 30 [.int .i64 30] from rfl) (Reps.one (show Kd.M (Kd.int .i64) _ _ _ 31 [.int .i64 31] from rfl) (Reps.none _ _))))
    intro v386 w40 ho41 hb hg_ hnew_
    clear hg_ hnew_
    (first | rw [← Ny385.out] at ho41 | (simp only [Int.reduceToNat] at ho41; rw [← Ny385.out] at ho41))
    replace HO360 := Aside0.mk (Kd.R_below (tR HO360) hb)
    have HO387 := Aside0.mk (Kd.R_lower ho41 (keep_size (w := w) (g := g) (row := none) (by repeat (first | (with_reducible first | exact HK.out | apply KeepBut.set_ | apply keep_drewN | apply keep_drew | apply keep_alloc | refine keep_far ?_ GW356.out _ | refine keep_far ?_ GW363.out _) | exact HK.out))))
    replace BK356 := bB BK356 hb
    replace BK363 := bB BK363 hb
    replace HK := Aside0.mk (KeepBut.trans (by repeat (first | (with_reducible first | exact HK.out | apply KeepBut.set_ | apply keep_drewN | apply keep_drew | apply keep_alloc | refine keep_far ?_ GW356.out _ | refine keep_far ?_ GW363.out _) | exact HK.out)) (KeepBut.of_below hb g none) (.inl rfl))
    replace HB := Aside0.mk (below_step (by repeat (first | (with_reducible first | exact HB.out | apply below_alloc | apply pw_below_drewN | apply below_drew1 | refine below_set ?_ (IsS139.ge HI0.out) | refine below_set ?_ GE356.out | refine below_set ?_ GE363.out) | exact HB.out)) hb)
    replace HI0 := Aside0.mk (IsS139.below (by repeat (first | (with_reducible first | exact HI0.out | apply IsS139.alloc | apply IsS139.drewN | apply IsS139.drew | apply IsS139.set_1 | apply IsS139.set_2 | refine IsS139.far ?_ NB0_356.out _ | refine IsS139.far ?_ NB0_363.out _) | exact HI0.out)) hb)
    clear hb ho41
    refine hK.out _ _ tH (fun hHeld => ?_)
    clear hK K
    refine norm_ (tV : Act.put _ (some 27) _ = _) ?_
    exact norm_ tM (hJ3_6_11 (v386) _ ⟨hHeld, tR HO360, tR HO387, tK BK356, tK BK363, (by repeat (first | (with_reducible first | exact HI0.out | apply IsS139.alloc | apply IsS139.drewN | apply IsS139.drew | apply IsS139.set_1 | apply IsS139.set_2 | refine IsS139.far ?_ NB0_356.out _ | refine IsS139.far ?_ NB0_363.out _) | exact HI0.out)), (by repeat (first | (with_reducible first | exact HK.out | apply KeepBut.set_ | apply keep_drewN | apply keep_drew | apply keep_alloc | refine keep_far ?_ GW356.out _ | refine keep_far ?_ GW363.out _) | exact HK.out)), (by repeat (first | (with_reducible first | exact HB.out | apply below_alloc | apply pw_below_drewN | apply below_drew1 | refine below_set ?_ (IsS139.ge HI0.out) | refine below_set ?_ GE356.out | refine below_set ?_ GE363.out) | exact HB.out))⟩)
   intro hJ3_6
   refine join_ (σ := Value) 10 (bm 20 9663) (fun s_ => [(19, .int .i64 t373), (24, s_), (20, .int .i64 (wrap64 (t373 - 1)))]) (fun s_ w' => (w'.cell? ⟨gb363, 0, none⟩ = some (.int .i64 t357) ∧ w'.cell? ⟨gb363, 1, none⟩ = some (.slice Ao34 t358.length co34)) ∧ (Kd.R k104 104 w' w.heap.size (fun _ => True) (.slice Ao34 t358.length co34) t358) ∧ (Kd.R (Kd.int .i64) 3 w' w.heap.size (fun _ => True) s_ y379) ∧ (w'.heap[gb356]? = some (.cells #[.int .i64 0, .slice none 0 0] 35 (0, 0))) ∧ (w'.heap[gb363]? = some (.cells #[.int .i64 t357, .slice Ao34 t358.length co34] 35 (0, 0))) ∧ (IsS139 w0 w' g s0_0 t374 t375) ∧ (KeepBut w w' g none) ∧ (Below w0.heap.size w0 w')) ?_ ?_
   ·rintro v380 w40 ⟨hHeld, h0_, h1_, h2_, h3_, h4_, h5_, h6_⟩
    replace HO360 := Aside0.mk h0_
    have HO381 := Aside0.mk h1_
    replace BK356 := Aside0.mk h2_
    replace BK363 := Aside0.mk h3_
    replace HI0 := Aside0.mk h4_
    replace HK := Aside0.mk h5_
    replace HB := Aside0.mk h6_
    clear h0_ h1_ h2_ h3_ h4_ h5_ h6_
    refine norm_ tM ?_
    refine two_ (i := 6) (j := 11) (Ni := some 22) (Nj := some 27) (bm 20 9727) (bm 20 11711) rfl rfl rfl rfl (two_of HT_.out (by kernel_rfl)) (by decide) (by decide) (fun K hK => ?_) (fun K hK => ?_)
    ·refine goes_ Try.func96 (by kernel_rfl) rfl #[.pointer (some ⟨g, 0, none⟩), .int .i64 6] (by rfl) rfl rfl tL ?_
     with_reducible refine (spec_l1Below.calls g s0_0 t374 t375 6 t376 t377 t378 w0 _ ?side1 ?side2 A23.out).mono ?_
     (case side1 => repeat (first | (with_reducible first | exact HI0.out | apply IsS139.alloc | apply IsS139.drewN | apply IsS139.drew | apply IsS139.set_1 | apply IsS139.set_2 | refine IsS139.far ?_ NB0_356.out _ | refine IsS139.far ?_ NB0_363.out _) | exact HI0.out))
     (case side2 => repeat (first | (with_reducible first | exact HB.out | apply below_alloc | apply pw_below_drewN | apply below_drew1 | refine below_set ?_ (IsS139.ge HI0.out) | refine below_set ?_ GE356.out | refine below_set ?_ GE363.out) | exact HB.out))
     rintro e w41 ⟨rfl, hi, hb, hk⟩
     refine ⟨_, rfl, ?_⟩
     replace BK356 := Aside0.mk (KeepBut.blk hk (g' := gb356) (o := .cells #[.int .i64 0, .slice none 0 0] 35 (0, 0)) (tK BK356) NB356_0.out (by simp))
     replace HO360 := Aside0.mk (Kd.R_mono (Kd.R_keep (IsS139.apart (show IsS139 w0 _ g s0_0 t374 t375 from by repeat (first | (with_reducible first | exact HI0.out | apply IsS139.alloc | apply IsS139.drewN | apply IsS139.drew | apply IsS139.set_1 | apply IsS139.set_2 | refine IsS139.far ?_ NB0_356.out _ | refine IsS139.far ?_ NB0_363.out _) | exact HI0.out)) (tR HO360) (by decide)) hk (fun _ h => h.2)) (fun _ h => h.1))
     replace BK363 := Aside0.mk (KeepBut.blk hk (g' := gb363) (o := .cells #[.int .i64 t357, .slice Ao34 t358.length co34] 35 (0, 0)) (tK BK363) NB363_0.out (by simp))
     replace HO381 := Aside0.mk (Kd.R_mono (Kd.R_keep (IsS139.apart (show IsS139 w0 _ g s0_0 t374 t375 from by repeat (first | (with_reducible first | exact HI0.out | apply IsS139.alloc | apply IsS139.drewN | apply IsS139.drew | apply IsS139.set_1 | apply IsS139.set_2 | refine IsS139.far ?_ NB0_356.out _ | refine IsS139.far ?_ NB0_363.out _) | exact HI0.out)) (tR HO381) (by decide)) hk (fun _ h => h.2)) (fun _ h => h.1))
     replace HK := Aside0.mk (KeepBut.trans (by repeat (first | (with_reducible first | exact HK.out | apply KeepBut.set_ | apply keep_drewN | apply keep_drew | apply keep_alloc | refine keep_far ?_ GW356.out _ | refine keep_far ?_ GW363.out _) | exact HK.out)) hk (.inl rfl))
     replace HB := Aside0.mk (hb)
     replace HI0 := Aside0.mk (hi)
     (try clear hb)
     (try clear hb2)
     (try clear hk)
     (try clear hi)
     refine hK.out _ _ tH (fun hHeld => ?_)
     clear hK K
     refine norm_ (tV : Act.put _ (some 22) _ = _) ?_
     exact norm_ tM (hJ3_6_8 (v380) _ ⟨hHeld, tR HO360, tR HO381, tK BK356, tK BK363, (by repeat (first | (with_reducible first | exact HI0.out | apply IsS139.alloc | apply IsS139.drewN | apply IsS139.drew | apply IsS139.set_1 | apply IsS139.set_2 | refine IsS139.far ?_ NB0_356.out _ | refine IsS139.far ?_ NB0_363.out _) | exact HI0.out)), (by repeat (first | (with_reducible first | exact HK.out | apply KeepBut.set_ | apply keep_drewN | apply keep_drew | apply keep_alloc | refine keep_far ?_ GW356.out _ | refine keep_far ?_ GW363.out _) | exact HK.out)), (by repeat (first | (with_reducible first | exact HB.out | apply below_alloc | apply pw_below_drewN | apply below_drew1 | refine below_set ?_ (IsS139.ge HI0.out) | refine below_set ?_ GE356.out | refine below_set ?_ GE363.out) | exact HB.out))⟩)
    refine Kd.R_lit_step (Kd.int .i64) _ 3 ?hg (N := 27) ?hd (xs := ([30, 31] : List Int)) (inner := [.int .i64 30, .int .i64 31]) (ok := fun _ => True) (okp := fun _ => True) ?hr ?hp (fun _ hk => hk) trivial (Below.refl _ _) (Nat.le_refl _) (by simp) ?_; (case hd => rfl); (case hg => rfl); (case hr => exact tG); (case hp => exact (Reps.one (show Kd.M (Kd.int .i64) _ _ _ 30 [.int .i64 30] from rfl) (Reps.one (show Kd.M (Kd.int .i64) _ _ _ 31 [.int .i64 31] from rfl) (Reps.none _ _))))
    intro v386 w41 ho42 hb hg_ hnew_
    clear hg_ hnew_
    (first | rw [← Ny385.out] at ho42 | (simp only [Int.reduceToNat] at ho42; rw [← Ny385.out] at ho42))
    replace HO360 := Aside0.mk (Kd.R_below (tR HO360) hb)
    have HO387 := Aside0.mk (Kd.R_lower (Kd.R_new' ho42 (Kd.R_lt (tR HO381))) (keep_size (w := w) (g := g) (row := none) (by repeat (first | (with_reducible first | exact HK.out | apply KeepBut.set_ | apply keep_drewN | apply keep_drew | apply keep_alloc | refine keep_far ?_ GW356.out _ | refine keep_far ?_ GW363.out _) | exact HK.out))))
    replace HO381 := Aside0.mk (Kd.R_elder' (tR HO381) (Kd.R_base ho42) hb)
    replace BK356 := bB BK356 hb
    replace BK363 := bB BK363 hb
    replace HK := Aside0.mk (KeepBut.trans (by repeat (first | (with_reducible first | exact HK.out | apply KeepBut.set_ | apply keep_drewN | apply keep_drew | apply keep_alloc | refine keep_far ?_ GW356.out _ | refine keep_far ?_ GW363.out _) | exact HK.out)) (KeepBut.of_below hb g none) (.inl rfl))
    replace HB := Aside0.mk (below_step (by repeat (first | (with_reducible first | exact HB.out | apply below_alloc | apply pw_below_drewN | apply below_drew1 | refine below_set ?_ (IsS139.ge HI0.out) | refine below_set ?_ GE356.out | refine below_set ?_ GE363.out) | exact HB.out)) hb)
    replace HI0 := Aside0.mk (IsS139.below (by repeat (first | (with_reducible first | exact HI0.out | apply IsS139.alloc | apply IsS139.drewN | apply IsS139.drew | apply IsS139.set_1 | apply IsS139.set_2 | refine IsS139.far ?_ NB0_356.out _ | refine IsS139.far ?_ NB0_363.out _) | exact HI0.out)) hb)
    clear hb ho42
    refine hK.out _ _ tH (fun hHeld => ?_)
    clear hK K
    refine norm_ (tV : Act.put _ (some 27) _ = _) ?_
    exact norm_ tM (hJ3_8_11 (v380, v386) _ ⟨hHeld, tR HO360, (by (with_reducible repeat (first | apply Kd.R_alloc | apply Kd.R_drewN | apply Kd.R_drew)); exact Kd.R_mono HO381.out (fun _ hk => hk.2)), (by (with_reducible repeat (first | apply Kd.R_alloc | apply Kd.R_drewN | apply Kd.R_drew)); exact Kd.R_mono HO387.out (fun _ hk => hk.2)), tK BK356, tK BK363, (by repeat (first | (with_reducible first | exact HI0.out | apply IsS139.alloc | apply IsS139.drewN | apply IsS139.drew | apply IsS139.set_1 | apply IsS139.set_2 | refine IsS139.far ?_ NB0_356.out _ | refine IsS139.far ?_ NB0_363.out _) | exact HI0.out)), (by repeat (first | (with_reducible first | exact HK.out | apply KeepBut.set_ | apply keep_drewN | apply keep_drew | apply keep_alloc | refine keep_far ?_ GW356.out _ | refine keep_far ?_ GW363.out _) | exact HK.out)), (by repeat (first | (with_reducible first | exact HB.out | apply below_alloc | apply pw_below_drewN | apply below_drew1 | refine below_set ?_ (IsS139.ge HI0.out) | refine below_set ?_ GE356.out | refine below_set ?_ GE363.out) | exact HB.out))⟩)
   intro hJ3_8
   refine join_ (σ := Value) 10 (bm 20 11455) (fun s_ => [(19, .int .i64 t373), (27, s_), (20, .int .i64 (wrap64 (t373 - 1)))]) (fun s_ w' => (w'.cell? ⟨gb363, 0, none⟩ = some (.int .i64 t357) ∧ w'.cell? ⟨gb363, 1, none⟩ = some (.slice Ao34 t358.length co34)) ∧ (Kd.R k104 104 w' w.heap.size (fun _ => True) (.slice Ao34 t358.length co34) t358) ∧ (Kd.R (Kd.int .i64) 3 w' w.heap.size (fun _ => True) s_ y385) ∧ (w'.heap[gb356]? = some (.cells #[.int .i64 0, .slice none 0 0] 35 (0, 0))) ∧ (w'.heap[gb363]? = some (.cells #[.int .i64 t357, .slice Ao34 t358.length co34] 35 (0, 0))) ∧ (IsS139 w0 w' g s0_0 t374 t375) ∧ (KeepBut w w' g none) ∧ (Below w0.heap.size w0 w')) ?_ ?_
   ·rintro v386 w40 ⟨hHeld, h0_, h1_, h2_, h3_, h4_, h5_, h6_⟩
    replace HO360 := Aside0.mk h0_
    have HO387 := Aside0.mk h1_
    replace BK356 := Aside0.mk h2_
    replace BK363 := Aside0.mk h3_
    replace HI0 := Aside0.mk h4_
    replace HK := Aside0.mk h5_
    replace HB := Aside0.mk h6_
    clear h0_ h1_ h2_ h3_ h4_ h5_ h6_
    refine norm_ tM ?_
    refine two_ (i := 6) (j := 8) (Ni := some 22) (Nj := some 24) (bm 20 11519) (bm 20 11711) rfl rfl rfl rfl (two_of HT_.out (by kernel_rfl)) (by decide) (by decide) (fun K hK => ?_) (fun K hK => ?_)
    ·refine goes_ Try.func96 (by kernel_rfl) rfl #[.pointer (some ⟨g, 0, none⟩), .int .i64 6] (by rfl) rfl rfl tL ?_
     with_reducible refine (spec_l1Below.calls g s0_0 t374 t375 6 t376 t377 t378 w0 _ ?side1 ?side2 A23.out).mono ?_
     (case side1 => repeat (first | (with_reducible first | exact HI0.out | apply IsS139.alloc | apply IsS139.drewN | apply IsS139.drew | apply IsS139.set_1 | apply IsS139.set_2 | refine IsS139.far ?_ NB0_356.out _ | refine IsS139.far ?_ NB0_363.out _) | exact HI0.out))
     (case side2 => repeat (first | (with_reducible first | exact HB.out | apply below_alloc | apply pw_below_drewN | apply below_drew1 | refine below_set ?_ (IsS139.ge HI0.out) | refine below_set ?_ GE356.out | refine below_set ?_ GE363.out) | exact HB.out))
     rintro e w41 ⟨rfl, hi, hb, hk⟩
     refine ⟨_, rfl, ?_⟩
     replace BK356 := Aside0.mk (KeepBut.blk hk (g' := gb356) (o := .cells #[.int .i64 0, .slice none 0 0] 35 (0, 0)) (tK BK356) NB356_0.out (by simp))
     replace HO360 := Aside0.mk (Kd.R_mono (Kd.R_keep (IsS139.apart (show IsS139 w0 _ g s0_0 t374 t375 from by repeat (first | (with_reducible first | exact HI0.out | apply IsS139.alloc | apply IsS139.drewN | apply IsS139.drew | apply IsS139.set_1 | apply IsS139.set_2 | refine IsS139.far ?_ NB0_356.out _ | refine IsS139.far ?_ NB0_363.out _) | exact HI0.out)) (tR HO360) (by decide)) hk (fun _ h => h.2)) (fun _ h => h.1))
     replace BK363 := Aside0.mk (KeepBut.blk hk (g' := gb363) (o := .cells #[.int .i64 t357, .slice Ao34 t358.length co34] 35 (0, 0)) (tK BK363) NB363_0.out (by simp))
     replace HO387 := Aside0.mk (Kd.R_mono (Kd.R_keep (IsS139.apart (show IsS139 w0 _ g s0_0 t374 t375 from by repeat (first | (with_reducible first | exact HI0.out | apply IsS139.alloc | apply IsS139.drewN | apply IsS139.drew | apply IsS139.set_1 | apply IsS139.set_2 | refine IsS139.far ?_ NB0_356.out _ | refine IsS139.far ?_ NB0_363.out _) | exact HI0.out)) (tR HO387) (by decide)) hk (fun _ h => h.2)) (fun _ h => h.1))
     replace HK := Aside0.mk (KeepBut.trans (by repeat (first | (with_reducible first | exact HK.out | apply KeepBut.set_ | apply keep_drewN | apply keep_drew | apply keep_alloc | refine keep_far ?_ GW356.out _ | refine keep_far ?_ GW363.out _) | exact HK.out)) hk (.inl rfl))
     replace HB := Aside0.mk (hb)
     replace HI0 := Aside0.mk (hi)
     (try clear hb)
     (try clear hb2)
     (try clear hk)
     (try clear hi)
     refine hK.out _ _ tH (fun hHeld => ?_)
     clear hK K
     refine norm_ (tV : Act.put _ (some 22) _ = _) ?_
     exact norm_ tM (hJ3_6_11 (v386) _ ⟨hHeld, tR HO360, tR HO387, tK BK356, tK BK363, (by repeat (first | (with_reducible first | exact HI0.out | apply IsS139.alloc | apply IsS139.drewN | apply IsS139.drew | apply IsS139.set_1 | apply IsS139.set_2 | refine IsS139.far ?_ NB0_356.out _ | refine IsS139.far ?_ NB0_363.out _) | exact HI0.out)), (by repeat (first | (with_reducible first | exact HK.out | apply KeepBut.set_ | apply keep_drewN | apply keep_drew | apply keep_alloc | refine keep_far ?_ GW356.out _ | refine keep_far ?_ GW363.out _) | exact HK.out)), (by repeat (first | (with_reducible first | exact HB.out | apply below_alloc | apply pw_below_drewN | apply below_drew1 | refine below_set ?_ (IsS139.ge HI0.out) | refine below_set ?_ GE356.out | refine below_set ?_ GE363.out) | exact HB.out))⟩)
    refine Kd.R_lit_step (Kd.int .i64) _ 3 ?hg (N := 24) ?hd (xs := ([(-1), 5, 1000001] : List Int)) (inner := [.int .i64 (-1), .int .i64 5, .int .i64 1000001]) (ok := fun _ => True) (okp := fun _ => True) ?hr ?hp (fun _ hk => hk) trivial (Below.refl _ _) (Nat.le_refl _) (by simp) ?_; (case hd => rfl); (case hg => rfl); (case hr => exact tG); (case hp => exact (Reps.one (show Kd.M (Kd.int .i64) _ _ _ (-1) [.int .i64 (-1)] from rfl) (Reps.one (show Kd.M (Kd.int .i64) _ _ _ 5 [.int .i64 5] from rfl) (Reps.one (show Kd.M (Kd.int .i64) _ _ _ 1000001 [.int .i64 1000001] from rfl) (Reps.none _ _)))))
    intro v380 w41 ho42 hb hg_ hnew_
    clear hg_ hnew_
    (first | rw [← Ny379.out] at ho42 | (simp only [Int.reduceToNat] at ho42; rw [← Ny379.out] at ho42))
    replace HO360 := Aside0.mk (Kd.R_below (tR HO360) hb)
    have HO381 := Aside0.mk (Kd.R_lower (Kd.R_new' ho42 (Kd.R_lt (tR HO387))) (keep_size (w := w) (g := g) (row := none) (by repeat (first | (with_reducible first | exact HK.out | apply KeepBut.set_ | apply keep_drewN | apply keep_drew | apply keep_alloc | refine keep_far ?_ GW356.out _ | refine keep_far ?_ GW363.out _) | exact HK.out))))
    replace HO387 := Aside0.mk (Kd.R_elder' (tR HO387) (Kd.R_base ho42) hb)
    replace BK356 := bB BK356 hb
    replace BK363 := bB BK363 hb
    replace HK := Aside0.mk (KeepBut.trans (by repeat (first | (with_reducible first | exact HK.out | apply KeepBut.set_ | apply keep_drewN | apply keep_drew | apply keep_alloc | refine keep_far ?_ GW356.out _ | refine keep_far ?_ GW363.out _) | exact HK.out)) (KeepBut.of_below hb g none) (.inl rfl))
    replace HB := Aside0.mk (below_step (by repeat (first | (with_reducible first | exact HB.out | apply below_alloc | apply pw_below_drewN | apply below_drew1 | refine below_set ?_ (IsS139.ge HI0.out) | refine below_set ?_ GE356.out | refine below_set ?_ GE363.out) | exact HB.out)) hb)
    replace HI0 := Aside0.mk (IsS139.below (by repeat (first | (with_reducible first | exact HI0.out | apply IsS139.alloc | apply IsS139.drewN | apply IsS139.drew | apply IsS139.set_1 | apply IsS139.set_2 | refine IsS139.far ?_ NB0_356.out _ | refine IsS139.far ?_ NB0_363.out _) | exact HI0.out)) hb)
    clear hb ho42
    refine hK.out _ _ tH (fun hHeld => ?_)
    clear hK K
    refine norm_ (tV : Act.put _ (some 24) _ = _) ?_
    exact norm_ tM (hJ3_8_11 (v380, v386) _ ⟨hHeld, tR HO360, (by (with_reducible repeat (first | apply Kd.R_alloc | apply Kd.R_drewN | apply Kd.R_drew)); exact Kd.R_mono HO381.out (fun _ hk => hk.2)), (by (with_reducible repeat (first | apply Kd.R_alloc | apply Kd.R_drewN | apply Kd.R_drew)); exact Kd.R_mono HO387.out (fun _ hk => hk.2)), tK BK356, tK BK363, (by repeat (first | (with_reducible first | exact HI0.out | apply IsS139.alloc | apply IsS139.drewN | apply IsS139.drew | apply IsS139.set_1 | apply IsS139.set_2 | refine IsS139.far ?_ NB0_356.out _ | refine IsS139.far ?_ NB0_363.out _) | exact HI0.out)), (by repeat (first | (with_reducible first | exact HK.out | apply KeepBut.set_ | apply keep_drewN | apply keep_drew | apply keep_alloc | refine keep_far ?_ GW356.out _ | refine keep_far ?_ GW363.out _) | exact HK.out)), (by repeat (first | (with_reducible first | exact HB.out | apply below_alloc | apply pw_below_drewN | apply below_drew1 | refine below_set ?_ (IsS139.ge HI0.out) | refine below_set ?_ GE356.out | refine below_set ?_ GE363.out) | exact HB.out))⟩)
   intro hJ3_11
   refine join_ (σ := Value × Value) 11 (bm 20 11687) (fun s_ => [(24, s_.1), (27, s_.2)]) (fun s_ w' => (w'.cell? ⟨gb363, 0, none⟩ = some (.int .i64 t357) ∧ w'.cell? ⟨gb363, 1, none⟩ = some (.slice Ao34 t358.length co34)) ∧ (Kd.R k104 104 w' w.heap.size (fun _ => True) (.slice Ao34 t358.length co34) t358) ∧ (Kd.R (Kd.int .i64) 3 w' w.heap.size (fun k_ => some k_ ≠ (s_.2 : Value).ownBlock) s_.1 y379) ∧ (Kd.R (Kd.int .i64) 3 w' w.heap.size (fun k_ => some k_ ≠ (s_.1 : Value).ownBlock) s_.2 y385) ∧ (w'.heap[gb356]? = some (.cells #[.int .i64 0, .slice none 0 0] 35 (0, 0))) ∧ (w'.heap[gb363]? = some (.cells #[.int .i64 t357, .slice Ao34 t358.length co34] 35 (0, 0))) ∧ (IsS139 w0 w' g s0_0 t365 t366) ∧ (KeepBut w w' g none) ∧ (Below w0.heap.size w0 w')) ?_ ?_
   ·rintro ⟨v380, v386⟩ w41 hS_
    dsimp only at hS_
    obtain ⟨hHeld, h0_, h1_, h2_, h3_, h4_, h5_, h6_, h7_⟩ := hS_
    replace HO360 := Aside0.mk h0_
    have HO381 := Aside0.mk h1_
    have HO387 := Aside0.mk h2_
    replace BK356 := Aside0.mk h3_
    replace BK363 := Aside0.mk h4_
    replace HI0 := Aside0.mk h5_
    replace HK := Aside0.mk h6_
    replace HB := Aside0.mk h7_
    clear h0_ h1_ h2_ h3_ h4_ h5_ h6_ h7_
    refine norm_ tM ?_
    refine one_ (i := 3) (N := some 19) (bm 20 11695) rfl rfl (one_of HT_.out (by kernel_rfl)) (by decide) (fun K hK => ?_)
    refine goes_ Try.func96 (by kernel_rfl) rfl #[.pointer (some ⟨g, 0, none⟩), .int .i64 9] (by rfl) rfl rfl tL ?_
    with_reducible refine (spec_l1Below.calls g s0_0 t365 t366 9 t373 t374 t375 w0 _ ?side1 ?side2 A22.out).mono ?_
    (case side1 => repeat (first | (with_reducible first | exact HI0.out | apply IsS139.alloc | apply IsS139.drewN | apply IsS139.drew | apply IsS139.set_1 | apply IsS139.set_2 | refine IsS139.far ?_ NB0_356.out _ | refine IsS139.far ?_ NB0_363.out _) | exact HI0.out))
    (case side2 => repeat (first | (with_reducible first | exact HB.out | apply below_alloc | apply pw_below_drewN | apply below_drew1 | refine below_set ?_ (IsS139.ge HI0.out) | refine below_set ?_ GE356.out | refine below_set ?_ GE363.out) | exact HB.out))
    rintro e w42 ⟨rfl, hi, hb, hk⟩
    refine ⟨_, rfl, ?_⟩
    replace BK356 := Aside0.mk (KeepBut.blk hk (g' := gb356) (o := .cells #[.int .i64 0, .slice none 0 0] 35 (0, 0)) (tK BK356) NB356_0.out (by simp))
    replace HO360 := Aside0.mk (Kd.R_mono (Kd.R_keep (IsS139.apart (show IsS139 w0 _ g s0_0 t365 t366 from by repeat (first | (with_reducible first | exact HI0.out | apply IsS139.alloc | apply IsS139.drewN | apply IsS139.drew | apply IsS139.set_1 | apply IsS139.set_2 | refine IsS139.far ?_ NB0_356.out _ | refine IsS139.far ?_ NB0_363.out _) | exact HI0.out)) (tR HO360) (by decide)) hk (fun _ h => h.2)) (fun _ h => h.1))
    replace BK363 := Aside0.mk (KeepBut.blk hk (g' := gb363) (o := .cells #[.int .i64 t357, .slice Ao34 t358.length co34] 35 (0, 0)) (tK BK363) NB363_0.out (by simp))
    replace HO381 := Aside0.mk (Kd.R_mono (Kd.R_keep (IsS139.apart (show IsS139 w0 _ g s0_0 t365 t366 from by repeat (first | (with_reducible first | exact HI0.out | apply IsS139.alloc | apply IsS139.drewN | apply IsS139.drew | apply IsS139.set_1 | apply IsS139.set_2 | refine IsS139.far ?_ NB0_356.out _ | refine IsS139.far ?_ NB0_363.out _) | exact HI0.out)) (tR HO381) (by decide)) hk (fun _ h => h.2)) (fun _ h => h.1))
    replace HO387 := Aside0.mk (Kd.R_mono (Kd.R_keep (IsS139.apart (show IsS139 w0 _ g s0_0 t365 t366 from by repeat (first | (with_reducible first | exact HI0.out | apply IsS139.alloc | apply IsS139.drewN | apply IsS139.drew | apply IsS139.set_1 | apply IsS139.set_2 | refine IsS139.far ?_ NB0_356.out _ | refine IsS139.far ?_ NB0_363.out _) | exact HI0.out)) (tR HO387) (by decide)) hk (fun _ h => h.2)) (fun _ h => h.1))
    replace HK := Aside0.mk (KeepBut.trans (by repeat (first | (with_reducible first | exact HK.out | apply KeepBut.set_ | apply keep_drewN | apply keep_drew | apply keep_alloc | refine keep_far ?_ GW356.out _ | refine keep_far ?_ GW363.out _) | exact HK.out)) hk (.inl rfl))
    replace HB := Aside0.mk (hb)
    replace HI0 := Aside0.mk (hi)
    (try clear hb)
    (try clear hb2)
    (try clear hk)
    (try clear hi)
    refine hK.out _ _ tH (fun hHeld => ?_)
    clear hK K
    refine norm_ (tV : Act.put _ (some 19) _ = _) ?_
    refine pI 4 20 (bm 20 11711) ?_
    exact norm_ tM (hJ3_8_11 (v380, v386) _ ⟨hHeld, tR HO360, tR HO381, tR HO387, tK BK356, tK BK363, (by repeat (first | (with_reducible first | exact HI0.out | apply IsS139.alloc | apply IsS139.drewN | apply IsS139.drew | apply IsS139.set_1 | apply IsS139.set_2 | refine IsS139.far ?_ NB0_356.out _ | refine IsS139.far ?_ NB0_363.out _) | exact HI0.out)), (by repeat (first | (with_reducible first | exact HK.out | apply KeepBut.set_ | apply keep_drewN | apply keep_drew | apply keep_alloc | refine keep_far ?_ GW356.out _ | refine keep_far ?_ GW363.out _) | exact HK.out)), (by repeat (first | (with_reducible first | exact HB.out | apply below_alloc | apply pw_below_drewN | apply below_drew1 | refine below_set ?_ (IsS139.ge HI0.out) | refine below_set ?_ GE356.out | refine below_set ?_ GE363.out) | exact HB.out))⟩)
   intro hJ8_11
   refine join_ (σ := Unit) 11 (bm 20 9407) (fun s_ => [(19, .int .i64 t373), (20, .int .i64 (wrap64 (t373 - 1)))]) (fun s_ w' => (w'.cell? ⟨gb363, 0, none⟩ = some (.int .i64 t357) ∧ w'.cell? ⟨gb363, 1, none⟩ = some (.slice Ao34 t358.length co34)) ∧ (Kd.R k104 104 w' w.heap.size (fun _ => True) (.slice Ao34 t358.length co34) t358) ∧ (w'.heap[gb356]? = some (.cells #[.int .i64 0, .slice none 0 0] 35 (0, 0))) ∧ (w'.heap[gb363]? = some (.cells #[.int .i64 t357, .slice Ao34 t358.length co34] 35 (0, 0))) ∧ (IsS139 w0 w' g s0_0 t374 t375) ∧ (KeepBut w w' g none) ∧ (Below w0.heap.size w0 w')) ?_ ?_
   ·rintro _ w38 ⟨hHeld, h0_, h1_, h2_, h3_, h4_, h5_⟩
    replace HO360 := Aside0.mk h0_
    replace BK356 := Aside0.mk h1_
    replace BK363 := Aside0.mk h2_
    replace HI0 := Aside0.mk h3_
    replace HK := Aside0.mk h4_
    replace HB := Aside0.mk h5_
    clear h0_ h1_ h2_ h3_ h4_ h5_
    refine norm_ tM ?_
    refine three_ (i := 6) (j := 8) (k := 11) (Ni := some 22) (Nj := some 24) (Nk := some 27) (bm 20 9471) (bm 20 9663) (bm 20 11455) rfl rfl rfl rfl rfl rfl (three_of HT_.out (by kernel_rfl)) (by decide) (by decide) (by decide) (fun K hK => ?_) (fun K hK => ?_) (fun K hK => ?_)
    ·refine goes_ Try.func96 (by kernel_rfl) rfl #[.pointer (some ⟨g, 0, none⟩), .int .i64 6] (by rfl) rfl rfl tL ?_
     with_reducible refine (spec_l1Below.calls g s0_0 t374 t375 6 t376 t377 t378 w0 _ ?side1 ?side2 A23.out).mono ?_
     (case side1 => repeat (first | (with_reducible first | exact HI0.out | apply IsS139.alloc | apply IsS139.drewN | apply IsS139.drew | apply IsS139.set_1 | apply IsS139.set_2 | refine IsS139.far ?_ NB0_356.out _ | refine IsS139.far ?_ NB0_363.out _) | exact HI0.out))
     (case side2 => repeat (first | (with_reducible first | exact HB.out | apply below_alloc | apply pw_below_drewN | apply below_drew1 | refine below_set ?_ (IsS139.ge HI0.out) | refine below_set ?_ GE356.out | refine below_set ?_ GE363.out) | exact HB.out))
     rintro e w39 ⟨rfl, hi, hb, hk⟩
     refine ⟨_, rfl, ?_⟩
     replace BK356 := Aside0.mk (KeepBut.blk hk (g' := gb356) (o := .cells #[.int .i64 0, .slice none 0 0] 35 (0, 0)) (tK BK356) NB356_0.out (by simp))
     replace HO360 := Aside0.mk (Kd.R_mono (Kd.R_keep (IsS139.apart (show IsS139 w0 _ g s0_0 t374 t375 from by repeat (first | (with_reducible first | exact HI0.out | apply IsS139.alloc | apply IsS139.drewN | apply IsS139.drew | apply IsS139.set_1 | apply IsS139.set_2 | refine IsS139.far ?_ NB0_356.out _ | refine IsS139.far ?_ NB0_363.out _) | exact HI0.out)) (tR HO360) (by decide)) hk (fun _ h => h.2)) (fun _ h => h.1))
     replace BK363 := Aside0.mk (KeepBut.blk hk (g' := gb363) (o := .cells #[.int .i64 t357, .slice Ao34 t358.length co34] 35 (0, 0)) (tK BK363) NB363_0.out (by simp))
     replace HK := Aside0.mk (KeepBut.trans (by repeat (first | (with_reducible first | exact HK.out | apply KeepBut.set_ | apply keep_drewN | apply keep_drew | apply keep_alloc | refine keep_far ?_ GW356.out _ | refine keep_far ?_ GW363.out _) | exact HK.out)) hk (.inl rfl))
     replace HB := Aside0.mk (hb)
     replace HI0 := Aside0.mk (hi)
     (try clear hb)
     (try clear hb2)
     (try clear hk)
     (try clear hi)
     refine hK.out _ _ tH (fun hHeld => ?_)
     clear hK K
     refine norm_ (tV : Act.put _ (some 22) _ = _) ?_
     exact norm_ tM (hJ3_6 () _ ⟨hHeld, tR HO360, tK BK356, tK BK363, (by repeat (first | (with_reducible first | exact HI0.out | apply IsS139.alloc | apply IsS139.drewN | apply IsS139.drew | apply IsS139.set_1 | apply IsS139.set_2 | refine IsS139.far ?_ NB0_356.out _ | refine IsS139.far ?_ NB0_363.out _) | exact HI0.out)), (by repeat (first | (with_reducible first | exact HK.out | apply KeepBut.set_ | apply keep_drewN | apply keep_drew | apply keep_alloc | refine keep_far ?_ GW356.out _ | refine keep_far ?_ GW363.out _) | exact HK.out)), (by repeat (first | (with_reducible first | exact HB.out | apply below_alloc | apply pw_below_drewN | apply below_drew1 | refine below_set ?_ (IsS139.ge HI0.out) | refine below_set ?_ GE356.out | refine below_set ?_ GE363.out) | exact HB.out))⟩)
    ·refine Kd.R_lit_step (Kd.int .i64) _ 3 ?hg (N := 24) ?hd (xs := ([(-1), 5, 1000001] : List Int)) (inner := [.int .i64 (-1), .int .i64 5, .int .i64 1000001]) (ok := fun _ => True) (okp := fun _ => True) ?hr ?hp (fun _ hk => hk) trivial (Below.refl _ _) (Nat.le_refl _) (by simp) ?_; (case hd => rfl); (case hg => rfl); (case hr => exact tG); (case hp => exact (Reps.one (show Kd.M (Kd.int .i64) _ _ _ (-1) [.int .i64 (-1)] from rfl) (Reps.one (show Kd.M (Kd.int .i64) _ _ _ 5 [.int .i64 5] from rfl) (Reps.one (show Kd.M (Kd.int .i64) _ _ _ 1000001 [.int .i64 1000001] from rfl) (Reps.none _ _)))))
     intro v380 w39 ho40 hb hg_ hnew_
     clear hg_ hnew_
     (first | rw [← Ny379.out] at ho40 | (simp only [Int.reduceToNat] at ho40; rw [← Ny379.out] at ho40))
     replace HO360 := Aside0.mk (Kd.R_below (tR HO360) hb)
     have HO381 := Aside0.mk (Kd.R_lower ho40 (keep_size (w := w) (g := g) (row := none) (by repeat (first | (with_reducible first | exact HK.out | apply KeepBut.set_ | apply keep_drewN | apply keep_drew | apply keep_alloc | refine keep_far ?_ GW356.out _ | refine keep_far ?_ GW363.out _) | exact HK.out))))
     replace BK356 := bB BK356 hb
     replace BK363 := bB BK363 hb
     replace HK := Aside0.mk (KeepBut.trans (by repeat (first | (with_reducible first | exact HK.out | apply KeepBut.set_ | apply keep_drewN | apply keep_drew | apply keep_alloc | refine keep_far ?_ GW356.out _ | refine keep_far ?_ GW363.out _) | exact HK.out)) (KeepBut.of_below hb g none) (.inl rfl))
     replace HB := Aside0.mk (below_step (by repeat (first | (with_reducible first | exact HB.out | apply below_alloc | apply pw_below_drewN | apply below_drew1 | refine below_set ?_ (IsS139.ge HI0.out) | refine below_set ?_ GE356.out | refine below_set ?_ GE363.out) | exact HB.out)) hb)
     replace HI0 := Aside0.mk (IsS139.below (by repeat (first | (with_reducible first | exact HI0.out | apply IsS139.alloc | apply IsS139.drewN | apply IsS139.drew | apply IsS139.set_1 | apply IsS139.set_2 | refine IsS139.far ?_ NB0_356.out _ | refine IsS139.far ?_ NB0_363.out _) | exact HI0.out)) hb)
     clear hb ho40
     refine hK.out _ _ tH (fun hHeld => ?_)
     clear hK K
     refine norm_ (tV : Act.put _ (some 24) _ = _) ?_
     exact norm_ tM (hJ3_8 (v380) _ ⟨hHeld, tR HO360, tR HO381, tK BK356, tK BK363, (by repeat (first | (with_reducible first | exact HI0.out | apply IsS139.alloc | apply IsS139.drewN | apply IsS139.drew | apply IsS139.set_1 | apply IsS139.set_2 | refine IsS139.far ?_ NB0_356.out _ | refine IsS139.far ?_ NB0_363.out _) | exact HI0.out)), (by repeat (first | (with_reducible first | exact HK.out | apply KeepBut.set_ | apply keep_drewN | apply keep_drew | apply keep_alloc | refine keep_far ?_ GW356.out _ | refine keep_far ?_ GW363.out _) | exact HK.out)), (by repeat (first | (with_reducible first | exact HB.out | apply below_alloc | apply pw_below_drewN | apply below_drew1 | refine below_set ?_ (IsS139.ge HI0.out) | refine below_set ?_ GE356.out | refine below_set ?_ GE363.out) | exact HB.out))⟩)
    refine Kd.R_lit_step (Kd.int .i64) _ 3 ?hg (N := 27) ?hd (xs := ([30, 31] : List Int)) (inner := [.int .i64 30, .int .i64 31]) (ok := fun _ => True) (okp := fun _ => True) ?hr ?hp (fun _ hk => hk) trivial (Below.refl _ _) (Nat.le_refl _) (by simp) ?_; (case hd => rfl); (case hg => rfl); (case hr => exact tG); (case hp => exact (Reps.one (show Kd.M (Kd.int .i64) _ _ _ 30 [.int .i64 30] from rfl) (Reps.one (show Kd.M (Kd.int .i64) _ _ _ 31 [.int .i64 31] from rfl) (Reps.none _ _))))
    intro v386 w39 ho40 hb hg_ hnew_
    clear hg_ hnew_
    (first | rw [← Ny385.out] at ho40 | (simp only [Int.reduceToNat] at ho40; rw [← Ny385.out] at ho40))
    replace HO360 := Aside0.mk (Kd.R_below (tR HO360) hb)
    have HO387 := Aside0.mk (Kd.R_lower ho40 (keep_size (w := w) (g := g) (row := none) (by repeat (first | (with_reducible first | exact HK.out | apply KeepBut.set_ | apply keep_drewN | apply keep_drew | apply keep_alloc | refine keep_far ?_ GW356.out _ | refine keep_far ?_ GW363.out _) | exact HK.out))))
    replace BK356 := bB BK356 hb
    replace BK363 := bB BK363 hb
    replace HK := Aside0.mk (KeepBut.trans (by repeat (first | (with_reducible first | exact HK.out | apply KeepBut.set_ | apply keep_drewN | apply keep_drew | apply keep_alloc | refine keep_far ?_ GW356.out _ | refine keep_far ?_ GW363.out _) | exact HK.out)) (KeepBut.of_below hb g none) (.inl rfl))
    replace HB := Aside0.mk (below_step (by repeat (first | (with_reducible first | exact HB.out | apply below_alloc | apply pw_below_drewN | apply below_drew1 | refine below_set ?_ (IsS139.ge HI0.out) | refine below_set ?_ GE356.out | refine below_set ?_ GE363.out) | exact HB.out)) hb)
    replace HI0 := Aside0.mk (IsS139.below (by repeat (first | (with_reducible first | exact HI0.out | apply IsS139.alloc | apply IsS139.drewN | apply IsS139.drew | apply IsS139.set_1 | apply IsS139.set_2 | refine IsS139.far ?_ NB0_356.out _ | refine IsS139.far ?_ NB0_363.out _) | exact HI0.out)) hb)
    clear hb ho40
    refine hK.out _ _ tH (fun hHeld => ?_)
    clear hK K
    refine norm_ (tV : Act.put _ (some 27) _ = _) ?_
    exact norm_ tM (hJ3_11 (v386) _ ⟨hHeld, tR HO360, tR HO387, tK BK356, tK BK363, (by repeat (first | (with_reducible first | exact HI0.out | apply IsS139.alloc | apply IsS139.drewN | apply IsS139.drew | apply IsS139.set_1 | apply IsS139.set_2 | refine IsS139.far ?_ NB0_356.out _ | refine IsS139.far ?_ NB0_363.out _) | exact HI0.out)), (by repeat (first | (with_reducible first | exact HK.out | apply KeepBut.set_ | apply keep_drewN | apply keep_drew | apply keep_alloc | refine keep_far ?_ GW356.out _ | refine keep_far ?_ GW363.out _) | exact HK.out)), (by repeat (first | (with_reducible first | exact HB.out | apply below_alloc | apply pw_below_drewN | apply below_drew1 | refine below_set ?_ (IsS139.ge HI0.out) | refine below_set ?_ GE356.out | refine below_set ?_ GE363.out) | exact HB.out))⟩)
   intro hJ3
   refine join_ (σ := Value) 12 (bm 20 9639) (fun s_ => [(24, s_)]) (fun s_ w' => (w'.cell? ⟨gb363, 0, none⟩ = some (.int .i64 t357) ∧ w'.cell? ⟨gb363, 1, none⟩ = some (.slice Ao34 t358.length co34)) ∧ (Kd.R k104 104 w' w.heap.size (fun _ => True) (.slice Ao34 t358.length co34) t358) ∧ (Kd.R (Kd.int .i64) 3 w' w.heap.size (fun _ => True) s_ y379) ∧ (w'.heap[gb356]? = some (.cells #[.int .i64 0, .slice none 0 0] 35 (0, 0))) ∧ (w'.heap[gb363]? = some (.cells #[.int .i64 t357, .slice Ao34 t358.length co34] 35 (0, 0))) ∧ (IsS139 w0 w' g s0_0 t365 t366) ∧ (KeepBut w w' g none) ∧ (Below w0.heap.size w0 w')) ?_ ?_
   ·rintro v380 w39 ⟨hHeld, h0_, h1_, h2_, h3_, h4_, h5_, h6_⟩
    replace HO360 := Aside0.mk h0_
    have HO381 := Aside0.mk h1_
    replace BK356 := Aside0.mk h2_
    replace BK363 := Aside0.mk h3_
    replace HI0 := Aside0.mk h4_
    replace HK := Aside0.mk h5_
    replace HB := Aside0.mk h6_
    clear h0_ h1_ h2_ h3_ h4_ h5_ h6_
    refine norm_ tM ?_
    refine two_ (i := 3) (j := 11) (Ni := some 19) (Nj := some 27) (bm 20 9647) (bm 20 11687) rfl rfl rfl rfl (two_of HT_.out (by kernel_rfl)) (by decide) (by decide) (fun K hK => ?_) (fun K hK => ?_)
    ·refine goes_ Try.func96 (by kernel_rfl) rfl #[.pointer (some ⟨g, 0, none⟩), .int .i64 9] (by rfl) rfl rfl tL ?_
     with_reducible refine (spec_l1Below.calls g s0_0 t365 t366 9 t373 t374 t375 w0 _ ?side1 ?side2 A22.out).mono ?_
     (case side1 => repeat (first | (with_reducible first | exact HI0.out | apply IsS139.alloc | apply IsS139.drewN | apply IsS139.drew | apply IsS139.set_1 | apply IsS139.set_2 | refine IsS139.far ?_ NB0_356.out _ | refine IsS139.far ?_ NB0_363.out _) | exact HI0.out))
     (case side2 => repeat (first | (with_reducible first | exact HB.out | apply below_alloc | apply pw_below_drewN | apply below_drew1 | refine below_set ?_ (IsS139.ge HI0.out) | refine below_set ?_ GE356.out | refine below_set ?_ GE363.out) | exact HB.out))
     rintro e w40 ⟨rfl, hi, hb, hk⟩
     refine ⟨_, rfl, ?_⟩
     replace BK356 := Aside0.mk (KeepBut.blk hk (g' := gb356) (o := .cells #[.int .i64 0, .slice none 0 0] 35 (0, 0)) (tK BK356) NB356_0.out (by simp))
     replace HO360 := Aside0.mk (Kd.R_mono (Kd.R_keep (IsS139.apart (show IsS139 w0 _ g s0_0 t365 t366 from by repeat (first | (with_reducible first | exact HI0.out | apply IsS139.alloc | apply IsS139.drewN | apply IsS139.drew | apply IsS139.set_1 | apply IsS139.set_2 | refine IsS139.far ?_ NB0_356.out _ | refine IsS139.far ?_ NB0_363.out _) | exact HI0.out)) (tR HO360) (by decide)) hk (fun _ h => h.2)) (fun _ h => h.1))
     replace BK363 := Aside0.mk (KeepBut.blk hk (g' := gb363) (o := .cells #[.int .i64 t357, .slice Ao34 t358.length co34] 35 (0, 0)) (tK BK363) NB363_0.out (by simp))
     replace HO381 := Aside0.mk (Kd.R_mono (Kd.R_keep (IsS139.apart (show IsS139 w0 _ g s0_0 t365 t366 from by repeat (first | (with_reducible first | exact HI0.out | apply IsS139.alloc | apply IsS139.drewN | apply IsS139.drew | apply IsS139.set_1 | apply IsS139.set_2 | refine IsS139.far ?_ NB0_356.out _ | refine IsS139.far ?_ NB0_363.out _) | exact HI0.out)) (tR HO381) (by decide)) hk (fun _ h => h.2)) (fun _ h => h.1))
     replace HK := Aside0.mk (KeepBut.trans (by repeat (first | (with_reducible first | exact HK.out | apply KeepBut.set_ | apply keep_drewN | apply keep_drew | apply keep_alloc | refine keep_far ?_ GW356.out _ | refine keep_far ?_ GW363.out _) | exact HK.out)) hk (.inl rfl))
     replace HB := Aside0.mk (hb)
     replace HI0 := Aside0.mk (hi)
     (try clear hb)
     (try clear hb2)
     (try clear hk)
     (try clear hi)
     refine hK.out _ _ tH (fun hHeld => ?_)
     clear hK K
     refine norm_ (tV : Act.put _ (some 19) _ = _) ?_
     refine pI 4 20 (bm 20 9663) ?_
     exact norm_ tM (hJ3_8 (v380) _ ⟨hHeld, tR HO360, tR HO381, tK BK356, tK BK363, (by repeat (first | (with_reducible first | exact HI0.out | apply IsS139.alloc | apply IsS139.drewN | apply IsS139.drew | apply IsS139.set_1 | apply IsS139.set_2 | refine IsS139.far ?_ NB0_356.out _ | refine IsS139.far ?_ NB0_363.out _) | exact HI0.out)), (by repeat (first | (with_reducible first | exact HK.out | apply KeepBut.set_ | apply keep_drewN | apply keep_drew | apply keep_alloc | refine keep_far ?_ GW356.out _ | refine keep_far ?_ GW363.out _) | exact HK.out)), (by repeat (first | (with_reducible first | exact HB.out | apply below_alloc | apply pw_below_drewN | apply below_drew1 | refine below_set ?_ (IsS139.ge HI0.out) | refine below_set ?_ GE356.out | refine below_set ?_ GE363.out) | exact HB.out))⟩)
    refine Kd.R_lit_step (Kd.int .i64) _ 3 ?hg (N := 27) ?hd (xs := ([30, 31] : List Int)) (inner := [.int .i64 30, .int .i64 31]) (ok := fun _ => True) (okp := fun _ => True) ?hr ?hp (fun _ hk => hk) trivial (Below.refl _ _) (Nat.le_refl _) (by simp) ?_; (case hd => rfl); (case hg => rfl); (case hr => exact tG); (case hp => exact (Reps.one (show Kd.M (Kd.int .i64) _ _ _ 30 [.int .i64 30] from rfl) (Reps.one (show Kd.M (Kd.int .i64) _ _ _ 31 [.int .i64 31] from rfl) (Reps.none _ _))))
    intro v386 w40 ho41 hb hg_ hnew_
    clear hg_ hnew_
    (first | rw [← Ny385.out] at ho41 | (simp only [Int.reduceToNat] at ho41; rw [← Ny385.out] at ho41))
    replace HO360 := Aside0.mk (Kd.R_below (tR HO360) hb)
    have HO387 := Aside0.mk (Kd.R_lower (Kd.R_new' ho41 (Kd.R_lt (tR HO381))) (keep_size (w := w) (g := g) (row := none) (by repeat (first | (with_reducible first | exact HK.out | apply KeepBut.set_ | apply keep_drewN | apply keep_drew | apply keep_alloc | refine keep_far ?_ GW356.out _ | refine keep_far ?_ GW363.out _) | exact HK.out))))
    replace HO381 := Aside0.mk (Kd.R_elder' (tR HO381) (Kd.R_base ho41) hb)
    replace BK356 := bB BK356 hb
    replace BK363 := bB BK363 hb
    replace HK := Aside0.mk (KeepBut.trans (by repeat (first | (with_reducible first | exact HK.out | apply KeepBut.set_ | apply keep_drewN | apply keep_drew | apply keep_alloc | refine keep_far ?_ GW356.out _ | refine keep_far ?_ GW363.out _) | exact HK.out)) (KeepBut.of_below hb g none) (.inl rfl))
    replace HB := Aside0.mk (below_step (by repeat (first | (with_reducible first | exact HB.out | apply below_alloc | apply pw_below_drewN | apply below_drew1 | refine below_set ?_ (IsS139.ge HI0.out) | refine below_set ?_ GE356.out | refine below_set ?_ GE363.out) | exact HB.out)) hb)
    replace HI0 := Aside0.mk (IsS139.below (by repeat (first | (with_reducible first | exact HI0.out | apply IsS139.alloc | apply IsS139.drewN | apply IsS139.drew | apply IsS139.set_1 | apply IsS139.set_2 | refine IsS139.far ?_ NB0_356.out _ | refine IsS139.far ?_ NB0_363.out _) | exact HI0.out)) hb)
    clear hb ho41
    refine hK.out _ _ tH (fun hHeld => ?_)
    clear hK K
    refine norm_ (tV : Act.put _ (some 27) _ = _) ?_
    exact norm_ tM (hJ8_11 (v380, v386) _ ⟨hHeld, tR HO360, (by (with_reducible repeat (first | apply Kd.R_alloc | apply Kd.R_drewN | apply Kd.R_drew)); exact Kd.R_mono HO381.out (fun _ hk => hk.2)), (by (with_reducible repeat (first | apply Kd.R_alloc | apply Kd.R_drewN | apply Kd.R_drew)); exact Kd.R_mono HO387.out (fun _ hk => hk.2)), tK BK356, tK BK363, (by repeat (first | (with_reducible first | exact HI0.out | apply IsS139.alloc | apply IsS139.drewN | apply IsS139.drew | apply IsS139.set_1 | apply IsS139.set_2 | refine IsS139.far ?_ NB0_356.out _ | refine IsS139.far ?_ NB0_363.out _) | exact HI0.out)), (by repeat (first | (with_reducible first | exact HK.out | apply KeepBut.set_ | apply keep_drewN | apply keep_drew | apply keep_alloc | refine keep_far ?_ GW356.out _ | refine keep_far ?_ GW363.out _) | exact HK.out)), (by repeat (first | (with_reducible first | exact HB.out | apply below_alloc | apply pw_below_drewN | apply below_drew1 | refine below_set ?_ (IsS139.ge HI0.out) | refine below_set ?_ GE356.out | refine below_set ?_ GE363.out) | exact HB.out))⟩)
   intro hJ8
   refine join_ (σ := Value) 12 (bm 20 11431) (fun s_ => [(27, s_)]) (fun s_ w' => (w'.cell? ⟨gb363, 0, none⟩ = some (.int .i64 t357) ∧ w'.cell? ⟨gb363, 1, none⟩ = some (.slice Ao34 t358.length co34)) ∧ (Kd.R k104 104 w' w.heap.size (fun _ => True) (.slice Ao34 t358.length co34) t358) ∧ (Kd.R (Kd.int .i64) 3 w' w.heap.size (fun _ => True) s_ y385) ∧ (w'.heap[gb356]? = some (.cells #[.int .i64 0, .slice none 0 0] 35 (0, 0))) ∧ (w'.heap[gb363]? = some (.cells #[.int .i64 t357, .slice Ao34 t358.length co34] 35 (0, 0))) ∧ (IsS139 w0 w' g s0_0 t365 t366) ∧ (KeepBut w w' g none) ∧ (Below w0.heap.size w0 w')) ?_ ?_
   ·rintro v386 w39 ⟨hHeld, h0_, h1_, h2_, h3_, h4_, h5_, h6_⟩
    replace HO360 := Aside0.mk h0_
    have HO387 := Aside0.mk h1_
    replace BK356 := Aside0.mk h2_
    replace BK363 := Aside0.mk h3_
    replace HI0 := Aside0.mk h4_
    replace HK := Aside0.mk h5_
    replace HB := Aside0.mk h6_
    clear h0_ h1_ h2_ h3_ h4_ h5_ h6_
    refine norm_ tM ?_
    refine two_ (i := 3) (j := 8) (Ni := some 19) (Nj := some 24) (bm 20 11439) (bm 20 11687) rfl rfl rfl rfl (two_of HT_.out (by kernel_rfl)) (by decide) (by decide) (fun K hK => ?_) (fun K hK => ?_)
    ·refine goes_ Try.func96 (by kernel_rfl) rfl #[.pointer (some ⟨g, 0, none⟩), .int .i64 9] (by rfl) rfl rfl tL ?_
     with_reducible refine (spec_l1Below.calls g s0_0 t365 t366 9 t373 t374 t375 w0 _ ?side1 ?side2 A22.out).mono ?_
     (case side1 => repeat (first | (with_reducible first | exact HI0.out | apply IsS139.alloc | apply IsS139.drewN | apply IsS139.drew | apply IsS139.set_1 | apply IsS139.set_2 | refine IsS139.far ?_ NB0_356.out _ | refine IsS139.far ?_ NB0_363.out _) | exact HI0.out))
     (case side2 => repeat (first | (with_reducible first | exact HB.out | apply below_alloc | apply pw_below_drewN | apply below_drew1 | refine below_set ?_ (IsS139.ge HI0.out) | refine below_set ?_ GE356.out | refine below_set ?_ GE363.out) | exact HB.out))
     rintro e w40 ⟨rfl, hi, hb, hk⟩
     refine ⟨_, rfl, ?_⟩
     replace BK356 := Aside0.mk (KeepBut.blk hk (g' := gb356) (o := .cells #[.int .i64 0, .slice none 0 0] 35 (0, 0)) (tK BK356) NB356_0.out (by simp))
     replace HO360 := Aside0.mk (Kd.R_mono (Kd.R_keep (IsS139.apart (show IsS139 w0 _ g s0_0 t365 t366 from by repeat (first | (with_reducible first | exact HI0.out | apply IsS139.alloc | apply IsS139.drewN | apply IsS139.drew | apply IsS139.set_1 | apply IsS139.set_2 | refine IsS139.far ?_ NB0_356.out _ | refine IsS139.far ?_ NB0_363.out _) | exact HI0.out)) (tR HO360) (by decide)) hk (fun _ h => h.2)) (fun _ h => h.1))
     replace BK363 := Aside0.mk (KeepBut.blk hk (g' := gb363) (o := .cells #[.int .i64 t357, .slice Ao34 t358.length co34] 35 (0, 0)) (tK BK363) NB363_0.out (by simp))
     replace HO387 := Aside0.mk (Kd.R_mono (Kd.R_keep (IsS139.apart (show IsS139 w0 _ g s0_0 t365 t366 from by repeat (first | (with_reducible first | exact HI0.out | apply IsS139.alloc | apply IsS139.drewN | apply IsS139.drew | apply IsS139.set_1 | apply IsS139.set_2 | refine IsS139.far ?_ NB0_356.out _ | refine IsS139.far ?_ NB0_363.out _) | exact HI0.out)) (tR HO387) (by decide)) hk (fun _ h => h.2)) (fun _ h => h.1))
     replace HK := Aside0.mk (KeepBut.trans (by repeat (first | (with_reducible first | exact HK.out | apply KeepBut.set_ | apply keep_drewN | apply keep_drew | apply keep_alloc | refine keep_far ?_ GW356.out _ | refine keep_far ?_ GW363.out _) | exact HK.out)) hk (.inl rfl))
     replace HB := Aside0.mk (hb)
     replace HI0 := Aside0.mk (hi)
     (try clear hb)
     (try clear hb2)
     (try clear hk)
     (try clear hi)
     refine hK.out _ _ tH (fun hHeld => ?_)
     clear hK K
     refine norm_ (tV : Act.put _ (some 19) _ = _) ?_
     refine pI 4 20 (bm 20 11455) ?_
     exact norm_ tM (hJ3_11 (v386) _ ⟨hHeld, tR HO360, tR HO387, tK BK356, tK BK363, (by repeat (first | (with_reducible first | exact HI0.out | apply IsS139.alloc | apply IsS139.drewN | apply IsS139.drew | apply IsS139.set_1 | apply IsS139.set_2 | refine IsS139.far ?_ NB0_356.out _ | refine IsS139.far ?_ NB0_363.out _) | exact HI0.out)), (by repeat (first | (with_reducible first | exact HK.out | apply KeepBut.set_ | apply keep_drewN | apply keep_drew | apply keep_alloc | refine keep_far ?_ GW356.out _ | refine keep_far ?_ GW363.out _) | exact HK.out)), (by repeat (first | (with_reducible first | exact HB.out | apply below_alloc | apply pw_below_drewN | apply below_drew1 | refine below_set ?_ (IsS139.ge HI0.out) | refine below_set ?_ GE356.out | refine below_set ?_ GE363.out) | exact HB.out))⟩)
    refine Kd.R_lit_step (Kd.int .i64) _ 3 ?hg (N := 24) ?hd (xs := ([(-1), 5, 1000001] : List Int)) (inner := [.int .i64 (-1), .int .i64 5, .int .i64 1000001]) (ok := fun _ => True) (okp := fun _ => True) ?hr ?hp (fun _ hk => hk) trivial (Below.refl _ _) (Nat.le_refl _) (by simp) ?_; (case hd => rfl); (case hg => rfl); (case hr => exact tG); (case hp => exact (Reps.one (show Kd.M (Kd.int .i64) _ _ _ (-1) [.int .i64 (-1)] from rfl) (Reps.one (show Kd.M (Kd.int .i64) _ _ _ 5 [.int .i64 5] from rfl) (Reps.one (show Kd.M (Kd.int .i64) _ _ _ 1000001 [.int .i64 1000001] from rfl) (Reps.none _ _)))))
    intro v380 w40 ho41 hb hg_ hnew_
    clear hg_ hnew_
    (first | rw [← Ny379.out] at ho41 | (simp only [Int.reduceToNat] at ho41; rw [← Ny379.out] at ho41))
    replace HO360 := Aside0.mk (Kd.R_below (tR HO360) hb)
    have HO381 := Aside0.mk (Kd.R_lower (Kd.R_new' ho41 (Kd.R_lt (tR HO387))) (keep_size (w := w) (g := g) (row := none) (by repeat (first | (with_reducible first | exact HK.out | apply KeepBut.set_ | apply keep_drewN | apply keep_drew | apply keep_alloc | refine keep_far ?_ GW356.out _ | refine keep_far ?_ GW363.out _) | exact HK.out))))
    replace HO387 := Aside0.mk (Kd.R_elder' (tR HO387) (Kd.R_base ho41) hb)
    replace BK356 := bB BK356 hb
    replace BK363 := bB BK363 hb
    replace HK := Aside0.mk (KeepBut.trans (by repeat (first | (with_reducible first | exact HK.out | apply KeepBut.set_ | apply keep_drewN | apply keep_drew | apply keep_alloc | refine keep_far ?_ GW356.out _ | refine keep_far ?_ GW363.out _) | exact HK.out)) (KeepBut.of_below hb g none) (.inl rfl))
    replace HB := Aside0.mk (below_step (by repeat (first | (with_reducible first | exact HB.out | apply below_alloc | apply pw_below_drewN | apply below_drew1 | refine below_set ?_ (IsS139.ge HI0.out) | refine below_set ?_ GE356.out | refine below_set ?_ GE363.out) | exact HB.out)) hb)
    replace HI0 := Aside0.mk (IsS139.below (by repeat (first | (with_reducible first | exact HI0.out | apply IsS139.alloc | apply IsS139.drewN | apply IsS139.drew | apply IsS139.set_1 | apply IsS139.set_2 | refine IsS139.far ?_ NB0_356.out _ | refine IsS139.far ?_ NB0_363.out _) | exact HI0.out)) hb)
    clear hb ho41
    refine hK.out _ _ tH (fun hHeld => ?_)
    clear hK K
    refine norm_ (tV : Act.put _ (some 24) _ = _) ?_
    exact norm_ tM (hJ8_11 (v380, v386) _ ⟨hHeld, tR HO360, (by (with_reducible repeat (first | apply Kd.R_alloc | apply Kd.R_drewN | apply Kd.R_drew)); exact Kd.R_mono HO381.out (fun _ hk => hk.2)), (by (with_reducible repeat (first | apply Kd.R_alloc | apply Kd.R_drewN | apply Kd.R_drew)); exact Kd.R_mono HO387.out (fun _ hk => hk.2)), tK BK356, tK BK363, (by repeat (first | (with_reducible first | exact HI0.out | apply IsS139.alloc | apply IsS139.drewN | apply IsS139.drew | apply IsS139.set_1 | apply IsS139.set_2 | refine IsS139.far ?_ NB0_356.out _ | refine IsS139.far ?_ NB0_363.out _) | exact HI0.out)), (by repeat (first | (with_reducible first | exact HK.out | apply KeepBut.set_ | apply keep_drewN | apply keep_drew | apply keep_alloc | refine keep_far ?_ GW356.out _ | refine keep_far ?_ GW363.out _) | exact HK.out)), (by repeat (first | (with_reducible first | exact HB.out | apply below_alloc | apply pw_below_drewN | apply below_drew1 | refine below_set ?_ (IsS139.ge HI0.out) | refine below_set ?_ GE356.out | refine below_set ?_ GE363.out) | exact HB.out))⟩)
   intro hJ11
   refine three_ (i := 3) (j := 8) (k := 11) (Ni := some 19) (Nj := some 24) (Nk := some 27) (bm 20 9391) (bm 20 9639) (bm 20 11431) rfl rfl rfl rfl rfl rfl (three_of HT_.out (by kernel_rfl)) (by decide) (by decide) (by decide) (fun K hK => ?_) (fun K hK => ?_) (fun K hK => ?_)
   ·refine goes_ Try.func96 (by kernel_rfl) rfl #[.pointer (some ⟨g, 0, none⟩), .int .i64 9] (by rfl) rfl rfl tL ?_
    with_reducible refine (spec_l1Below.calls g s0_0 t365 t366 9 t373 t374 t375 w0 _ ?side1 ?side2 A22.out).mono ?_
    (case side1 => repeat (first | (with_reducible first | exact HI0.out | apply IsS139.alloc | apply IsS139.drewN | apply IsS139.drew | apply IsS139.set_1 | apply IsS139.set_2 | refine IsS139.far ?_ NB0_356.out _ | refine IsS139.far ?_ NB0_363.out _) | exact HI0.out))
    (case side2 => repeat (first | (with_reducible first | exact HB.out | apply below_alloc | apply pw_below_drewN | apply below_drew1 | refine below_set ?_ (IsS139.ge HI0.out) | refine below_set ?_ GE356.out | refine below_set ?_ GE363.out) | exact HB.out))
    rintro e w37 ⟨rfl, hi, hb, hk⟩
    refine ⟨_, rfl, ?_⟩
    replace BK356 := Aside0.mk (KeepBut.blk hk (g' := gb356) (o := .cells #[.int .i64 0, .slice none 0 0] 35 (0, 0)) (tK BK356) NB356_0.out (by simp))
    replace HO360 := Aside0.mk (Kd.R_mono (Kd.R_keep (IsS139.apart (show IsS139 w0 _ g s0_0 t365 t366 from by repeat (first | (with_reducible first | exact HI0.out | apply IsS139.alloc | apply IsS139.drewN | apply IsS139.drew | apply IsS139.set_1 | apply IsS139.set_2 | refine IsS139.far ?_ NB0_356.out _ | refine IsS139.far ?_ NB0_363.out _) | exact HI0.out)) (tR HO360) (by decide)) hk (fun _ h => h.2)) (fun _ h => h.1))
    replace BK363 := Aside0.mk (KeepBut.blk hk (g' := gb363) (o := .cells #[.int .i64 t357, .slice Ao34 t358.length co34] 35 (0, 0)) (tK BK363) NB363_0.out (by simp))
    replace HK := Aside0.mk (KeepBut.trans (by repeat (first | (with_reducible first | exact HK.out | apply KeepBut.set_ | apply keep_drewN | apply keep_drew | apply keep_alloc | refine keep_far ?_ GW356.out _ | refine keep_far ?_ GW363.out _) | exact HK.out)) hk (.inl rfl))
    replace HB := Aside0.mk (hb)
    replace HI0 := Aside0.mk (hi)
    (try clear hb)
    (try clear hb2)
    (try clear hk)
    (try clear hi)
    refine hK.out _ _ tH (fun hHeld => ?_)
    clear hK K
    refine norm_ (tV : Act.put _ (some 19) _ = _) ?_
    refine pI 4 20 (bm 20 9407) ?_
    exact norm_ tM (hJ3 () _ ⟨hHeld, tR HO360, tK BK356, tK BK363, (by repeat (first | (with_reducible first | exact HI0.out | apply IsS139.alloc | apply IsS139.drewN | apply IsS139.drew | apply IsS139.set_1 | apply IsS139.set_2 | refine IsS139.far ?_ NB0_356.out _ | refine IsS139.far ?_ NB0_363.out _) | exact HI0.out)), (by repeat (first | (with_reducible first | exact HK.out | apply KeepBut.set_ | apply keep_drewN | apply keep_drew | apply keep_alloc | refine keep_far ?_ GW356.out _ | refine keep_far ?_ GW363.out _) | exact HK.out)), (by repeat (first | (with_reducible first | exact HB.out | apply below_alloc | apply pw_below_drewN | apply below_drew1 | refine below_set ?_ (IsS139.ge HI0.out) | refine below_set ?_ GE356.out | refine below_set ?_ GE363.out) | exact HB.out))⟩)
   ·refine Kd.R_lit_step (Kd.int .i64) _ 3 ?hg (N := 24) ?hd (xs := ([(-1), 5, 1000001] : List Int)) (inner := [.int .i64 (-1), .int .i64 5, .int .i64 1000001]) (ok := fun _ => True) (okp := fun _ => True) ?hr ?hp (fun _ hk => hk) trivial (Below.refl _ _) (Nat.le_refl _) (by simp) ?_; (case hd => rfl); (case hg => rfl); (case hr => exact tG); (case hp => exact (Reps.one (show Kd.M (Kd.int .i64) _ _ _ (-1) [.int .i64 (-1)] from rfl) (Reps.one (show Kd.M (Kd.int .i64) _ _ _ 5 [.int .i64 5] from rfl) (Reps.one (show Kd.M (Kd.int .i64) _ _ _ 1000001 [.int .i64 1000001] from rfl) (Reps.none _ _)))))
    intro v380 w37 ho38 hb hg_ hnew_
    clear hg_ hnew_
    (first | rw [← Ny379.out] at ho38 | (simp only [Int.reduceToNat] at ho38; rw [← Ny379.out] at ho38))
    replace HO360 := Aside0.mk (Kd.R_below (tR HO360) hb)
    have HO381 := Aside0.mk (Kd.R_lower ho38 (keep_size (w := w) (g := g) (row := none) (by repeat (first | (with_reducible first | exact HK.out | apply KeepBut.set_ | apply keep_drewN | apply keep_drew | apply keep_alloc | refine keep_far ?_ GW356.out _ | refine keep_far ?_ GW363.out _) | exact HK.out))))
    replace BK356 := bB BK356 hb
    replace BK363 := bB BK363 hb
    replace HK := Aside0.mk (KeepBut.trans (by repeat (first | (with_reducible first | exact HK.out | apply KeepBut.set_ | apply keep_drewN | apply keep_drew | apply keep_alloc | refine keep_far ?_ GW356.out _ | refine keep_far ?_ GW363.out _) | exact HK.out)) (KeepBut.of_below hb g none) (.inl rfl))
    replace HB := Aside0.mk (below_step (by repeat (first | (with_reducible first | exact HB.out | apply below_alloc | apply pw_below_drewN | apply below_drew1 | refine below_set ?_ (IsS139.ge HI0.out) | refine below_set ?_ GE356.out | refine below_set ?_ GE363.out) | exact HB.out)) hb)
    replace HI0 := Aside0.mk (IsS139.below (by repeat (first | (with_reducible first | exact HI0.out | apply IsS139.alloc | apply IsS139.drewN | apply IsS139.drew | apply IsS139.set_1 | apply IsS139.set_2 | refine IsS139.far ?_ NB0_356.out _ | refine IsS139.far ?_ NB0_363.out _) | exact HI0.out)) hb)
    clear hb ho38
    refine hK.out _ _ tH (fun hHeld => ?_)
    clear hK K
    refine norm_ (tV : Act.put _ (some 24) _ = _) ?_
    exact norm_ tM (hJ8 (v380) _ ⟨hHeld, tR HO360, tR HO381, tK BK356, tK BK363, (by repeat (first | (with_reducible first | exact HI0.out | apply IsS139.alloc | apply IsS139.drewN | apply IsS139.drew | apply IsS139.set_1 | apply IsS139.set_2 | refine IsS139.far ?_ NB0_356.out _ | refine IsS139.far ?_ NB0_363.out _) | exact HI0.out)), (by repeat (first | (with_reducible first | exact HK.out | apply KeepBut.set_ | apply keep_drewN | apply keep_drew | apply keep_alloc | refine keep_far ?_ GW356.out _ | refine keep_far ?_ GW363.out _) | exact HK.out)), (by repeat (first | (with_reducible first | exact HB.out | apply below_alloc | apply pw_below_drewN | apply below_drew1 | refine below_set ?_ (IsS139.ge HI0.out) | refine below_set ?_ GE356.out | refine below_set ?_ GE363.out) | exact HB.out))⟩)
   refine Kd.R_lit_step (Kd.int .i64) _ 3 ?hg (N := 27) ?hd (xs := ([30, 31] : List Int)) (inner := [.int .i64 30, .int .i64 31]) (ok := fun _ => True) (okp := fun _ => True) ?hr ?hp (fun _ hk => hk) trivial (Below.refl _ _) (Nat.le_refl _) (by simp) ?_; (case hd => rfl); (case hg => rfl); (case hr => exact tG); (case hp => exact (Reps.one (show Kd.M (Kd.int .i64) _ _ _ 30 [.int .i64 30] from rfl) (Reps.one (show Kd.M (Kd.int .i64) _ _ _ 31 [.int .i64 31] from rfl) (Reps.none _ _))))
   intro v386 w37 ho38 hb hg_ hnew_
   clear hg_ hnew_
   (first | rw [← Ny385.out] at ho38 | (simp only [Int.reduceToNat] at ho38; rw [← Ny385.out] at ho38))
   replace HO360 := Aside0.mk (Kd.R_below (tR HO360) hb)
   have HO387 := Aside0.mk (Kd.R_lower ho38 (keep_size (w := w) (g := g) (row := none) (by repeat (first | (with_reducible first | exact HK.out | apply KeepBut.set_ | apply keep_drewN | apply keep_drew | apply keep_alloc | refine keep_far ?_ GW356.out _ | refine keep_far ?_ GW363.out _) | exact HK.out))))
   replace BK356 := bB BK356 hb
   replace BK363 := bB BK363 hb
   replace HK := Aside0.mk (KeepBut.trans (by repeat (first | (with_reducible first | exact HK.out | apply KeepBut.set_ | apply keep_drewN | apply keep_drew | apply keep_alloc | refine keep_far ?_ GW356.out _ | refine keep_far ?_ GW363.out _) | exact HK.out)) (KeepBut.of_below hb g none) (.inl rfl))
   replace HB := Aside0.mk (below_step (by repeat (first | (with_reducible first | exact HB.out | apply below_alloc | apply pw_below_drewN | apply below_drew1 | refine below_set ?_ (IsS139.ge HI0.out) | refine below_set ?_ GE356.out | refine below_set ?_ GE363.out) | exact HB.out)) hb)
   replace HI0 := Aside0.mk (IsS139.below (by repeat (first | (with_reducible first | exact HI0.out | apply IsS139.alloc | apply IsS139.drewN | apply IsS139.drew | apply IsS139.set_1 | apply IsS139.set_2 | refine IsS139.far ?_ NB0_356.out _ | refine IsS139.far ?_ NB0_363.out _) | exact HI0.out)) hb)
   clear hb ho38
   refine hK.out _ _ tH (fun hHeld => ?_)
   clear hK K
   refine norm_ (tV : Act.put _ (some 27) _ = _) ?_
   exact norm_ tM (hJ11 (v386) _ ⟨hHeld, tR HO360, tR HO387, tK BK356, tK BK363, (by repeat (first | (with_reducible first | exact HI0.out | apply IsS139.alloc | apply IsS139.drewN | apply IsS139.drew | apply IsS139.set_1 | apply IsS139.set_2 | refine IsS139.far ?_ NB0_356.out _ | refine IsS139.far ?_ NB0_363.out _) | exact HI0.out)), (by repeat (first | (with_reducible first | exact HK.out | apply KeepBut.set_ | apply keep_drewN | apply keep_drew | apply keep_alloc | refine keep_far ?_ GW356.out _ | refine keep_far ?_ GW363.out _) | exact HK.out)), (by repeat (first | (with_reducible first | exact HB.out | apply below_alloc | apply pw_below_drewN | apply below_drew1 | refine below_set ?_ (IsS139.ge HI0.out) | refine below_set ?_ GE356.out | refine below_set ?_ GE363.out) | exact HB.out))⟩)
  rw [if_neg c27] at H
  exact absurd H (by simp)
 rw [if_neg c21] at H
 have c21b0 : (t364 == 1) = false := beq_eq_false_iff_ne.mpr c21
 have c21b1 : (t364 != 1) = true := bne_iff_ne.mpr c21
 simp only [Option.some.injEq, Prod.mk.injEq] at H
 obtain ⟨rfl, rfl, rfl, rfl⟩ := H
 go_enter Try.func111, Try.ntmps111
 go_wp2_with (first | ((with_reducible refine gate_dst (N := 2) rfl ?_); refine box_event ?hg (N := 2) ?hd (cs := #[.int .i64 0, .slice none 0 0]) (t := 35) ?hr ?_; (case hd => rfl); (case hg => rfl); (case hr => exact tG); intro gb356 hg w55 hbox hb; replace HB := Aside0.mk (below_step (by repeat (first | (with_reducible first | exact HB.out | apply below_alloc | apply pw_below_drewN | apply below_drew1 | refine below_set ?_ (IsS139.ge HI0.out)) | exact HB.out)) hb); have BK356 := Aside0.mk (hbox); have GW356 := Aside0.mk ((by rw [hg]; exact (keep_size (w := w) (g := g) (row := none) (by repeat (first | (with_reducible first | exact HK.out | apply KeepBut.set_ | apply keep_drewN | apply keep_drew | apply keep_alloc) | exact HK.out))) : w.heap.size ≤ gb356)); have GE356 := Aside0.mk ((Nat.le_trans HW0.out (by rw [hg]; exact (keep_size (w := w) (g := g) (row := none) (by repeat (first | (with_reducible first | exact HK.out | apply KeepBut.set_ | apply keep_drewN | apply keep_drew | apply keep_alloc) | exact HK.out))) : w.heap.size ≤ gb356) : w0.heap.size ≤ gb356)); replace HK := Aside0.mk (KeepBut.trans (by repeat (first | (with_reducible first | exact HK.out | apply KeepBut.set_ | apply keep_drewN | apply keep_drew | apply keep_alloc) | exact HK.out)) (KeepBut.of_below hb g none) (.inl rfl)); have NB0_356 := Aside0.mk ((by rw [hg]; exact Nat.ne_of_lt (IsS139.lt (show IsS139 w0 _ g s0_0 s0_1 s0_2 from by repeat (first | (with_reducible first | exact HI0.out | apply IsS139.alloc | apply IsS139.drewN | apply IsS139.drew | apply IsS139.set_1 | apply IsS139.set_2) | exact HI0.out))) : g ≠ gb356)); have NB356_0 := Aside0.mk ((by rw [hg]; exact Nat.ne_of_gt (IsS139.lt (show IsS139 w0 _ g s0_0 s0_1 s0_2 from by repeat (first | (with_reducible first | exact HI0.out | apply IsS139.alloc | apply IsS139.drewN | apply IsS139.drew | apply IsS139.set_1 | apply IsS139.set_2) | exact HI0.out))) : gb356 ≠ g)); replace HI0 := Aside0.mk (IsS139.below (by repeat (first | (with_reducible first | exact HI0.out | apply IsS139.alloc | apply IsS139.drewN | apply IsS139.drew | apply IsS139.set_1 | apply IsS139.set_2) | exact HI0.out)) hb); clear hb hbox hg) | ((with_reducible refine gate_callee (f := 135) rfl ?_); refine goesL_ (some 5) rfl rfl Try.func135 (by kernel_rfl) rfl #[.pointer (some ⟨g, 0, none⟩)] rfl tL ?_; (with_reducible refine (spec_l28List.calls k g s0_0 s0_1 s0_2 t357 t358 t361 t362 w0 _ ?side1 ?side2 A2.out).mono ?_); (case side1 => repeat (first | (with_reducible first | exact HI0.out | apply IsS139.alloc | apply IsS139.drewN | apply IsS139.drew | apply IsS139.set_1 | apply IsS139.set_2 | refine IsS139.far ?_ NB0_356.out _) | exact HI0.out)); (case side2 => repeat (first | (with_reducible first | exact HB.out | apply below_alloc | apply pw_below_drewN | apply below_drew1 | refine below_set ?_ (IsS139.ge HI0.out) | refine below_set ?_ GE356.out) | exact HB.out)); rintro e w56 ⟨v359, rfl, ho0, hi, hb, hk⟩; refine ⟨_, rfl, ?_⟩; replace BK356 := Aside0.mk (KeepBut.blk hk (g' := gb356) (o := .cells #[.int .i64 0, .slice none 0 0] 35 (0, 0)) (tK BK356) NB356_0.out (by simp)); have HO360 := Aside0.mk (Kd.R_lower ho0 (keep_size (w := w) (g := g) (row := none) (by repeat (first | (with_reducible first | exact HK.out | apply KeepBut.set_ | apply keep_drewN | apply keep_drew | apply keep_alloc | refine keep_far ?_ GW356.out _) | exact HK.out)))); replace HK := Aside0.mk (KeepBut.trans (by repeat (first | (with_reducible first | exact HK.out | apply KeepBut.set_ | apply keep_drewN | apply keep_drew | apply keep_alloc | refine keep_far ?_ GW356.out _) | exact HK.out)) hk (.inl rfl)); replace HB := Aside0.mk (hb); replace HI0 := Aside0.mk (hi); (try clear hb); (try clear hb2); (try clear hk); (try clear hi); (try clear ho0)) | ((with_reducible refine gate_dst (N := 3) rfl ?_); refine box_event ?hg (N := 3) ?hd (cs := #[.int .i64 0, .slice none 0 0]) (t := 35) ?hr ?_; (case hd => rfl); (case hg => rfl); (case hr => exact tG); intro gb363 hg w57 hbox hb; replace HO360 := Aside0.mk (Kd.R_below (tR HO360) hb); replace HB := Aside0.mk (below_step (by repeat (first | (with_reducible first | exact HB.out | apply below_alloc | apply pw_below_drewN | apply below_drew1 | refine below_set ?_ (IsS139.ge HI0.out) | refine below_set ?_ GE356.out) | exact HB.out)) hb); have BK363 := Aside0.mk (hbox); have GW363 := Aside0.mk ((by rw [hg]; exact (keep_size (w := w) (g := g) (row := none) (by repeat (first | (with_reducible first | exact HK.out | apply KeepBut.set_ | apply keep_drewN | apply keep_drew | apply keep_alloc | refine keep_far ?_ GW356.out _) | exact HK.out))) : w.heap.size ≤ gb363)); have GE363 := Aside0.mk ((Nat.le_trans HW0.out (by rw [hg]; exact (keep_size (w := w) (g := g) (row := none) (by repeat (first | (with_reducible first | exact HK.out | apply KeepBut.set_ | apply keep_drewN | apply keep_drew | apply keep_alloc | refine keep_far ?_ GW356.out _) | exact HK.out))) : w.heap.size ≤ gb363) : w0.heap.size ≤ gb363)); replace HK := Aside0.mk (KeepBut.trans (by repeat (first | (with_reducible first | exact HK.out | apply KeepBut.set_ | apply keep_drewN | apply keep_drew | apply keep_alloc | refine keep_far ?_ GW356.out _) | exact HK.out)) (KeepBut.of_below hb g none) (.inl rfl)); have NB356_363 := nL BK356 hg; have NB363_356 := nR BK356 hg; replace BK356 := bB BK356 hb; have NB0_363 := Aside0.mk ((by rw [hg]; exact Nat.ne_of_lt (IsS139.lt (show IsS139 w0 _ g s0_0 t361 t362 from by repeat (first | (with_reducible first | exact HI0.out | apply IsS139.alloc | apply IsS139.drewN | apply IsS139.drew | apply IsS139.set_1 | apply IsS139.set_2 | refine IsS139.far ?_ NB0_356.out _) | exact HI0.out))) : g ≠ gb363)); have NB363_0 := Aside0.mk ((by rw [hg]; exact Nat.ne_of_gt (IsS139.lt (show IsS139 w0 _ g s0_0 t361 t362 from by repeat (first | (with_reducible first | exact HI0.out | apply IsS139.alloc | apply IsS139.drewN | apply IsS139.drew | apply IsS139.set_1 | apply IsS139.set_2 | refine IsS139.far ?_ NB0_356.out _) | exact HI0.out))) : gb363 ≠ g)); replace HI0 := Aside0.mk (IsS139.below (by repeat (first | (with_reducible first | exact HI0.out | apply IsS139.alloc | apply IsS139.drewN | apply IsS139.drew | apply IsS139.set_1 | apply IsS139.set_2 | refine IsS139.far ?_ NB0_356.out _) | exact HI0.out)) hb); clear hb hbox hg; have hnb58 := NB363_356.out; have hnc58 := NB356_363.out; have hnb59 := NB363_0.out; have hnc59 := NB0_363.out; obtain ⟨hcz60_0, hcz60_1, hfz60_0, hfz60_1⟩ := bc2 BK363.out; obtain ⟨Ao61, co61, eo61⟩ := Kd.R_slice HO360.out; subst eo61) | ((with_reducible refine gate_callee (f := 96) rfl ?_); refine goesL_ (some 7) rfl rfl Try.func96 (by kernel_rfl) rfl #[.pointer (some ⟨g, 0, none⟩), .int .i64 10] rfl tL ?_; (with_reducible refine (spec_l1Below.calls g s0_0 t361 t362 10 t364 t365 t366 w0 _ ?side1 ?side2 A3.out).mono ?_); (case side1 => repeat (first | (with_reducible first | exact HI0.out | apply IsS139.alloc | apply IsS139.drewN | apply IsS139.drew | apply IsS139.set_1 | apply IsS139.set_2 | refine IsS139.far ?_ NB0_356.out _ | refine IsS139.far ?_ NB0_363.out _) | exact HI0.out)); (case side2 => repeat (first | (with_reducible first | exact HB.out | apply below_alloc | apply pw_below_drewN | apply below_drew1 | refine below_set ?_ (IsS139.ge HI0.out) | refine below_set ?_ GE356.out | refine below_set ?_ GE363.out) | exact HB.out)); rintro e w62 ⟨rfl, hi, hb, hk⟩; refine ⟨_, rfl, ?_⟩; replace BK356 := Aside0.mk (KeepBut.blk hk (g' := gb356) (o := .cells #[.int .i64 0, .slice none 0 0] 35 (0, 0)) (kF NB356_363 BK356) NB356_0.out (by simp)); replace HO360 := Aside0.mk (Kd.R_mono (Kd.R_keep (IsS139.apart (show IsS139 w0 _ g s0_0 t361 t362 from by repeat (first | (with_reducible first | exact HI0.out | apply IsS139.alloc | apply IsS139.drewN | apply IsS139.drew | apply IsS139.set_1 | apply IsS139.set_2 | refine IsS139.far ?_ NB0_356.out _ | refine IsS139.far ?_ NB0_363.out _) | exact HI0.out)) (kR HO360 BK363) (by decide)) hk (fun _ h => h.2)) (fun _ h => h.1)); replace BK363 := Aside0.mk (KeepBut.blk hk (g' := gb363) (o := .cells #[.int .i64 t357, .slice Ao61 t358.length co61] 35 (0, 0)) (by (with_reducible repeat (first | refine blk_drewN ?_ _ | refine blk_drew ?_ | refine blk_alloc ?_ _)); refine blk_put (cs := #[.int .i64 t357, .slice none 0 0]) ?_ 1 _ rfl; (with_reducible repeat (first | refine blk_drewN ?_ _ | refine blk_drew ?_ | refine blk_alloc ?_ _)); refine blk_put (cs := #[.int .i64 0, .slice none 0 0]) ?_ 0 _ rfl; (with_reducible repeat (first | refine blk_drewN ?_ _ | refine blk_drew ?_ | refine blk_alloc ?_ _)); exact BK363.out) NB363_0.out (by simp)); replace HK := Aside0.mk (KeepBut.trans (by repeat (first | (with_reducible first | exact HK.out | apply KeepBut.set_ | apply keep_drewN | apply keep_drew | apply keep_alloc | refine keep_far ?_ GW356.out _ | refine keep_far ?_ GW363.out _) | exact HK.out)) hk (.inl rfl)); replace HB := Aside0.mk (hb); replace HI0 := Aside0.mk (hi); (try clear hb); (try clear hb2); (try clear hk); (try clear hi); obtain ⟨hcz63_0, hcz63_1, hfz63_0, hfz63_1⟩ := bc2 BK363.out; have hnb64 := NB356_0.out; have hnc64 := NB0_356.out; obtain ⟨hcz65_0, hcz65_1, hfz65_0, hfz65_1⟩ := bc2 BK356.out))
 refine bodyPost_ret (results_cell_row rfl _ _ gb356 35 #[.int .i64 t357, .slice Ao61 t358.length co61] (0, 0) _ rfl (by (with_reducible repeat (first | refine blk_drewN ?_ _ | refine blk_drew ?_ | refine blk_alloc ?_ _)); refine blk_put (cs := #[.int .i64 t357, .slice none 0 0]) ?_ 1 _ rfl; (with_reducible repeat (first | refine blk_drewN ?_ _ | refine blk_drew ?_ | refine blk_alloc ?_ _)); refine blk_put (cs := #[.int .i64 0, .slice none 0 0]) ?_ 0 _ rfl; (with_reducible repeat (first | refine blk_drewN ?_ _ | refine blk_drew ?_ | refine blk_alloc ?_ _)); exact BK356.out) Try.underlying35 rfl (by kernel_rfl)) rfl ?_
 exact ⟨_, tE, by (with_reducible repeat (first | apply Kd.R_alloc | apply Kd.R_drewN | apply Kd.R_drew)); exact Kd.R_mono (Kd.R_far (p := ⟨gb356, 1, none⟩) (Kd.R_far (p := ⟨gb356, 0, none⟩) (Kd.R_types HO360.out BK356.out (by decide)) (fun _ hk => hk.2) (.int .i64 t357)) (fun _ hk => hk.2) (.slice Ao61 t358.length co61)) (fun _ hk => trivial), by repeat (first | (with_reducible first | exact HI0.out | apply IsS139.alloc | apply IsS139.drewN | apply IsS139.drew | apply IsS139.set_1 | apply IsS139.set_2 | refine IsS139.far ?_ NB0_356.out _ | refine IsS139.far ?_ NB0_363.out _) | exact HI0.out), by repeat (first | (with_reducible first | exact HB.out | apply below_alloc | apply pw_below_drewN | apply below_drew1 | refine below_set ?_ (IsS139.ge HI0.out) | refine below_set ?_ GE356.out | refine below_set ?_ GE363.out) | exact HB.out), by repeat (first | (with_reducible first | exact HK.out | apply KeepBut.set_ | apply keep_drewN | apply keep_drew | apply keep_alloc | refine keep_far ?_ GW356.out _ | refine keep_far ?_ GW363.out _) | exact HK.out)⟩

end Go.Proofs.Ytjggdakbphjomaa.ZFnClaims
