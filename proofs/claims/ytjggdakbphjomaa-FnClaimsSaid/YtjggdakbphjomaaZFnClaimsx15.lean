/- The machine side: for each Go function a Lean function and the contract that the Go code answers as it does; printed by program (wip/tmpl/pprint.sh). -/
import Derived.Test.YtjggdakbphjomaaZFnClaimsx0
import Derived.Test.YtjggdakbphjomaaZFnClaimsx1
import Derived.Test.YtjggdakbphjomaaZFnClaimsx4
import Derived.Test.YtjggdakbphjomaaZFnClaimsx7
import Derived.Test.YtjggdakbphjomaaZFnClaimsx9
import Derived.Test.YtjggdakbphjomaaZFnClaimsx14
namespace Go.Proofs.Ytjggdakbphjomaa.ZFnClaims
open Go.RowKit Go.Proofs.YtjggdakbphjomaaW.PrintWords Go.Proofs.YtjggdakbphjomaaW.PrintLast Go.Proofs.YtjggdakbphjomaaW.PrintMore
attribute [local go_sem] max2_int min2_int max_two min_two max_three min_three max_four min_four   -- for this text's walks alone
set_option linter.unusedVariables false
set_option linter.unusedSimpArgs false

attribute [local go_sem high] eqA104
/-! ### spec_l1Once: function 95 -/
def spec_l1Once.f (s0_0 : List Int) (s0_1 : Int) (s0_2 : Int) (a1 : Int) : Option (Bool × Int × Int) := (spec_l1Below.f s0_0 s0_1 s0_2 a1).bind fun bt397 => (some ((bt397.1 == 0), bt397.2.1, bt397.2.2))
set_option maxHeartbeats 8000000 in
set_option maxRecDepth 100000 in
theorem spec_l1Once.calls (g : Nat) (s0_0 : List Int) (s0_1 : Int) (s0_2 : Int) (a1 : Int) (r1 : Bool) (r2 : Int) (r3 : Int) (w0 w : World) (hI : IsS139 w0 w g s0_0 s0_1 s0_2) (hB : Below w0.heap.size w0 w) (h : spec_l1Once.f s0_0 s0_1 s0_2 a1 = some (r1, r2, r3)) :
  Calls Try.prog 95 #[.pointer (some ⟨g, 0, none⟩), .int .i64 a1] w fun e w' => e = .returned (.bool r1) ∧ IsS139 w0 w' g s0_0 r2 r3 ∧ Below w0.heap.size w0 w' ∧ KeepBut w w' g none := by
 have HI0 := Aside0.mk hI
 have HK := Aside0.mk (KeepBut.refl w g none)
 have HL := Aside0.mk hB.size
 clear hI
 have HW0 := Aside0.mk hB.size
 have HB := Aside0.mk hB
 clear hB
 have H : ((spec_l1Below.f s0_0 s0_1 s0_2 a1).bind fun bt397 => (some ((bt397.1 == 0), bt397.2.1, bt397.2.2))) = some (r1, r2, r3) := h
 clear h
 replace H := Option.bind_eq_some_iff.mp H
 obtain ⟨⟨t397, t398, t399⟩, A30, H⟩ := H
 try dsimp only at H
 have A3 := Aside0.mk A30
 clear A30
 simp only [Option.some.injEq, Prod.mk.injEq] at H
 obtain ⟨rfl, rfl, rfl⟩ := H
 go_enter Try.func95, Try.ntmps95
 go_wp2_with (first | ((with_reducible refine gate_callee (f := 96) rfl ?_); refine goesL_ (some 7) rfl rfl Try.func96 (by kernel_rfl) rfl #[.pointer (some ⟨g, 0, none⟩), .int .i64 a1] rfl tL ?_; (with_reducible refine (spec_l1Below.calls g s0_0 s0_1 s0_2 a1 t397 t398 t399 w0 _ ?side1 ?side2 A3.out).mono ?_); (case side1 => repeat (first | (with_reducible first | exact HI0.out | apply IsS139.alloc | apply IsS139.drewN | apply IsS139.drew | apply IsS139.set_1 | apply IsS139.set_2) | exact HI0.out)); (case side2 => repeat (first | (with_reducible first | exact HB.out | apply below_alloc | apply pw_below_drewN | apply below_drew1 | refine below_set ?_ (IsS139.ge HI0.out)) | exact HB.out)); rintro e w4 ⟨rfl, hi, hb, hk⟩; refine ⟨_, rfl, ?_⟩; replace HK := Aside0.mk (KeepBut.trans (by repeat (first | (with_reducible first | exact HK.out | apply KeepBut.set_ | apply keep_drewN | apply keep_drew | apply keep_alloc) | exact HK.out)) hk (.inl rfl)); replace HB := Aside0.mk (hb); replace HI0 := Aside0.mk (hi); (try clear hb); (try clear hb2); (try clear hk); (try clear hi)))
 go_ret
 exact ⟨tE, by repeat (first | (with_reducible first | exact HI0.out | apply IsS139.alloc | apply IsS139.drewN | apply IsS139.drew | apply IsS139.set_1 | apply IsS139.set_2) | exact HI0.out), by repeat (first | (with_reducible first | exact HB.out | apply below_alloc | apply pw_below_drewN | apply below_drew1 | refine below_set ?_ (IsS139.ge HI0.out)) | exact HB.out), by repeat (first | (with_reducible first | exact HK.out | apply KeepBut.set_ | apply keep_drewN | apply keep_drew | apply keep_alloc) | exact HK.out)⟩

/-! ### spec_l6Key: function 113 -/
def spec_l6Key.f (s0_0 : List Int) (s0_1 : Int) (s0_2 : Int) : Option (Int × Int × Int) := (spec_l1Once.f s0_0 s0_1 s0_2 10).bind fun bt400 => (if bt400.1 = true then ((spec_l1Int.f s0_0 bt400.2.1 bt400.2.2 (([0, (-1), 1, 2147483646, 2147483647] : List Int))).bind fun bt406 => (some (bt406.1, bt406.2.1, bt406.2.2))) else ((spec_l1Below.f s0_0 bt400.2.1 bt400.2.2 99999).bind fun bt409 => (some (wrap64 (1 + bt409.1), bt409.2.1, bt409.2.2))))
set_option maxHeartbeats 8000000 in
set_option maxRecDepth 100000 in
theorem spec_l6Key.calls (g : Nat) (s0_0 : List Int) (s0_1 : Int) (s0_2 : Int) (r1 : Int) (r2 : Int) (r3 : Int) (w0 w : World) (hI : IsS139 w0 w g s0_0 s0_1 s0_2) (hB : Below w0.heap.size w0 w) (h : spec_l6Key.f s0_0 s0_1 s0_2 = some (r1, r2, r3)) :
  Calls Try.prog 113 #[.pointer (some ⟨g, 0, none⟩)] w fun e w' => e = .returned (.int .i64 r1) ∧ IsS139 w0 w' g s0_0 r2 r3 ∧ Below w0.heap.size w0 w' ∧ KeepBut w w' g none := by
 have HI0 := Aside0.mk hI
 have HK := Aside0.mk (KeepBut.refl w g none)
 have HL := Aside0.mk hB.size
 clear hI
 have HW0 := Aside0.mk hB.size
 have HB := Aside0.mk hB
 clear hB
 have H : ((spec_l1Once.f s0_0 s0_1 s0_2 10).bind fun bt400 => (if bt400.1 = true then ((spec_l1Int.f s0_0 bt400.2.1 bt400.2.2 (([0, (-1), 1, 2147483646, 2147483647] : List Int))).bind fun bt406 => (some (bt406.1, bt406.2.1, bt406.2.2))) else ((spec_l1Below.f s0_0 bt400.2.1 bt400.2.2 99999).bind fun bt409 => (some (wrap64 (1 + bt409.1), bt409.2.1, bt409.2.2))))) = some (r1, r2, r3) := h
 clear h
 replace H := Option.bind_eq_some_iff.mp H
 obtain ⟨⟨t400, t401, t402⟩, A20, H⟩ := H
 try dsimp only at H
 have A2 := Aside0.mk A20
 clear A20
 by_cases c3 : t400 = true
 ·subst c3
  have H1 : ((spec_l1Int.f s0_0 t401 t402 (([0, (-1), 1, 2147483646, 2147483647] : List Int))).bind fun bt406 => (some (bt406.1, bt406.2.1, bt406.2.2))) = some (r1, r2, r3) := by rw [if_pos rfl] at H; exact H
  clear H
  have H := H1
  clear H1
  obtain ⟨y403, hy403⟩ : ∃ y_ : List Int, y_ = (([0, (-1), 1, 2147483646, 2147483647] : List Int)) := ⟨_, rfl⟩
  replace H : ((spec_l1Int.f s0_0 t401 t402 y403).bind fun bt406 => (some (bt406.1, bt406.2.1, bt406.2.2))) = some (r1, r2, r3) := by first | (rw [hy403]; with_reducible exact H) | (have H2_ := (Option.bind_some _ _).symm.trans H; rw [hy403]; with_reducible exact H2_) | (have H2_ := (Option.bind_some _ _).symm.trans H; with_reducible exact H2_) | with_reducible exact H | (rw [hy403]; exact H) | exact H
  have Ny403 := Aside0.mk hy403
  clear hy403
  replace H := Option.bind_eq_some_iff.mp H
  obtain ⟨⟨t406, t407, t408⟩, A40, H⟩ := H
  try dsimp only at H
  have A4 := Aside0.mk A40
  clear A40
  simp only [Option.some.injEq, Prod.mk.injEq] at H
  obtain ⟨rfl, rfl, rfl⟩ := H
  go_enter Try.func113, Try.ntmps113
  go_wp2_with (first | ((with_reducible refine gate_callee (f := 95) rfl ?_); refine goesL_ (some 4) rfl rfl Try.func95 (by kernel_rfl) rfl #[.pointer (some ⟨g, 0, none⟩), .int .i64 10] rfl tL ?_; (with_reducible refine (spec_l1Once.calls g s0_0 s0_1 s0_2 10 true t401 t402 w0 _ ?side1 ?side2 A2.out).mono ?_); (case side1 => repeat (first | (with_reducible first | exact HI0.out | apply IsS139.alloc | apply IsS139.drewN | apply IsS139.drew | apply IsS139.set_1 | apply IsS139.set_2) | exact HI0.out)); (case side2 => repeat (first | (with_reducible first | exact HB.out | apply below_alloc | apply pw_below_drewN | apply below_drew1 | refine below_set ?_ (IsS139.ge HI0.out)) | exact HB.out)); rintro e w5 ⟨rfl, hi, hb, hk⟩; refine ⟨_, rfl, ?_⟩; replace HK := Aside0.mk (KeepBut.trans (by repeat (first | (with_reducible first | exact HK.out | apply KeepBut.set_ | apply keep_drewN | apply keep_drew | apply keep_alloc) | exact HK.out)) hk (.inl rfl)); replace HB := Aside0.mk (hb); replace HI0 := Aside0.mk (hi); (try clear hb); (try clear hb2); (try clear hk); (try clear hi)) | ((with_reducible refine gate_dst (N := 6) rfl ?_); refine Kd.R_lit (Kd.int .i64) _ 3 ?hg (N := 6) ?hd (xs := ([0, (-1), 1, 2147483646, 2147483647] : List Int)) (inner := [.int .i64 0, .int .i64 (-1), .int .i64 1, .int .i64 2147483646, .int .i64 2147483647]) (ok := fun _ => True) (okp := fun _ => True) ?hr ?hp (fun _ hk => hk) trivial (Below.refl _ _) (Nat.le_refl _) (by simp) ?_; (case hd => rfl); (case hg => rfl); (case hr => exact tG); (case hp => exact (Reps.one (show Kd.M (Kd.int .i64) _ _ _ 0 [.int .i64 0] from rfl) (Reps.one (show Kd.M (Kd.int .i64) _ _ _ (-1) [.int .i64 (-1)] from rfl) (Reps.one (show Kd.M (Kd.int .i64) _ _ _ 1 [.int .i64 1] from rfl) (Reps.one (show Kd.M (Kd.int .i64) _ _ _ 2147483646 [.int .i64 2147483646] from rfl) (Reps.one (show Kd.M (Kd.int .i64) _ _ _ 2147483647 [.int .i64 2147483647] from rfl) (Reps.none _ _))))))); intro v404 w6 ho7 hb hg_ hnew_; clear hg_ hnew_; (first | rw [← Ny403.out] at ho7 | (simp only [Int.reduceToNat] at ho7; rw [← Ny403.out] at ho7)); have HO405 := Aside0.mk (Kd.R_lower ho7 (keep_size (w := w) (g := g) (row := none) (by repeat (first | (with_reducible first | exact HK.out | apply KeepBut.set_ | apply keep_drewN | apply keep_drew | apply keep_alloc) | exact HK.out)))); replace HK := Aside0.mk (KeepBut.trans (by repeat (first | (with_reducible first | exact HK.out | apply KeepBut.set_ | apply keep_drewN | apply keep_drew | apply keep_alloc) | exact HK.out)) (KeepBut.of_below hb g none) (.inl rfl)); replace HB := Aside0.mk (below_step (by repeat (first | (with_reducible first | exact HB.out | apply below_alloc | apply pw_below_drewN | apply below_drew1 | refine below_set ?_ (IsS139.ge HI0.out)) | exact HB.out)) hb); replace HI0 := Aside0.mk (IsS139.below (by repeat (first | (with_reducible first | exact HI0.out | apply IsS139.alloc | apply IsS139.drewN | apply IsS139.drew | apply IsS139.set_1 | apply IsS139.set_2) | exact HI0.out)) hb); clear hb ho7; obtain ⟨Ao8, co8, eo8⟩ := Kd.R_slice HO405.out; subst eo8) | ((with_reducible refine gate_callee (f := 112) rfl ?_); refine goesL_ (some 7) rfl rfl Try.func112 (by kernel_rfl) rfl #[.pointer (some ⟨g, 0, none⟩), .slice Ao8 y403.length co8] rfl tL ?_; (with_reducible refine (spec_l1Int.calls g s0_0 t401 t402 _ _ y403 t406 t407 t408 w0 _ ?side1 ?side2 ?side3 ?side4 ?side5 A4.out).mono ?_); (case side1 => repeat (first | (with_reducible first | exact HI0.out | apply IsS139.alloc | apply IsS139.drewN | apply IsS139.drew | apply IsS139.set_1 | apply IsS139.set_2) | exact HI0.out)); (case side2 => repeat (first | (with_reducible first | exact HB.out | apply below_alloc | apply pw_below_drewN | apply below_drew1 | refine below_set ?_ (IsS139.ge HI0.out)) | exact HB.out)); (case side3 => exact tC (Kd.R_reads' HO405.out).2.2); (case side4 => exact (Kd.R_reads' HO405.out).2.1); (case side5 => exact far_slice (IsS139.own_ne HI0.out HO405.out (by decide))); rintro e w9 ⟨rfl, hi, hb, hk⟩; refine ⟨_, rfl, ?_⟩; replace HO405 := Aside0.mk (Kd.R_mono (Kd.R_keep (IsS139.apart (show IsS139 w0 _ g s0_0 t401 t402 from by repeat (first | (with_reducible first | exact HI0.out | apply IsS139.alloc | apply IsS139.drewN | apply IsS139.drew | apply IsS139.set_1 | apply IsS139.set_2) | exact HI0.out)) (tR HO405) (by decide)) hk (fun _ h => h.2)) (fun _ h => h.1)); replace HK := Aside0.mk (KeepBut.trans (by repeat (first | (with_reducible first | exact HK.out | apply KeepBut.set_ | apply keep_drewN | apply keep_drew | apply keep_alloc) | exact HK.out)) hk (.inl rfl)); replace HB := Aside0.mk (hb); replace HI0 := Aside0.mk (hi); (try clear hb); (try clear hb2); (try clear hk); (try clear hi)))
  go_ret
  exact ⟨tE, by repeat (first | (with_reducible first | exact HI0.out | apply IsS139.alloc | apply IsS139.drewN | apply IsS139.drew | apply IsS139.set_1 | apply IsS139.set_2) | exact HI0.out), by repeat (first | (with_reducible first | exact HB.out | apply below_alloc | apply pw_below_drewN | apply below_drew1 | refine below_set ?_ (IsS139.ge HI0.out)) | exact HB.out), by repeat (first | (with_reducible first | exact HK.out | apply KeepBut.set_ | apply keep_drewN | apply keep_drew | apply keep_alloc) | exact HK.out)⟩
 replace c3 := Bool.eq_false_iff.mpr c3
 subst c3
 have H1 : ((spec_l1Below.f s0_0 t401 t402 99999).bind fun bt409 => (some (wrap64 (1 + bt409.1), bt409.2.1, bt409.2.2))) = some (r1, r2, r3) := by rw [if_neg (show ¬ (false = true) by decide)] at H; exact H
 clear H
 have H := H1
 clear H1
 replace H := Option.bind_eq_some_iff.mp H
 obtain ⟨⟨t409, t410, t411⟩, A100, H⟩ := H
 try dsimp only at H
 have A10 := Aside0.mk A100
 clear A100
 simp only [Option.some.injEq, Prod.mk.injEq] at H
 obtain ⟨rfl, rfl, rfl⟩ := H
 go_enter Try.func113, Try.ntmps113
 go_wp2_with (first | ((with_reducible refine gate_callee (f := 95) rfl ?_); refine goesL_ (some 4) rfl rfl Try.func95 (by kernel_rfl) rfl #[.pointer (some ⟨g, 0, none⟩), .int .i64 10] rfl tL ?_; (with_reducible refine (spec_l1Once.calls g s0_0 s0_1 s0_2 10 false t401 t402 w0 _ ?side1 ?side2 A2.out).mono ?_); (case side1 => repeat (first | (with_reducible first | exact HI0.out | apply IsS139.alloc | apply IsS139.drewN | apply IsS139.drew | apply IsS139.set_1 | apply IsS139.set_2) | exact HI0.out)); (case side2 => repeat (first | (with_reducible first | exact HB.out | apply below_alloc | apply pw_below_drewN | apply below_drew1 | refine below_set ?_ (IsS139.ge HI0.out)) | exact HB.out)); rintro e w11 ⟨rfl, hi, hb, hk⟩; refine ⟨_, rfl, ?_⟩; replace HK := Aside0.mk (KeepBut.trans (by repeat (first | (with_reducible first | exact HK.out | apply KeepBut.set_ | apply keep_drewN | apply keep_drew | apply keep_alloc) | exact HK.out)) hk (.inl rfl)); replace HB := Aside0.mk (hb); replace HI0 := Aside0.mk (hi); (try clear hb); (try clear hb2); (try clear hk); (try clear hi)) | ((with_reducible refine gate_callee (f := 96) rfl ?_); refine goesL_ (some 9) rfl rfl Try.func96 (by kernel_rfl) rfl #[.pointer (some ⟨g, 0, none⟩), .int .i64 99999] rfl tL ?_; (with_reducible refine (spec_l1Below.calls g s0_0 t401 t402 99999 t409 t410 t411 w0 _ ?side1 ?side2 A10.out).mono ?_); (case side1 => repeat (first | (with_reducible first | exact HI0.out | apply IsS139.alloc | apply IsS139.drewN | apply IsS139.drew | apply IsS139.set_1 | apply IsS139.set_2) | exact HI0.out)); (case side2 => repeat (first | (with_reducible first | exact HB.out | apply below_alloc | apply pw_below_drewN | apply below_drew1 | refine below_set ?_ (IsS139.ge HI0.out)) | exact HB.out)); rintro e w12 ⟨rfl, hi, hb, hk⟩; refine ⟨_, rfl, ?_⟩; replace HK := Aside0.mk (KeepBut.trans (by repeat (first | (with_reducible first | exact HK.out | apply KeepBut.set_ | apply keep_drewN | apply keep_drew | apply keep_alloc) | exact HK.out)) hk (.inl rfl)); replace HB := Aside0.mk (hb); replace HI0 := Aside0.mk (hi); (try clear hb); (try clear hb2); (try clear hk); (try clear hi)))
 go_ret
 exact ⟨tE, by repeat (first | (with_reducible first | exact HI0.out | apply IsS139.alloc | apply IsS139.drewN | apply IsS139.drew | apply IsS139.set_1 | apply IsS139.set_2) | exact HI0.out), by repeat (first | (with_reducible first | exact HB.out | apply below_alloc | apply pw_below_drewN | apply below_drew1 | refine below_set ?_ (IsS139.ge HI0.out)) | exact HB.out), by repeat (first | (with_reducible first | exact HK.out | apply KeepBut.set_ | apply keep_drewN | apply keep_drew | apply keep_alloc) | exact HK.out)⟩

/-! ### spec_DrawFileClaim: function 51 -/
def spec_DrawFileClaim.f (k : Nat) (l0 : List Int) : Option (Int × (List (S104)) × Int × Int × Int × Int) := (spec_l1New.f k l0).bind fun bt413 => ((spec_l28Any.f k bt413.1 bt413.2.1 bt413.2.2).bind fun bt417 => ((spec_l1Int.f bt413.1 bt417.2.2.1 bt417.2.2.2 (([0, 1, 5, (-1), 1000000, 1000001] : List Int))).bind fun bt427 => ((spec_l6Key.f bt413.1 bt427.2.1 bt427.2.2).bind fun bt430 => ((spec_PublicKey.f bt430.1).bind fun t433 => ((spec_l1Int.f bt413.1 bt430.2.1 bt430.2.2 (([0, 9, 1000000, 1000001, (-1)] : List Int))).bind fun bt437 => ((spec_l1Int.f bt413.1 bt437.2.1 bt437.2.2 (([30, 90, 90, 0] : List Int))).bind fun bt443 => (some (bt417.1, bt417.2.1, bt427.1, t433, bt437.1, bt443.1))))))))
theorem spec_DrawFileClaim.mono : ∀ a0 k, LeO (spec_DrawFileClaim.f k a0) (spec_DrawFileClaim.f (k + 1) a0) := by
 intro a0 k
 unfold spec_DrawFileClaim.f
 repeat' first
   | (with_reducible exact spec_l1New.mono _ _)
   | (with_reducible exact spec_l28Any.mono _ _ _ _)
   | (with_reducible exact LeO.refl _)
   | (with_reducible exact LeO.none _)
   | (with_reducible refine LeO.ite ?_ ?_)
   | (with_reducible refine LeO.bind ?_ (fun _ => ?_))
   | exact spec_l1New.mono _ _
   | exact spec_l28Any.mono _ _ _ _
   | exact LeO.none _
   | refine LeO.ite ?_ ?_
   | refine LeO.bind ?_ (fun _ => ?_)
def spec_DrawFileClaim.T6 : Bool × List (List Nat × List Nat) := (true, [([], []), ([], []), ([], []), ([], []), ([], []), ([], []), ([4, 5], [4, 5]), ([0, 6, 0], [0]), ([1, 7, 0, 1, 7], [1]), ([2, 8, 0, 1, 2, 7, 8], [2]), ([3, 9, 0, 1, 2, 3, 7, 8, 9], [3]), ([6, 10, 0, 1, 2, 3, 4, 5, 6, 7, 8, 9, 10], [6])])
def spec_DrawFileClaim.B6 : List Nat := [0, 0, 0, 0, 0, 0, 48, 113, 243, 503, 1023, 2047]
theorem spec_DrawFileClaim.tab6 : rtab .any (opsOf Try.f51 6) = spec_DrawFileClaim.T6 := by kernel_rfl
theorem spec_DrawFileClaim.bits6 : waitsOk spec_DrawFileClaim.T6.2 spec_DrawFileClaim.B6 = true := by kernel_rfl
set_option maxHeartbeats 8000000 in
set_option maxRecDepth 100000 in
theorem spec_DrawFileClaim.calls (k : Nat) (A0 : Option Addr) (c0 : Nat) (l0 : List Int) (r1 : Int) (r2 : List (S104)) (r3 : Int) (r4 : Int) (r5 : Int) (r6 : Int) (w : World) (hr0 : Kd.C (Kd.int .u8) w A0 l0.length l0) (hc0 : l0.length ≤ c0) (h : spec_DrawFileClaim.f k l0 = some (r1, r2, r3, r4, r5, r6)) :
  Calls Try.prog 51 #[.slice A0 l0.length c0] w fun e w' => ∃ v1_ : Value, e = .returned (.tuple #[.agg #[.int .i64 r1, v1_], .int .i64 r3, .int .i64 r4, .int .i64 r5, .int .i64 r6]) ∧ Kd.R k104 104 w' w.heap.size (fun _ => True) v1_ r2 ∧ Below w.heap.size w w' := by
 have hu35 := Try.underlying35
 have HR0 := Aside0.mk hr0
 have HC0 := Aside0.mk hc0
 clear hr0 hc0
 have HB := Aside0.mk (Below.refl w.heap.size w)
 have H : ((spec_l1New.f k l0).bind fun bt413 => ((spec_l28Any.f k bt413.1 bt413.2.1 bt413.2.2).bind fun bt417 => ((spec_l1Int.f bt413.1 bt417.2.2.1 bt417.2.2.2 (([0, 1, 5, (-1), 1000000, 1000001] : List Int))).bind fun bt427 => ((spec_l6Key.f bt413.1 bt427.2.1 bt427.2.2).bind fun bt430 => ((spec_PublicKey.f bt430.1).bind fun t433 => ((spec_l1Int.f bt413.1 bt430.2.1 bt430.2.2 (([0, 9, 1000000, 1000001, (-1)] : List Int))).bind fun bt437 => ((spec_l1Int.f bt413.1 bt437.2.1 bt437.2.2 (([30, 90, 90, 0] : List Int))).bind fun bt443 => (some (bt417.1, bt417.2.1, bt427.1, t433, bt437.1, bt443.1))))))))) = some (r1, r2, r3, r4, r5, r6) := h
 clear h
 replace H := Option.bind_eq_some_iff.mp H
 obtain ⟨⟨t413, t414, t415⟩, A20, H⟩ := H
 try dsimp only at H
 have A2 := Aside0.mk A20
 clear A20
 replace H := Option.bind_eq_some_iff.mp H
 obtain ⟨⟨t417, t418, t421, t422⟩, A30, H⟩ := H
 try dsimp only at H
 have A3 := Aside0.mk A30
 clear A30
 obtain ⟨y424, hy424⟩ : ∃ y_ : List Int, y_ = (([0, 1, 5, (-1), 1000000, 1000001] : List Int)) := ⟨_, rfl⟩
 replace H : ((spec_l1Int.f t413 t421 t422 y424).bind fun bt427 => ((spec_l6Key.f t413 bt427.2.1 bt427.2.2).bind fun bt430 => ((spec_PublicKey.f bt430.1).bind fun t433 => ((spec_l1Int.f t413 bt430.2.1 bt430.2.2 (([0, 9, 1000000, 1000001, (-1)] : List Int))).bind fun bt437 => ((spec_l1Int.f t413 bt437.2.1 bt437.2.2 (([30, 90, 90, 0] : List Int))).bind fun bt443 => (some (t417, t418, bt427.1, t433, bt437.1, bt443.1))))))) = some (r1, r2, r3, r4, r5, r6) := by first | (rw [hy424]; with_reducible exact H) | (have H2_ := (Option.bind_some _ _).symm.trans H; rw [hy424]; with_reducible exact H2_) | (have H2_ := (Option.bind_some _ _).symm.trans H; with_reducible exact H2_) | with_reducible exact H | (rw [hy424]; exact H) | exact H
 have Ny424 := Aside0.mk hy424
 clear hy424
 replace H := Option.bind_eq_some_iff.mp H
 obtain ⟨⟨t427, t428, t429⟩, A40, H⟩ := H
 try dsimp only at H
 have A4 := Aside0.mk A40
 clear A40
 replace H := Option.bind_eq_some_iff.mp H
 obtain ⟨⟨t430, t431, t432⟩, A50, H⟩ := H
 try dsimp only at H
 have A5 := Aside0.mk A50
 clear A50
 replace H := Option.bind_eq_some_iff.mp H
 obtain ⟨t433, A60, H⟩ := H
 try dsimp only at H
 have A6 := Aside0.mk A60
 clear A60
 obtain ⟨y434, hy434⟩ : ∃ y_ : List Int, y_ = (([0, 9, 1000000, 1000001, (-1)] : List Int)) := ⟨_, rfl⟩
 replace H : ((spec_l1Int.f t413 t431 t432 y434).bind fun bt437 => ((spec_l1Int.f t413 bt437.2.1 bt437.2.2 (([30, 90, 90, 0] : List Int))).bind fun bt443 => (some (t417, t418, t427, t433, bt437.1, bt443.1)))) = some (r1, r2, r3, r4, r5, r6) := by first | (rw [hy434]; with_reducible exact H) | (have H2_ := (Option.bind_some _ _).symm.trans H; rw [hy434]; with_reducible exact H2_) | (have H2_ := (Option.bind_some _ _).symm.trans H; with_reducible exact H2_) | with_reducible exact H | (rw [hy434]; exact H) | exact H
 have Ny434 := Aside0.mk hy434
 clear hy434
 replace H := Option.bind_eq_some_iff.mp H
 obtain ⟨⟨t437, t438, t439⟩, A70, H⟩ := H
 try dsimp only at H
 have A7 := Aside0.mk A70
 clear A70
 obtain ⟨y440, hy440⟩ : ∃ y_ : List Int, y_ = (([30, 90, 90, 0] : List Int)) := ⟨_, rfl⟩
 replace H : ((spec_l1Int.f t413 t438 t439 y440).bind fun bt443 => (some (t417, t418, t427, t433, t437, bt443.1))) = some (r1, r2, r3, r4, r5, r6) := by first | (rw [hy440]; with_reducible exact H) | (have H2_ := (Option.bind_some _ _).symm.trans H; rw [hy440]; with_reducible exact H2_) | (have H2_ := (Option.bind_some _ _).symm.trans H; with_reducible exact H2_) | with_reducible exact H | (rw [hy440]; exact H) | exact H
 have Ny440 := Aside0.mk hy440
 clear hy440
 replace H := Option.bind_eq_some_iff.mp H
 obtain ⟨⟨t443, t444, t445⟩, A80, H⟩ := H
 try dsimp only at H
 have A8 := Aside0.mk A80
 clear A80
 simp only [Option.some.injEq, Prod.mk.injEq] at H
 obtain ⟨rfl, rfl, rfl, rfl, rfl, rfl⟩ := H
 go_enter Try.func51, Try.ntmps51
 try go_wp2_with (first | ((with_reducible refine gate_dst (N := 2) rfl ?_); refine box_event ?hg (N := 2) ?hd (cs := #[.int .i64 0, .slice none 0 0]) (t := 35) ?hr ?_; (case hd => rfl); (case hg => rfl); (case hr => exact tG); intro gb412 hg w9 hbox hb; have BK412 := Aside0.mk (hbox); have GW412 := gW HB hg; have GE412 := gW HB hg; replace HB := bH HB hb; clear hb hbox hg) | ((with_reducible refine gate_callee (f := 92) rfl ?_); refine goesL_ (some 13) rfl rfl Try.func92 (by kernel_rfl) rfl #[.slice A0 l0.length c0] rfl tL ?_; (with_reducible refine (spec_l1New.calls k _ _ l0 t413 t414 t415 w _ ?side1 ?side2 ?side3 A2.out).mono ?_); (case side1 => exact tB); (case side2 => exact HR0.out); (case side3 => exact HC0.out); rintro e w10 ⟨g416, rfl, hi, hb, hb2⟩; refine ⟨_, rfl, ?_⟩; replace HB := Aside0.mk (hb); have HI416 := Aside0.mk (hi); have NB416_412 := Aside0.mk (IsS139.ne_blk hi (blk_below (g := gb412) (o := .cells #[.int .i64 0, .slice none 0 0] 35 (0, 0)) (tK BK412) hb2) (by decide)); have NB412_416 := Aside0.mk (Ne.symm (IsS139.ne_blk hi (blk_below (g := gb412) (o := .cells #[.int .i64 0, .slice none 0 0] 35 (0, 0)) (tK BK412) hb2) (by decide))); replace BK412 := Aside0.mk (blk_below (g := gb412) (o := .cells #[.int .i64 0, .slice none 0 0] 35 (0, 0)) (tK BK412) hb2); (try clear hb); (try clear hb2); (try clear hk); (try clear hi)) | ((with_reducible refine gate_callee (f := 111) rfl ?_); refine goesL_ (some 15) rfl rfl Try.func111 (by kernel_rfl) rfl #[.pointer (some ⟨g416, 0, none⟩)] rfl tL ?_; (with_reducible refine (spec_l28Any.calls k g416 t413 t414 t415 t417 t418 t421 t422 w _ ?side1 ?side2 A3.out).mono ?_); (case side1 => repeat (first | (with_reducible first | exact HI416.out | apply IsS139.alloc | apply IsS139.drewN | apply IsS139.drew | apply IsS139.set_1 | apply IsS139.set_2 | refine IsS139.far ?_ NB416_412.out _) | exact HI416.out)); (case side2 => repeat (first | (with_reducible first | exact HB.out | apply below_alloc | apply pw_below_drewN | apply below_drew1 | refine below_set ?_ (IsS139.ge HI416.out) | refine below_set ?_ GE412.out) | exact HB.out)); rintro e w11 ⟨v419, rfl, ho0, hi, hb, hk⟩; refine ⟨_, rfl, ?_⟩; replace BK412 := Aside0.mk (KeepBut.blk hk (g' := gb412) (o := .cells #[.int .i64 0, .slice none 0 0] 35 (0, 0)) (tK BK412) NB412_416.out (by simp)); have HO420 := Aside0.mk (Kd.R_lower ho0 (below_size (by repeat (first | (with_reducible first | exact HB.out | apply below_alloc | apply pw_below_drewN | apply below_drew1 | refine below_set ?_ (IsS139.ge HI416.out) | refine below_set ?_ GE412.out) | exact HB.out)))); replace HB := Aside0.mk (hb); replace HI416 := Aside0.mk (hi); (try clear hb); (try clear hb2); (try clear hk); (try clear hi); (try clear ho0)) | ((with_reducible refine gate_dst (N := 8) rfl ?_); refine box_event ?hg (N := 8) ?hd (cs := #[.int .i64 0, .slice none 0 0]) (t := 35) ?hr ?_; (case hd => rfl); (case hg => rfl); (case hr => exact tG); intro gb423 hg w12 hbox hb; replace HO420 := Aside0.mk (Kd.R_below (tR HO420) hb); have BK423 := Aside0.mk (hbox); have GW423 := Aside0.mk ((by rw [hg]; exact (below_size (by repeat (first | (with_reducible first | exact HB.out | apply below_alloc | apply pw_below_drewN | apply below_drew1 | refine below_set ?_ (IsS139.ge HI416.out) | refine below_set ?_ GE412.out) | exact HB.out))) : w.heap.size ≤ gb423)); have GE423 := Aside0.mk ((by rw [hg]; exact (below_size (by repeat (first | (with_reducible first | exact HB.out | apply below_alloc | apply pw_below_drewN | apply below_drew1 | refine below_set ?_ (IsS139.ge HI416.out) | refine below_set ?_ GE412.out) | exact HB.out))) : w.heap.size ≤ gb423)); replace HB := Aside0.mk (below_step (by repeat (first | (with_reducible first | exact HB.out | apply below_alloc | apply pw_below_drewN | apply below_drew1 | refine below_set ?_ (IsS139.ge HI416.out) | refine below_set ?_ GE412.out) | exact HB.out)) hb); have NB412_423 := nL BK412 hg; have NB423_412 := nR BK412 hg; replace BK412 := bB BK412 hb; have NB416_423 := Aside0.mk ((by rw [hg]; exact Nat.ne_of_lt (IsS139.lt (show IsS139 w _ g416 t413 t421 t422 from by repeat (first | (with_reducible first | exact HI416.out | apply IsS139.alloc | apply IsS139.drewN | apply IsS139.drew | apply IsS139.set_1 | apply IsS139.set_2 | refine IsS139.far ?_ NB416_412.out _) | exact HI416.out))) : g416 ≠ gb423)); have NB423_416 := Aside0.mk ((by rw [hg]; exact Nat.ne_of_gt (IsS139.lt (show IsS139 w _ g416 t413 t421 t422 from by repeat (first | (with_reducible first | exact HI416.out | apply IsS139.alloc | apply IsS139.drewN | apply IsS139.drew | apply IsS139.set_1 | apply IsS139.set_2 | refine IsS139.far ?_ NB416_412.out _) | exact HI416.out))) : gb423 ≠ g416)); replace HI416 := Aside0.mk (IsS139.below (by repeat (first | (with_reducible first | exact HI416.out | apply IsS139.alloc | apply IsS139.drewN | apply IsS139.drew | apply IsS139.set_1 | apply IsS139.set_2 | refine IsS139.far ?_ NB416_412.out _) | exact HI416.out)) hb); clear hb hbox hg; have hnb13 := NB423_412.out; have hnc13 := NB412_423.out; have hnb14 := NB423_416.out; have hnc14 := NB416_423.out; obtain ⟨hcz15_0, hcz15_1, hfz15_0, hfz15_1⟩ := bc2 BK423.out; obtain ⟨Ao16, co16, eo16⟩ := Kd.R_slice HO420.out; subst eo16) | ((with_reducible refine gate_dst (N := 17) rfl ?_); refine Kd.R_lit (Kd.int .i64) _ 3 ?hg (N := 17) ?hd (xs := ([0, 1, 5, (-1), 1000000, 1000001] : List Int)) (inner := [.int .i64 0, .int .i64 1, .int .i64 5, .int .i64 (-1), .int .i64 1000000, .int .i64 1000001]) (ok := fun _ => True) (okp := fun _ => True) ?hr ?hp (fun _ hk => hk) trivial (Below.refl _ _) (Nat.le_refl _) (by simp) ?_; (case hd => rfl); (case hg => rfl); (case hr => exact tG); (case hp => exact (Reps.one (show Kd.M (Kd.int .i64) _ _ _ 0 [.int .i64 0] from rfl) (Reps.one (show Kd.M (Kd.int .i64) _ _ _ 1 [.int .i64 1] from rfl) (Reps.one (show Kd.M (Kd.int .i64) _ _ _ 5 [.int .i64 5] from rfl) (Reps.one (show Kd.M (Kd.int .i64) _ _ _ (-1) [.int .i64 (-1)] from rfl) (Reps.one (show Kd.M (Kd.int .i64) _ _ _ 1000000 [.int .i64 1000000] from rfl) (Reps.one (show Kd.M (Kd.int .i64) _ _ _ 1000001 [.int .i64 1000001] from rfl) (Reps.none _ _)))))))); intro v425 w17 ho18 hb hg_ hnew_; clear hg_ hnew_; (first | rw [← Ny424.out] at ho18 | (simp only [Int.reduceToNat] at ho18; rw [← Ny424.out] at ho18)); replace HO420 := Aside0.mk (Kd.R_below (kR HO420 BK423) hb); have HO426 := Aside0.mk (Kd.R_lower ho18 (below_size (by repeat (first | (with_reducible first | exact HB.out | apply below_alloc | apply pw_below_drewN | apply below_drew1 | refine below_set ?_ (IsS139.ge HI416.out) | refine below_set ?_ GE412.out | refine below_set ?_ GE423.out) | exact HB.out)))); replace BK412 := bF NB412_423 BK412 hb; replace BK423 := Aside0.mk (blk_below (g := gb423) (o := .cells #[.int .i64 t417, .slice Ao16 t418.length co16] 35 (0, 0)) (by (with_reducible repeat (first | refine blk_drewN ?_ _ | refine blk_drew ?_ | refine blk_alloc ?_ _)); refine blk_put (cs := #[.int .i64 t417, .slice none 0 0]) ?_ 1 _ rfl; (with_reducible repeat (first | refine blk_drewN ?_ _ | refine blk_drew ?_ | refine blk_alloc ?_ _)); refine blk_put (cs := #[.int .i64 0, .slice none 0 0]) ?_ 0 _ rfl; (with_reducible repeat (first | refine blk_drewN ?_ _ | refine blk_drew ?_ | refine blk_alloc ?_ _)); exact BK423.out) hb); replace HB := Aside0.mk (below_step (by repeat (first | (with_reducible first | exact HB.out | apply below_alloc | apply pw_below_drewN | apply below_drew1 | refine below_set ?_ (IsS139.ge HI416.out) | refine below_set ?_ GE412.out | refine below_set ?_ GE423.out) | exact HB.out)) hb); replace HI416 := Aside0.mk (IsS139.below (show IsS139 w ((w12.setCell ⟨gb423, 0, none⟩ (.int .i64 t417)).setCell ⟨gb423, 1, none⟩ (.slice Ao16 t418.length co16)) g416 t413 t421 t422 from by repeat (first | (with_reducible first | exact HI416.out | apply IsS139.alloc | apply IsS139.drewN | apply IsS139.drew | apply IsS139.set_1 | apply IsS139.set_2 | refine IsS139.far ?_ NB416_412.out _ | refine IsS139.far ?_ NB416_423.out _) | exact HI416.out)) hb); clear hb ho18; obtain ⟨Ao19, co19, eo19⟩ := Kd.R_slice HO426.out; subst eo19) | ((with_reducible refine gate_callee (f := 112) rfl ?_); refine goesL_ (some 18) rfl rfl Try.func112 (by kernel_rfl) rfl #[.pointer (some ⟨g416, 0, none⟩), .slice Ao19 y424.length co19] rfl tL ?_; (with_reducible refine (spec_l1Int.calls g416 t413 t421 t422 _ _ y424 t427 t428 t429 w _ ?side1 ?side2 ?side3 ?side4 ?side5 A4.out).mono ?_); (case side1 => repeat (first | (with_reducible first | exact HI416.out | apply IsS139.alloc | apply IsS139.drewN | apply IsS139.drew | apply IsS139.set_1 | apply IsS139.set_2 | refine IsS139.far ?_ NB416_412.out _ | refine IsS139.far ?_ NB416_423.out _) | exact HI416.out)); (case side2 => repeat (first | (with_reducible first | exact HB.out | apply below_alloc | apply pw_below_drewN | apply below_drew1 | refine below_set ?_ (IsS139.ge HI416.out) | refine below_set ?_ GE412.out | refine below_set ?_ GE423.out) | exact HB.out)); (case side3 => exact tC (Kd.R_reads' HO426.out).2.2); (case side4 => exact (Kd.R_reads' HO426.out).2.1); (case side5 => exact far_slice (IsS139.own_ne HI416.out HO426.out (by decide))); rintro e w20 ⟨rfl, hi, hb, hk⟩; refine ⟨_, rfl, ?_⟩; replace BK412 := Aside0.mk (KeepBut.blk hk (g' := gb412) (o := .cells #[.int .i64 0, .slice none 0 0] 35 (0, 0)) (tK BK412) NB412_416.out (by simp)); replace HO420 := Aside0.mk (Kd.R_mono (Kd.R_keep (IsS139.apart (show IsS139 w _ g416 t413 t421 t422 from by repeat (first | (with_reducible first | exact HI416.out | apply IsS139.alloc | apply IsS139.drewN | apply IsS139.drew | apply IsS139.set_1 | apply IsS139.set_2 | refine IsS139.far ?_ NB416_412.out _ | refine IsS139.far ?_ NB416_423.out _) | exact HI416.out)) (tR HO420) (by decide)) hk (fun _ h => h.2)) (fun _ h => h.1)); replace BK423 := Aside0.mk (KeepBut.blk hk (g' := gb423) (o := .cells #[.int .i64 t417, .slice Ao16 t418.length co16] 35 (0, 0)) (tK BK423) NB423_416.out (by simp)); replace HO426 := Aside0.mk (Kd.R_mono (Kd.R_keep (IsS139.apart (show IsS139 w _ g416 t413 t421 t422 from by repeat (first | (with_reducible first | exact HI416.out | apply IsS139.alloc | apply IsS139.drewN | apply IsS139.drew | apply IsS139.set_1 | apply IsS139.set_2 | refine IsS139.far ?_ NB416_412.out _ | refine IsS139.far ?_ NB416_423.out _) | exact HI416.out)) (tR HO426) (by decide)) hk (fun _ h => h.2)) (fun _ h => h.1)); replace HB := Aside0.mk (hb); replace HI416 := Aside0.mk (hi); (try clear hb); (try clear hb2); (try clear hk); (try clear hi)) | ((with_reducible refine gate_callee (f := 113) rfl ?_); refine goesL_ (some 20) rfl rfl Try.func113 (by kernel_rfl) rfl #[.pointer (some ⟨g416, 0, none⟩)] rfl tL ?_; (with_reducible refine (spec_l6Key.calls g416 t413 t428 t429 t430 t431 t432 w _ ?side1 ?side2 A5.out).mono ?_); (case side1 => repeat (first | (with_reducible first | exact HI416.out | apply IsS139.alloc | apply IsS139.drewN | apply IsS139.drew | apply IsS139.set_1 | apply IsS139.set_2 | refine IsS139.far ?_ NB416_412.out _ | refine IsS139.far ?_ NB416_423.out _) | exact HI416.out)); (case side2 => repeat (first | (with_reducible first | exact HB.out | apply below_alloc | apply pw_below_drewN | apply below_drew1 | refine below_set ?_ (IsS139.ge HI416.out) | refine below_set ?_ GE412.out | refine below_set ?_ GE423.out) | exact HB.out)); rintro e w21 ⟨rfl, hi, hb, hk⟩; refine ⟨_, rfl, ?_⟩; replace BK412 := Aside0.mk (KeepBut.blk hk (g' := gb412) (o := .cells #[.int .i64 0, .slice none 0 0] 35 (0, 0)) (tK BK412) NB412_416.out (by simp)); replace HO420 := Aside0.mk (Kd.R_mono (Kd.R_keep (IsS139.apart (show IsS139 w _ g416 t413 t428 t429 from by repeat (first | (with_reducible first | exact HI416.out | apply IsS139.alloc | apply IsS139.drewN | apply IsS139.drew | apply IsS139.set_1 | apply IsS139.set_2 | refine IsS139.far ?_ NB416_412.out _ | refine IsS139.far ?_ NB416_423.out _) | exact HI416.out)) (tR HO420) (by decide)) hk (fun _ h => h.2)) (fun _ h => h.1)); replace BK423 := Aside0.mk (KeepBut.blk hk (g' := gb423) (o := .cells #[.int .i64 t417, .slice Ao16 t418.length co16] 35 (0, 0)) (tK BK423) NB423_416.out (by simp)); replace HO426 := Aside0.mk (Kd.R_mono (Kd.R_keep (IsS139.apart (show IsS139 w _ g416 t413 t428 t429 from by repeat (first | (with_reducible first | exact HI416.out | apply IsS139.alloc | apply IsS139.drewN | apply IsS139.drew | apply IsS139.set_1 | apply IsS139.set_2 | refine IsS139.far ?_ NB416_412.out _ | refine IsS139.far ?_ NB416_423.out _) | exact HI416.out)) (tR HO426) (by decide)) hk (fun _ h => h.2)) (fun _ h => h.1)); replace HB := Aside0.mk (hb); replace HI416 := Aside0.mk (hi); (try clear hb); (try clear hb2); (try clear hk); (try clear hi)) | ((with_reducible refine gate_callee (f := 94) rfl ?_); refine goesL_ (some 21) rfl rfl Try.func94 (by kernel_rfl) rfl #[.int .i64 t430] rfl tL ?_; (with_reducible refine (spec_PublicKey.calls t430 t433 _ A6.out).mono ?_); rintro e w' ⟨rfl, ⟨nd, rfl⟩⟩; refine ⟨_, rfl, ?_⟩; (try (rw [drewN_self w21]; generalize hq_ : World.drewN w21 _ = w21; have n0_ : Aside0 (Kd.R k104 104 w21 w.heap.size (fun _ => True) (.slice Ao16 t418.length co16) t418) := ⟨by rw [← hq_]; exact tR HO420⟩; have n1_ : Aside0 (Kd.R (Kd.int .i64) 3 w21 w.heap.size (fun _ => True) (.slice Ao19 y424.length co19) y424) := ⟨by rw [← hq_]; exact tR HO426⟩; have n2_ : Aside0 (w21.heap[gb412]? = some (.cells #[.int .i64 0, .slice none 0 0] 35 (0, 0))) := ⟨by rw [← hq_]; exact tK BK412⟩; have n3_ : Aside0 (w21.heap[gb423]? = some (.cells #[.int .i64 t417, .slice Ao16 t418.length co16] 35 (0, 0))) := ⟨by rw [← hq_]; exact tK BK423⟩; have n4_ : Aside0 (IsS139 w w21 g416 t413 t431 t432) := ⟨by rw [← hq_]; exact (by repeat (first | (with_reducible first | exact HI416.out | apply IsS139.alloc | apply IsS139.drewN | apply IsS139.drew | apply IsS139.set_1 | apply IsS139.set_2 | refine IsS139.far ?_ NB416_412.out _ | refine IsS139.far ?_ NB416_423.out _) | exact HI416.out))⟩; have n5_ : Aside0 (Below w.heap.size w w21) := ⟨by rw [← hq_]; exact (by repeat (first | (with_reducible first | exact HB.out | apply below_alloc | apply pw_below_drewN | apply below_drew1 | refine below_set ?_ (IsS139.ge HI416.out) | refine below_set ?_ GE412.out | refine below_set ?_ GE423.out) | exact HB.out))⟩; clear HO420 HO426 BK412 BK423 HI416 HB hq_; have HO420 := n0_; have HO426 := n1_; have BK412 := n2_; have BK423 := n3_; have HI416 := n4_; have HB := n5_; clear n0_ n1_ n2_ n3_ n4_ n5_))) | ((with_reducible refine gate_dst (N := 23) rfl ?_); refine Kd.R_lit (Kd.int .i64) _ 3 ?hg (N := 23) ?hd (xs := ([0, 9, 1000000, 1000001, (-1)] : List Int)) (inner := [.int .i64 0, .int .i64 9, .int .i64 1000000, .int .i64 1000001, .int .i64 (-1)]) (ok := fun _ => True) (okp := fun _ => True) ?hr ?hp (fun _ hk => hk) trivial (Below.refl _ _) (Nat.le_refl _) (by simp) ?_; (case hd => rfl); (case hg => rfl); (case hr => exact tG); (case hp => exact (Reps.one (show Kd.M (Kd.int .i64) _ _ _ 0 [.int .i64 0] from rfl) (Reps.one (show Kd.M (Kd.int .i64) _ _ _ 9 [.int .i64 9] from rfl) (Reps.one (show Kd.M (Kd.int .i64) _ _ _ 1000000 [.int .i64 1000000] from rfl) (Reps.one (show Kd.M (Kd.int .i64) _ _ _ 1000001 [.int .i64 1000001] from rfl) (Reps.one (show Kd.M (Kd.int .i64) _ _ _ (-1) [.int .i64 (-1)] from rfl) (Reps.none _ _))))))); intro v435 w22 ho23 hb hg_ hnew_; clear hg_ hnew_; (first | rw [← Ny434.out] at ho23 | (simp only [Int.reduceToNat] at ho23; rw [← Ny434.out] at ho23)); replace HO420 := Aside0.mk (Kd.R_below (tR HO420) hb); have HO436 := Aside0.mk (Kd.R_lower (Kd.R_new' ho23 (Kd.R_lt (tR HO426))) (below_size (by repeat (first | (with_reducible first | exact HB.out | apply below_alloc | apply pw_below_drewN | apply below_drew1 | refine below_set ?_ (IsS139.ge HI416.out) | refine below_set ?_ GE412.out | refine below_set ?_ GE423.out) | exact HB.out)))); replace HO426 := Aside0.mk (Kd.R_elder' (tR HO426) (Kd.R_base ho23) hb); replace BK412 := bB BK412 hb; replace BK423 := bB BK423 hb; replace HB := Aside0.mk (below_step (by repeat (first | (with_reducible first | exact HB.out | apply below_alloc | apply pw_below_drewN | apply below_drew1 | refine below_set ?_ (IsS139.ge HI416.out) | refine below_set ?_ GE412.out | refine below_set ?_ GE423.out) | exact HB.out)) hb); replace HI416 := Aside0.mk (IsS139.below (by repeat (first | (with_reducible first | exact HI416.out | apply IsS139.alloc | apply IsS139.drewN | apply IsS139.drew | apply IsS139.set_1 | apply IsS139.set_2 | refine IsS139.far ?_ NB416_412.out _ | refine IsS139.far ?_ NB416_423.out _) | exact HI416.out)) hb); clear hb ho23; obtain ⟨Ao24, co24, eo24⟩ := Kd.R_slice HO436.out; subst eo24) | ((with_reducible refine gate_callee (f := 112) rfl ?_); refine goesL_ (some 24) rfl rfl Try.func112 (by kernel_rfl) rfl #[.pointer (some ⟨g416, 0, none⟩), .slice Ao24 y434.length co24] rfl tL ?_; (with_reducible refine (spec_l1Int.calls g416 t413 t431 t432 _ _ y434 t437 t438 t439 w _ ?side1 ?side2 ?side3 ?side4 ?side5 A7.out).mono ?_); (case side1 => repeat (first | (with_reducible first | exact HI416.out | apply IsS139.alloc | apply IsS139.drewN | apply IsS139.drew | apply IsS139.set_1 | apply IsS139.set_2 | refine IsS139.far ?_ NB416_412.out _ | refine IsS139.far ?_ NB416_423.out _) | exact HI416.out)); (case side2 => repeat (first | (with_reducible first | exact HB.out | apply below_alloc | apply pw_below_drewN | apply below_drew1 | refine below_set ?_ (IsS139.ge HI416.out) | refine below_set ?_ GE412.out | refine below_set ?_ GE423.out) | exact HB.out)); (case side3 => exact tC (Kd.R_reads' HO436.out).2.2); (case side4 => exact (Kd.R_reads' HO436.out).2.1); (case side5 => exact far_slice (IsS139.own_ne HI416.out HO436.out (by decide))); rintro e w25 ⟨rfl, hi, hb, hk⟩; refine ⟨_, rfl, ?_⟩; replace BK412 := Aside0.mk (KeepBut.blk hk (g' := gb412) (o := .cells #[.int .i64 0, .slice none 0 0] 35 (0, 0)) (tK BK412) NB412_416.out (by simp)); replace HO420 := Aside0.mk (Kd.R_mono (Kd.R_keep (IsS139.apart (show IsS139 w _ g416 t413 t431 t432 from by repeat (first | (with_reducible first | exact HI416.out | apply IsS139.alloc | apply IsS139.drewN | apply IsS139.drew | apply IsS139.set_1 | apply IsS139.set_2 | refine IsS139.far ?_ NB416_412.out _ | refine IsS139.far ?_ NB416_423.out _) | exact HI416.out)) (tR HO420) (by decide)) hk (fun _ h => h.2)) (fun _ h => h.1)); replace BK423 := Aside0.mk (KeepBut.blk hk (g' := gb423) (o := .cells #[.int .i64 t417, .slice Ao16 t418.length co16] 35 (0, 0)) (tK BK423) NB423_416.out (by simp)); replace HO426 := Aside0.mk (Kd.R_mono (Kd.R_keep (IsS139.apart (show IsS139 w _ g416 t413 t431 t432 from by repeat (first | (with_reducible first | exact HI416.out | apply IsS139.alloc | apply IsS139.drewN | apply IsS139.drew | apply IsS139.set_1 | apply IsS139.set_2 | refine IsS139.far ?_ NB416_412.out _ | refine IsS139.far ?_ NB416_423.out _) | exact HI416.out)) (tR HO426) (by decide)) hk (fun _ h => h.2)) (fun _ h => h.1)); replace HO436 := Aside0.mk (Kd.R_mono (Kd.R_keep (IsS139.apart (show IsS139 w _ g416 t413 t431 t432 from by repeat (first | (with_reducible first | exact HI416.out | apply IsS139.alloc | apply IsS139.drewN | apply IsS139.drew | apply IsS139.set_1 | apply IsS139.set_2 | refine IsS139.far ?_ NB416_412.out _ | refine IsS139.far ?_ NB416_423.out _) | exact HI416.out)) (tR HO436) (by decide)) hk (fun _ h => h.2)) (fun _ h => h.1)); replace HB := Aside0.mk (hb); replace HI416 := Aside0.mk (hi); (try clear hb); (try clear hb2); (try clear hk); (try clear hi)))
 replace HO420 := Aside0.mk (Kd.R_drew HO420.out)
 replace HO426 := Aside0.mk (Kd.R_drew HO426.out)
 replace HO436 := Aside0.mk (Kd.R_drew HO436.out)
 replace BK412 := Aside0.mk (blk_drew BK412.out)
 replace BK423 := Aside0.mk (blk_drew BK423.out)
 replace HI416 := Aside0.mk (IsS139.drew HI416.out)
 replace HB := Aside0.mk (below_drew1 HB.out)
 refine start_ (n := 12) (S := fun w' => w'.cell? ⟨gb423, 0, none⟩ = some (.int .i64 t417) ∧ w'.cell? ⟨gb423, 1, none⟩ = some (.slice Ao16 t418.length co16)) (ds := []) (bm 12 0) (by kernel_rfl) rfl (by kernel_rfl) tH (fun hHeld => ?_); refine with_tabW spec_DrawFileClaim.tab6 spec_DrawFileClaim.bits6 (fun HT_ HW_ => ?_)
 generalize w25.drew = w26 at HO420 HO426 HO436 BK412 BK423 HI416 HB hHeld ⊢
 refine pI 1 26 (bm 12 2) ?_
 refine pI 2 27 (bm 12 6) ?_
 refine pI 3 28 (bm 12 14) ?_
 refine pI 4 29 (bm 12 30) ?_
 refine pT 0 25 (bm 12 31) hHeld ?_
 refine one_ (i := 5) (N := some 30) (bm 12 63) rfl rfl (one_of HT_.out (by kernel_rfl)) (by decide) (fun K hK => ?_)
 refine Kd.R_lit_step (Kd.int .i64) _ 3 ?hg (N := 30) ?hd (xs := ([30, 90, 90, 0] : List Int)) (inner := [.int .i64 30, .int .i64 90, .int .i64 90, .int .i64 0]) (ok := fun _ => True) (okp := fun _ => True) ?hr ?hp (fun _ hk => hk) trivial (Below.refl _ _) (Nat.le_refl _) (by simp) ?_; (case hd => rfl); (case hg => rfl); (case hr => exact tG); (case hp => exact (Reps.one (show Kd.M (Kd.int .i64) _ _ _ 30 [.int .i64 30] from rfl) (Reps.one (show Kd.M (Kd.int .i64) _ _ _ 90 [.int .i64 90] from rfl) (Reps.one (show Kd.M (Kd.int .i64) _ _ _ 90 [.int .i64 90] from rfl) (Reps.one (show Kd.M (Kd.int .i64) _ _ _ 0 [.int .i64 0] from rfl) (Reps.none _ _))))))
 intro v441 w27 ho28 hb hg_ hnew_
 clear hg_ hnew_
 (first | rw [← Ny440.out] at ho28 | (simp only [Int.reduceToNat] at ho28; rw [← Ny440.out] at ho28))
 replace HO420 := Aside0.mk (Kd.R_below (tR HO420) hb)
 have HO442 := Aside0.mk (Kd.R_lower (Kd.R_new' (Kd.R_new' ho28 (Kd.R_lt (tR HO426))) (Kd.R_lt (tR HO436))) (below_size (by repeat (first | (with_reducible first | exact HB.out | apply below_alloc | apply pw_below_drewN | apply below_drew1 | refine below_set ?_ (IsS139.ge HI416.out) | refine below_set ?_ GE412.out | refine below_set ?_ GE423.out) | exact HB.out))))
 replace HO426 := Aside0.mk (Kd.R_elder' (tR HO426) (Kd.R_base ho28) hb)
 replace HO436 := Aside0.mk (Kd.R_elder' (tR HO436) (Kd.R_base ho28) hb)
 replace BK412 := bB BK412 hb
 replace BK423 := bB BK423 hb
 replace HB := Aside0.mk (below_step (by repeat (first | (with_reducible first | exact HB.out | apply below_alloc | apply pw_below_drewN | apply below_drew1 | refine below_set ?_ (IsS139.ge HI416.out) | refine below_set ?_ GE412.out | refine below_set ?_ GE423.out) | exact HB.out)) hb)
 replace HI416 := Aside0.mk (IsS139.below (by repeat (first | (with_reducible first | exact HI416.out | apply IsS139.alloc | apply IsS139.drewN | apply IsS139.drew | apply IsS139.set_1 | apply IsS139.set_2 | refine IsS139.far ?_ NB416_412.out _ | refine IsS139.far ?_ NB416_423.out _) | exact HI416.out)) hb)
 clear hb ho28
 obtain ⟨Ao29, co29, eo29⟩ := Kd.R_slice HO442.out
 (first | subst eo29 | (injection eo29 with f1_ f2_ f3_; have f4_ := f1_.symm; have f5_ := f3_.symm; clear f1_ f2_ f3_; subst f4_; subst f5_))
 refine hK.out _ _ tH (fun hHeld => ?_)
 clear hK K
 refine norm_ (tV : Act.put _ (some 30) _ = _) ?_
 refine one_ (i := 6) (N := some 31) (bm 12 127) rfl rfl (one_of HT_.out (by kernel_rfl)) (by decide) (fun K hK => ?_)
 refine goes_ Try.func112 (by kernel_rfl) rfl #[.pointer (some ⟨g416, 0, none⟩), .slice Ao29 y440.length co29] (by rfl) rfl rfl tL ?_
 with_reducible refine (spec_l1Int.calls g416 t413 t438 t439 _ _ y440 t443 t444 t445 w _ ?side1 ?side2 ?side3 ?side4 ?side5 A8.out).mono ?_
 (case side1 => repeat (first | (with_reducible first | exact HI416.out | apply IsS139.alloc | apply IsS139.drewN | apply IsS139.drew | apply IsS139.set_1 | apply IsS139.set_2 | refine IsS139.far ?_ NB416_412.out _ | refine IsS139.far ?_ NB416_423.out _) | exact HI416.out))
 (case side2 => repeat (first | (with_reducible first | exact HB.out | apply below_alloc | apply pw_below_drewN | apply below_drew1 | refine below_set ?_ (IsS139.ge HI416.out) | refine below_set ?_ GE412.out | refine below_set ?_ GE423.out) | exact HB.out))
 (case side3 => exact tC (Kd.R_reads' HO442.out).2.2)
 (case side4 => exact (Kd.R_reads' HO442.out).2.1)
 (case side5 => exact far_slice (IsS139.own_ne HI416.out HO442.out (by decide)))
 rintro e w30 ⟨rfl, hi, hb, hk⟩
 refine ⟨_, rfl, ?_⟩
 replace BK412 := Aside0.mk (KeepBut.blk hk (g' := gb412) (o := .cells #[.int .i64 0, .slice none 0 0] 35 (0, 0)) (tK BK412) NB412_416.out (by simp))
 replace HO420 := Aside0.mk (Kd.R_mono (Kd.R_keep (IsS139.apart (show IsS139 w _ g416 t413 t438 t439 from by repeat (first | (with_reducible first | exact HI416.out | apply IsS139.alloc | apply IsS139.drewN | apply IsS139.drew | apply IsS139.set_1 | apply IsS139.set_2 | refine IsS139.far ?_ NB416_412.out _ | refine IsS139.far ?_ NB416_423.out _) | exact HI416.out)) (tR HO420) (by decide)) hk (fun _ h => h.2)) (fun _ h => h.1))
 replace BK423 := Aside0.mk (KeepBut.blk hk (g' := gb423) (o := .cells #[.int .i64 t417, .slice Ao16 t418.length co16] 35 (0, 0)) (tK BK423) NB423_416.out (by simp))
 replace HO426 := Aside0.mk (Kd.R_mono (Kd.R_keep (IsS139.apart (show IsS139 w _ g416 t413 t438 t439 from by repeat (first | (with_reducible first | exact HI416.out | apply IsS139.alloc | apply IsS139.drewN | apply IsS139.drew | apply IsS139.set_1 | apply IsS139.set_2 | refine IsS139.far ?_ NB416_412.out _ | refine IsS139.far ?_ NB416_423.out _) | exact HI416.out)) (tR HO426) (by decide)) hk (fun _ h => h.2)) (fun _ h => h.1))
 replace HO436 := Aside0.mk (Kd.R_mono (Kd.R_keep (IsS139.apart (show IsS139 w _ g416 t413 t438 t439 from by repeat (first | (with_reducible first | exact HI416.out | apply IsS139.alloc | apply IsS139.drewN | apply IsS139.drew | apply IsS139.set_1 | apply IsS139.set_2 | refine IsS139.far ?_ NB416_412.out _ | refine IsS139.far ?_ NB416_423.out _) | exact HI416.out)) (tR HO436) (by decide)) hk (fun _ h => h.2)) (fun _ h => h.1))
 replace HO442 := Aside0.mk (Kd.R_mono (Kd.R_keep (IsS139.apart (show IsS139 w _ g416 t413 t438 t439 from by repeat (first | (with_reducible first | exact HI416.out | apply IsS139.alloc | apply IsS139.drewN | apply IsS139.drew | apply IsS139.set_1 | apply IsS139.set_2 | refine IsS139.far ?_ NB416_412.out _ | refine IsS139.far ?_ NB416_423.out _) | exact HI416.out)) (tR HO442) (by decide)) hk (fun _ h => h.2)) (fun _ h => h.1))
 replace HB := Aside0.mk (hb)
 replace HI416 := Aside0.mk (hi)
 (try clear hb)
 (try clear hb2)
 (try clear hk)
 (try clear hi)
 refine hK.out _ _ tH (fun hHeld => ?_)
 clear hK K
 refine norm_ (tV : Act.put _ (some 31) _ = _) ?_
 refine one_ (i := 7) (N := none) (bm 12 255) rfl rfl (one_of HT_.out (by kernel_rfl)) (by decide) (fun K hK => ?_)
 have hs31 : w30.cell? ⟨gb412, 0, none⟩ = some (.int .i64 0) := (blk_cell BK412.out 0).trans rfl
 have hfs31 := blk_frozen BK412.out 0
 have hns31_1 := NB423_412.out
 have hms31_1 := NB412_423.out
 have hs32 : w30.cell? ⟨gb412, 1, none⟩ = some (.slice none 0 0) := (blk_cell BK412.out 1).trans rfl
 have hfs32 := blk_frozen BK412.out 1
 have hns32_1 := NB423_412.out
 have hms32_1 := NB412_423.out
 refine skip_ (w1 := ?_) (by rfl) rfl ?_ ?_
 rotate_left
 ·go_simp
  rfl
 refine hK.out _ _ ⟨((cell_far (p := ⟨gb412, _, none⟩) NB423_412.out _).trans (((cell_far (p := ⟨gb412, _, none⟩) NB423_412.out _).trans (hHeld.1)))), ((cell_far (p := ⟨gb412, _, none⟩) NB423_412.out _).trans (((cell_far (p := ⟨gb412, _, none⟩) NB423_412.out _).trans (hHeld.2))))⟩ (fun hHeld => ?_)
 clear hK K
 refine pI 8 3 (bm 12 511) ?_
 refine pI 9 4 (bm 12 1023) ?_
 refine pI 10 5 (bm 12 2047) ?_
 refine pI 11 6 (bm 12 4095) ?_
 refine done_ (done_of HT_.out (by kernel_rfl)) ?_
 try go_wp2
 refine bodyPost_ret (results_list (rs := [.cell 2 35, .tmp 3, .tmp 4, .tmp 5, .tmp 6]) rfl (by simp) (.cell gb412 35 #[.int .i64 t417, .slice Ao16 t418.length co16] (0, 0) _ rfl (by (with_reducible repeat (first | refine blk_drewN ?_ _ | refine blk_drew ?_ | refine blk_alloc ?_ _)); refine blk_put (cs := #[.int .i64 t417, .slice none 0 0]) ?_ 1 _ rfl; (with_reducible repeat (first | refine blk_drewN ?_ _ | refine blk_drew ?_ | refine blk_alloc ?_ _)); refine blk_put (cs := #[.int .i64 0, .slice none 0 0]) ?_ 0 _ rfl; (with_reducible repeat (first | refine blk_drewN ?_ _ | refine blk_drew ?_ | refine blk_alloc ?_ _)); exact BK412.out) Try.underlying35 rfl (by kernel_rfl) (.tmp (.tmp (.tmp (.tmp .nil)))))) rfl ?_
 exact ⟨_, tE, by (with_reducible repeat (first | apply Kd.R_alloc | apply Kd.R_drewN | apply Kd.R_drew)); exact Kd.R_mono (Kd.R_far (p := ⟨gb412, 1, none⟩) (Kd.R_far (p := ⟨gb412, 0, none⟩) (Kd.R_types HO420.out BK412.out (by decide)) (fun _ hk => hk.2) (.int .i64 t417)) (fun _ hk => hk.2) (.slice Ao16 t418.length co16)) (fun _ hk => trivial), by repeat (first | (with_reducible first | exact HB.out | apply below_alloc | apply pw_below_drewN | apply below_drew1 | refine below_set ?_ (IsS139.ge HI416.out) | refine below_set ?_ GE412.out | refine below_set ?_ GE423.out) | exact HB.out)⟩

/-! ### impl_EqualClaims: function 52 -/
mutual
def impl_EqualClaims.j0 : Nat → Bool → Int → List (S104) → Int → List (S104) → Option (Bool)
 | 0, _, _, _, _, _ => none
 | k + 1, x19, x447000, x447001, x448000, x448001 => if x19 = true then (some false) else (impl_EqualClaims.l0 k (x447001.length : Int) 0 x447000 x447001 x448000 x448001)
def impl_EqualClaims.l0 : Nat → Int → Int → Int → List (S104) → Int → List (S104) → Option (Bool)
 | 0, _, _, _, _, _, _ => none
 | k + 1, x22, x23, x447000, x447001, x448000, x448001 => if x23 < x22 then (if 0 ≤ x23 then (if x23 < (x447001.length : Int) then (if x23 < (x448001.length : Int) then (if (!(((rd_T104 x447001 x23).f0) == ((rd_T104 x448001 x23).f0)) || (!(((rd_T104 x447001 x23).f1) == ((rd_T104 x448001 x23).f1)) || (!(((rd_T104 x447001 x23).f2) == ((rd_T104 x448001 x23).f2)) || (!(((rd_T104 x447001 x23).f3) == ((rd_T104 x448001 x23).f3)) || (!(((rd_T104 x447001 x23).f4) == ((rd_T104 x448001 x23).f4)) || (!(((rd_T104 x447001 x23).f5) == ((rd_T104 x448001 x23).f5)))))))) = true then (some false) else (impl_EqualClaims.l0 k x22 (wrap64 (x23 + 1)) x447000 x447001 x448000 x448001)) else (none)) else (none)) else (none)) else (some true)
end
def impl_EqualClaims.f (k : Nat) (a0_0 : Int) (l0_1 : List (S104)) (a1_0 : Int) (l1_1 : List (S104)) : Option (Bool) := if a0_0 = a1_0 then (impl_EqualClaims.j0 k ((l0_1.length : Int) != (l1_1.length : Int)) a0_0 l0_1 a1_0 l1_1) else (impl_EqualClaims.j0 k true a0_0 l0_1 a1_0 l1_1)
theorem impl_EqualClaims.mono_l : ∀ k, (∀ y0 y1 y2 y3 y4, LeO (impl_EqualClaims.j0 k y0 y1 y2 y3 y4) (impl_EqualClaims.j0 (k + 1) y0 y1 y2 y3 y4)) ∧ (∀ y0 y1 y2 y3 y4 y5, LeO (impl_EqualClaims.l0 k y0 y1 y2 y3 y4 y5) (impl_EqualClaims.l0 (k + 1) y0 y1 y2 y3 y4 y5))
 | 0 => ⟨fun _ _ _ _ _ r h => by simp [impl_EqualClaims.j0] at h, fun _ _ _ _ _ _ r h => by simp [impl_EqualClaims.l0] at h⟩
 | k + 1 => by
  obtain ⟨ih0, ih1⟩ := impl_EqualClaims.mono_l k
  refine ⟨?_, ?_⟩
  ·intro y0 y1 y2 y3 y4
   unfold impl_EqualClaims.j0
   repeat' first
   | (with_reducible exact ih0 _ _ _ _ _)
   | (with_reducible exact ih1 _ _ _ _ _ _)
   | (with_reducible exact LeO.refl _)
   | (with_reducible exact LeO.none _)
   | (with_reducible refine LeO.ite ?_ ?_)
   | (with_reducible refine LeO.bind ?_ (fun _ => ?_))
   | exact ih0 _ _ _ _ _
   | exact ih1 _ _ _ _ _ _
   | exact LeO.none _
   | refine LeO.ite ?_ ?_
   | refine LeO.bind ?_ (fun _ => ?_)
  ·intro y0 y1 y2 y3 y4 y5
   unfold impl_EqualClaims.l0
   repeat' first
   | (with_reducible exact ih0 _ _ _ _ _)
   | (with_reducible exact ih1 _ _ _ _ _ _)
   | (with_reducible exact LeO.refl _)
   | (with_reducible exact LeO.none _)
   | (with_reducible refine LeO.ite ?_ ?_)
   | (with_reducible refine LeO.bind ?_ (fun _ => ?_))
   | exact ih0 _ _ _ _ _
   | exact ih1 _ _ _ _ _ _
   | exact LeO.none _
   | refine LeO.ite ?_ ?_
   | refine LeO.bind ?_ (fun _ => ?_)
theorem impl_EqualClaims.mono : ∀ a0 a1 a2 a3 k, LeO (impl_EqualClaims.f k a0 a1 a2 a3) (impl_EqualClaims.f (k + 1) a0 a1 a2 a3) := by
 intro a0 a1 a2 a3 k
 obtain ⟨ih0, ih1⟩ := impl_EqualClaims.mono_l k
 unfold impl_EqualClaims.f
 repeat' first
   | (with_reducible exact ih0 _ _ _ _ _)
   | (with_reducible exact ih1 _ _ _ _ _ _)
   | (with_reducible exact LeO.refl _)
   | (with_reducible exact LeO.none _)
   | (with_reducible refine LeO.ite ?_ ?_)
   | (with_reducible refine LeO.bind ?_ (fun _ => ?_))
   | exact ih0 _ _ _ _ _
   | exact ih1 _ _ _ _ _ _
   | exact LeO.none _
   | refine LeO.ite ?_ ?_
   | refine LeO.bind ?_ (fun _ => ?_)
set_option maxHeartbeats 8000000 in
set_option maxRecDepth 100000 in
theorem impl_EqualClaims.calls (k : Nat) (a0_0 : Int) (A0_1 : Option Addr) (c0_1 : Nat) (l0_1 : List (S104)) (a1_0 : Int) (A1_1 : Option Addr) (c1_1 : Nat) (l1_1 : List (S104)) (r : Bool) (w : World) (hr0_1 : Kd.C k104 w A0_1 l0_1.length l0_1) (hc0_1 : l0_1.length ≤ c0_1) (hr1_1 : Kd.C k104 w A1_1 l1_1.length l1_1) (hc1_1 : l1_1.length ≤ c1_1) (h : impl_EqualClaims.f k a0_0 l0_1 a1_0 l1_1 = some r) :
  Calls Try.prog 52 #[.agg #[.int .i64 a0_0, .slice A0_1 l0_1.length c0_1], .agg #[.int .i64 a1_0, .slice A1_1 l1_1.length c1_1]] w fun e w' => e = .returned (.bool r) ∧ Below w.heap.size w w' := by
 have hu35 := Try.underlying35
 have hu104 := Try.underlying104
 have HR0_1 := Aside0.mk hr0_1
 have HC0_1 := Aside0.mk hc0_1
 clear hr0_1 hc0_1
 have HR1_1 := Aside0.mk hr1_1
 have HC1_1 := Aside0.mk hc1_1
 clear hr1_1 hc1_1
 have HB := Aside0.mk (Below.refl w.heap.size w)
 have H : (if a0_0 = a1_0 then (impl_EqualClaims.j0 k ((l0_1.length : Int) != (l1_1.length : Int)) a0_0 l0_1 a1_0 l1_1) else (impl_EqualClaims.j0 k true a0_0 l0_1 a1_0 l1_1)) = some r := h
 clear h
 have HC3 := Aside0.mk H
 clear H
 go_enter Try.func52, Try.ntmps52
 go_upto_region 1 with (first | ((with_reducible refine gate_dst (N := 2) rfl ?_); (try (refine gate_guard (by rfl) ?_; dsimp only)); refine box_event ?hg (N := 2) ?hd (cs := #[.int .i64 a0_0, .slice A0_1 l0_1.length c0_1]) (t := 35) ?hr ?_; (case hd => rfl); (case hg => rfl); (case hr => exact tG); intro gb446 hg w4 hbox hb; have BK446 := Aside0.mk (hbox); have GW446 := gW HB hg; have GE446 := gW HB hg; replace HB := bH HB hb; clear hb hbox hg) | ((with_reducible refine gate_dst (N := 3) rfl ?_); (try (refine gate_guard (by rfl) ?_; dsimp only)); refine box_event ?hg (N := 3) ?hd (cs := #[.int .i64 a1_0, .slice A1_1 l1_1.length c1_1]) (t := 35) ?hr ?_; (case hd => rfl); (case hg => rfl); (case hr => exact tG); intro gb447 hg w5 hbox hb; have BK447 := Aside0.mk (hbox); have GW447 := gW HB hg; have GE447 := gW HB hg; replace HB := bH HB hb; have NB446_447 := nL BK446 hg; have NB447_446 := nR BK446 hg; replace BK446 := bB BK446 hb; clear hb hbox hg))
 repeat (go_quiet (first | ((with_reducible refine gate_dst (N := 2) rfl ?_); (try (refine gate_guard (by rfl) ?_; dsimp only)); refine box_event ?hg (N := 2) ?hd (cs := #[.int .i64 a0_0, .slice A0_1 l0_1.length c0_1]) (t := 35) ?hr ?_; (case hd => rfl); (case hg => rfl); (case hr => exact tG); intro gb446 hg w4 hbox hb; have BK446 := Aside0.mk (hbox); have GW446 := gW HB hg; have GE446 := gW HB hg; replace HB := bH HB hb; clear hb hbox hg) | ((with_reducible refine gate_dst (N := 3) rfl ?_); (try (refine gate_guard (by rfl) ?_; dsimp only)); refine box_event ?hg (N := 3) ?hd (cs := #[.int .i64 a1_0, .slice A1_1 l1_1.length c1_1]) (t := 35) ?hr ?_; (case hd => rfl); (case hg => rfl); (case hr => exact tG); intro gb447 hg w5 hbox hb; have BK447 := Aside0.mk (hbox); have GW447 := gW HB hg; have GE447 := gW HB hg; replace HB := bH HB hb; have NB446_447 := nL BK446 hg; have NB447_446 := nR BK446 hg; replace BK446 := bB BK446 hb; clear hb hbox hg)); go_upto_region 1 with (first | ((with_reducible refine gate_dst (N := 2) rfl ?_); (try (refine gate_guard (by rfl) ?_; dsimp only)); refine box_event ?hg (N := 2) ?hd (cs := #[.int .i64 a0_0, .slice A0_1 l0_1.length c0_1]) (t := 35) ?hr ?_; (case hd => rfl); (case hg => rfl); (case hr => exact tG); intro gb446 hg w4 hbox hb; have BK446 := Aside0.mk (hbox); have GW446 := gW HB hg; have GE446 := gW HB hg; replace HB := bH HB hb; clear hb hbox hg) | ((with_reducible refine gate_dst (N := 3) rfl ?_); (try (refine gate_guard (by rfl) ?_; dsimp only)); refine box_event ?hg (N := 3) ?hd (cs := #[.int .i64 a1_0, .slice A1_1 l1_1.length c1_1]) (t := 35) ?hr ?_; (case hd => rfl); (case hg => rfl); (case hr => exact tG); intro gb447 hg w5 hbox hb; have BK447 := Aside0.mk (hbox); have GW447 := gW HB hg; have GE447 := gW HB hg; replace HB := bH HB hb; have NB446_447 := nL BK446 hg; have NB447_446 := nR BK446 hg; replace BK446 := bB BK446 hb; clear hb hbox hg)))
 (try simp only [Act.put, List.setIfInBounds_toArray, List.set_cons_zero, List.set_cons_succ])
 go_cut [19] (fun v19 wc => ∃ (kq : Nat) (x19_2 : Bool), v19 = .bool x19_2 ∧ Aside0 (impl_EqualClaims.j0 kq x19_2 a0_0 l0_1 a1_0 l1_1 = some r) ∧ Aside0 (kq ≤ k) ∧ Aside0 (wc.heap[gb446]? = some (.cells #[.int .i64 a0_0, (.slice A0_1 l0_1.length c0_1)] 35 (0, 0))) ∧ Aside0 (wc.heap[gb447]? = some (.cells #[.int .i64 a1_0, (.slice A1_1 l1_1.length c1_1)] 35 (0, 0))) ∧ Aside0 (Below w.heap.size w wc))
 case first =>
  have H := HC3.out
  clear HC3
  by_cases c6 : a0_0 = a1_0
  ·rw [if_pos c6] at H
   have c6b0 : (a0_0 == a1_0) = true := beq_iff_eq.mpr c6
   have c6b1 : (a0_0 != a1_0) = false := bne_eq_false_iff_eq.mpr c6
   clear c6
   (first | rw [c6b0] | (simp only [i64_w, i32_w]; rw [c6b0]) | skip)
   have H' := Aside0.mk H
   clear H
   have hnb7 := NB446_447.out
   have hnc7 := NB447_446.out
   obtain ⟨hcz8_0, hcz8_1, hfz8_0, hfz8_1⟩ := bc2 BK446.out
   obtain ⟨hcz9_0, hcz9_1, hfz9_0, hfz9_1⟩ := bc2 BK447.out
   go_wp2
   repeat (go_quiet (fail); try go_wp2)
   go_meet
   case rel => exact ⟨_, (((l0_1.length : Int) != (l1_1.length : Int))), tS, H', ⟨by first | omega | exact Nat.le_refl _⟩, ⟨tK BK446⟩, ⟨tK BK447⟩, ⟨tB⟩⟩
  rw [if_neg c6] at H
  have c6b0 : (a0_0 == a1_0) = false := beq_eq_false_iff_ne.mpr c6
  have c6b1 : (a0_0 != a1_0) = true := bne_iff_ne.mpr c6
  (first | rw [c6b0] | (simp only [i64_w, i32_w]; rw [c6b0]) | skip)
  have H' := Aside0.mk H
  clear H
  have hnb10 := NB446_447.out
  have hnc10 := NB447_446.out
  obtain ⟨hcz11_0, hcz11_1, hfz11_0, hfz11_1⟩ := bc2 BK446.out
  obtain ⟨hcz12_0, hcz12_1, hfz12_0, hfz12_1⟩ := bc2 BK447.out
  go_wp2
  repeat (go_quiet (fail); try go_wp2)
  go_meet
  case rel => exact ⟨_, (true), tS, H', ⟨by first | omega | exact Nat.le_refl _⟩, ⟨tK BK446⟩, ⟨tK BK447⟩, ⟨tB⟩⟩
 case rest =>
  clear HC3
  try clear c1
  try clear p2
  try clear c5
  try clear c6
  try clear c6b0
  try clear c6b1
  try clear c7
  try clear c10
  obtain ⟨kq, x19_2, rfl, HA, HJ2, BK446, BK447, HB⟩ := hcut
  cases kq with
  | zero => exact absurd HA.out (by simp [impl_EqualClaims.j0])
  | succ kj2 =>
   have H := HA.out
   clear HA
   simp only [impl_EqualClaims.j0] at H
   by_cases c13 : x19_2 = true
   ·subst c13
    have H1 : (some false) = some r := by rw [if_pos rfl] at H; exact H
    clear H
    have H := H1
    clear H1
    obtain rfl := Option.some.inj H
    go_wp2
    repeat (go_quiet (fail); try go_wp2)
    go_ret
    exact ⟨tE, tB⟩
   replace c13 := Bool.eq_false_iff.mpr c13
   subst c13
   have H1 : (impl_EqualClaims.l0 kj2 (l0_1.length : Int) 0 a0_0 l0_1 a1_0 l1_1) = some r := by rw [if_neg (show ¬ (false = true) by decide)] at H; exact H
   clear H
   have H := H1
   clear H1
   have H' := Aside0.mk H
   clear H
   have hnb14 := NB446_447.out
   have hnc14 := NB447_446.out
   obtain ⟨hcz15_0, hcz15_1, hfz15_0, hfz15_1⟩ := bc2 BK446.out
   go_wp2
   repeat (go_quiet (fail); try go_wp2)
   go_loopg [23] kj2 (fun kq v23 w' => ∃ (x23_2 : Int), v23 = .int .i64 x23_2 ∧ Aside0 (impl_EqualClaims.l0 kq (l0_1.length : Int) x23_2 a0_0 l0_1 a1_0 l1_1 = some r) ∧ Aside0 (kq ≤ kj2) ∧ Aside0 (w'.heap[gb446]? = some (.cells #[.int .i64 a0_0, (.slice A0_1 l0_1.length c0_1)] 35 (0, 0))) ∧ Aside0 (w'.heap[gb447]? = some (.cells #[.int .i64 a1_0, (.slice A1_1 l1_1.length c1_1)] 35 (0, 0))) ∧ Aside0 (Below w.heap.size w w'))
   case atStart => exact ⟨(0), tS, H', ⟨Nat.le_refl _⟩, ⟨tK BK446⟩, ⟨tK BK447⟩, ⟨tB⟩⟩
   case round =>
    clear H'
    try clear c1
    try clear p2
    try clear c5
    try clear c6
    try clear c6b0
    try clear c6b1
    try clear c7
    try clear c10
    try clear c13
    try clear c14
    try clear p2
    obtain ⟨x23_2, rfl, HA, HK2, BK446, BK447, HB⟩ := hrel
    cases gk with
    | zero => exact absurd HA.out (by simp [impl_EqualClaims.l0])
    | succ k2 =>
     have H := HA.out
     clear HA
     simp only [impl_EqualClaims.l0] at H
     by_cases c16 : x23_2 < (l0_1.length : Int)
     ·rw [if_pos c16] at H
      have c16b0 : decide (x23_2 < (l0_1.length : Int)) = true := decide_eq_true c16
      clear c16
      by_cases c17 : 0 ≤ x23_2
      ·rw [if_pos c17] at H
       have c17b0 : decide (0 ≤ x23_2) = true := decide_eq_true c17
       clear c17
       by_cases c18 : x23_2 < (l0_1.length : Int)
       ·rw [if_pos c18] at H
        have c18b0 : decide (x23_2 < (l0_1.length : Int)) = true := decide_eq_true c18
        clear c18
        by_cases c19 : x23_2 < (l1_1.length : Int)
        ·rw [if_pos c19] at H
         have c19b0 : decide (x23_2 < (l1_1.length : Int)) = true := decide_eq_true c19
         clear c19
         by_cases c20 : (!(((rd_T104 l0_1 x23_2).f0) == ((rd_T104 l1_1 x23_2).f0)) || (!(((rd_T104 l0_1 x23_2).f1) == ((rd_T104 l1_1 x23_2).f1)) || (!(((rd_T104 l0_1 x23_2).f2) == ((rd_T104 l1_1 x23_2).f2)) || (!(((rd_T104 l0_1 x23_2).f3) == ((rd_T104 l1_1 x23_2).f3)) || (!(((rd_T104 l0_1 x23_2).f4) == ((rd_T104 l1_1 x23_2).f4)) || (!(((rd_T104 l0_1 x23_2).f5) == ((rd_T104 l1_1 x23_2).f5)))))))) = true
         ·rw [if_pos c20] at H
          have c20b0 : (!(((rd_T104 l0_1 x23_2).f0) == ((rd_T104 l1_1 x23_2).f0)) || (!(((rd_T104 l0_1 x23_2).f1) == ((rd_T104 l1_1 x23_2).f1)) || (!(((rd_T104 l0_1 x23_2).f2) == ((rd_T104 l1_1 x23_2).f2)) || (!(((rd_T104 l0_1 x23_2).f3) == ((rd_T104 l1_1 x23_2).f3)) || (!(((rd_T104 l0_1 x23_2).f4) == ((rd_T104 l1_1 x23_2).f4)) || (!(((rd_T104 l0_1 x23_2).f5) == ((rd_T104 l1_1 x23_2).f5)))))))) = true := c20
          clear c20
          obtain rfl := Option.some.inj H
          have hnb21 := NB446_447.out
          have hnc21 := NB447_446.out
          obtain ⟨hcz22_0, hcz22_1, hfz22_0, hfz22_1⟩ := bc2 BK446.out
          have p448 : 0 ≤ (x23_2 : Int) := of_decide_eq_true tA
          have q448 : x23_2 < (l0_1.length : Int) := of_decide_eq_true tA
          obtain ⟨ad448, e448, hx448_0, hx448_1, hx448_2, hx448_3, hx448_4, hx448_5⟩ := at_T104 HR0_1.out x23_2 p448 q448
          cases e448
          replace hx448_0 := hbc HB hx448_0
          replace hx448_1 := hbc HB hx448_1
          replace hx448_2 := hbc HB hx448_2
          replace hx448_3 := hbc HB hx448_3
          replace hx448_4 := hbc HB hx448_4
          replace hx448_5 := hbc HB hx448_5
          replace p448 := eq_true p448
          replace q448 := eq_true q448
          obtain ⟨hcz23_0, hcz23_1, hfz23_0, hfz23_1⟩ := bc2 BK447.out
          have p449 : 0 ≤ (x23_2 : Int) := of_decide_eq_true tA
          have q449 : x23_2 < (l1_1.length : Int) := of_decide_eq_true tA
          obtain ⟨ad449, e449, hx449_0, hx449_1, hx449_2, hx449_3, hx449_4, hx449_5⟩ := at_T104 HR1_1.out x23_2 p449 q449
          cases e449
          replace hx449_0 := hbc HB hx449_0
          replace hx449_1 := hbc HB hx449_1
          replace hx449_2 := hbc HB hx449_2
          replace hx449_3 := hbc HB hx449_3
          replace hx449_4 := hbc HB hx449_4
          replace hx449_5 := hbc HB hx449_5
          replace p449 := eq_true p449
          replace q449 := eq_true q449
          go_wp2
          repeat (go_quiet (fail); try go_wp2)
          go_ret
          exact ⟨tE, tB⟩
         rw [if_neg c20] at H
         have c20b0 : (!(((rd_T104 l0_1 x23_2).f0) == ((rd_T104 l1_1 x23_2).f0)) || (!(((rd_T104 l0_1 x23_2).f1) == ((rd_T104 l1_1 x23_2).f1)) || (!(((rd_T104 l0_1 x23_2).f2) == ((rd_T104 l1_1 x23_2).f2)) || (!(((rd_T104 l0_1 x23_2).f3) == ((rd_T104 l1_1 x23_2).f3)) || (!(((rd_T104 l0_1 x23_2).f4) == ((rd_T104 l1_1 x23_2).f4)) || (!(((rd_T104 l0_1 x23_2).f5) == ((rd_T104 l1_1 x23_2).f5)))))))) = false := by simpa using c20
         clear c20
         have H' := Aside0.mk H
         clear H
         have hnb24 := NB446_447.out
         have hnc24 := NB447_446.out
         obtain ⟨hcz25_0, hcz25_1, hfz25_0, hfz25_1⟩ := bc2 BK446.out
         have p448 : 0 ≤ (x23_2 : Int) := of_decide_eq_true tA
         have q448 : x23_2 < (l0_1.length : Int) := of_decide_eq_true tA
         obtain ⟨ad448, e448, hx448_0, hx448_1, hx448_2, hx448_3, hx448_4, hx448_5⟩ := at_T104 HR0_1.out x23_2 p448 q448
         cases e448
         replace hx448_0 := hbc HB hx448_0
         replace hx448_1 := hbc HB hx448_1
         replace hx448_2 := hbc HB hx448_2
         replace hx448_3 := hbc HB hx448_3
         replace hx448_4 := hbc HB hx448_4
         replace hx448_5 := hbc HB hx448_5
         replace p448 := eq_true p448
         replace q448 := eq_true q448
         obtain ⟨hcz26_0, hcz26_1, hfz26_0, hfz26_1⟩ := bc2 BK447.out
         have p449 : 0 ≤ (x23_2 : Int) := of_decide_eq_true tA
         have q449 : x23_2 < (l1_1.length : Int) := of_decide_eq_true tA
         obtain ⟨ad449, e449, hx449_0, hx449_1, hx449_2, hx449_3, hx449_4, hx449_5⟩ := at_T104 HR1_1.out x23_2 p449 q449
         cases e449
         replace hx449_0 := hbc HB hx449_0
         replace hx449_1 := hbc HB hx449_1
         replace hx449_2 := hbc HB hx449_2
         replace hx449_3 := hbc HB hx449_3
         replace hx449_4 := hbc HB hx449_4
         replace hx449_5 := hbc HB hx449_5
         replace p449 := eq_true p449
         replace q449 := eq_true q449
         go_wp2
         repeat (go_quiet (fail); try go_wp2)
         go_roundg k2
         case measure => have := HJ2.out; have := HK2.out; omega
         case rel => exact ⟨(wrap64 (x23_2 + 1)), tS, H', ⟨by have := HJ2.out; have := HK2.out; omega⟩, ⟨tK BK446⟩, ⟨tK BK447⟩, ⟨tB⟩⟩
        rw [if_neg c19] at H
        exact absurd H (by simp)
       rw [if_neg c18] at H
       exact absurd H (by simp)
      rw [if_neg c17] at H
      exact absurd H (by simp)
     rw [if_neg c16] at H
     have c16b0 : decide (x23_2 < (l0_1.length : Int)) = false := decide_eq_false c16
     clear c16
     obtain rfl := Option.some.inj H
     go_wp2
     repeat (go_quiet (fail); try go_wp2)
     go_ret
     exact ⟨tE, tB⟩

/-! ### impl_DueAt: function 53 -/
def impl_DueAt.f (k : Nat) (a0_0 : Int) (l0_1 : List (S104)) (a1 : Int) : Option (Int) := (impl_findClaim.f k a0_0 l0_1 a1).bind fun t451 => (if t451 < 0 then (some (-1)) else (if 0 ≤ t451 then (if t451 < (l0_1.length : Int) then (some (wrap64 ((wrap64 (((rd_T104 l0_1 t451).f3) + ((rd_T104 l0_1 t451).f4))) + 1))) else (none)) else (none)))
theorem impl_DueAt.mono : ∀ a0 a1 a2 k, LeO (impl_DueAt.f k a0 a1 a2) (impl_DueAt.f (k + 1) a0 a1 a2) := by
 intro a0 a1 a2 k
 unfold impl_DueAt.f
 repeat' first
   | (with_reducible exact impl_findClaim.mono _ _ _ _)
   | (with_reducible exact LeO.refl _)
   | (with_reducible exact LeO.none _)
   | (with_reducible refine LeO.ite ?_ ?_)
   | (with_reducible refine LeO.bind ?_ (fun _ => ?_))
   | exact impl_findClaim.mono _ _ _ _
   | exact LeO.none _
   | refine LeO.ite ?_ ?_
   | refine LeO.bind ?_ (fun _ => ?_)
set_option maxHeartbeats 8000000 in
set_option maxRecDepth 100000 in
theorem impl_DueAt.calls (k : Nat) (a0_0 : Int) (A0_1 : Option Addr) (c0_1 : Nat) (l0_1 : List (S104)) (a1 : Int) (r : Int) (w : World) (hr0_1 : Kd.C k104 w A0_1 l0_1.length l0_1) (hc0_1 : l0_1.length ≤ c0_1) (h : impl_DueAt.f k a0_0 l0_1 a1 = some r) :
  Calls Try.prog 53 #[.agg #[.int .i64 a0_0, .slice A0_1 l0_1.length c0_1], .int .i64 a1] w fun e w' => e = .returned (.int .i64 r) ∧ Below w.heap.size w w' := by
 have hu35 := Try.underlying35
 have HR0_1 := Aside0.mk hr0_1
 have HC0_1 := Aside0.mk hc0_1
 clear hr0_1 hc0_1
 have HB := Aside0.mk (Below.refl w.heap.size w)
 have H : ((impl_findClaim.f k a0_0 l0_1 a1).bind fun t451 => (if t451 < 0 then (some (-1)) else (if 0 ≤ t451 then (if t451 < (l0_1.length : Int) then (some (wrap64 ((wrap64 (((rd_T104 l0_1 t451).f3) + ((rd_T104 l0_1 t451).f4))) + 1))) else (none)) else (none)))) = some r := h
 clear h
 replace H := Option.bind_eq_some_iff.mp H
 obtain ⟨t451, A30, H⟩ := H
 try dsimp only at H
 have A3 := Aside0.mk A30
 clear A30
 by_cases c4 : t451 < 0
 ·rw [if_pos c4] at H
  have c4b0 : decide (t451 < 0) = true := decide_eq_true c4
  clear c4
  obtain rfl := Option.some.inj H
  go_enter Try.func53, Try.ntmps53
  go_wp2_with (first | ((with_reducible refine gate_dst (N := 2) rfl ?_); refine box_event ?hg (N := 2) ?hd (cs := #[.int .i64 a0_0, .slice A0_1 l0_1.length c0_1]) (t := 35) ?hr ?_; (case hd => rfl); (case hg => rfl); (case hr => exact tG); intro gb450 hg w5 hbox hb; have BK450 := Aside0.mk (hbox); have GW450 := gW HB hg; have GE450 := gW HB hg; replace HB := bH HB hb; clear hb hbox hg; obtain ⟨hcz6_0, hcz6_1, hfz6_0, hfz6_1⟩ := bc2 BK450.out) | (go_at_call 77; (with_reducible refine (impl_findClaim.calls k a0_0 _ _ l0_1 a1 t451 _ ?side1 ?side2 A3.out).mono ?_); (case side1 => exact tC (Kd.C_below HR0_1.out HB.out)); (case side2 => exact HC0_1.out); rintro e w7 ⟨rfl, hb⟩; replace BK450 := bB BK450 hb; replace HB := bH HB hb; (try clear hb); (try clear hb2); (try clear hk); (try clear hi)))
  repeat (go_quiet (first | ((with_reducible refine gate_dst (N := 2) rfl ?_); refine box_event ?hg (N := 2) ?hd (cs := #[.int .i64 a0_0, .slice A0_1 l0_1.length c0_1]) (t := 35) ?hr ?_; (case hd => rfl); (case hg => rfl); (case hr => exact tG); intro gb450 hg w5 hbox hb; have BK450 := Aside0.mk (hbox); have GW450 := gW HB hg; have GE450 := gW HB hg; replace HB := bH HB hb; clear hb hbox hg; obtain ⟨hcz6_0, hcz6_1, hfz6_0, hfz6_1⟩ := bc2 BK450.out) | (go_at_call 77; (with_reducible refine (impl_findClaim.calls k a0_0 _ _ l0_1 a1 t451 _ ?side1 ?side2 A3.out).mono ?_); (case side1 => exact tC (Kd.C_below HR0_1.out HB.out)); (case side2 => exact HC0_1.out); rintro e w7 ⟨rfl, hb⟩; replace BK450 := bB BK450 hb; replace HB := bH HB hb; (try clear hb); (try clear hb2); (try clear hk); (try clear hi))); try go_wp2_with (first | ((with_reducible refine gate_dst (N := 2) rfl ?_); refine box_event ?hg (N := 2) ?hd (cs := #[.int .i64 a0_0, .slice A0_1 l0_1.length c0_1]) (t := 35) ?hr ?_; (case hd => rfl); (case hg => rfl); (case hr => exact tG); intro gb450 hg w5 hbox hb; have BK450 := Aside0.mk (hbox); have GW450 := gW HB hg; have GE450 := gW HB hg; replace HB := bH HB hb; clear hb hbox hg; obtain ⟨hcz6_0, hcz6_1, hfz6_0, hfz6_1⟩ := bc2 BK450.out) | (go_at_call 77; (with_reducible refine (impl_findClaim.calls k a0_0 _ _ l0_1 a1 t451 _ ?side1 ?side2 A3.out).mono ?_); (case side1 => exact tC (Kd.C_below HR0_1.out HB.out)); (case side2 => exact HC0_1.out); rintro e w7 ⟨rfl, hb⟩; replace BK450 := bB BK450 hb; replace HB := bH HB hb; (try clear hb); (try clear hb2); (try clear hk); (try clear hi))))
  go_ret
  exact ⟨tE, tB⟩
 rw [if_neg c4] at H
 have c4b0 : decide (t451 < 0) = false := decide_eq_false c4
 clear c4
 by_cases c8 : 0 ≤ t451
 ·rw [if_pos c8] at H
  have c8b0 : decide (0 ≤ t451) = true := decide_eq_true c8
  clear c8
  by_cases c9 : t451 < (l0_1.length : Int)
  ·rw [if_pos c9] at H
   have c9b0 : decide (t451 < (l0_1.length : Int)) = true := decide_eq_true c9
   clear c9
   obtain rfl := Option.some.inj H
   go_enter Try.func53, Try.ntmps53
   go_wp2_with (first | ((with_reducible refine gate_dst (N := 2) rfl ?_); refine box_event ?hg (N := 2) ?hd (cs := #[.int .i64 a0_0, .slice A0_1 l0_1.length c0_1]) (t := 35) ?hr ?_; (case hd => rfl); (case hg => rfl); (case hr => exact tG); intro gb450 hg w10 hbox hb; have BK450 := Aside0.mk (hbox); have GW450 := gW HB hg; have GE450 := gW HB hg; replace HB := bH HB hb; clear hb hbox hg; obtain ⟨hcz11_0, hcz11_1, hfz11_0, hfz11_1⟩ := bc2 BK450.out) | (go_at_call 77; (with_reducible refine (impl_findClaim.calls k a0_0 _ _ l0_1 a1 t451 _ ?side1 ?side2 A3.out).mono ?_); (case side1 => exact tC (Kd.C_below HR0_1.out HB.out)); (case side2 => exact HC0_1.out); rintro e w12 ⟨rfl, hb⟩; replace BK450 := bB BK450 hb; replace HB := bH HB hb; (try clear hb); (try clear hb2); (try clear hk); (try clear hi); obtain ⟨hcz13_0, hcz13_1, hfz13_0, hfz13_1⟩ := bc2 BK450.out; have p452 : 0 ≤ (t451 : Int) := of_decide_eq_true tA; have q452 : t451 < (l0_1.length : Int) := of_decide_eq_true tA; obtain ⟨ad452, e452, hx452_0, hx452_1, hx452_2, hx452_3, hx452_4, hx452_5⟩ := at_T104 HR0_1.out t451 p452 q452; cases e452; replace hx452_0 := hbc HB hx452_0; replace hx452_1 := hbc HB hx452_1; replace hx452_2 := hbc HB hx452_2; replace hx452_3 := hbc HB hx452_3; replace hx452_4 := hbc HB hx452_4; replace hx452_5 := hbc HB hx452_5; replace p452 := eq_true p452; replace q452 := eq_true q452; have p453 : 0 ≤ (t451 : Int) := of_decide_eq_true tA; have q453 : t451 < (l0_1.length : Int) := of_decide_eq_true tA; obtain ⟨ad453, e453, hx453_0, hx453_1, hx453_2, hx453_3, hx453_4, hx453_5⟩ := at_T104 HR0_1.out t451 p453 q453; obtain rfl : ad452 = ad453 := (by injection e453); replace hx453_0 := hbc HB hx453_0; replace hx453_1 := hbc HB hx453_1; replace hx453_2 := hbc HB hx453_2; replace hx453_3 := hbc HB hx453_3; replace hx453_4 := hbc HB hx453_4; replace hx453_5 := hbc HB hx453_5; replace p453 := eq_true p453; replace q453 := eq_true q453))
   repeat (go_quiet (first | ((with_reducible refine gate_dst (N := 2) rfl ?_); refine box_event ?hg (N := 2) ?hd (cs := #[.int .i64 a0_0, .slice A0_1 l0_1.length c0_1]) (t := 35) ?hr ?_; (case hd => rfl); (case hg => rfl); (case hr => exact tG); intro gb450 hg w10 hbox hb; have BK450 := Aside0.mk (hbox); have GW450 := gW HB hg; have GE450 := gW HB hg; replace HB := bH HB hb; clear hb hbox hg; obtain ⟨hcz11_0, hcz11_1, hfz11_0, hfz11_1⟩ := bc2 BK450.out) | (go_at_call 77; (with_reducible refine (impl_findClaim.calls k a0_0 _ _ l0_1 a1 t451 _ ?side1 ?side2 A3.out).mono ?_); (case side1 => exact tC (Kd.C_below HR0_1.out HB.out)); (case side2 => exact HC0_1.out); rintro e w12 ⟨rfl, hb⟩; replace BK450 := bB BK450 hb; replace HB := bH HB hb; (try clear hb); (try clear hb2); (try clear hk); (try clear hi); obtain ⟨hcz13_0, hcz13_1, hfz13_0, hfz13_1⟩ := bc2 BK450.out; have p452 : 0 ≤ (t451 : Int) := of_decide_eq_true tA; have q452 : t451 < (l0_1.length : Int) := of_decide_eq_true tA; obtain ⟨ad452, e452, hx452_0, hx452_1, hx452_2, hx452_3, hx452_4, hx452_5⟩ := at_T104 HR0_1.out t451 p452 q452; cases e452; replace hx452_0 := hbc HB hx452_0; replace hx452_1 := hbc HB hx452_1; replace hx452_2 := hbc HB hx452_2; replace hx452_3 := hbc HB hx452_3; replace hx452_4 := hbc HB hx452_4; replace hx452_5 := hbc HB hx452_5; replace p452 := eq_true p452; replace q452 := eq_true q452; have p453 : 0 ≤ (t451 : Int) := of_decide_eq_true tA; have q453 : t451 < (l0_1.length : Int) := of_decide_eq_true tA; obtain ⟨ad453, e453, hx453_0, hx453_1, hx453_2, hx453_3, hx453_4, hx453_5⟩ := at_T104 HR0_1.out t451 p453 q453; obtain rfl : ad452 = ad453 := (by injection e453); replace hx453_0 := hbc HB hx453_0; replace hx453_1 := hbc HB hx453_1; replace hx453_2 := hbc HB hx453_2; replace hx453_3 := hbc HB hx453_3; replace hx453_4 := hbc HB hx453_4; replace hx453_5 := hbc HB hx453_5; replace p453 := eq_true p453; replace q453 := eq_true q453)); try go_wp2_with (first | ((with_reducible refine gate_dst (N := 2) rfl ?_); refine box_event ?hg (N := 2) ?hd (cs := #[.int .i64 a0_0, .slice A0_1 l0_1.length c0_1]) (t := 35) ?hr ?_; (case hd => rfl); (case hg => rfl); (case hr => exact tG); intro gb450 hg w10 hbox hb; have BK450 := Aside0.mk (hbox); have GW450 := gW HB hg; have GE450 := gW HB hg; replace HB := bH HB hb; clear hb hbox hg; obtain ⟨hcz11_0, hcz11_1, hfz11_0, hfz11_1⟩ := bc2 BK450.out) | (go_at_call 77; (with_reducible refine (impl_findClaim.calls k a0_0 _ _ l0_1 a1 t451 _ ?side1 ?side2 A3.out).mono ?_); (case side1 => exact tC (Kd.C_below HR0_1.out HB.out)); (case side2 => exact HC0_1.out); rintro e w12 ⟨rfl, hb⟩; replace BK450 := bB BK450 hb; replace HB := bH HB hb; (try clear hb); (try clear hb2); (try clear hk); (try clear hi); obtain ⟨hcz13_0, hcz13_1, hfz13_0, hfz13_1⟩ := bc2 BK450.out; have p452 : 0 ≤ (t451 : Int) := of_decide_eq_true tA; have q452 : t451 < (l0_1.length : Int) := of_decide_eq_true tA; obtain ⟨ad452, e452, hx452_0, hx452_1, hx452_2, hx452_3, hx452_4, hx452_5⟩ := at_T104 HR0_1.out t451 p452 q452; cases e452; replace hx452_0 := hbc HB hx452_0; replace hx452_1 := hbc HB hx452_1; replace hx452_2 := hbc HB hx452_2; replace hx452_3 := hbc HB hx452_3; replace hx452_4 := hbc HB hx452_4; replace hx452_5 := hbc HB hx452_5; replace p452 := eq_true p452; replace q452 := eq_true q452; have p453 : 0 ≤ (t451 : Int) := of_decide_eq_true tA; have q453 : t451 < (l0_1.length : Int) := of_decide_eq_true tA; obtain ⟨ad453, e453, hx453_0, hx453_1, hx453_2, hx453_3, hx453_4, hx453_5⟩ := at_T104 HR0_1.out t451 p453 q453; obtain rfl : ad452 = ad453 := (by injection e453); replace hx453_0 := hbc HB hx453_0; replace hx453_1 := hbc HB hx453_1; replace hx453_2 := hbc HB hx453_2; replace hx453_3 := hbc HB hx453_3; replace hx453_4 := hbc HB hx453_4; replace hx453_5 := hbc HB hx453_5; replace p453 := eq_true p453; replace q453 := eq_true q453)))
   go_ret
   exact ⟨tE, tB⟩
  rw [if_neg c9] at H
  exact absurd H (by simp)
 rw [if_neg c8] at H
 exact absurd H (by simp)

end Go.Proofs.Ytjggdakbphjomaa.ZFnClaims
