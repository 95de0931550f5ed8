/- The machine side: for each Go function a Lean function and the contract that the Go code answers as it does; printed by program (wip/tmpl/pprint.sh). -/
import Derived.Test.YtanoaneoanpkkaaZFnExactSignHeadx0
import Derived.Test.YtanoaneoanpkkaaZFnExactSignHeadx1
import Derived.Test.YtanoaneoanpkkaaZFnExactSignHeadx2
import Derived.Test.YtanoaneoanpkkaaZFnExactSignHeadx3
import Derived.Test.YtanoaneoanpkkaaZFnExactSignHeadx4
import Derived.Test.YtanoaneoanpkkaaZFnExactSignHeadx5
namespace Go.Proofs.Ytanoaneoanpkkaa.ZFnExactSignHead
open Go.RowKit Go.Proofs.YtanoaneoanpkkaaW.PrintWords Go.Proofs.YtanoaneoanpkkaaW.PrintLast Go.Proofs.YtanoaneoanpkkaaW.PrintMore
attribute [local go_sem] max2_int min2_int max_two min_two max_three min_three max_four min_four   -- for this text's walks alone
set_option linter.unusedVariables false
set_option linter.unusedSimpArgs false

/-! ### laws_FnExactSignHead: function 11 -/
def laws_FnExactSignHead.j0 : Nat → Bool → List Int → List Int → Option (Bool)
 | 0, _, _, _ => none
 | k + 1, x51, x227000, x248000 => if x51 = true then (some false) else ((laws_toPublicLog.f k x227000).bind fun t263 => ((laws_eqPublicLog.f k x248000 t263).bind fun t266 => (if t266 = true then (some true) else (some false))))
def laws_FnExactSignHead.f (k : Nat) (a0_0 : Int) (a0_1 : Int) (a0_2 : Int) (l1_0 : List Int) : Option (Bool) := (laws_szPublicLog.f l1_0 1048576).bind fun t227 => (if t227 < 0 then (some true) else ((laws_toWitness.f a0_0 a0_1 a0_2).bind fun bt228 => ((laws_toPublicLog.f k l1_0).bind fun t231 => ((spec_SignHead.f k bt228.1 bt228.2.1 bt228.2.2 t231).bind fun bt234 => ((laws_toPublicLog.f k l1_0).bind fun t244 => ((laws_toWitness.f a0_0 a0_1 a0_2).bind fun bt248 => ((impl_SignHead.f k bt248.1 bt248.2.1 bt248.2.2 t244).bind fun bt251 => ((laws_eqWitness.f bt251.1 bt251.2.1 bt251.2.2.1 bt234.1 bt234.2.1 bt234.2.2.1).bind fun t261 => (if t261 = true then ((laws_eqSignedHead.f bt251.2.2.2.1 bt251.2.2.2.2.1 bt251.2.2.2.2.2.1 bt251.2.2.2.2.2.2.1 bt234.2.2.2.1 bt234.2.2.2.2.1 bt234.2.2.2.2.2.1 bt234.2.2.2.2.2.2.1).bind fun t262 => (if t262 = true then (laws_FnExactSignHead.j0 k (bt251.2.2.2.2.2.2.2 != bt234.2.2.2.2.2.2.2) l1_0 t244) else (laws_FnExactSignHead.j0 k true l1_0 t244))) else (laws_FnExactSignHead.j0 k true l1_0 t244))))))))))
theorem laws_FnExactSignHead.mono_l : ∀ k, (∀ y0 y1 y2, LeO (laws_FnExactSignHead.j0 k y0 y1 y2) (laws_FnExactSignHead.j0 (k + 1) y0 y1 y2))
 | 0 => fun _ _ _ r h => by simp [laws_FnExactSignHead.j0] at h
 | k + 1 => by
  have ih0 := laws_FnExactSignHead.mono_l k
  ·intro y0 y1 y2
   unfold laws_FnExactSignHead.j0
   repeat' first
   | (with_reducible exact ih0 _ _ _)
   | (with_reducible exact impl_SignHead.mono _ _ _ _ _)
   | (with_reducible exact laws_eqPublicLog.mono _ _ _)
   | (with_reducible exact laws_toPublicLog.mono _ _)
   | (with_reducible exact spec_SignHead.mono _ _ _ _ _)
   | (with_reducible exact LeO.refl _)
   | (with_reducible exact LeO.none _)
   | (with_reducible refine LeO.ite ?_ ?_)
   | (with_reducible refine LeO.bind ?_ (fun _ => ?_))
   | exact ih0 _ _ _
   | exact impl_SignHead.mono _ _ _ _ _
   | exact laws_eqPublicLog.mono _ _ _
   | exact laws_toPublicLog.mono _ _
   | exact spec_SignHead.mono _ _ _ _ _
   | exact LeO.none _
   | refine LeO.ite ?_ ?_
   | refine LeO.bind ?_ (fun _ => ?_)
theorem laws_FnExactSignHead.mono : ∀ a0 a1 a2 a3 k, LeO (laws_FnExactSignHead.f k a0 a1 a2 a3) (laws_FnExactSignHead.f (k + 1) a0 a1 a2 a3) := by
 intro a0 a1 a2 a3 k
 have ih0 := laws_FnExactSignHead.mono_l k
 unfold laws_FnExactSignHead.f
 repeat' first
   | (with_reducible exact ih0 _ _ _)
   | (with_reducible exact impl_SignHead.mono _ _ _ _ _)
   | (with_reducible exact laws_eqPublicLog.mono _ _ _)
   | (with_reducible exact laws_toPublicLog.mono _ _)
   | (with_reducible exact spec_SignHead.mono _ _ _ _ _)
   | (with_reducible exact LeO.refl _)
   | (with_reducible exact LeO.none _)
   | (with_reducible refine LeO.ite ?_ ?_)
   | (with_reducible refine LeO.bind ?_ (fun _ => ?_))
   | exact ih0 _ _ _
   | exact impl_SignHead.mono _ _ _ _ _
   | exact laws_eqPublicLog.mono _ _ _
   | exact laws_toPublicLog.mono _ _
   | exact spec_SignHead.mono _ _ _ _ _
   | exact LeO.none _
   | refine LeO.ite ?_ ?_
   | refine LeO.bind ?_ (fun _ => ?_)
def laws_FnExactSignHead.T5 : Bool × List (List Nat × List Nat) := (true, [([], []), ([0], [0]), ([], []), ([2, 1], [2]), ([1, 3, 3], [1, 3]), ([4], [4]), ([5], [5]), ([5], [5]), ([5], [5]), ([], []), ([], []), ([9, 6, 4, 0, 1, 2, 3, 4, 5, 6, 9, 10], [6, 9]), ([10, 7, 11, 0, 1, 2, 3, 4, 5, 6, 7, 9, 10, 11], [7, 10]), ([8, 12, 0, 1, 2, 3, 4, 5, 6, 7, 8, 9, 10, 11, 12], [8])])
def laws_FnExactSignHead.B5 : List Nat := [0, 1, 0, 7, 15, 31, 63, 63, 63, 0, 0, 1663, 3839, 8191]
theorem laws_FnExactSignHead.tab5 : rtab .any (opsOf Try.f11 5) = laws_FnExactSignHead.T5 := by kernel_rfl
theorem laws_FnExactSignHead.bits5 : waitsOk laws_FnExactSignHead.T5.2 laws_FnExactSignHead.B5 = true := by kernel_rfl
def laws_FnExactSignHead.T7 : Bool × List (List Nat × List Nat) := (true, [([], []), ([0], [0]), ([], []), ([1, 2, 1], [1, 2]), ([3], [3]), ([4], [4]), ([4], [4]), ([4], [4]), ([], []), ([], []), ([8, 5, 3, 0, 1, 2, 3, 4, 5, 8, 9], [5, 8]), ([9, 6, 10, 0, 1, 2, 3, 4, 5, 6, 8, 9, 10], [6, 9]), ([7, 11, 0, 1, 2, 3, 4, 5, 6, 7, 8, 9, 10, 11], [7])])
def laws_FnExactSignHead.B7 : List Nat := [0, 1, 0, 7, 15, 31, 31, 31, 0, 0, 831, 1919, 4095]
theorem laws_FnExactSignHead.tab7 : rtab .any (opsOf Try.f11 7) = laws_FnExactSignHead.T7 := by kernel_rfl
theorem laws_FnExactSignHead.bits7 : waitsOk laws_FnExactSignHead.T7.2 laws_FnExactSignHead.B7 = true := by kernel_rfl
set_option maxHeartbeats 8000000 in
set_option maxRecDepth 100000 in
theorem laws_FnExactSignHead.calls (k : Nat) (a0_0 : Int) (a0_1 : Int) (a0_2 : Int) (A1_0 : Option Addr) (c1_0 : Nat) (l1_0 : List Int) (r : Bool) (w : World) (hr1_0 : Kd.C (Kd.int .i64) w A1_0 l1_0.length l1_0) (hc1_0 : l1_0.length ≤ c1_0) (hT_ : r = true) (h : laws_FnExactSignHead.f k a0_0 a0_1 a0_2 l1_0 = some r) :
  Calls Try.prog 11 #[.agg #[.int .i64 a0_0, .int .i64 a0_1, .int .i64 a0_2], .agg #[.slice A1_0 l1_0.length c1_0]] w fun e w' => e = .returned (.bool r) ∧ Below w.heap.size w w' := by
 have hu92 := Try.underlying92
 have hu94 := Try.underlying94
 have hu96 := Try.underlying96
 have hu40 := Try.underlying40
 have hu100 := Try.underlying100
 have HR1_0 := Aside0.mk hr1_0
 have HC1_0 := Aside0.mk hc1_0
 clear hr1_0 hc1_0
 have HB := Aside0.mk (Below.refl w.heap.size w)
 have H : ((laws_szPublicLog.f l1_0 1048576).bind fun t227 => (if t227 < 0 then (some true) else ((laws_toWitness.f a0_0 a0_1 a0_2).bind fun bt228 => ((laws_toPublicLog.f k l1_0).bind fun t231 => ((spec_SignHead.f k bt228.1 bt228.2.1 bt228.2.2 t231).bind fun bt234 => ((laws_toPublicLog.f k l1_0).bind fun t244 => ((laws_toWitness.f a0_0 a0_1 a0_2).bind fun bt248 => ((impl_SignHead.f k bt248.1 bt248.2.1 bt248.2.2 t244).bind fun bt251 => ((laws_eqWitness.f bt251.1 bt251.2.1 bt251.2.2.1 bt234.1 bt234.2.1 bt234.2.2.1).bind fun t261 => (if t261 = true then ((laws_eqSignedHead.f bt251.2.2.2.1 bt251.2.2.2.2.1 bt251.2.2.2.2.2.1 bt251.2.2.2.2.2.2.1 bt234.2.2.2.1 bt234.2.2.2.2.1 bt234.2.2.2.2.2.1 bt234.2.2.2.2.2.2.1).bind fun t262 => (if t262 = true then (laws_FnExactSignHead.j0 k (bt251.2.2.2.2.2.2.2 != bt234.2.2.2.2.2.2.2) l1_0 t244) else (laws_FnExactSignHead.j0 k true l1_0 t244))) else (laws_FnExactSignHead.j0 k true l1_0 t244))))))))))) = some r := h
 clear h
 replace H := Option.bind_eq_some_iff.mp H
 obtain ⟨t227, A30, H⟩ := H
 replace H : (if t227 < 0 then (some true) else ((laws_toWitness.f a0_0 a0_1 a0_2).bind fun bt228 => ((laws_toPublicLog.f k l1_0).bind fun t231 => ((spec_SignHead.f k bt228.1 bt228.2.1 bt228.2.2 t231).bind fun bt234 => ((laws_toPublicLog.f k l1_0).bind fun t244 => ((laws_toWitness.f a0_0 a0_1 a0_2).bind fun bt248 => ((impl_SignHead.f k bt248.1 bt248.2.1 bt248.2.2 t244).bind fun bt251 => ((laws_eqWitness.f bt251.1 bt251.2.1 bt251.2.2.1 bt234.1 bt234.2.1 bt234.2.2.1).bind fun t261 => (if t261 = true then ((laws_eqSignedHead.f bt251.2.2.2.1 bt251.2.2.2.2.1 bt251.2.2.2.2.2.1 bt251.2.2.2.2.2.2.1 bt234.2.2.2.1 bt234.2.2.2.2.1 bt234.2.2.2.2.2.1 bt234.2.2.2.2.2.2.1).bind fun t262 => (if t262 = true then (laws_FnExactSignHead.j0 k (bt251.2.2.2.2.2.2.2 != bt234.2.2.2.2.2.2.2) l1_0 t244) else (laws_FnExactSignHead.j0 k true l1_0 t244))) else (laws_FnExactSignHead.j0 k true l1_0 t244)))))))))) = some r := H
 have A3 := Aside0.mk A30
 clear A30
 by_cases c4 : t227 < 0
 ·rw [if_pos c4] at H
  have c4b0 : decide (t227 < 0) = true := decide_eq_true c4
  clear c4
  obtain rfl := Option.some.inj H
  go_enter Try.func11, Try.ntmps11
  go_wp2_with (first | ((with_reducible refine gate_dst (N := 2) rfl ?_); refine box_event ?hg (N := 2) ?hd (cs := #[.int .i64 a0_0, .int .i64 a0_1, .int .i64 a0_2]) (t := 92) ?hr ?_; (case hd => rfl); (case hg => rfl); (case hr => exact tG); intro gb225 hg w5 hbox hb; have BK225 := Aside0.mk (hbox); have GW225 := gW HB hg; have GE225 := gW HB hg; replace HB := bH HB hb; clear hb hbox hg) | ((with_reducible refine gate_dst (N := 3) rfl ?_); refine box_event ?hg (N := 3) ?hd (cs := #[.slice A1_0 l1_0.length c1_0]) (t := 94) ?hr ?_; (case hd => rfl); (case hg => rfl); (case hr => exact tG); intro gb226 hg w6 hbox hb; have BK226 := Aside0.mk (hbox); have GW226 := gW HB hg; have GE226 := gW HB hg; replace HB := bH HB hb; have NB225_226 := nL BK225 hg; have NB226_225 := nR BK225 hg; replace BK225 := bB BK225 hb; clear hb hbox hg; have hnb7 := NB226_225.out; have hnc7 := NB225_226.out; obtain ⟨hcz8_0, hfz8_0⟩ := bc1 BK226.out) | ((with_reducible refine gate_callee (f := 59) rfl ?_); refine goesL_ (some 15) rfl rfl Try.func59 (by kernel_rfl) rfl #[.agg #[.slice A1_0 l1_0.length c1_0], .int .i64 1048576] rfl tL ?_; (with_reducible refine (laws_szPublicLog.calls _ _ l1_0 1048576 t227 _ ?side1 ?side2 A3.out).mono ?_); (case side1 => repeat (first | exact (Kd.C_below HR1_0.out HB.out) | (with_reducible refine Kd.C_alloc ?_ _) | (with_reducible refine Kd.C_drewN ?_ _) | (with_reducible refine Kd.C_drew ?_))); (case side2 => exact HC1_0.out); rintro e w9 ⟨rfl, hb⟩; refine ⟨_, rfl, ?_⟩; replace BK225 := bB BK225 hb; replace BK226 := bB BK226 hb; replace HB := bH HB hb; (try clear hb); (try clear hb2); (try clear hk); (try clear hi)))
  go_ret
  exact ⟨tE, tB⟩
 ·rw [if_neg c4] at H
  have c4b0 : decide (t227 < 0) = false := decide_eq_false c4
  clear c4
  replace H := Option.bind_eq_some_iff.mp H
  obtain ⟨⟨t228, t229, t230⟩, A100, H⟩ := H
  replace H : ((laws_toPublicLog.f k l1_0).bind fun t231 => ((spec_SignHead.f k t228 t229 t230 t231).bind fun bt234 => ((laws_toPublicLog.f k l1_0).bind fun t244 => ((laws_toWitness.f a0_0 a0_1 a0_2).bind fun bt248 => ((impl_SignHead.f k bt248.1 bt248.2.1 bt248.2.2 t244).bind fun bt251 => ((laws_eqWitness.f bt251.1 bt251.2.1 bt251.2.2.1 bt234.1 bt234.2.1 bt234.2.2.1).bind fun t261 => (if t261 = true then ((laws_eqSignedHead.f bt251.2.2.2.1 bt251.2.2.2.2.1 bt251.2.2.2.2.2.1 bt251.2.2.2.2.2.2.1 bt234.2.2.2.1 bt234.2.2.2.2.1 bt234.2.2.2.2.2.1 bt234.2.2.2.2.2.2.1).bind fun t262 => (if t262 = true then (laws_FnExactSignHead.j0 k (bt251.2.2.2.2.2.2.2 != bt234.2.2.2.2.2.2.2) l1_0 t244) else (laws_FnExactSignHead.j0 k true l1_0 t244))) else (laws_FnExactSignHead.j0 k true l1_0 t244)))))))) = some r := H
  have A10 := Aside0.mk A100
  clear A100
  replace H := Option.bind_eq_some_iff.mp H
  obtain ⟨t231, A110, H⟩ := H
  replace H : ((spec_SignHead.f k t228 t229 t230 t231).bind fun bt234 => ((laws_toPublicLog.f k l1_0).bind fun t244 => ((laws_toWitness.f a0_0 a0_1 a0_2).bind fun bt248 => ((impl_SignHead.f k bt248.1 bt248.2.1 bt248.2.2 t244).bind fun bt251 => ((laws_eqWitness.f bt251.1 bt251.2.1 bt251.2.2.1 bt234.1 bt234.2.1 bt234.2.2.1).bind fun t261 => (if t261 = true then ((laws_eqSignedHead.f bt251.2.2.2.1 bt251.2.2.2.2.1 bt251.2.2.2.2.2.1 bt251.2.2.2.2.2.2.1 bt234.2.2.2.1 bt234.2.2.2.2.1 bt234.2.2.2.2.2.1 bt234.2.2.2.2.2.2.1).bind fun t262 => (if t262 = true then (laws_FnExactSignHead.j0 k (bt251.2.2.2.2.2.2.2 != bt234.2.2.2.2.2.2.2) l1_0 t244) else (laws_FnExactSignHead.j0 k true l1_0 t244))) else (laws_FnExactSignHead.j0 k true l1_0 t244))))))) = some r := H
  have A11 := Aside0.mk A110
  clear A110
  replace H := Option.bind_eq_some_iff.mp H
  obtain ⟨⟨t234, t235, t236, t237, t238, t239, t240, t241⟩, A120, H⟩ := H
  replace H : ((laws_toPublicLog.f k l1_0).bind fun t244 => ((laws_toWitness.f a0_0 a0_1 a0_2).bind fun bt248 => ((impl_SignHead.f k bt248.1 bt248.2.1 bt248.2.2 t244).bind fun bt251 => ((laws_eqWitness.f bt251.1 bt251.2.1 bt251.2.2.1 t234 t235 t236).bind fun t261 => (if t261 = true then ((laws_eqSignedHead.f bt251.2.2.2.1 bt251.2.2.2.2.1 bt251.2.2.2.2.2.1 bt251.2.2.2.2.2.2.1 t237 t238 t239 t240).bind fun t262 => (if t262 = true then (laws_FnExactSignHead.j0 k (bt251.2.2.2.2.2.2.2 != t241) l1_0 t244) else (laws_FnExactSignHead.j0 k true l1_0 t244))) else (laws_FnExactSignHead.j0 k true l1_0 t244)))))) = some r := H
  have A12 := Aside0.mk A120
  clear A120
  replace H := Option.bind_eq_some_iff.mp H
  obtain ⟨t244, A130, H⟩ := H
  replace H : ((laws_toWitness.f a0_0 a0_1 a0_2).bind fun bt248 => ((impl_SignHead.f k bt248.1 bt248.2.1 bt248.2.2 t244).bind fun bt251 => ((laws_eqWitness.f bt251.1 bt251.2.1 bt251.2.2.1 t234 t235 t236).bind fun t261 => (if t261 = true then ((laws_eqSignedHead.f bt251.2.2.2.1 bt251.2.2.2.2.1 bt251.2.2.2.2.2.1 bt251.2.2.2.2.2.2.1 t237 t238 t239 t240).bind fun t262 => (if t262 = true then (laws_FnExactSignHead.j0 k (bt251.2.2.2.2.2.2.2 != t241) l1_0 t244) else (laws_FnExactSignHead.j0 k true l1_0 t244))) else (laws_FnExactSignHead.j0 k true l1_0 t244))))) = some r := H
  have A13 := Aside0.mk A130
  clear A130
  replace H := Option.bind_eq_some_iff.mp H
  obtain ⟨⟨t248, t249, t250⟩, A140, H⟩ := H
  replace H : ((impl_SignHead.f k t248 t249 t250 t244).bind fun bt251 => ((laws_eqWitness.f bt251.1 bt251.2.1 bt251.2.2.1 t234 t235 t236).bind fun t261 => (if t261 = true then ((laws_eqSignedHead.f bt251.2.2.2.1 bt251.2.2.2.2.1 bt251.2.2.2.2.2.1 bt251.2.2.2.2.2.2.1 t237 t238 t239 t240).bind fun t262 => (if t262 = true then (laws_FnExactSignHead.j0 k (bt251.2.2.2.2.2.2.2 != t241) l1_0 t244) else (laws_FnExactSignHead.j0 k true l1_0 t244))) else (laws_FnExactSignHead.j0 k true l1_0 t244)))) = some r := H
  have A14 := Aside0.mk A140
  clear A140
  replace H := Option.bind_eq_some_iff.mp H
  obtain ⟨⟨t251, t252, t253, t254, t255, t256, t257, t258⟩, A150, H⟩ := H
  replace H : ((laws_eqWitness.f t251 t252 t253 t234 t235 t236).bind fun t261 => (if t261 = true then ((laws_eqSignedHead.f t254 t255 t256 t257 t237 t238 t239 t240).bind fun t262 => (if t262 = true then (laws_FnExactSignHead.j0 k (t258 != t241) l1_0 t244) else (laws_FnExactSignHead.j0 k true l1_0 t244))) else (laws_FnExactSignHead.j0 k true l1_0 t244))) = some r := H
  have A15 := Aside0.mk A150
  clear A150
  have HC16 := Aside0.mk H
  clear H
  go_enter Try.func11, Try.ntmps11
  try go_wp2_with (first | ((with_reducible refine gate_dst (N := 2) rfl ?_); refine box_event ?hg (N := 2) ?hd (cs := #[.int .i64 a0_0, .int .i64 a0_1, .int .i64 a0_2]) (t := 92) ?hr ?_; (case hd => rfl); (case hg => rfl); (case hr => exact tG); intro gb225 hg w17 hbox hb; have BK225 := Aside0.mk (hbox); have GW225 := gW HB hg; have GE225 := gW HB hg; replace HB := bH HB hb; clear hb hbox hg) | ((with_reducible refine gate_dst (N := 3) rfl ?_); refine box_event ?hg (N := 3) ?hd (cs := #[.slice A1_0 l1_0.length c1_0]) (t := 94) ?hr ?_; (case hd => rfl); (case hg => rfl); (case hr => exact tG); intro gb226 hg w18 hbox hb; have BK226 := Aside0.mk (hbox); have GW226 := gW HB hg; have GE226 := gW HB hg; replace HB := bH HB hb; have NB225_226 := nL BK225 hg; have NB226_225 := nR BK225 hg; replace BK225 := bB BK225 hb; clear hb hbox hg; have hnb19 := NB226_225.out; have hnc19 := NB225_226.out; obtain ⟨hcz20_0, hfz20_0⟩ := bc1 BK226.out) | ((with_reducible refine gate_callee (f := 59) rfl ?_); refine goesL_ (some 15) rfl rfl Try.func59 (by kernel_rfl) rfl #[.agg #[.slice A1_0 l1_0.length c1_0], .int .i64 1048576] rfl tL ?_; (with_reducible refine (laws_szPublicLog.calls _ _ l1_0 1048576 t227 _ ?side1 ?side2 A3.out).mono ?_); (case side1 => repeat (first | exact (Kd.C_below HR1_0.out HB.out) | (with_reducible refine Kd.C_alloc ?_ _) | (with_reducible refine Kd.C_drewN ?_ _) | (with_reducible refine Kd.C_drew ?_))); (case side2 => exact HC1_0.out); rintro e w21 ⟨rfl, hb⟩; refine ⟨_, rfl, ?_⟩; replace BK225 := bB BK225 hb; replace BK226 := bB BK226 hb; replace HB := bH HB hb; (try clear hb); (try clear hb2); (try clear hk); (try clear hi)))
  replace BK225 := Aside0.mk (blk_drew BK225.out)
  replace BK226 := Aside0.mk (blk_drew BK226.out)
  replace HB := Aside0.mk (below_drew1 HB.out)
  refine start_ (n := 14) (S := fun w' => w'.cell? ⟨gb225, 0, none⟩ = some (.int .i64 a0_0) ∧ w'.cell? ⟨gb225, 1, none⟩ = some (.int .i64 a0_1) ∧ w'.cell? ⟨gb225, 2, none⟩ = some (.int .i64 a0_2) ∧ w'.cell? ⟨gb226, 0, none⟩ = some (.slice A1_0 l1_0.length c1_0)) (ds := []) #[false, false, false, false, false, false, false, false, false, false, false, false, false, false] (by kernel_rfl) rfl rfl ⟨(blk_cell BK225.out 0).trans rfl, (blk_cell BK225.out 1).trans rfl, (blk_cell BK225.out 2).trans rfl, (blk_cell BK226.out 0).trans rfl⟩ (fun hHeld => ?_); refine with_tabW laws_FnExactSignHead.tab5 laws_FnExactSignHead.bits5 (fun HT_ HW_ => ?_)
  generalize w21.drew = w22 at BK225 BK226 HB hHeld ⊢
  refine take_ (i := 0) (N := some 19) (v := ?_) (a' := ?_) #[true, false, false, false, false, false, false, false, false, false, false, false, false, false] rfl rfl (take_ofW HT_.out HW_.out (by kernel_rfl)) (fun _ _ _ h => h) (Or.inl ⟨by rfl, ?_⟩) hHeld ?_ ?_
  rotate_left
  ·rintro w' ⟨s0, s1, s2, s3⟩
   go_simp
   with_reducible rfl
  rotate_left
  ·simp only [Act.put, List.setIfInBounds_toArray, List.set_cons_zero, List.set_cons_succ, i64_w, i32_w]
   rfl
  refine take_ (i := 2) (N := some 21) (v := ?_) (a' := ?_) #[true, false, true, false, false, false, false, false, false, false, false, false, false, false] rfl rfl (take_ofW HT_.out HW_.out (by kernel_rfl)) (fun _ _ _ h => h) (Or.inl ⟨by rfl, ?_⟩) hHeld ?_ ?_
  rotate_left
  ·rintro w' ⟨s0, s1, s2, s3⟩
   go_simp
   with_reducible rfl
  rotate_left
  ·simp only [Act.put, List.setIfInBounds_toArray, List.set_cons_zero, List.set_cons_succ, i64_w, i32_w]
   rfl
  refine join_ (σ := Value × Nat × Nat) 3 #[true, true, true, true, true, true, true, true, true, true, true, false, false, false] (fun s_ => [(20, .agg #[.int .i64 t228, .int .i64 t229, .int .i64 t230]), (22, .agg #[s_.1]), (23, .tuple #[.agg #[.int .i64 t234, .int .i64 t235, .int .i64 t236], .agg #[.int .i64 t237, .int .i64 t238, .int .i64 t239, .int .i64 t240], .bool t241]), (6, .pointer (some ⟨s_.2.1, 0, none⟩)), (7, .pointer (some ⟨s_.2.2, 0, none⟩)), (18, .tuple #[.agg #[.int .i64 t234, .int .i64 t235, .int .i64 t236], .agg #[.int .i64 t237, .int .i64 t238, .int .i64 t239, .int .i64 t240], .bool t241]), (24, .agg #[.int .i64 t234, .int .i64 t235, .int .i64 t236]), (25, .agg #[.int .i64 t237, .int .i64 t238, .int .i64 t239, .int .i64 t240]), (26, .bool t241)]) (fun s_ w' => (w'.cell? ⟨gb225, 0, none⟩ = some (.int .i64 a0_0) ∧ w'.cell? ⟨gb225, 1, none⟩ = some (.int .i64 a0_1) ∧ w'.cell? ⟨gb225, 2, none⟩ = some (.int .i64 a0_2) ∧ w'.cell? ⟨gb226, 0, none⟩ = some (.slice A1_0 l1_0.length c1_0)) ∧ (Kd.R (Kd.int .i64) 3 w' w.heap.size (fun _ => True) s_.1 t231) ∧ (w'.heap[gb225]? = some (.cells #[.int .i64 a0_0, .int .i64 a0_1, .int .i64 a0_2] 92 (0, 0))) ∧ (w'.heap[gb226]? = some (.cells #[.slice A1_0 l1_0.length c1_0] 94 (0, 0))) ∧ (w'.heap[s_.2.1]? = some (.cells #[.int .i64 0, .int .i64 0, .int .i64 0] 96 (0, 0))) ∧ (w'.heap[s_.2.2]? = some (.cells #[.int .i64 0, .int .i64 0, .int .i64 0, .int .i64 0] 40 (0, 0))) ∧ (w.heap.size ≤ s_.2.1) ∧ (w.heap.size ≤ s_.2.1) ∧ (gb225 ≠ s_.2.1) ∧ (s_.2.1 ≠ gb225) ∧ (gb226 ≠ s_.2.1) ∧ (s_.2.1 ≠ gb226) ∧ (s_.2.2 ≠ s_.2.1) ∧ (s_.2.1 ≠ s_.2.2) ∧ (w.heap.size ≤ s_.2.2) ∧ (w.heap.size ≤ s_.2.2) ∧ (gb225 ≠ s_.2.2) ∧ (s_.2.2 ≠ gb225) ∧ (gb226 ≠ s_.2.2) ∧ (s_.2.2 ≠ gb226) ∧ (Below w.heap.size w w')) ?_ ?_
  ·rintro ⟨v232, gb242, gb243⟩ w29 hS_
   dsimp only at hS_
   obtain ⟨hHeld, h0_, h1_, h2_, h3_, h4_, h5_, h6_, h7_, h8_, h9_, h10_, h11_, h12_, h13_, h14_, h15_, h16_, h17_, h18_, h19_⟩ := hS_
   have HO233 := Aside0.mk h0_
   replace BK225 := Aside0.mk h1_
   replace BK226 := Aside0.mk h2_
   have BK242 := Aside0.mk h3_
   have BK243 := Aside0.mk h4_
   have GW242 := Aside0.mk h5_
   have GE242 := Aside0.mk h6_
   have NB225_242 := Aside0.mk h7_
   have NB242_225 := Aside0.mk h8_
   have NB226_242 := Aside0.mk h9_
   have NB242_226 := Aside0.mk h10_
   have NB243_242 := Aside0.mk h11_
   have NB242_243 := Aside0.mk h12_
   have GW243 := Aside0.mk h13_
   have GE243 := Aside0.mk h14_
   have NB225_243 := Aside0.mk h15_
   have NB243_225 := Aside0.mk h16_
   have NB226_243 := Aside0.mk h17_
   have NB243_226 := Aside0.mk h18_
   replace HB := Aside0.mk h19_
   clear h0_ h1_ h2_ h3_ h4_ h5_ h6_ h7_ h8_ h9_ h10_ h11_ h12_ h13_ h14_ h15_ h16_ h17_ h18_ h19_
   refine norm_ tM ?_
   refine one_ (i := 11) (N := none) #[true, true, true, true, true, true, true, true, true, true, true, true, false, false] rfl rfl (one_of HT_.out (by kernel_rfl)) (by decide) (fun K hK => ?_)
   have hs30 : w29.cell? ⟨gb242, 0, none⟩ = some (.int .i64 0) := (blk_cell BK242.out 0).trans rfl
   have hfs30 := blk_frozen BK242.out 0
   have hns30_0 := NB225_242.out
   have hns30_1 := NB226_242.out
   have hns30_3 := NB243_242.out
   have hms30_0 := NB242_225.out
   have hms30_1 := NB242_226.out
   have hms30_3 := NB242_243.out
   have hs31 : w29.cell? ⟨gb242, 1, none⟩ = some (.int .i64 0) := (blk_cell BK242.out 1).trans rfl
   have hfs31 := blk_frozen BK242.out 1
   have hns31_0 := NB225_242.out
   have hns31_1 := NB226_242.out
   have hns31_3 := NB243_242.out
   have hms31_0 := NB242_225.out
   have hms31_1 := NB242_226.out
   have hms31_3 := NB242_243.out
   have hs32 : w29.cell? ⟨gb242, 2, none⟩ = some (.int .i64 0) := (blk_cell BK242.out 2).trans rfl
   have hfs32 := blk_frozen BK242.out 2
   have hns32_0 := NB225_242.out
   have hns32_1 := NB226_242.out
   have hns32_3 := NB243_242.out
   have hms32_0 := NB242_225.out
   have hms32_1 := NB242_226.out
   have hms32_3 := NB242_243.out
   refine skip_ (w1 := ?_) (by rfl) rfl ?_ ?_
   rotate_left
   ·go_simp
    rfl
   refine hK.out _ _ ⟨((cell_far (p := ⟨gb242, _, none⟩) NB225_242.out _).trans (((cell_far (p := ⟨gb242, _, none⟩) NB225_242.out _).trans (((cell_far (p := ⟨gb242, _, none⟩) NB225_242.out _).trans (hHeld.1)))))), ((cell_far (p := ⟨gb242, _, none⟩) NB225_242.out _).trans (((cell_far (p := ⟨gb242, _, none⟩) NB225_242.out _).trans (((cell_far (p := ⟨gb242, _, none⟩) NB225_242.out _).trans (hHeld.2.1)))))), ((cell_far (p := ⟨gb242, _, none⟩) NB225_242.out _).trans (((cell_far (p := ⟨gb242, _, none⟩) NB225_242.out _).trans (((cell_far (p := ⟨gb242, _, none⟩) NB225_242.out _).trans (hHeld.2.2.1)))))), ((cell_far (p := ⟨gb242, _, none⟩) NB226_242.out _).trans (((cell_far (p := ⟨gb242, _, none⟩) NB226_242.out _).trans (((cell_far (p := ⟨gb242, _, none⟩) NB226_242.out _).trans (hHeld.2.2.2))))))⟩ (fun hHeld => ?_)
   clear hK K
   refine one_ (i := 12) (N := none) #[true, true, true, true, true, true, true, true, true, true, true, true, true, false] rfl rfl (one_of HT_.out (by kernel_rfl)) (by decide) (fun K hK => ?_)
   have hs33 : w29.cell? ⟨gb243, 0, none⟩ = some (.int .i64 0) := (blk_cell BK243.out 0).trans rfl
   have hfs33 := blk_frozen BK243.out 0
   have hns33_0 := NB225_243.out
   have hns33_1 := NB226_243.out
   have hns33_2 := NB242_243.out
   have hms33_0 := NB243_225.out
   have hms33_1 := NB243_226.out
   have hms33_2 := NB243_242.out
   have hs34 : w29.cell? ⟨gb243, 1, none⟩ = some (.int .i64 0) := (blk_cell BK243.out 1).trans rfl
   have hfs34 := blk_frozen BK243.out 1
   have hns34_0 := NB225_243.out
   have hns34_1 := NB226_243.out
   have hns34_2 := NB242_243.out
   have hms34_0 := NB243_225.out
   have hms34_1 := NB243_226.out
   have hms34_2 := NB243_242.out
   have hs35 : w29.cell? ⟨gb243, 2, none⟩ = some (.int .i64 0) := (blk_cell BK243.out 2).trans rfl
   have hfs35 := blk_frozen BK243.out 2
   have hns35_0 := NB225_243.out
   have hns35_1 := NB226_243.out
   have hns35_2 := NB242_243.out
   have hms35_0 := NB243_225.out
   have hms35_1 := NB243_226.out
   have hms35_2 := NB243_242.out
   have hs36 : w29.cell? ⟨gb243, 3, none⟩ = some (.int .i64 0) := (blk_cell BK243.out 3).trans rfl
   have hfs36 := blk_frozen BK243.out 3
   have hns36_0 := NB225_243.out
   have hns36_1 := NB226_243.out
   have hns36_2 := NB242_243.out
   have hms36_0 := NB243_225.out
   have hms36_1 := NB243_226.out
   have hms36_2 := NB243_242.out
   refine skip_ (w1 := ?_) (by rfl) rfl ?_ ?_
   rotate_left
   ·go_simp
    rfl
   refine hK.out _ _ ⟨((cell_far (p := ⟨gb243, _, none⟩) NB225_243.out _).trans (((cell_far (p := ⟨gb243, _, none⟩) NB225_243.out _).trans (((cell_far (p := ⟨gb243, _, none⟩) NB225_243.out _).trans (((cell_far (p := ⟨gb243, _, none⟩) NB225_243.out _).trans (hHeld.1)))))))), ((cell_far (p := ⟨gb243, _, none⟩) NB225_243.out _).trans (((cell_far (p := ⟨gb243, _, none⟩) NB225_243.out _).trans (((cell_far (p := ⟨gb243, _, none⟩) NB225_243.out _).trans (((cell_far (p := ⟨gb243, _, none⟩) NB225_243.out _).trans (hHeld.2.1)))))))), ((cell_far (p := ⟨gb243, _, none⟩) NB225_243.out _).trans (((cell_far (p := ⟨gb243, _, none⟩) NB225_243.out _).trans (((cell_far (p := ⟨gb243, _, none⟩) NB225_243.out _).trans (((cell_far (p := ⟨gb243, _, none⟩) NB225_243.out _).trans (hHeld.2.2.1)))))))), ((cell_far (p := ⟨gb243, _, none⟩) NB226_243.out _).trans (((cell_far (p := ⟨gb243, _, none⟩) NB226_243.out _).trans (((cell_far (p := ⟨gb243, _, none⟩) NB226_243.out _).trans (((cell_far (p := ⟨gb243, _, none⟩) NB226_243.out _).trans (hHeld.2.2.2))))))))⟩ (fun hHeld => ?_)
   clear hK K
   refine pure_ (i := 13) (N := some 8) (v := ?_) (a' := ?_) #[true, true, true, true, true, true, true, true, true, true, true, true, true, true] rfl rfl (any_of HT_.out (by kernel_rfl)) (fun _ _ _ h => h) (Or.inl ⟨by rfl, ?_⟩) ?_ ?_
   rotate_left
   ·intro w'
    go_simp
    with_reducible rfl
   rotate_left
   ·simp only [Act.put, List.setIfInBounds_toArray, List.set_cons_zero, List.set_cons_succ, i64_w, i32_w]
    rfl
   refine done_ (done_of HT_.out (by kernel_rfl)) ?_
   have hnb37 := NB226_242.out
   have hnc37 := NB242_226.out
   have hnb38 := NB226_243.out
   have hnc38 := NB243_226.out
   obtain ⟨hcz39_0, hfz39_0⟩ := bc1 BK226.out
   try go_wp2_with (first | ((with_reducible refine gate_callee (f := 62) rfl ?_); refine goesL_ (some 28) rfl rfl Try.func62 (by kernel_rfl) rfl #[.agg #[.slice A1_0 l1_0.length c1_0]] rfl tL ?_; (with_reducible refine (laws_toPublicLog.calls k _ _ l1_0 t244 _ ?side1 ?side2 A13.out).mono ?_); (case side1 => exact Kd.C_below HR1_0.out tB); (case side2 => exact HC1_0.out); rintro e w40 ⟨v245, rfl, ho0, hb⟩; refine ⟨_, rfl, ?_⟩; have HO246 := Aside0.mk (Kd.R_lower (Kd.R_new' ho0 (Kd.R_lt (by (with_reducible repeat (first | apply Kd.R_alloc | apply Kd.R_drewN | apply Kd.R_drew)); exact (Kd.R_mono (Kd.R_mono (Kd.R_far (p := ⟨gb243, 3, none⟩) (Kd.R_far (p := ⟨gb243, 2, none⟩) (Kd.R_far (p := ⟨gb243, 1, none⟩) (Kd.R_far (p := ⟨gb243, 0, none⟩) (Kd.R_far (p := ⟨gb242, 2, none⟩) (Kd.R_far (p := ⟨gb242, 1, none⟩) (Kd.R_far (p := ⟨gb242, 0, none⟩) (Kd.R_types (Kd.R_types HO233.out BK242.out (by decide)) BK243.out (by decide)) (fun _ hk => hk.1.2) (.int .i64 t234)) (fun _ hk => hk.1.2) (.int .i64 t235)) (fun _ hk => hk.1.2) (.int .i64 t236)) (fun _ hk => hk.2) (.int .i64 t237)) (fun _ hk => hk.2) (.int .i64 t238)) (fun _ hk => hk.2) (.int .i64 t239)) (fun _ hk => hk.2) (.int .i64 t240)) (fun _ h_ => h_.1)) (fun _ h_ => h_.1))))) (below_size tB)); replace HO233 := Aside0.mk (Kd.R_elder' (by (with_reducible repeat (first | apply Kd.R_alloc | apply Kd.R_drewN | apply Kd.R_drew)); exact (Kd.R_mono (Kd.R_mono (Kd.R_far (p := ⟨gb243, 3, none⟩) (Kd.R_far (p := ⟨gb243, 2, none⟩) (Kd.R_far (p := ⟨gb243, 1, none⟩) (Kd.R_far (p := ⟨gb243, 0, none⟩) (Kd.R_far (p := ⟨gb242, 2, none⟩) (Kd.R_far (p := ⟨gb242, 1, none⟩) (Kd.R_far (p := ⟨gb242, 0, none⟩) (Kd.R_types (Kd.R_types HO233.out BK242.out (by decide)) BK243.out (by decide)) (fun _ hk => hk.1.2) (.int .i64 t234)) (fun _ hk => hk.1.2) (.int .i64 t235)) (fun _ hk => hk.1.2) (.int .i64 t236)) (fun _ hk => hk.2) (.int .i64 t237)) (fun _ hk => hk.2) (.int .i64 t238)) (fun _ hk => hk.2) (.int .i64 t239)) (fun _ hk => hk.2) (.int .i64 t240)) (fun _ h_ => h_.1)) (fun _ h_ => h_.1))) (Kd.R_base ho0) hb); replace BK225 := Aside0.mk (blk_below (g := gb225) (o := .cells #[.int .i64 a0_0, .int .i64 a0_1, .int .i64 a0_2] 92 (0, 0)) (by (with_reducible repeat (first | refine blk_drewN ?_ _ | refine blk_drew ?_ | refine blk_alloc ?_ _)); refine blk_far ?_ NB225_243.out _; (with_reducible repeat (first | refine blk_drewN ?_ _ | refine blk_drew ?_ | refine blk_alloc ?_ _)); refine blk_far ?_ NB225_243.out _; (with_reducible repeat (first | refine blk_drewN ?_ _ | refine blk_drew ?_ | refine blk_alloc ?_ _)); refine blk_far ?_ NB225_243.out _; (with_reducible repeat (first | refine blk_drewN ?_ _ | refine blk_drew ?_ | refine blk_alloc ?_ _)); refine blk_far ?_ NB225_243.out _; (with_reducible repeat (first | refine blk_drewN ?_ _ | refine blk_drew ?_ | refine blk_alloc ?_ _)); refine blk_far ?_ NB225_242.out _; (with_reducible repeat (first | refine blk_drewN ?_ _ | refine blk_drew ?_ | refine blk_alloc ?_ _)); refine blk_far ?_ NB225_242.out _; (with_reducible repeat (first | refine blk_drewN ?_ _ | refine blk_drew ?_ | refine blk_alloc ?_ _)); refine blk_far ?_ NB225_242.out _; (with_reducible repeat (first | refine blk_drewN ?_ _ | refine blk_drew ?_ | refine blk_alloc ?_ _)); exact BK225.out) hb); replace BK226 := Aside0.mk (blk_below (g := gb226) (o := .cells #[.slice A1_0 l1_0.length c1_0] 94 (0, 0)) (by (with_reducible repeat (first | refine blk_drewN ?_ _ | refine blk_drew ?_ | refine blk_alloc ?_ _)); refine blk_far ?_ NB226_243.out _; (with_reducible repeat (first | refine blk_drewN ?_ _ | refine blk_drew ?_ | refine blk_alloc ?_ _)); refine blk_far ?_ NB226_243.out _; (with_reducible repeat (first | refine blk_drewN ?_ _ | refine blk_drew ?_ | refine blk_alloc ?_ _)); refine blk_far ?_ NB226_243.out _; (with_reducible repeat (first | refine blk_drewN ?_ _ | refine blk_drew ?_ | refine blk_alloc ?_ _)); refine blk_far ?_ NB226_243.out _; (with_reducible repeat (first | refine blk_drewN ?_ _ | refine blk_drew ?_ | refine blk_alloc ?_ _)); refine blk_far ?_ NB226_242.out _; (with_reducible repeat (first | refine blk_drewN ?_ _ | refine blk_drew ?_ | refine blk_alloc ?_ _)); refine blk_far ?_ NB226_242.out _; (with_reducible repeat (first | refine blk_drewN ?_ _ | refine blk_drew ?_ | refine blk_alloc ?_ _)); refine blk_far ?_ NB226_242.out _; (with_reducible repeat (first | refine blk_drewN ?_ _ | refine blk_drew ?_ | refine blk_alloc ?_ _)); exact BK226.out) hb); replace BK242 := Aside0.mk (blk_below (g := gb242) (o := .cells #[.int .i64 t234, .int .i64 t235, .int .i64 t236] 96 (0, 0)) (by (with_reducible repeat (first | refine blk_drewN ?_ _ | refine blk_drew ?_ | refine blk_alloc ?_ _)); refine blk_far ?_ NB242_243.out _; (with_reducible repeat (first | refine blk_drewN ?_ _ | refine blk_drew ?_ | refine blk_alloc ?_ _)); refine blk_far ?_ NB242_243.out _; (with_reducible repeat (first | refine blk_drewN ?_ _ | refine blk_drew ?_ | refine blk_alloc ?_ _)); refine blk_far ?_ NB242_243.out _; (with_reducible repeat (first | refine blk_drewN ?_ _ | refine blk_drew ?_ | refine blk_alloc ?_ _)); refine blk_far ?_ NB242_243.out _; (with_reducible repeat (first | refine blk_drewN ?_ _ | refine blk_drew ?_ | refine blk_alloc ?_ _)); refine blk_put (cs := #[.int .i64 t234, .int .i64 t235, .int .i64 0]) ?_ 2 _ rfl; (with_reducible repeat (first | refine blk_drewN ?_ _ | refine blk_drew ?_ | refine blk_alloc ?_ _)); refine blk_put (cs := #[.int .i64 t234, .int .i64 0, .int .i64 0]) ?_ 1 _ rfl; (with_reducible repeat (first | refine blk_drewN ?_ _ | refine blk_drew ?_ | refine blk_alloc ?_ _)); refine blk_put (cs := #[.int .i64 0, .int .i64 0, .int .i64 0]) ?_ 0 _ rfl; (with_reducible repeat (first | refine blk_drewN ?_ _ | refine blk_drew ?_ | refine blk_alloc ?_ _)); exact BK242.out) hb); replace BK243 := Aside0.mk (blk_below (g := gb243) (o := .cells #[.int .i64 t237, .int .i64 t238, .int .i64 t239, .int .i64 t240] 40 (0, 0)) (by (with_reducible repeat (first | refine blk_drewN ?_ _ | refine blk_drew ?_ | refine blk_alloc ?_ _)); refine blk_put (cs := #[.int .i64 t237, .int .i64 t238, .int .i64 t239, .int .i64 0]) ?_ 3 _ rfl; (with_reducible repeat (first | refine blk_drewN ?_ _ | refine blk_drew ?_ | refine blk_alloc ?_ _)); refine blk_put (cs := #[.int .i64 t237, .int .i64 t238, .int .i64 0, .int .i64 0]) ?_ 2 _ rfl; (with_reducible repeat (first | refine blk_drewN ?_ _ | refine blk_drew ?_ | refine blk_alloc ?_ _)); refine blk_put (cs := #[.int .i64 t237, .int .i64 0, .int .i64 0, .int .i64 0]) ?_ 1 _ rfl; (with_reducible repeat (first | refine blk_drewN ?_ _ | refine blk_drew ?_ | refine blk_alloc ?_ _)); refine blk_put (cs := #[.int .i64 0, .int .i64 0, .int .i64 0, .int .i64 0]) ?_ 0 _ rfl; (with_reducible repeat (first | refine blk_drewN ?_ _ | refine blk_drew ?_ | refine blk_alloc ?_ _)); refine blk_far ?_ NB243_242.out _; (with_reducible repeat (first | refine blk_drewN ?_ _ | refine blk_drew ?_ | refine blk_alloc ?_ _)); refine blk_far ?_ NB243_242.out _; (with_reducible repeat (first | refine blk_drewN ?_ _ | refine blk_drew ?_ | refine blk_alloc ?_ _)); refine blk_far ?_ NB243_242.out _; (with_reducible repeat (first | refine blk_drewN ?_ _ | refine blk_drew ?_ | refine blk_alloc ?_ _)); exact BK243.out) hb); replace HB := bH HB hb; (try clear hb); (try clear hb2); (try clear hk); (try clear hi); (try clear ho0)) | ((with_reducible refine gate_dst (N := 9) rfl ?_); refine box_event ?hg (N := 9) ?hd (cs := #[.slice none 0 0]) (t := 100) ?hr ?_; (case hd => rfl); (case hg => rfl); (case hr => exact tG); intro gb247 hg w41 hbox hb; replace HO233 := Aside0.mk (Kd.R_below (tR HO233) hb); replace HO246 := Aside0.mk (Kd.R_below (tR HO246) hb); have BK247 := Aside0.mk (hbox); have GW247 := gW HB hg; have GE247 := gW HB hg; replace HB := bH HB hb; have NB225_247 := nL BK225 hg; have NB247_225 := nR BK225 hg; replace BK225 := bB BK225 hb; have NB226_247 := nL BK226 hg; have NB247_226 := nR BK226 hg; replace BK226 := bB BK226 hb; have NB242_247 := nL BK242 hg; have NB247_242 := nR BK242 hg; replace BK242 := bB BK242 hb; have NB243_247 := nL BK243 hg; have NB247_243 := nR BK243 hg; replace BK243 := bB BK243 hb; clear hb hbox hg; obtain ⟨Ao42, co42, eo42⟩ := Kd.R_slice HO246.out; subst eo42; have hnb43 := NB247_225.out; have hnc43 := NB225_247.out; have hnb44 := NB247_226.out; have hnc44 := NB226_247.out; have hnb45 := NB247_242.out; have hnc45 := NB242_247.out; have hnb46 := NB247_243.out; have hnc46 := NB243_247.out; obtain ⟨hcz47_0, hfz47_0⟩ := bc1 BK247.out))
   have n0_ : Aside0 (Kd.R (Kd.int .i64) 3 (w41.setCell ⟨gb247, 0, none⟩ (.slice Ao42 t244.length co42)) w.heap.size (fun k_ => some k_ ≠ (.slice Ao42 t244.length co42 : Value).ownBlock) v232 t231) := ⟨by (with_reducible repeat (first | apply Kd.R_alloc | apply Kd.R_drewN | apply Kd.R_drew)); exact Kd.R_mono (Kd.R_far (p := ⟨gb247, 0, none⟩) (Kd.R_types HO233.out BK247.out (by decide)) (fun _ hk => hk.2) (.slice Ao42 t244.length co42)) (fun _ hk => hk.1.2)⟩
   have n1_ : Aside0 (Kd.R (Kd.int .i64) 3 (w41.setCell ⟨gb247, 0, none⟩ (.slice Ao42 t244.length co42)) w.heap.size (fun k_ => some k_ ≠ (v232 : Value).ownBlock) (.slice Ao42 t244.length co42) t244) := ⟨by (with_reducible repeat (first | apply Kd.R_alloc | apply Kd.R_drewN | apply Kd.R_drew)); exact Kd.R_mono (Kd.R_far (p := ⟨gb247, 0, none⟩) (Kd.R_types HO246.out BK247.out (by decide)) (fun _ hk => hk.2) (.slice Ao42 t244.length co42)) (fun _ hk => hk.1.2)⟩
   have n2_ : Aside0 ((w41.setCell ⟨gb247, 0, none⟩ (.slice Ao42 t244.length co42)).heap[gb225]? = some (.cells #[.int .i64 a0_0, .int .i64 a0_1, .int .i64 a0_2] 92 (0, 0))) := ⟨by (with_reducible repeat (first | refine blk_drewN ?_ _ | refine blk_drew ?_ | refine blk_alloc ?_ _)); refine blk_far ?_ NB225_247.out _; (with_reducible repeat (first | refine blk_drewN ?_ _ | refine blk_drew ?_ | refine blk_alloc ?_ _)); exact BK225.out⟩
   have n3_ : Aside0 ((w41.setCell ⟨gb247, 0, none⟩ (.slice Ao42 t244.length co42)).heap[gb226]? = some (.cells #[.slice A1_0 l1_0.length c1_0] 94 (0, 0))) := ⟨by (with_reducible repeat (first | refine blk_drewN ?_ _ | refine blk_drew ?_ | refine blk_alloc ?_ _)); refine blk_far ?_ NB226_247.out _; (with_reducible repeat (first | refine blk_drewN ?_ _ | refine blk_drew ?_ | refine blk_alloc ?_ _)); exact BK226.out⟩
   have n4_ : Aside0 ((w41.setCell ⟨gb247, 0, none⟩ (.slice Ao42 t244.length co42)).heap[gb242]? = some (.cells #[.int .i64 t234, .int .i64 t235, .int .i64 t236] 96 (0, 0))) := ⟨by (with_reducible repeat (first | refine blk_drewN ?_ _ | refine blk_drew ?_ | refine blk_alloc ?_ _)); refine blk_far ?_ NB242_247.out _; (with_reducible repeat (first | refine blk_drewN ?_ _ | refine blk_drew ?_ | refine blk_alloc ?_ _)); exact BK242.out⟩
   have n5_ : Aside0 ((w41.setCell ⟨gb247, 0, none⟩ (.slice Ao42 t244.length co42)).heap[gb243]? = some (.cells #[.int .i64 t237, .int .i64 t238, .int .i64 t239, .int .i64 t240] 40 (0, 0))) := ⟨by (with_reducible repeat (first | refine blk_drewN ?_ _ | refine blk_drew ?_ | refine blk_alloc ?_ _)); refine blk_far ?_ NB243_247.out _; (with_reducible repeat (first | refine blk_drewN ?_ _ | refine blk_drew ?_ | refine blk_alloc ?_ _)); exact BK243.out⟩
   have n6_ : Aside0 ((w41.setCell ⟨gb247, 0, none⟩ (.slice Ao42 t244.length co42)).heap[gb247]? = some (.cells #[.slice Ao42 t244.length co42] 100 (0, 0))) := ⟨by (with_reducible repeat (first | refine blk_drewN ?_ _ | refine blk_drew ?_ | refine blk_alloc ?_ _)); refine blk_put (cs := #[.slice none 0 0]) ?_ 0 _ rfl; (with_reducible repeat (first | refine blk_drewN ?_ _ | refine blk_drew ?_ | refine blk_alloc ?_ _)); exact BK247.out⟩
   have n7_ : Aside0 (Below w.heap.size w (w41.setCell ⟨gb247, 0, none⟩ (.slice Ao42 t244.length co42))) := ⟨tB⟩
   (try clear HO233)
   (try clear HO246)
   (try clear BK225)
   (try clear BK226)
   (try clear BK242)
   (try clear BK243)
   (try clear BK247)
   (try clear HB)
   generalize (w41.setCell ⟨gb247, 0, none⟩ (.slice Ao42 t244.length co42)) = w48 at n0_ n1_ n2_ n3_ n4_ n5_ n6_ n7_ ⊢
   have HO233 := n0_
   have HO246 := n1_
   have BK225 := n2_
   have BK226 := n3_
   have BK242 := n4_
   have BK243 := n5_
   have BK247 := n6_
   have HB := n7_
   clear n0_ n1_ n2_ n3_ n4_ n5_ n6_ n7_
   replace HO233 := Aside0.mk (Kd.R_drew HO233.out)
   replace HO246 := Aside0.mk (Kd.R_drew HO246.out)
   replace BK225 := Aside0.mk (blk_drew BK225.out)
   replace BK226 := Aside0.mk (blk_drew BK226.out)
   replace BK242 := Aside0.mk (blk_drew BK242.out)
   replace BK243 := Aside0.mk (blk_drew BK243.out)
   replace BK247 := Aside0.mk (blk_drew BK247.out)
   replace HB := Aside0.mk (below_drew1 HB.out)
   refine start_ (n := 13) (S := fun w' => w'.cell? ⟨gb225, 0, none⟩ = some (.int .i64 a0_0) ∧ w'.cell? ⟨gb225, 1, none⟩ = some (.int .i64 a0_1) ∧ w'.cell? ⟨gb225, 2, none⟩ = some (.int .i64 a0_2) ∧ w'.cell? ⟨gb247, 0, none⟩ = some (.slice Ao42 t244.length co42)) (ds := []) #[false, false, false, false, false, false, false, false, false, false, false, false, false] (by kernel_rfl) rfl rfl ⟨(blk_cell BK225.out 0).trans rfl, (blk_cell BK225.out 1).trans rfl, (blk_cell BK225.out 2).trans rfl, (blk_cell BK247.out 0).trans rfl⟩ (fun hHeld => ?_); refine with_tabW laws_FnExactSignHead.tab7 laws_FnExactSignHead.bits7 (fun HT_ HW_ => ?_)
   generalize w48.drew = w49 at HO233 HO246 BK225 BK226 BK242 BK243 BK247 HB hHeld ⊢
   refine take_ (i := 0) (N := some 30) (v := ?_) (a' := ?_) #[true, false, false, false, false, false, false, false, false, false, false, false, false] rfl rfl (take_ofW HT_.out HW_.out (by kernel_rfl)) (fun _ _ _ h => h) (Or.inl ⟨by rfl, ?_⟩) hHeld ?_ ?_
   rotate_left
   ·rintro w' ⟨s0, s1, s2, s3⟩
    go_simp
    with_reducible rfl
   rotate_left
   ·simp only [Act.put, List.setIfInBounds_toArray, List.set_cons_zero, List.set_cons_succ, i64_w, i32_w]
    rfl
   refine take_ (i := 2) (N := some 32) (v := ?_) (a' := ?_) #[true, false, true, false, false, false, false, false, false, false, false, false, false] rfl rfl (take_ofW HT_.out HW_.out (by kernel_rfl)) (fun _ _ _ h => h) (Or.inl ⟨by rfl, ?_⟩) hHeld ?_ ?_
   rotate_left
   ·rintro w' ⟨s0, s1, s2, s3⟩
    go_simp
    with_reducible rfl
   rotate_left
   ·simp only [Act.put, List.setIfInBounds_toArray, List.set_cons_zero, List.set_cons_succ, i64_w, i32_w]
    rfl
   refine join_ (σ := Nat × Nat) 3 #[true, true, true, true, true, true, true, true, true, true, false, false, false] (fun s_ => [(31, .agg #[.int .i64 t248, .int .i64 t249, .int .i64 t250]), (33, .tuple #[.agg #[.int .i64 t251, .int .i64 t252, .int .i64 t253], .agg #[.int .i64 t254, .int .i64 t255, .int .i64 t256, .int .i64 t257], .bool t258]), (10, .pointer (some ⟨s_.1, 0, none⟩)), (11, .pointer (some ⟨s_.2, 0, none⟩)), (29, .tuple #[.agg #[.int .i64 t251, .int .i64 t252, .int .i64 t253], .agg #[.int .i64 t254, .int .i64 t255, .int .i64 t256, .int .i64 t257], .bool t258]), (34, .agg #[.int .i64 t251, .int .i64 t252, .int .i64 t253]), (35, .agg #[.int .i64 t254, .int .i64 t255, .int .i64 t256, .int .i64 t257]), (36, .bool t258)]) (fun s_ w' => (w'.cell? ⟨gb225, 0, none⟩ = some (.int .i64 a0_0) ∧ w'.cell? ⟨gb225, 1, none⟩ = some (.int .i64 a0_1) ∧ w'.cell? ⟨gb225, 2, none⟩ = some (.int .i64 a0_2) ∧ w'.cell? ⟨gb247, 0, none⟩ = some (.slice Ao42 t244.length co42)) ∧ (Kd.R (Kd.int .i64) 3 w' w.heap.size (fun k_ => some k_ ≠ (.slice Ao42 t244.length co42 : Value).ownBlock) v232 t231) ∧ (Kd.R (Kd.int .i64) 3 w' w.heap.size (fun k_ => some k_ ≠ (v232 : Value).ownBlock) (.slice Ao42 t244.length co42) t244) ∧ (w'.heap[gb225]? = some (.cells #[.int .i64 a0_0, .int .i64 a0_1, .int .i64 a0_2] 92 (0, 0))) ∧ (w'.heap[gb226]? = some (.cells #[.slice A1_0 l1_0.length c1_0] 94 (0, 0))) ∧ (w'.heap[gb242]? = some (.cells #[.int .i64 t234, .int .i64 t235, .int .i64 t236] 96 (0, 0))) ∧ (w'.heap[gb243]? = some (.cells #[.int .i64 t237, .int .i64 t238, .int .i64 t239, .int .i64 t240] 40 (0, 0))) ∧ (w'.heap[gb247]? = some (.cells #[.slice Ao42 t244.length co42] 100 (0, 0))) ∧ (w'.heap[s_.1]? = some (.cells #[.int .i64 0, .int .i64 0, .int .i64 0] 96 (0, 0))) ∧ (w'.heap[s_.2]? = some (.cells #[.int .i64 0, .int .i64 0, .int .i64 0, .int .i64 0] 40 (0, 0))) ∧ (w.heap.size ≤ s_.1) ∧ (w.heap.size ≤ s_.1) ∧ (gb225 ≠ s_.1) ∧ (s_.1 ≠ gb225) ∧ (gb226 ≠ s_.1) ∧ (s_.1 ≠ gb226) ∧ (gb242 ≠ s_.1) ∧ (s_.1 ≠ gb242) ∧ (gb243 ≠ s_.1) ∧ (s_.1 ≠ gb243) ∧ (gb247 ≠ s_.1) ∧ (s_.1 ≠ gb247) ∧ (s_.2 ≠ s_.1) ∧ (s_.1 ≠ s_.2) ∧ (w.heap.size ≤ s_.2) ∧ (w.heap.size ≤ s_.2) ∧ (gb225 ≠ s_.2) ∧ (s_.2 ≠ gb225) ∧ (gb226 ≠ s_.2) ∧ (s_.2 ≠ gb226) ∧ (gb242 ≠ s_.2) ∧ (s_.2 ≠ gb242) ∧ (gb243 ≠ s_.2) ∧ (s_.2 ≠ gb243) ∧ (gb247 ≠ s_.2) ∧ (s_.2 ≠ gb247) ∧ (Below w.heap.size w w')) ?_ ?_
   ·rintro ⟨gb259, gb260⟩ w54 hS_
    dsimp only at hS_
    obtain ⟨hHeld, h0_, h1_, h2_, h3_, h4_, h5_, h6_, h7_, h8_, h9_, h10_, h11_, h12_, h13_, h14_, h15_, h16_, h17_, h18_, h19_, h20_, h21_, h22_, h23_, h24_, h25_, h26_, h27_, h28_, h29_, h30_, h31_, h32_, h33_, h34_, h35_⟩ := hS_
    replace HO233 := Aside0.mk h0_
    replace HO246 := Aside0.mk h1_
    replace BK225 := Aside0.mk h2_
    replace BK226 := Aside0.mk h3_
    replace BK242 := Aside0.mk h4_
    replace BK243 := Aside0.mk h5_
    replace BK247 := Aside0.mk h6_
    have BK259 := Aside0.mk h7_
    have BK260 := Aside0.mk h8_
    have GW259 := Aside0.mk h9_
    have GE259 := Aside0.mk h10_
    have NB225_259 := Aside0.mk h11_
    have NB259_225 := Aside0.mk h12_
    have NB226_259 := Aside0.mk h13_
    have NB259_226 := Aside0.mk h14_
    have NB242_259 := Aside0.mk h15_
    have NB259_242 := Aside0.mk h16_
    have NB243_259 := Aside0.mk h17_
    have NB259_243 := Aside0.mk h18_
    have NB247_259 := Aside0.mk h19_
    have NB259_247 := Aside0.mk h20_
    have NB260_259 := Aside0.mk h21_
    have NB259_260 := Aside0.mk h22_
    have GW260 := Aside0.mk h23_
    have GE260 := Aside0.mk h24_
    have NB225_260 := Aside0.mk h25_
    have NB260_225 := Aside0.mk h26_
    have NB226_260 := Aside0.mk h27_
    have NB260_226 := Aside0.mk h28_
    have NB242_260 := Aside0.mk h29_
    have NB260_242 := Aside0.mk h30_
    have NB243_260 := Aside0.mk h31_
    have NB260_243 := Aside0.mk h32_
    have NB247_260 := Aside0.mk h33_
    have NB260_247 := Aside0.mk h34_
    replace HB := Aside0.mk h35_
    clear h0_ h1_ h2_ h3_ h4_ h5_ h6_ h7_ h8_ h9_ h10_ h11_ h12_ h13_ h14_ h15_ h16_ h17_ h18_ h19_ h20_ h21_ h22_ h23_ h24_ h25_ h26_ h27_ h28_ h29_ h30_ h31_ h32_ h33_ h34_ h35_
    refine norm_ tM ?_
    refine one_ (i := 10) (N := none) #[true, true, true, true, true, true, true, true, true, true, true, false, false] rfl rfl (one_of HT_.out (by kernel_rfl)) (by decide) (fun K hK => ?_)
    have hs55 : w54.cell? ⟨gb259, 0, none⟩ = some (.int .i64 0) := (blk_cell BK259.out 0).trans rfl
    have hfs55 := blk_frozen BK259.out 0
    have hns55_0 := NB225_259.out
    have hns55_1 := NB226_259.out
    have hns55_2 := NB242_259.out
    have hns55_3 := NB243_259.out
    have hns55_4 := NB247_259.out
    have hns55_6 := NB260_259.out
    have hms55_0 := NB259_225.out
    have hms55_1 := NB259_226.out
    have hms55_2 := NB259_242.out
    have hms55_3 := NB259_243.out
    have hms55_4 := NB259_247.out
    have hms55_6 := NB259_260.out
    have hs56 : w54.cell? ⟨gb259, 1, none⟩ = some (.int .i64 0) := (blk_cell BK259.out 1).trans rfl
    have hfs56 := blk_frozen BK259.out 1
    have hns56_0 := NB225_259.out
    have hns56_1 := NB226_259.out
    have hns56_2 := NB242_259.out
    have hns56_3 := NB243_259.out
    have hns56_4 := NB247_259.out
    have hns56_6 := NB260_259.out
    have hms56_0 := NB259_225.out
    have hms56_1 := NB259_226.out
    have hms56_2 := NB259_242.out
    have hms56_3 := NB259_243.out
    have hms56_4 := NB259_247.out
    have hms56_6 := NB259_260.out
    have hs57 : w54.cell? ⟨gb259, 2, none⟩ = some (.int .i64 0) := (blk_cell BK259.out 2).trans rfl
    have hfs57 := blk_frozen BK259.out 2
    have hns57_0 := NB225_259.out
    have hns57_1 := NB226_259.out
    have hns57_2 := NB242_259.out
    have hns57_3 := NB243_259.out
    have hns57_4 := NB247_259.out
    have hns57_6 := NB260_259.out
    have hms57_0 := NB259_225.out
    have hms57_1 := NB259_226.out
    have hms57_2 := NB259_242.out
    have hms57_3 := NB259_243.out
    have hms57_4 := NB259_247.out
    have hms57_6 := NB259_260.out
    refine skip_ (w1 := ?_) (by rfl) rfl ?_ ?_
    rotate_left
    ·go_simp
     rfl
    refine hK.out _ _ ⟨((cell_far (p := ⟨gb259, _, none⟩) NB225_259.out _).trans (((cell_far (p := ⟨gb259, _, none⟩) NB225_259.out _).trans (((cell_far (p := ⟨gb259, _, none⟩) NB225_259.out _).trans (hHeld.1)))))), ((cell_far (p := ⟨gb259, _, none⟩) NB225_259.out _).trans (((cell_far (p := ⟨gb259, _, none⟩) NB225_259.out _).trans (((cell_far (p := ⟨gb259, _, none⟩) NB225_259.out _).trans (hHeld.2.1)))))), ((cell_far (p := ⟨gb259, _, none⟩) NB225_259.out _).trans (((cell_far (p := ⟨gb259, _, none⟩) NB225_259.out _).trans (((cell_far (p := ⟨gb259, _, none⟩) NB225_259.out _).trans (hHeld.2.2.1)))))), ((cell_far (p := ⟨gb259, _, none⟩) NB247_259.out _).trans (((cell_far (p := ⟨gb259, _, none⟩) NB247_259.out _).trans (((cell_far (p := ⟨gb259, _, none⟩) NB247_259.out _).trans (hHeld.2.2.2))))))⟩ (fun hHeld => ?_)
    clear hK K
    refine one_ (i := 11) (N := none) #[true, true, true, true, true, true, true, true, true, true, true, true, false] rfl rfl (one_of HT_.out (by kernel_rfl)) (by decide) (fun K hK => ?_)
    have hs58 : w54.cell? ⟨gb260, 0, none⟩ = some (.int .i64 0) := (blk_cell BK260.out 0).trans rfl
    have hfs58 := blk_frozen BK260.out 0
    have hns58_0 := NB225_260.out
    have hns58_1 := NB226_260.out
    have hns58_2 := NB242_260.out
    have hns58_3 := NB243_260.out
    have hns58_4 := NB247_260.out
    have hns58_5 := NB259_260.out
    have hms58_0 := NB260_225.out
    have hms58_1 := NB260_226.out
    have hms58_2 := NB260_242.out
    have hms58_3 := NB260_243.out
    have hms58_4 := NB260_247.out
    have hms58_5 := NB260_259.out
    have hs59 : w54.cell? ⟨gb260, 1, none⟩ = some (.int .i64 0) := (blk_cell BK260.out 1).trans rfl
    have hfs59 := blk_frozen BK260.out 1
    have hns59_0 := NB225_260.out
    have hns59_1 := NB226_260.out
    have hns59_2 := NB242_260.out
    have hns59_3 := NB243_260.out
    have hns59_4 := NB247_260.out
    have hns59_5 := NB259_260.out
    have hms59_0 := NB260_225.out
    have hms59_1 := NB260_226.out
    have hms59_2 := NB260_242.out
    have hms59_3 := NB260_243.out
    have hms59_4 := NB260_247.out
    have hms59_5 := NB260_259.out
    have hs60 : w54.cell? ⟨gb260, 2, none⟩ = some (.int .i64 0) := (blk_cell BK260.out 2).trans rfl
    have hfs60 := blk_frozen BK260.out 2
    have hns60_0 := NB225_260.out
    have hns60_1 := NB226_260.out
    have hns60_2 := NB242_260.out
    have hns60_3 := NB243_260.out
    have hns60_4 := NB247_260.out
    have hns60_5 := NB259_260.out
    have hms60_0 := NB260_225.out
    have hms60_1 := NB260_226.out
    have hms60_2 := NB260_242.out
    have hms60_3 := NB260_243.out
    have hms60_4 := NB260_247.out
    have hms60_5 := NB260_259.out
    have hs61 : w54.cell? ⟨gb260, 3, none⟩ = some (.int .i64 0) := (blk_cell BK260.out 3).trans rfl
    have hfs61 := blk_frozen BK260.out 3
    have hns61_0 := NB225_260.out
    have hns61_1 := NB226_260.out
    have hns61_2 := NB242_260.out
    have hns61_3 := NB243_260.out
    have hns61_4 := NB247_260.out
    have hns61_5 := NB259_260.out
    have hms61_0 := NB260_225.out
    have hms61_1 := NB260_226.out
    have hms61_2 := NB260_242.out
    have hms61_3 := NB260_243.out
    have hms61_4 := NB260_247.out
    have hms61_5 := NB260_259.out
    refine skip_ (w1 := ?_) (by rfl) rfl ?_ ?_
    rotate_left
    ·go_simp
     rfl
    refine hK.out _ _ ⟨((cell_far (p := ⟨gb260, _, none⟩) NB225_260.out _).trans (((cell_far (p := ⟨gb260, _, none⟩) NB225_260.out _).trans (((cell_far (p := ⟨gb260, _, none⟩) NB225_260.out _).trans (((cell_far (p := ⟨gb260, _, none⟩) NB225_260.out _).trans (hHeld.1)))))))), ((cell_far (p := ⟨gb260, _, none⟩) NB225_260.out _).trans (((cell_far (p := ⟨gb260, _, none⟩) NB225_260.out _).trans (((cell_far (p := ⟨gb260, _, none⟩) NB225_260.out _).trans (((cell_far (p := ⟨gb260, _, none⟩) NB225_260.out _).trans (hHeld.2.1)))))))), ((cell_far (p := ⟨gb260, _, none⟩) NB225_260.out _).trans (((cell_far (p := ⟨gb260, _, none⟩) NB225_260.out _).trans (((cell_far (p := ⟨gb260, _, none⟩) NB225_260.out _).trans (((cell_far (p := ⟨gb260, _, none⟩) NB225_260.out _).trans (hHeld.2.2.1)))))))), ((cell_far (p := ⟨gb260, _, none⟩) NB247_260.out _).trans (((cell_far (p := ⟨gb260, _, none⟩) NB247_260.out _).trans (((cell_far (p := ⟨gb260, _, none⟩) NB247_260.out _).trans (((cell_far (p := ⟨gb260, _, none⟩) NB247_260.out _).trans (hHeld.2.2.2))))))))⟩ (fun hHeld => ?_)
    clear hK K
    refine pure_ (i := 12) (N := some 12) (v := ?_) (a' := ?_) #[true, true, true, true, true, true, true, true, true, true, true, true, true] rfl rfl (any_of HT_.out (by kernel_rfl)) (fun _ _ _ h => h) (Or.inl ⟨by rfl, ?_⟩) ?_ ?_
    rotate_left
    ·intro w'
     go_simp
     with_reducible rfl
    rotate_left
    ·simp only [Act.put, List.setIfInBounds_toArray, List.set_cons_zero, List.set_cons_succ, i64_w, i32_w]
     rfl
    refine done_ (done_of HT_.out (by kernel_rfl)) ?_
    go_upto_region 8 with (fail)
    go_cut [51] (fun v51 wc => ∃ (kq : Nat) (x51_15 : Bool), v51 = .bool x51_15 ∧ Aside0 (laws_FnExactSignHead.j0 kq x51_15 l1_0 t244 = some r) ∧ Aside0 (kq ≤ k) ∧ Aside0 (Kd.R (Kd.int .i64) 3 wc w.heap.size (fun _ => True) (.slice Ao42 t244.length co42) t244) ∧ Aside0 (wc.heap[gb225]? = some (.cells #[.int .i64 a0_0, .int .i64 a0_1, .int .i64 a0_2] 92 (0, 0))) ∧ Aside0 (wc.heap[gb226]? = some (.cells #[(.slice A1_0 l1_0.length c1_0)] 94 (0, 0))) ∧ Aside0 (wc.heap[gb242]? = some (.cells #[.int .i64 t234, .int .i64 t235, .int .i64 t236] 96 (0, 0))) ∧ Aside0 (wc.heap[gb243]? = some (.cells #[.int .i64 t237, .int .i64 t238, .int .i64 t239, .int .i64 t240] 40 (0, 0))) ∧ Aside0 (wc.heap[gb247]? = some (.cells #[(.slice Ao42 t244.length co42)] 100 (0, 0))) ∧ Aside0 (wc.heap[gb259]? = some (.cells #[.int .i64 t251, .int .i64 t252, .int .i64 t253] 96 (0, 0))) ∧ Aside0 (wc.heap[gb260]? = some (.cells #[.int .i64 t254, .int .i64 t255, .int .i64 t256, .int .i64 t257] 40 (0, 0))) ∧ Aside0 (Below w.heap.size w wc))
    case first =>
     have H := HC16.out
     clear HC16
     replace H := Option.bind_eq_some_iff.mp H
     obtain ⟨t261, A620, H⟩ := H
     replace H : (if t261 = true then ((laws_eqSignedHead.f t254 t255 t256 t257 t237 t238 t239 t240).bind fun t262 => (if t262 = true then (laws_FnExactSignHead.j0 k (t258 != t241) l1_0 t244) else (laws_FnExactSignHead.j0 k true l1_0 t244))) else (laws_FnExactSignHead.j0 k true l1_0 t244)) = some r := H
     have A62 := Aside0.mk A620
     clear A620
     by_cases c63 : t261 = true
     ·subst c63
      have H1 : ((laws_eqSignedHead.f t254 t255 t256 t257 t237 t238 t239 t240).bind fun t262 => (if t262 = true then (laws_FnExactSignHead.j0 k (t258 != t241) l1_0 t244) else (laws_FnExactSignHead.j0 k true l1_0 t244))) = some r := by rw [if_pos rfl] at H; exact H
      clear H
      have H := H1
      clear H1
      replace H := Option.bind_eq_some_iff.mp H
      obtain ⟨t262, A640, H⟩ := H
      replace H : (if t262 = true then (laws_FnExactSignHead.j0 k (t258 != t241) l1_0 t244) else (laws_FnExactSignHead.j0 k true l1_0 t244)) = some r := H
      have A64 := Aside0.mk A640
      clear A640
      by_cases c65 : t262 = true
      ·subst c65
       have H1 : (laws_FnExactSignHead.j0 k (t258 != t241) l1_0 t244) = some r := by rw [if_pos rfl] at H; exact H
       clear H
       have H := H1
       clear H1
       have H' := Aside0.mk H
       clear H
       have hnb66 := NB259_225.out
       have hnc66 := NB225_259.out
       have hnb67 := NB259_226.out
       have hnc67 := NB226_259.out
       have hnb68 := NB259_242.out
       have hnc68 := NB242_259.out
       have hnb69 := NB259_243.out
       have hnc69 := NB243_259.out
       have hnb70 := NB259_247.out
       have hnc70 := NB247_259.out
       have hnb71 := NB259_260.out
       have hnc71 := NB260_259.out
       obtain ⟨hcz72_0, hcz72_1, hcz72_2, hfz72_0, hfz72_1, hfz72_2⟩ := bc3 BK259.out
       have hnb73 := NB242_225.out
       have hnc73 := NB225_242.out
       have hnb74 := NB242_226.out
       have hnc74 := NB226_242.out
       have hnb75 := NB242_243.out
       have hnc75 := NB243_242.out
       have hnb76 := NB242_247.out
       have hnc76 := NB247_242.out
       have hnb77 := NB242_260.out
       have hnc77 := NB260_242.out
       obtain ⟨hcz78_0, hcz78_1, hcz78_2, hfz78_0, hfz78_1, hfz78_2⟩ := bc3 BK242.out
       go_wp2_with (first | ((with_reducible refine gate_callee (f := 64) rfl ?_); refine goesL_ (some 39) rfl rfl Try.func64 (by kernel_rfl) rfl #[.agg #[.int .i64 t251, .int .i64 t252, .int .i64 t253], .agg #[.int .i64 t234, .int .i64 t235, .int .i64 t236]] rfl tL ?_; (with_reducible refine (laws_eqWitness.calls t251 t252 t253 t234 t235 t236 true _ A62.out).mono ?_); rintro e w79 ⟨rfl, hb⟩; refine ⟨_, rfl, ?_⟩; replace HO233 := Aside0.mk (Kd.R_below (by (with_reducible repeat (first | apply Kd.R_alloc | apply Kd.R_drewN | apply Kd.R_drew)); exact (Kd.R_mono (Kd.R_mono (Kd.R_far (p := ⟨gb260, 3, none⟩) (Kd.R_far (p := ⟨gb260, 2, none⟩) (Kd.R_far (p := ⟨gb260, 1, none⟩) (Kd.R_far (p := ⟨gb260, 0, none⟩) (Kd.R_far (p := ⟨gb259, 2, none⟩) (Kd.R_far (p := ⟨gb259, 1, none⟩) (Kd.R_far (p := ⟨gb259, 0, none⟩) (Kd.R_types (Kd.R_types HO233.out BK259.out (by decide)) BK260.out (by decide)) (fun _ hk => hk.1.2) (.int .i64 t251)) (fun _ hk => hk.1.2) (.int .i64 t252)) (fun _ hk => hk.1.2) (.int .i64 t253)) (fun _ hk => hk.2) (.int .i64 t254)) (fun _ hk => hk.2) (.int .i64 t255)) (fun _ hk => hk.2) (.int .i64 t256)) (fun _ hk => hk.2) (.int .i64 t257)) (fun _ h_ => h_.1)) (fun _ h_ => h_.1))) hb); replace HO246 := Aside0.mk (Kd.R_below (by (with_reducible repeat (first | apply Kd.R_alloc | apply Kd.R_drewN | apply Kd.R_drew)); exact (Kd.R_mono (Kd.R_mono (Kd.R_far (p := ⟨gb260, 3, none⟩) (Kd.R_far (p := ⟨gb260, 2, none⟩) (Kd.R_far (p := ⟨gb260, 1, none⟩) (Kd.R_far (p := ⟨gb260, 0, none⟩) (Kd.R_far (p := ⟨gb259, 2, none⟩) (Kd.R_far (p := ⟨gb259, 1, none⟩) (Kd.R_far (p := ⟨gb259, 0, none⟩) (Kd.R_types (Kd.R_types HO246.out BK259.out (by decide)) BK260.out (by decide)) (fun _ hk => hk.1.2) (.int .i64 t251)) (fun _ hk => hk.1.2) (.int .i64 t252)) (fun _ hk => hk.1.2) (.int .i64 t253)) (fun _ hk => hk.2) (.int .i64 t254)) (fun _ hk => hk.2) (.int .i64 t255)) (fun _ hk => hk.2) (.int .i64 t256)) (fun _ hk => hk.2) (.int .i64 t257)) (fun _ h_ => h_.1)) (fun _ h_ => h_.1))) hb); replace BK225 := Aside0.mk (blk_below (g := gb225) (o := .cells #[.int .i64 a0_0, .int .i64 a0_1, .int .i64 a0_2] 92 (0, 0)) (by (with_reducible repeat (first | refine blk_drewN ?_ _ | refine blk_drew ?_ | refine blk_alloc ?_ _)); refine blk_far ?_ NB225_260.out _; (with_reducible repeat (first | refine blk_drewN ?_ _ | refine blk_drew ?_ | refine blk_alloc ?_ _)); refine blk_far ?_ NB225_260.out _; (with_reducible repeat (first | refine blk_drewN ?_ _ | refine blk_drew ?_ | refine blk_alloc ?_ _)); refine blk_far ?_ NB225_260.out _; (with_reducible repeat (first | refine blk_drewN ?_ _ | refine blk_drew ?_ | refine blk_alloc ?_ _)); refine blk_far ?_ NB225_260.out _; (with_reducible repeat (first | refine blk_drewN ?_ _ | refine blk_drew ?_ | refine blk_alloc ?_ _)); refine blk_far ?_ NB225_259.out _; (with_reducible repeat (first | refine blk_drewN ?_ _ | refine blk_drew ?_ | refine blk_alloc ?_ _)); refine blk_far ?_ NB225_259.out _; (with_reducible repeat (first | refine blk_drewN ?_ _ | refine blk_drew ?_ | refine blk_alloc ?_ _)); refine blk_far ?_ NB225_259.out _; (with_reducible repeat (first | refine blk_drewN ?_ _ | refine blk_drew ?_ | refine blk_alloc ?_ _)); exact BK225.out) hb); replace BK226 := Aside0.mk (blk_below (g := gb226) (o := .cells #[.slice A1_0 l1_0.length c1_0] 94 (0, 0)) (by (with_reducible repeat (first | refine blk_drewN ?_ _ | refine blk_drew ?_ | refine blk_alloc ?_ _)); refine blk_far ?_ NB226_260.out _; (with_reducible repeat (first | refine blk_drewN ?_ _ | refine blk_drew ?_ | refine blk_alloc ?_ _)); refine blk_far ?_ NB226_260.out _; (with_reducible repeat (first | refine blk_drewN ?_ _ | refine blk_drew ?_ | refine blk_alloc ?_ _)); refine blk_far ?_ NB226_260.out _; (with_reducible repeat (first | refine blk_drewN ?_ _ | refine blk_drew ?_ | refine blk_alloc ?_ _)); refine blk_far ?_ NB226_260.out _; (with_reducible repeat (first | refine blk_drewN ?_ _ | refine blk_drew ?_ | refine blk_alloc ?_ _)); refine blk_far ?_ NB226_259.out _; (with_reducible repeat (first | refine blk_drewN ?_ _ | refine blk_drew ?_ | refine blk_alloc ?_ _)); refine blk_far ?_ NB226_259.out _; (with_reducible repeat (first | refine blk_drewN ?_ _ | refine blk_drew ?_ | refine blk_alloc ?_ _)); refine blk_far ?_ NB226_259.out _; (with_reducible repeat (first | refine blk_drewN ?_ _ | refine blk_drew ?_ | refine blk_alloc ?_ _)); exact BK226.out) hb); replace BK242 := Aside0.mk (blk_below (g := gb242) (o := .cells #[.int .i64 t234, .int .i64 t235, .int .i64 t236] 96 (0, 0)) (by (with_reducible repeat (first | refine blk_drewN ?_ _ | refine blk_drew ?_ | refine blk_alloc ?_ _)); refine blk_far ?_ NB242_260.out _; (with_reducible repeat (first | refine blk_drewN ?_ _ | refine blk_drew ?_ | refine blk_alloc ?_ _)); refine blk_far ?_ NB242_260.out _; (with_reducible repeat (first | refine blk_drewN ?_ _ | refine blk_drew ?_ | refine blk_alloc ?_ _)); refine blk_far ?_ NB242_260.out _; (with_reducible repeat (first | refine blk_drewN ?_ _ | refine blk_drew ?_ | refine blk_alloc ?_ _)); refine blk_far ?_ NB242_260.out _; (with_reducible repeat (first | refine blk_drewN ?_ _ | refine blk_drew ?_ | refine blk_alloc ?_ _)); refine blk_far ?_ NB242_259.out _; (with_reducible repeat (first | refine blk_drewN ?_ _ | refine blk_drew ?_ | refine blk_alloc ?_ _)); refine blk_far ?_ NB242_259.out _; (with_reducible repeat (first | refine blk_drewN ?_ _ | refine blk_drew ?_ | refine blk_alloc ?_ _)); refine blk_far ?_ NB242_259.out _; (with_reducible repeat (first | refine blk_drewN ?_ _ | refine blk_drew ?_ | refine blk_alloc ?_ _)); exact BK242.out) hb); replace BK243 := Aside0.mk (blk_below (g := gb243) (o := .cells #[.int .i64 t237, .int .i64 t238, .int .i64 t239, .int .i64 t240] 40 (0, 0)) (by (with_reducible repeat (first | refine blk_drewN ?_ _ | refine blk_drew ?_ | refine blk_alloc ?_ _)); refine blk_far ?_ NB243_260.out _; (with_reducible repeat (first | refine blk_drewN ?_ _ | refine blk_drew ?_ | refine blk_alloc ?_ _)); refine blk_far ?_ NB243_260.out _; (with_reducible repeat (first | refine blk_drewN ?_ _ | refine blk_drew ?_ | refine blk_alloc ?_ _)); refine blk_far ?_ NB243_260.out _; (with_reducible repeat (first | refine blk_drewN ?_ _ | refine blk_drew ?_ | refine blk_alloc ?_ _)); refine blk_far ?_ NB243_260.out _; (with_reducible repeat (first | refine blk_drewN ?_ _ | refine blk_drew ?_ | refine blk_alloc ?_ _)); refine blk_far ?_ NB243_259.out _; (with_reducible repeat (first | refine blk_drewN ?_ _ | refine blk_drew ?_ | refine blk_alloc ?_ _)); refine blk_far ?_ NB243_259.out _; (with_reducible repeat (first | refine blk_drewN ?_ _ | refine blk_drew ?_ | refine blk_alloc ?_ _)); refine blk_far ?_ NB243_259.out _; (with_reducible repeat (first | refine blk_drewN ?_ _ | refine blk_drew ?_ | refine blk_alloc ?_ _)); exact BK243.out) hb); replace BK247 := Aside0.mk (blk_below (g := gb247) (o := .cells #[.slice Ao42 t244.length co42] 100 (0, 0)) (by (with_reducible repeat (first | refine blk_drewN ?_ _ | refine blk_drew ?_ | refine blk_alloc ?_ _)); refine blk_far ?_ NB247_260.out _; (with_reducible repeat (first | refine blk_drewN ?_ _ | refine blk_drew ?_ | refine blk_alloc ?_ _)); refine blk_far ?_ NB247_260.out _; (with_reducible repeat (first | refine blk_drewN ?_ _ | refine blk_drew ?_ | refine blk_alloc ?_ _)); refine blk_far ?_ NB247_260.out _; (with_reducible repeat (first | refine blk_drewN ?_ _ | refine blk_drew ?_ | refine blk_alloc ?_ _)); refine blk_far ?_ NB247_260.out _; (with_reducible repeat (first | refine blk_drewN ?_ _ | refine blk_drew ?_ | refine blk_alloc ?_ _)); refine blk_far ?_ NB247_259.out _; (with_reducible repeat (first | refine blk_drewN ?_ _ | refine blk_drew ?_ | refine blk_alloc ?_ _)); refine blk_far ?_ NB247_259.out _; (with_reducible repeat (first | refine blk_drewN ?_ _ | refine blk_drew ?_ | refine blk_alloc ?_ _)); refine blk_far ?_ NB247_259.out _; (with_reducible repeat (first | refine blk_drewN ?_ _ | refine blk_drew ?_ | refine blk_alloc ?_ _)); exact BK247.out) hb); replace BK259 := Aside0.mk (blk_below (g := gb259) (o := .cells #[.int .i64 t251, .int .i64 t252, .int .i64 t253] 96 (0, 0)) (by (with_reducible repeat (first | refine blk_drewN ?_ _ | refine blk_drew ?_ | refine blk_alloc ?_ _)); refine blk_far ?_ NB259_260.out _; (with_reducible repeat (first | refine blk_drewN ?_ _ | refine blk_drew ?_ | refine blk_alloc ?_ _)); refine blk_far ?_ NB259_260.out _; (with_reducible repeat (first | refine blk_drewN ?_ _ | refine blk_drew ?_ | refine blk_alloc ?_ _)); refine blk_far ?_ NB259_260.out _; (with_reducible repeat (first | refine blk_drewN ?_ _ | refine blk_drew ?_ | refine blk_alloc ?_ _)); refine blk_far ?_ NB259_260.out _; (with_reducible repeat (first | refine blk_drewN ?_ _ | refine blk_drew ?_ | refine blk_alloc ?_ _)); refine blk_put (cs := #[.int .i64 t251, .int .i64 t252, .int .i64 0]) ?_ 2 _ rfl; (with_reducible repeat (first | refine blk_drewN ?_ _ | refine blk_drew ?_ | refine blk_alloc ?_ _)); refine blk_put (cs := #[.int .i64 t251, .int .i64 0, .int .i64 0]) ?_ 1 _ rfl; (with_reducible repeat (first | refine blk_drewN ?_ _ | refine blk_drew ?_ | refine blk_alloc ?_ _)); refine blk_put (cs := #[.int .i64 0, .int .i64 0, .int .i64 0]) ?_ 0 _ rfl; (with_reducible repeat (first | refine blk_drewN ?_ _ | refine blk_drew ?_ | refine blk_alloc ?_ _)); exact BK259.out) hb); replace BK260 := Aside0.mk (blk_below (g := gb260) (o := .cells #[.int .i64 t254, .int .i64 t255, .int .i64 t256, .int .i64 t257] 40 (0, 0)) (by (with_reducible repeat (first | refine blk_drewN ?_ _ | refine blk_drew ?_ | refine blk_alloc ?_ _)); refine blk_put (cs := #[.int .i64 t254, .int .i64 t255, .int .i64 t256, .int .i64 0]) ?_ 3 _ rfl; (with_reducible repeat (first | refine blk_drewN ?_ _ | refine blk_drew ?_ | refine blk_alloc ?_ _)); refine blk_put (cs := #[.int .i64 t254, .int .i64 t255, .int .i64 0, .int .i64 0]) ?_ 2 _ rfl; (with_reducible repeat (first | refine blk_drewN ?_ _ | refine blk_drew ?_ | refine blk_alloc ?_ _)); refine blk_put (cs := #[.int .i64 t254, .int .i64 0, .int .i64 0, .int .i64 0]) ?_ 1 _ rfl; (with_reducible repeat (first | refine blk_drewN ?_ _ | refine blk_drew ?_ | refine blk_alloc ?_ _)); refine blk_put (cs := #[.int .i64 0, .int .i64 0, .int .i64 0, .int .i64 0]) ?_ 0 _ rfl; (with_reducible repeat (first | refine blk_drewN ?_ _ | refine blk_drew ?_ | refine blk_alloc ?_ _)); refine blk_far ?_ NB260_259.out _; (with_reducible repeat (first | refine blk_drewN ?_ _ | refine blk_drew ?_ | refine blk_alloc ?_ _)); refine blk_far ?_ NB260_259.out _; (with_reducible repeat (first | refine blk_drewN ?_ _ | refine blk_drew ?_ | refine blk_alloc ?_ _)); refine blk_far ?_ NB260_259.out _; (with_reducible repeat (first | refine blk_drewN ?_ _ | refine blk_drew ?_ | refine blk_alloc ?_ _)); exact BK260.out) hb); replace HB := bH HB hb; (try clear hb); (try clear hb2); (try clear hk); (try clear hi); have hnb80 := NB260_225.out; have hnc80 := NB225_260.out; have hnb81 := NB260_226.out; have hnc81 := NB226_260.out; have hnb82 := NB260_243.out; have hnc82 := NB243_260.out; have hnb83 := NB260_247.out; have hnc83 := NB247_260.out; obtain ⟨hcz84_0, hcz84_1, hcz84_2, hcz84_3, hfz84_0, hfz84_1, hfz84_2, hfz84_3⟩ := bc4 BK260.out; have hnb85 := NB243_225.out; have hnc85 := NB225_243.out; have hnb86 := NB243_226.out; have hnc86 := NB226_243.out; have hnb87 := NB243_247.out; have hnc87 := NB247_243.out; obtain ⟨hcz88_0, hcz88_1, hcz88_2, hcz88_3, hfz88_0, hfz88_1, hfz88_2, hfz88_3⟩ := bc4 BK243.out) | (go_at_call 65; (with_reducible refine (laws_eqSignedHead.calls t254 t255 t256 t257 t237 t238 t239 t240 true _ A64.out).mono ?_); rintro e w89 ⟨rfl, hb⟩; replace HO233 := Aside0.mk (Kd.R_below (tR HO233) hb); replace HO246 := Aside0.mk (Kd.R_below (tR HO246) hb); replace BK225 := bB BK225 hb; replace BK226 := bB BK226 hb; replace BK242 := bB BK242 hb; replace BK243 := bB BK243 hb; replace BK247 := bB BK247 hb; replace BK259 := bB BK259 hb; replace BK260 := bB BK260 hb; replace HB := bH HB hb; (try clear hb); (try clear hb2); (try clear hk); (try clear hi)))
       go_meet
       case rel => exact ⟨_, ((t258 != t241)), tS, H', ⟨by first | omega | exact Nat.le_refl _⟩, ⟨by (with_reducible repeat (first | apply Kd.R_alloc | apply Kd.R_drewN | apply Kd.R_drew)); exact Kd.R_mono HO246.out (fun _ hk => trivial)⟩, ⟨tK BK225⟩, ⟨tK BK226⟩, ⟨tK BK242⟩, ⟨tK BK243⟩, ⟨tK BK247⟩, ⟨tK BK259⟩, ⟨tK BK260⟩, ⟨tB⟩⟩
      ·replace c65 := Bool.eq_false_iff.mpr c65
       subst c65
       have H1 : (laws_FnExactSignHead.j0 k true l1_0 t244) = some r := by rw [if_neg (show ¬ (false = true) by decide)] at H; exact H
       clear H
       have H := H1
       clear H1
       have H' := Aside0.mk H
       clear H
       have hnb90 := NB259_225.out
       have hnc90 := NB225_259.out
       have hnb91 := NB259_226.out
       have hnc91 := NB226_259.out
       have hnb92 := NB259_242.out
       have hnc92 := NB242_259.out
       have hnb93 := NB259_243.out
       have hnc93 := NB243_259.out
       have hnb94 := NB259_247.out
       have hnc94 := NB247_259.out
       have hnb95 := NB259_260.out
       have hnc95 := NB260_259.out
       obtain ⟨hcz96_0, hcz96_1, hcz96_2, hfz96_0, hfz96_1, hfz96_2⟩ := bc3 BK259.out
       have hnb97 := NB242_225.out
       have hnc97 := NB225_242.out
       have hnb98 := NB242_226.out
       have hnc98 := NB226_242.out
       have hnb99 := NB242_243.out
       have hnc99 := NB243_242.out
       have hnb100 := NB242_247.out
       have hnc100 := NB247_242.out
       have hnb101 := NB242_260.out
       have hnc101 := NB260_242.out
       obtain ⟨hcz102_0, hcz102_1, hcz102_2, hfz102_0, hfz102_1, hfz102_2⟩ := bc3 BK242.out
       go_wp2_with (first | ((with_reducible refine gate_callee (f := 64) rfl ?_); refine goesL_ (some 39) rfl rfl Try.func64 (by kernel_rfl) rfl #[.agg #[.int .i64 t251, .int .i64 t252, .int .i64 t253], .agg #[.int .i64 t234, .int .i64 t235, .int .i64 t236]] rfl tL ?_; (with_reducible refine (laws_eqWitness.calls t251 t252 t253 t234 t235 t236 true _ A62.out).mono ?_); rintro e w103 ⟨rfl, hb⟩; refine ⟨_, rfl, ?_⟩; replace HO233 := Aside0.mk (Kd.R_below (by (with_reducible repeat (first | apply Kd.R_alloc | apply Kd.R_drewN | apply Kd.R_drew)); exact (Kd.R_mono (Kd.R_mono (Kd.R_far (p := ⟨gb260, 3, none⟩) (Kd.R_far (p := ⟨gb260, 2, none⟩) (Kd.R_far (p := ⟨gb260, 1, none⟩) (Kd.R_far (p := ⟨gb260, 0, none⟩) (Kd.R_far (p := ⟨gb259, 2, none⟩) (Kd.R_far (p := ⟨gb259, 1, none⟩) (Kd.R_far (p := ⟨gb259, 0, none⟩) (Kd.R_types (Kd.R_types HO233.out BK259.out (by decide)) BK260.out (by decide)) (fun _ hk => hk.1.2) (.int .i64 t251)) (fun _ hk => hk.1.2) (.int .i64 t252)) (fun _ hk => hk.1.2) (.int .i64 t253)) (fun _ hk => hk.2) (.int .i64 t254)) (fun _ hk => hk.2) (.int .i64 t255)) (fun _ hk => hk.2) (.int .i64 t256)) (fun _ hk => hk.2) (.int .i64 t257)) (fun _ h_ => h_.1)) (fun _ h_ => h_.1))) hb); replace HO246 := Aside0.mk (Kd.R_below (by (with_reducible repeat (first | apply Kd.R_alloc | apply Kd.R_drewN | apply Kd.R_drew)); exact (Kd.R_mono (Kd.R_mono (Kd.R_far (p := ⟨gb260, 3, none⟩) (Kd.R_far (p := ⟨gb260, 2, none⟩) (Kd.R_far (p := ⟨gb260, 1, none⟩) (Kd.R_far (p := ⟨gb260, 0, none⟩) (Kd.R_far (p := ⟨gb259, 2, none⟩) (Kd.R_far (p := ⟨gb259, 1, none⟩) (Kd.R_far (p := ⟨gb259, 0, none⟩) (Kd.R_types (Kd.R_types HO246.out BK259.out (by decide)) BK260.out (by decide)) (fun _ hk => hk.1.2) (.int .i64 t251)) (fun _ hk => hk.1.2) (.int .i64 t252)) (fun _ hk => hk.1.2) (.int .i64 t253)) (fun _ hk => hk.2) (.int .i64 t254)) (fun _ hk => hk.2) (.int .i64 t255)) (fun _ hk => hk.2) (.int .i64 t256)) (fun _ hk => hk.2) (.int .i64 t257)) (fun _ h_ => h_.1)) (fun _ h_ => h_.1))) hb); replace BK225 := Aside0.mk (blk_below (g := gb225) (o := .cells #[.int .i64 a0_0, .int .i64 a0_1, .int .i64 a0_2] 92 (0, 0)) (by (with_reducible repeat (first | refine blk_drewN ?_ _ | refine blk_drew ?_ | refine blk_alloc ?_ _)); refine blk_far ?_ NB225_260.out _; (with_reducible repeat (first | refine blk_drewN ?_ _ | refine blk_drew ?_ | refine blk_alloc ?_ _)); refine blk_far ?_ NB225_260.out _; (with_reducible repeat (first | refine blk_drewN ?_ _ | refine blk_drew ?_ | refine blk_alloc ?_ _)); refine blk_far ?_ NB225_260.out _; (with_reducible repeat (first | refine blk_drewN ?_ _ | refine blk_drew ?_ | refine blk_alloc ?_ _)); refine blk_far ?_ NB225_260.out _; (with_reducible repeat (first | refine blk_drewN ?_ _ | refine blk_drew ?_ | refine blk_alloc ?_ _)); refine blk_far ?_ NB225_259.out _; (with_reducible repeat (first | refine blk_drewN ?_ _ | refine blk_drew ?_ | refine blk_alloc ?_ _)); refine blk_far ?_ NB225_259.out _; (with_reducible repeat (first | refine blk_drewN ?_ _ | refine blk_drew ?_ | refine blk_alloc ?_ _)); refine blk_far ?_ NB225_259.out _; (with_reducible repeat (first | refine blk_drewN ?_ _ | refine blk_drew ?_ | refine blk_alloc ?_ _)); exact BK225.out) hb); replace BK226 := Aside0.mk (blk_below (g := gb226) (o := .cells #[.slice A1_0 l1_0.length c1_0] 94 (0, 0)) (by (with_reducible repeat (first | refine blk_drewN ?_ _ | refine blk_drew ?_ | refine blk_alloc ?_ _)); refine blk_far ?_ NB226_260.out _; (with_reducible repeat (first | refine blk_drewN ?_ _ | refine blk_drew ?_ | refine blk_alloc ?_ _)); refine blk_far ?_ NB226_260.out _; (with_reducible repeat (first | refine blk_drewN ?_ _ | refine blk_drew ?_ | refine blk_alloc ?_ _)); refine blk_far ?_ NB226_260.out _; (with_reducible repeat (first | refine blk_drewN ?_ _ | refine blk_drew ?_ | refine blk_alloc ?_ _)); refine blk_far ?_ NB226_260.out _; (with_reducible repeat (first | refine blk_drewN ?_ _ | refine blk_drew ?_ | refine blk_alloc ?_ _)); refine blk_far ?_ NB226_259.out _; (with_reducible repeat (first | refine blk_drewN ?_ _ | refine blk_drew ?_ | refine blk_alloc ?_ _)); refine blk_far ?_ NB226_259.out _; (with_reducible repeat (first | refine blk_drewN ?_ _ | refine blk_drew ?_ | refine blk_alloc ?_ _)); refine blk_far ?_ NB226_259.out _; (with_reducible repeat (first | refine blk_drewN ?_ _ | refine blk_drew ?_ | refine blk_alloc ?_ _)); exact BK226.out) hb); replace BK242 := Aside0.mk (blk_below (g := gb242) (o := .cells #[.int .i64 t234, .int .i64 t235, .int .i64 t236] 96 (0, 0)) (by (with_reducible repeat (first | refine blk_drewN ?_ _ | refine blk_drew ?_ | refine blk_alloc ?_ _)); refine blk_far ?_ NB242_260.out _; (with_reducible repeat (first | refine blk_drewN ?_ _ | refine blk_drew ?_ | refine blk_alloc ?_ _)); refine blk_far ?_ NB242_260.out _; (with_reducible repeat (first | refine blk_drewN ?_ _ | refine blk_drew ?_ | refine blk_alloc ?_ _)); refine blk_far ?_ NB242_260.out _; (with_reducible repeat (first | refine blk_drewN ?_ _ | refine blk_drew ?_ | refine blk_alloc ?_ _)); refine blk_far ?_ NB242_260.out _; (with_reducible repeat (first | refine blk_drewN ?_ _ | refine blk_drew ?_ | refine blk_alloc ?_ _)); refine blk_far ?_ NB242_259.out _; (with_reducible repeat (first | refine blk_drewN ?_ _ | refine blk_drew ?_ | refine blk_alloc ?_ _)); refine blk_far ?_ NB242_259.out _; (with_reducible repeat (first | refine blk_drewN ?_ _ | refine blk_drew ?_ | refine blk_alloc ?_ _)); refine blk_far ?_ NB242_259.out _; (with_reducible repeat (first | refine blk_drewN ?_ _ | refine blk_drew ?_ | refine blk_alloc ?_ _)); exact BK242.out) hb); replace BK243 := Aside0.mk (blk_below (g := gb243) (o := .cells #[.int .i64 t237, .int .i64 t238, .int .i64 t239, .int .i64 t240] 40 (0, 0)) (by (with_reducible repeat (first | refine blk_drewN ?_ _ | refine blk_drew ?_ | refine blk_alloc ?_ _)); refine blk_far ?_ NB243_260.out _; (with_reducible repeat (first | refine blk_drewN ?_ _ | refine blk_drew ?_ | refine blk_alloc ?_ _)); refine blk_far ?_ NB243_260.out _; (with_reducible repeat (first | refine blk_drewN ?_ _ | refine blk_drew ?_ | refine blk_alloc ?_ _)); refine blk_far ?_ NB243_260.out _; (with_reducible repeat (first | refine blk_drewN ?_ _ | refine blk_drew ?_ | refine blk_alloc ?_ _)); refine blk_far ?_ NB243_260.out _; (with_reducible repeat (first | refine blk_drewN ?_ _ | refine blk_drew ?_ | refine blk_alloc ?_ _)); refine blk_far ?_ NB243_259.out _; (with_reducible repeat (first | refine blk_drewN ?_ _ | refine blk_drew ?_ | refine blk_alloc ?_ _)); refine blk_far ?_ NB243_259.out _; (with_reducible repeat (first | refine blk_drewN ?_ _ | refine blk_drew ?_ | refine blk_alloc ?_ _)); refine blk_far ?_ NB243_259.out _; (with_reducible repeat (first | refine blk_drewN ?_ _ | refine blk_drew ?_ | refine blk_alloc ?_ _)); exact BK243.out) hb); replace BK247 := Aside0.mk (blk_below (g := gb247) (o := .cells #[.slice Ao42 t244.length co42] 100 (0, 0)) (by (with_reducible repeat (first | refine blk_drewN ?_ _ | refine blk_drew ?_ | refine blk_alloc ?_ _)); refine blk_far ?_ NB247_260.out _; (with_reducible repeat (first | refine blk_drewN ?_ _ | refine blk_drew ?_ | refine blk_alloc ?_ _)); refine blk_far ?_ NB247_260.out _; (with_reducible repeat (first | refine blk_drewN ?_ _ | refine blk_drew ?_ | refine blk_alloc ?_ _)); refine blk_far ?_ NB247_260.out _; (with_reducible repeat (first | refine blk_drewN ?_ _ | refine blk_drew ?_ | refine blk_alloc ?_ _)); refine blk_far ?_ NB247_260.out _; (with_reducible repeat (first | refine blk_drewN ?_ _ | refine blk_drew ?_ | refine blk_alloc ?_ _)); refine blk_far ?_ NB247_259.out _; (with_reducible repeat (first | refine blk_drewN ?_ _ | refine blk_drew ?_ | refine blk_alloc ?_ _)); refine blk_far ?_ NB247_259.out _; (with_reducible repeat (first | refine blk_drewN ?_ _ | refine blk_drew ?_ | refine blk_alloc ?_ _)); refine blk_far ?_ NB247_259.out _; (with_reducible repeat (first | refine blk_drewN ?_ _ | refine blk_drew ?_ | refine blk_alloc ?_ _)); exact BK247.out) hb); replace BK259 := Aside0.mk (blk_below (g := gb259) (o := .cells #[.int .i64 t251, .int .i64 t252, .int .i64 t253] 96 (0, 0)) (by (with_reducible repeat (first | refine blk_drewN ?_ _ | refine blk_drew ?_ | refine blk_alloc ?_ _)); refine blk_far ?_ NB259_260.out _; (with_reducible repeat (first | refine blk_drewN ?_ _ | refine blk_drew ?_ | refine blk_alloc ?_ _)); refine blk_far ?_ NB259_260.out _; (with_reducible repeat (first | refine blk_drewN ?_ _ | refine blk_drew ?_ | refine blk_alloc ?_ _)); refine blk_far ?_ NB259_260.out _; (with_reducible repeat (first | refine blk_drewN ?_ _ | refine blk_drew ?_ | refine blk_alloc ?_ _)); refine blk_far ?_ NB259_260.out _; (with_reducible repeat (first | refine blk_drewN ?_ _ | refine blk_drew ?_ | refine blk_alloc ?_ _)); refine blk_put (cs := #[.int .i64 t251, .int .i64 t252, .int .i64 0]) ?_ 2 _ rfl; (with_reducible repeat (first | refine blk_drewN ?_ _ | refine blk_drew ?_ | refine blk_alloc ?_ _)); refine blk_put (cs := #[.int .i64 t251, .int .i64 0, .int .i64 0]) ?_ 1 _ rfl; (with_reducible repeat (first | refine blk_drewN ?_ _ | refine blk_drew ?_ | refine blk_alloc ?_ _)); refine blk_put (cs := #[.int .i64 0, .int .i64 0, .int .i64 0]) ?_ 0 _ rfl; (with_reducible repeat (first | refine blk_drewN ?_ _ | refine blk_drew ?_ | refine blk_alloc ?_ _)); exact BK259.out) hb); replace BK260 := Aside0.mk (blk_below (g := gb260) (o := .cells #[.int .i64 t254, .int .i64 t255, .int .i64 t256, .int .i64 t257] 40 (0, 0)) (by (with_reducible repeat (first | refine blk_drewN ?_ _ | refine blk_drew ?_ | refine blk_alloc ?_ _)); refine blk_put (cs := #[.int .i64 t254, .int .i64 t255, .int .i64 t256, .int .i64 0]) ?_ 3 _ rfl; (with_reducible repeat (first | refine blk_drewN ?_ _ | refine blk_drew ?_ | refine blk_alloc ?_ _)); refine blk_put (cs := #[.int .i64 t254, .int .i64 t255, .int .i64 0, .int .i64 0]) ?_ 2 _ rfl; (with_reducible repeat (first | refine blk_drewN ?_ _ | refine blk_drew ?_ | refine blk_alloc ?_ _)); refine blk_put (cs := #[.int .i64 t254, .int .i64 0, .int .i64 0, .int .i64 0]) ?_ 1 _ rfl; (with_reducible repeat (first | refine blk_drewN ?_ _ | refine blk_drew ?_ | refine blk_alloc ?_ _)); refine blk_put (cs := #[.int .i64 0, .int .i64 0, .int .i64 0, .int .i64 0]) ?_ 0 _ rfl; (with_reducible repeat (first | refine blk_drewN ?_ _ | refine blk_drew ?_ | refine blk_alloc ?_ _)); refine blk_far ?_ NB260_259.out _; (with_reducible repeat (first | refine blk_drewN ?_ _ | refine blk_drew ?_ | refine blk_alloc ?_ _)); refine blk_far ?_ NB260_259.out _; (with_reducible repeat (first | refine blk_drewN ?_ _ | refine blk_drew ?_ | refine blk_alloc ?_ _)); refine blk_far ?_ NB260_259.out _; (with_reducible repeat (first | refine blk_drewN ?_ _ | refine blk_drew ?_ | refine blk_alloc ?_ _)); exact BK260.out) hb); replace HB := bH HB hb; (try clear hb); (try clear hb2); (try clear hk); (try clear hi); have hnb104 := NB260_225.out; have hnc104 := NB225_260.out; have hnb105 := NB260_226.out; have hnc105 := NB226_260.out; have hnb106 := NB260_243.out; have hnc106 := NB243_260.out; have hnb107 := NB260_247.out; have hnc107 := NB247_260.out; obtain ⟨hcz108_0, hcz108_1, hcz108_2, hcz108_3, hfz108_0, hfz108_1, hfz108_2, hfz108_3⟩ := bc4 BK260.out; have hnb109 := NB243_225.out; have hnc109 := NB225_243.out; have hnb110 := NB243_226.out; have hnc110 := NB226_243.out; have hnb111 := NB243_247.out; have hnc111 := NB247_243.out; obtain ⟨hcz112_0, hcz112_1, hcz112_2, hcz112_3, hfz112_0, hfz112_1, hfz112_2, hfz112_3⟩ := bc4 BK243.out) | (go_at_call 65; (with_reducible refine (laws_eqSignedHead.calls t254 t255 t256 t257 t237 t238 t239 t240 false _ A64.out).mono ?_); rintro e w113 ⟨rfl, hb⟩; replace HO233 := Aside0.mk (Kd.R_below (tR HO233) hb); replace HO246 := Aside0.mk (Kd.R_below (tR HO246) hb); replace BK225 := bB BK225 hb; replace BK226 := bB BK226 hb; replace BK242 := bB BK242 hb; replace BK243 := bB BK243 hb; replace BK247 := bB BK247 hb; replace BK259 := bB BK259 hb; replace BK260 := bB BK260 hb; replace HB := bH HB hb; (try clear hb); (try clear hb2); (try clear hk); (try clear hi)))
       go_meet
       case rel => exact ⟨_, (true), tS, H', ⟨by first | omega | exact Nat.le_refl _⟩, ⟨by (with_reducible repeat (first | apply Kd.R_alloc | apply Kd.R_drewN | apply Kd.R_drew)); exact Kd.R_mono HO246.out (fun _ hk => trivial)⟩, ⟨tK BK225⟩, ⟨tK BK226⟩, ⟨tK BK242⟩, ⟨tK BK243⟩, ⟨tK BK247⟩, ⟨tK BK259⟩, ⟨tK BK260⟩, ⟨tB⟩⟩
     ·replace c63 := Bool.eq_false_iff.mpr c63
      subst c63
      have H1 : (laws_FnExactSignHead.j0 k true l1_0 t244) = some r := by rw [if_neg (show ¬ (false = true) by decide)] at H; exact H
      clear H
      have H := H1
      clear H1
      have H' := Aside0.mk H
      clear H
      have hnb114 := NB259_225.out
      have hnc114 := NB225_259.out
      have hnb115 := NB259_226.out
      have hnc115 := NB226_259.out
      have hnb116 := NB259_242.out
      have hnc116 := NB242_259.out
      have hnb117 := NB259_243.out
      have hnc117 := NB243_259.out
      have hnb118 := NB259_247.out
      have hnc118 := NB247_259.out
      have hnb119 := NB259_260.out
      have hnc119 := NB260_259.out
      obtain ⟨hcz120_0, hcz120_1, hcz120_2, hfz120_0, hfz120_1, hfz120_2⟩ := bc3 BK259.out
      have hnb121 := NB242_225.out
      have hnc121 := NB225_242.out
      have hnb122 := NB242_226.out
      have hnc122 := NB226_242.out
      have hnb123 := NB242_243.out
      have hnc123 := NB243_242.out
      have hnb124 := NB242_247.out
      have hnc124 := NB247_242.out
      have hnb125 := NB242_260.out
      have hnc125 := NB260_242.out
      obtain ⟨hcz126_0, hcz126_1, hcz126_2, hfz126_0, hfz126_1, hfz126_2⟩ := bc3 BK242.out
      go_wp2_with (first | ((with_reducible refine gate_callee (f := 64) rfl ?_); refine goesL_ (some 39) rfl rfl Try.func64 (by kernel_rfl) rfl #[.agg #[.int .i64 t251, .int .i64 t252, .int .i64 t253], .agg #[.int .i64 t234, .int .i64 t235, .int .i64 t236]] rfl tL ?_; (with_reducible refine (laws_eqWitness.calls t251 t252 t253 t234 t235 t236 false _ A62.out).mono ?_); rintro e w127 ⟨rfl, hb⟩; refine ⟨_, rfl, ?_⟩; replace HO233 := Aside0.mk (Kd.R_below (by (with_reducible repeat (first | apply Kd.R_alloc | apply Kd.R_drewN | apply Kd.R_drew)); exact (Kd.R_mono (Kd.R_mono (Kd.R_far (p := ⟨gb260, 3, none⟩) (Kd.R_far (p := ⟨gb260, 2, none⟩) (Kd.R_far (p := ⟨gb260, 1, none⟩) (Kd.R_far (p := ⟨gb260, 0, none⟩) (Kd.R_far (p := ⟨gb259, 2, none⟩) (Kd.R_far (p := ⟨gb259, 1, none⟩) (Kd.R_far (p := ⟨gb259, 0, none⟩) (Kd.R_types (Kd.R_types HO233.out BK259.out (by decide)) BK260.out (by decide)) (fun _ hk => hk.1.2) (.int .i64 t251)) (fun _ hk => hk.1.2) (.int .i64 t252)) (fun _ hk => hk.1.2) (.int .i64 t253)) (fun _ hk => hk.2) (.int .i64 t254)) (fun _ hk => hk.2) (.int .i64 t255)) (fun _ hk => hk.2) (.int .i64 t256)) (fun _ hk => hk.2) (.int .i64 t257)) (fun _ h_ => h_.1)) (fun _ h_ => h_.1))) hb); replace HO246 := Aside0.mk (Kd.R_below (by (with_reducible repeat (first | apply Kd.R_alloc | apply Kd.R_drewN | apply Kd.R_drew)); exact (Kd.R_mono (Kd.R_mono (Kd.R_far (p := ⟨gb260, 3, none⟩) (Kd.R_far (p := ⟨gb260, 2, none⟩) (Kd.R_far (p := ⟨gb260, 1, none⟩) (Kd.R_far (p := ⟨gb260, 0, none⟩) (Kd.R_far (p := ⟨gb259, 2, none⟩) (Kd.R_far (p := ⟨gb259, 1, none⟩) (Kd.R_far (p := ⟨gb259, 0, none⟩) (Kd.R_types (Kd.R_types HO246.out BK259.out (by decide)) BK260.out (by decide)) (fun _ hk => hk.1.2) (.int .i64 t251)) (fun _ hk => hk.1.2) (.int .i64 t252)) (fun _ hk => hk.1.2) (.int .i64 t253)) (fun _ hk => hk.2) (.int .i64 t254)) (fun _ hk => hk.2) (.int .i64 t255)) (fun _ hk => hk.2) (.int .i64 t256)) (fun _ hk => hk.2) (.int .i64 t257)) (fun _ h_ => h_.1)) (fun _ h_ => h_.1))) hb); replace BK225 := Aside0.mk (blk_below (g := gb225) (o := .cells #[.int .i64 a0_0, .int .i64 a0_1, .int .i64 a0_2] 92 (0, 0)) (by (with_reducible repeat (first | refine blk_drewN ?_ _ | refine blk_drew ?_ | refine blk_alloc ?_ _)); refine blk_far ?_ NB225_260.out _; (with_reducible repeat (first | refine blk_drewN ?_ _ | refine blk_drew ?_ | refine blk_alloc ?_ _)); refine blk_far ?_ NB225_260.out _; (with_reducible repeat (first | refine blk_drewN ?_ _ | refine blk_drew ?_ | refine blk_alloc ?_ _)); refine blk_far ?_ NB225_260.out _; (with_reducible repeat (first | refine blk_drewN ?_ _ | refine blk_drew ?_ | refine blk_alloc ?_ _)); refine blk_far ?_ NB225_260.out _; (with_reducible repeat (first | refine blk_drewN ?_ _ | refine blk_drew ?_ | refine blk_alloc ?_ _)); refine blk_far ?_ NB225_259.out _; (with_reducible repeat (first | refine blk_drewN ?_ _ | refine blk_drew ?_ | refine blk_alloc ?_ _)); refine blk_far ?_ NB225_259.out _; (with_reducible repeat (first | refine blk_drewN ?_ _ | refine blk_drew ?_ | refine blk_alloc ?_ _)); refine blk_far ?_ NB225_259.out _; (with_reducible repeat (first | refine blk_drewN ?_ _ | refine blk_drew ?_ | refine blk_alloc ?_ _)); exact BK225.out) hb); replace BK226 := Aside0.mk (blk_below (g := gb226) (o := .cells #[.slice A1_0 l1_0.length c1_0] 94 (0, 0)) (by (with_reducible repeat (first | refine blk_drewN ?_ _ | refine blk_drew ?_ | refine blk_alloc ?_ _)); refine blk_far ?_ NB226_260.out _; (with_reducible repeat (first | refine blk_drewN ?_ _ | refine blk_drew ?_ | refine blk_alloc ?_ _)); refine blk_far ?_ NB226_260.out _; (with_reducible repeat (first | refine blk_drewN ?_ _ | refine blk_drew ?_ | refine blk_alloc ?_ _)); refine blk_far ?_ NB226_260.out _; (with_reducible repeat (first | refine blk_drewN ?_ _ | refine blk_drew ?_ | refine blk_alloc ?_ _)); refine blk_far ?_ NB226_260.out _; (with_reducible repeat (first | refine blk_drewN ?_ _ | refine blk_drew ?_ | refine blk_alloc ?_ _)); refine blk_far ?_ NB226_259.out _; (with_reducible repeat (first | refine blk_drewN ?_ _ | refine blk_drew ?_ | refine blk_alloc ?_ _)); refine blk_far ?_ NB226_259.out _; (with_reducible repeat (first | refine blk_drewN ?_ _ | refine blk_drew ?_ | refine blk_alloc ?_ _)); refine blk_far ?_ NB226_259.out _; (with_reducible repeat (first | refine blk_drewN ?_ _ | refine blk_drew ?_ | refine blk_alloc ?_ _)); exact BK226.out) hb); replace BK242 := Aside0.mk (blk_below (g := gb242) (o := .cells #[.int .i64 t234, .int .i64 t235, .int .i64 t236] 96 (0, 0)) (by (with_reducible repeat (first | refine blk_drewN ?_ _ | refine blk_drew ?_ | refine blk_alloc ?_ _)); refine blk_far ?_ NB242_260.out _; (with_reducible repeat (first | refine blk_drewN ?_ _ | refine blk_drew ?_ | refine blk_alloc ?_ _)); refine blk_far ?_ NB242_260.out _; (with_reducible repeat (first | refine blk_drewN ?_ _ | refine blk_drew ?_ | refine blk_alloc ?_ _)); refine blk_far ?_ NB242_260.out _; (with_reducible repeat (first | refine blk_drewN ?_ _ | refine blk_drew ?_ | refine blk_alloc ?_ _)); refine blk_far ?_ NB242_260.out _; (with_reducible repeat (first | refine blk_drewN ?_ _ | refine blk_drew ?_ | refine blk_alloc ?_ _)); refine blk_far ?_ NB242_259.out _; (with_reducible repeat (first | refine blk_drewN ?_ _ | refine blk_drew ?_ | refine blk_alloc ?_ _)); refine blk_far ?_ NB242_259.out _; (with_reducible repeat (first | refine blk_drewN ?_ _ | refine blk_drew ?_ | refine blk_alloc ?_ _)); refine blk_far ?_ NB242_259.out _; (with_reducible repeat (first | refine blk_drewN ?_ _ | refine blk_drew ?_ | refine blk_alloc ?_ _)); exact BK242.out) hb); replace BK243 := Aside0.mk (blk_below (g := gb243) (o := .cells #[.int .i64 t237, .int .i64 t238, .int .i64 t239, .int .i64 t240] 40 (0, 0)) (by (with_reducible repeat (first | refine blk_drewN ?_ _ | refine blk_drew ?_ | refine blk_alloc ?_ _)); refine blk_far ?_ NB243_260.out _; (with_reducible repeat (first | refine blk_drewN ?_ _ | refine blk_drew ?_ | refine blk_alloc ?_ _)); refine blk_far ?_ NB243_260.out _; (with_reducible repeat (first | refine blk_drewN ?_ _ | refine blk_drew ?_ | refine blk_alloc ?_ _)); refine blk_far ?_ NB243_260.out _; (with_reducible repeat (first | refine blk_drewN ?_ _ | refine blk_drew ?_ | refine blk_alloc ?_ _)); refine blk_far ?_ NB243_260.out _; (with_reducible repeat (first | refine blk_drewN ?_ _ | refine blk_drew ?_ | refine blk_alloc ?_ _)); refine blk_far ?_ NB243_259.out _; (with_reducible repeat (first | refine blk_drewN ?_ _ | refine blk_drew ?_ | refine blk_alloc ?_ _)); refine blk_far ?_ NB243_259.out _; (with_reducible repeat (first | refine blk_drewN ?_ _ | refine blk_drew ?_ | refine blk_alloc ?_ _)); refine blk_far ?_ NB243_259.out _; (with_reducible repeat (first | refine blk_drewN ?_ _ | refine blk_drew ?_ | refine blk_alloc ?_ _)); exact BK243.out) hb); replace BK247 := Aside0.mk (blk_below (g := gb247) (o := .cells #[.slice Ao42 t244.length co42] 100 (0, 0)) (by (with_reducible repeat (first | refine blk_drewN ?_ _ | refine blk_drew ?_ | refine blk_alloc ?_ _)); refine blk_far ?_ NB247_260.out _; (with_reducible repeat (first | refine blk_drewN ?_ _ | refine blk_drew ?_ | refine blk_alloc ?_ _)); refine blk_far ?_ NB247_260.out _; (with_reducible repeat (first | refine blk_drewN ?_ _ | refine blk_drew ?_ | refine blk_alloc ?_ _)); refine blk_far ?_ NB247_260.out _; (with_reducible repeat (first | refine blk_drewN ?_ _ | refine blk_drew ?_ | refine blk_alloc ?_ _)); refine blk_far ?_ NB247_260.out _; (with_reducible repeat (first | refine blk_drewN ?_ _ | refine blk_drew ?_ | refine blk_alloc ?_ _)); refine blk_far ?_ NB247_259.out _; (with_reducible repeat (first | refine blk_drewN ?_ _ | refine blk_drew ?_ | refine blk_alloc ?_ _)); refine blk_far ?_ NB247_259.out _; (with_reducible repeat (first | refine blk_drewN ?_ _ | refine blk_drew ?_ | refine blk_alloc ?_ _)); refine blk_far ?_ NB247_259.out _; (with_reducible repeat (first | refine blk_drewN ?_ _ | refine blk_drew ?_ | refine blk_alloc ?_ _)); exact BK247.out) hb); replace BK259 := Aside0.mk (blk_below (g := gb259) (o := .cells #[.int .i64 t251, .int .i64 t252, .int .i64 t253] 96 (0, 0)) (by (with_reducible repeat (first | refine blk_drewN ?_ _ | refine blk_drew ?_ | refine blk_alloc ?_ _)); refine blk_far ?_ NB259_260.out _; (with_reducible repeat (first | refine blk_drewN ?_ _ | refine blk_drew ?_ | refine blk_alloc ?_ _)); refine blk_far ?_ NB259_260.out _; (with_reducible repeat (first | refine blk_drewN ?_ _ | refine blk_drew ?_ | refine blk_alloc ?_ _)); refine blk_far ?_ NB259_260.out _; (with_reducible repeat (first | refine blk_drewN ?_ _ | refine blk_drew ?_ | refine blk_alloc ?_ _)); refine blk_far ?_ NB259_260.out _; (with_reducible repeat (first | refine blk_drewN ?_ _ | refine blk_drew ?_ | refine blk_alloc ?_ _)); refine blk_put (cs := #[.int .i64 t251, .int .i64 t252, .int .i64 0]) ?_ 2 _ rfl; (with_reducible repeat (first | refine blk_drewN ?_ _ | refine blk_drew ?_ | refine blk_alloc ?_ _)); refine blk_put (cs := #[.int .i64 t251, .int .i64 0, .int .i64 0]) ?_ 1 _ rfl; (with_reducible repeat (first | refine blk_drewN ?_ _ | refine blk_drew ?_ | refine blk_alloc ?_ _)); refine blk_put (cs := #[.int .i64 0, .int .i64 0, .int .i64 0]) ?_ 0 _ rfl; (with_reducible repeat (first | refine blk_drewN ?_ _ | refine blk_drew ?_ | refine blk_alloc ?_ _)); exact BK259.out) hb); replace BK260 := Aside0.mk (blk_below (g := gb260) (o := .cells #[.int .i64 t254, .int .i64 t255, .int .i64 t256, .int .i64 t257] 40 (0, 0)) (by (with_reducible repeat (first | refine blk_drewN ?_ _ | refine blk_drew ?_ | refine blk_alloc ?_ _)); refine blk_put (cs := #[.int .i64 t254, .int .i64 t255, .int .i64 t256, .int .i64 0]) ?_ 3 _ rfl; (with_reducible repeat (first | refine blk_drewN ?_ _ | refine blk_drew ?_ | refine blk_alloc ?_ _)); refine blk_put (cs := #[.int .i64 t254, .int .i64 t255, .int .i64 0, .int .i64 0]) ?_ 2 _ rfl; (with_reducible repeat (first | refine blk_drewN ?_ _ | refine blk_drew ?_ | refine blk_alloc ?_ _)); refine blk_put (cs := #[.int .i64 t254, .int .i64 0, .int .i64 0, .int .i64 0]) ?_ 1 _ rfl; (with_reducible repeat (first | refine blk_drewN ?_ _ | refine blk_drew ?_ | refine blk_alloc ?_ _)); refine blk_put (cs := #[.int .i64 0, .int .i64 0, .int .i64 0, .int .i64 0]) ?_ 0 _ rfl; (with_reducible repeat (first | refine blk_drewN ?_ _ | refine blk_drew ?_ | refine blk_alloc ?_ _)); refine blk_far ?_ NB260_259.out _; (with_reducible repeat (first | refine blk_drewN ?_ _ | refine blk_drew ?_ | refine blk_alloc ?_ _)); refine blk_far ?_ NB260_259.out _; (with_reducible repeat (first | refine blk_drewN ?_ _ | refine blk_drew ?_ | refine blk_alloc ?_ _)); refine blk_far ?_ NB260_259.out _; (with_reducible repeat (first | refine blk_drewN ?_ _ | refine blk_drew ?_ | refine blk_alloc ?_ _)); exact BK260.out) hb); replace HB := bH HB hb; (try clear hb); (try clear hb2); (try clear hk); (try clear hi)))
      go_meet
      case rel => exact ⟨_, (true), tS, H', ⟨by first | omega | exact Nat.le_refl _⟩, ⟨by (with_reducible repeat (first | apply Kd.R_alloc | apply Kd.R_drewN | apply Kd.R_drew)); exact Kd.R_mono HO246.out (fun _ hk => trivial)⟩, ⟨tK BK225⟩, ⟨tK BK226⟩, ⟨tK BK242⟩, ⟨tK BK243⟩, ⟨tK BK247⟩, ⟨tK BK259⟩, ⟨tK BK260⟩, ⟨tB⟩⟩
    case rest =>
     clear HC16
     try clear c1
     try clear p2
     try clear c6
     try clear c7
     try clear c8
     try clear c9
     try clear c10
     try clear c11
     try clear c12
     try clear c63
     try clear c64
     try clear c65
     try clear c66
     try clear c67
     try clear c68
     try clear c69
     try clear c70
     try clear c71
     try clear c73
     try clear c74
     try clear c75
     try clear c76
     try clear c77
     try clear c80
     try clear c81
     try clear c82
     try clear c83
     try clear c85
     try clear c86
     try clear c87
     try clear c90
     try clear c91
     try clear c92
     try clear c93
     try clear c94
     try clear c95
     try clear c97
     try clear c98
     try clear c99
     try clear c100
     try clear c101
     try clear c104
     try clear c105
     try clear c106
     try clear c107
     try clear c109
     try clear c110
     try clear c111
     try clear c114
     try clear c115
     try clear c116
     try clear c117
     try clear c118
     try clear c119
     try clear c121
     try clear c122
     try clear c123
     try clear c124
     try clear c125
     try clear hcz102_0
     try clear hcz102_1
     try clear hcz102_2
     try clear hcz108_0
     try clear hcz108_1
     try clear hcz108_2
     try clear hcz108_3
     try clear hcz112_0
     try clear hcz112_1
     try clear hcz112_2
     try clear hcz112_3
     try clear hcz120_0
     try clear hcz120_1
     try clear hcz120_2
     try clear hcz126_0
     try clear hcz126_1
     try clear hcz126_2
     try clear hcz72_0
     try clear hcz72_1
     try clear hcz72_2
     try clear hcz78_0
     try clear hcz78_1
     try clear hcz78_2
     try clear hcz84_0
     try clear hcz84_1
     try clear hcz84_2
     try clear hcz84_3
     try clear hcz88_0
     try clear hcz88_1
     try clear hcz88_2
     try clear hcz88_3
     try clear hcz96_0
     try clear hcz96_1
     try clear hcz96_2
     try clear hfz102_0
     try clear hfz102_1
     try clear hfz102_2
     try clear hfz108_0
     try clear hfz108_1
     try clear hfz108_2
     try clear hfz108_3
     try clear hfz112_0
     try clear hfz112_1
     try clear hfz112_2
     try clear hfz112_3
     try clear hfz120_0
     try clear hfz120_1
     try clear hfz120_2
     try clear hfz126_0
     try clear hfz126_1
     try clear hfz126_2
     try clear hfz72_0
     try clear hfz72_1
     try clear hfz72_2
     try clear hfz78_0
     try clear hfz78_1
     try clear hfz78_2
     try clear hfz84_0
     try clear hfz84_1
     try clear hfz84_2
     try clear hfz84_3
     try clear hfz88_0
     try clear hfz88_1
     try clear hfz88_2
     try clear hfz88_3
     try clear hfz96_0
     try clear hfz96_1
     try clear hfz96_2
     obtain ⟨kq, x51_15, rfl, HA, HJ15, HO_248000, BK225, BK226, BK242, BK243, BK247, BK259, BK260, HB⟩ := hcut
     cases kq with
     | zero => exact absurd HA.out (by simp [laws_FnExactSignHead.j0])
     | succ kj15 =>
      have H := HA.out
      clear HA
      simp only [laws_FnExactSignHead.j0] at H
      by_cases c128 : x51_15 = true
      ·subst c128
       have H1 : (some false) = some r := by rw [if_pos rfl] at H; exact H
       clear H
       have H := H1
       clear H1
       exact absurd ((Option.some.inj H).trans hT_) (by decide)
      ·replace c128 := Bool.eq_false_iff.mpr c128
       subst c128
       have H1 : ((laws_toPublicLog.f kj15 l1_0).bind fun t263 => ((laws_eqPublicLog.f kj15 t244 t263).bind fun t266 => (if t266 = true then (some true) else (some false)))) = some r := by rw [if_neg (show ¬ (false = true) by decide)] at H; exact H
       clear H
       have H := H1
       clear H1
       replace H := Option.bind_eq_some_iff.mp H
       obtain ⟨t263, A1290, H⟩ := H
       replace H : ((laws_eqPublicLog.f kj15 t244 t263).bind fun t266 => (if t266 = true then (some true) else (some false))) = some r := H
       have A129 := Aside0.mk A1290
       clear A1290
       replace H := Option.bind_eq_some_iff.mp H
       obtain ⟨t266, A1300, H⟩ := H
       replace H : (if t266 = true then (some true) else (some false)) = some r := H
       have A130 := Aside0.mk A1300
       clear A1300
       by_cases c131 : t266 = true
       ·subst c131
        have H1 : (some true) = some r := by rw [if_pos rfl] at H; exact H
        clear H
        have H := H1
        clear H1
        obtain rfl := Option.some.inj H
        try go_wp2
        replace HO_248000 := Aside0.mk (Kd.R_drew HO_248000.out)
        replace BK225 := Aside0.mk (blk_drew BK225.out)
        replace BK226 := Aside0.mk (blk_drew BK226.out)
        replace BK242 := Aside0.mk (blk_drew BK242.out)
        replace BK243 := Aside0.mk (blk_drew BK243.out)
        replace BK247 := Aside0.mk (blk_drew BK247.out)
        replace BK259 := Aside0.mk (blk_drew BK259.out)
        replace BK260 := Aside0.mk (blk_drew BK260.out)
        replace HB := Aside0.mk (below_drew1 HB.out)
        refine start_ (n := 5) (S := fun w' => w'.cell? ⟨gb247, 0, none⟩ = some (.slice Ao42 t244.length co42) ∧ w'.cell? ⟨gb226, 0, none⟩ = some (.slice A1_0 l1_0.length c1_0)) (ds := []) #[false, false, false, false, false] (by kernel_rfl) rfl rfl ⟨(blk_cell BK247.out 0).trans rfl, (blk_cell BK226.out 0).trans rfl⟩ (fun hHeld => ?_)
        generalize wc.drew = w132 at HO_248000 BK225 BK226 BK242 BK243 BK247 BK259 BK260 HB hHeld ⊢
        refine take_ (i := 0) (N := some 52) (v := ?_) (a' := ?_) #[true, false, false, false, false] rfl rfl (by kernel_rfl) (fun _ _ _ h => h) (Or.inl ⟨by rfl, ?_⟩) hHeld ?_ ?_
        rotate_left
        ·rintro w' ⟨s0, s1⟩
         go_simp
         with_reducible rfl
        rotate_left
        ·simp only [Act.put, List.setIfInBounds_toArray, List.set_cons_zero, List.set_cons_succ, i64_w, i32_w]
         rfl
        refine take_ (i := 1) (N := some 53) (v := ?_) (a' := ?_) #[true, true, false, false, false] rfl rfl (by kernel_rfl) (fun _ _ _ h => h) (Or.inl ⟨by rfl, ?_⟩) hHeld ?_ ?_
        rotate_left
        ·rintro w' ⟨s0, s1⟩
         go_simp
         with_reducible rfl
        rotate_left
        ·simp only [Act.put, List.setIfInBounds_toArray, List.set_cons_zero, List.set_cons_succ, i64_w, i32_w]
         rfl
        refine one_ (i := 2) (N := some 54) #[true, true, true, false, false] rfl rfl (by kernel_rfl) (by decide) (fun K hK => ?_)
        refine goes_ Try.func62 (by kernel_rfl) rfl #[.agg #[.slice A1_0 l1_0.length c1_0]] (by rfl) rfl rfl tL ?_
        with_reducible refine (laws_toPublicLog.calls kj15 _ _ l1_0 t263 _ ?side1 ?side2 A129.out).mono ?_
        (case side1 => repeat (first | exact (Kd.C_below HR1_0.out HB.out) | (with_reducible refine Kd.C_alloc ?_ _) | (with_reducible refine Kd.C_drewN ?_ _) | (with_reducible refine Kd.C_drew ?_)))
        (case side2 => exact HC1_0.out)
        rintro e w133 ⟨v264, rfl, ho0, hb⟩
        refine ⟨_, rfl, ?_⟩
        have HO265 := Aside0.mk (Kd.R_lower (Kd.R_new' ho0 (Kd.R_lt (tR HO_248000))) (below_size tB))
        replace HO_248000 := Aside0.mk (Kd.R_elder' (tR HO_248000) (Kd.R_base ho0) hb)
        replace BK225 := bB BK225 hb
        replace BK226 := bB BK226 hb
        replace BK242 := bB BK242 hb
        replace BK243 := bB BK243 hb
        replace BK247 := bB BK247 hb
        replace BK259 := bB BK259 hb
        replace BK260 := bB BK260 hb
        replace HB := bH HB hb
        (try clear hb)
        (try clear hb2)
        (try clear hk)
        (try clear hi)
        (try clear ho0)
        obtain ⟨Ao134, co134, eo134⟩ := Kd.R_slice HO265.out
        (first | subst eo134 | (injection eo134 with f1_ f2_ f3_; have f4_ := f1_.symm; have f5_ := f3_.symm; clear f1_ f2_ f3_; subst f4_; subst f5_))
        refine hK.out _ _ ⟨(blk_cell BK247.out 0).trans rfl, (blk_cell BK226.out 0).trans rfl⟩ (fun hHeld => ?_)
        clear hK K
        refine norm_ (tV : Act.put _ (some 54) _ = _) ?_
        refine one_ (i := 3) (N := some 55) #[true, true, true, true, false] rfl rfl (by kernel_rfl) (by decide) (fun K hK => ?_)
        refine goes_ Try.func66 (by kernel_rfl) rfl #[.agg #[.slice Ao42 t244.length co42], .agg #[.slice Ao134 t263.length co134]] (by rfl) rfl rfl tL ?_
        with_reducible refine (laws_eqPublicLog.calls kj15 _ _ t244 _ _ t263 true _ ?side1 ?side2 ?side3 ?side4 A130.out).mono ?_
        (case side1 => repeat (first | exact (Kd.R_reads' HO_248000.out).2.2 | (with_reducible refine Kd.C_alloc ?_ _) | (with_reducible refine Kd.C_drewN ?_ _) | (with_reducible refine Kd.C_drew ?_)))
        (case side2 => exact (Kd.R_reads' HO_248000.out).2.1)
        (case side3 => repeat (first | exact (Kd.R_reads' HO265.out).2.2 | (with_reducible refine Kd.C_alloc ?_ _) | (with_reducible refine Kd.C_drewN ?_ _) | (with_reducible refine Kd.C_drew ?_)))
        (case side4 => exact (Kd.R_reads' HO265.out).2.1)
        rintro e w135 ⟨rfl, hb⟩
        refine ⟨_, rfl, ?_⟩
        replace HO_248000 := Aside0.mk (Kd.R_below (tR HO_248000) hb)
        replace HO265 := Aside0.mk (Kd.R_below (tR HO265) hb)
        replace BK225 := bB BK225 hb
        replace BK226 := bB BK226 hb
        replace BK242 := bB BK242 hb
        replace BK243 := bB BK243 hb
        replace BK247 := bB BK247 hb
        replace BK259 := bB BK259 hb
        replace BK260 := bB BK260 hb
        replace HB := bH HB hb
        (try clear hb)
        (try clear hb2)
        (try clear hk)
        (try clear hi)
        refine hK.out _ _ ⟨(blk_cell BK247.out 0).trans rfl, (blk_cell BK226.out 0).trans rfl⟩ (fun hHeld => ?_)
        clear hK K
        refine norm_ (tV : Act.put _ (some 55) _ = _) ?_
        refine pure_ (i := 4) (N := some 56) (v := ?_) (a' := ?_) #[true, true, true, true, true] rfl rfl (by kernel_rfl) (fun _ _ _ h => h) (Or.inl ⟨by rfl, ?_⟩) ?_ ?_
        rotate_left
        ·intro w'
         go_simp
         with_reducible rfl
        rotate_left
        ·simp only [Act.put, List.setIfInBounds_toArray, List.set_cons_zero, List.set_cons_succ, i64_w, i32_w]
         rfl
        refine done_ (by kernel_rfl) ?_
        try go_wp2
        go_ret
        exact ⟨tE, tB⟩
       ·replace c131 := Bool.eq_false_iff.mpr c131
        subst c131
        have H1 : (some false) = some r := by rw [if_neg (show ¬ (false = true) by decide)] at H; exact H
        clear H
        have H := H1
        clear H1
        exact absurd ((Option.some.inj H).trans hT_) (by decide)
   intro hJ1_3_8_9
   refine join_ (σ := Nat) 4 #[true, true, true, true, true, true, true, true, true, false, false, false, false] (fun s_ => [(31, .agg #[.int .i64 t248, .int .i64 t249, .int .i64 t250]), (33, .tuple #[.agg #[.int .i64 t251, .int .i64 t252, .int .i64 t253], .agg #[.int .i64 t254, .int .i64 t255, .int .i64 t256, .int .i64 t257], .bool t258]), (10, .pointer (some ⟨s_, 0, none⟩)), (29, .tuple #[.agg #[.int .i64 t251, .int .i64 t252, .int .i64 t253], .agg #[.int .i64 t254, .int .i64 t255, .int .i64 t256, .int .i64 t257], .bool t258]), (34, .agg #[.int .i64 t251, .int .i64 t252, .int .i64 t253]), (35, .agg #[.int .i64 t254, .int .i64 t255, .int .i64 t256, .int .i64 t257]), (36, .bool t258)]) (fun s_ w' => (w'.cell? ⟨gb225, 0, none⟩ = some (.int .i64 a0_0) ∧ w'.cell? ⟨gb225, 1, none⟩ = some (.int .i64 a0_1) ∧ w'.cell? ⟨gb225, 2, none⟩ = some (.int .i64 a0_2) ∧ w'.cell? ⟨gb247, 0, none⟩ = some (.slice Ao42 t244.length co42)) ∧ (Kd.R (Kd.int .i64) 3 w' w.heap.size (fun k_ => some k_ ≠ (.slice Ao42 t244.length co42 : Value).ownBlock) v232 t231) ∧ (Kd.R (Kd.int .i64) 3 w' w.heap.size (fun k_ => some k_ ≠ (v232 : Value).ownBlock) (.slice Ao42 t244.length co42) t244) ∧ (w'.heap[gb225]? = some (.cells #[.int .i64 a0_0, .int .i64 a0_1, .int .i64 a0_2] 92 (0, 0))) ∧ (w'.heap[gb226]? = some (.cells #[.slice A1_0 l1_0.length c1_0] 94 (0, 0))) ∧ (w'.heap[gb242]? = some (.cells #[.int .i64 t234, .int .i64 t235, .int .i64 t236] 96 (0, 0))) ∧ (w'.heap[gb243]? = some (.cells #[.int .i64 t237, .int .i64 t238, .int .i64 t239, .int .i64 t240] 40 (0, 0))) ∧ (w'.heap[gb247]? = some (.cells #[.slice Ao42 t244.length co42] 100 (0, 0))) ∧ (w'.heap[s_]? = some (.cells #[.int .i64 0, .int .i64 0, .int .i64 0] 96 (0, 0))) ∧ (w.heap.size ≤ s_) ∧ (w.heap.size ≤ s_) ∧ (gb225 ≠ s_) ∧ (s_ ≠ gb225) ∧ (gb226 ≠ s_) ∧ (s_ ≠ gb226) ∧ (gb242 ≠ s_) ∧ (s_ ≠ gb242) ∧ (gb243 ≠ s_) ∧ (s_ ≠ gb243) ∧ (gb247 ≠ s_) ∧ (s_ ≠ gb247) ∧ (Below w.heap.size w w')) ?_ ?_
   ·rintro gb259 w53 ⟨hHeld, h0_, h1_, h2_, h3_, h4_, h5_, h6_, h7_, h8_, h9_, h10_, h11_, h12_, h13_, h14_, h15_, h16_, h17_, h18_, h19_, h20_⟩
    replace HO233 := Aside0.mk h0_
    replace HO246 := Aside0.mk h1_
    replace BK225 := Aside0.mk h2_
    replace BK226 := Aside0.mk h3_
    replace BK242 := Aside0.mk h4_
    replace BK243 := Aside0.mk h5_
    replace BK247 := Aside0.mk h6_
    have BK259 := Aside0.mk h7_
    have GW259 := Aside0.mk h8_
    have GE259 := Aside0.mk h9_
    have NB225_259 := Aside0.mk h10_
    have NB259_225 := Aside0.mk h11_
    have NB226_259 := Aside0.mk h12_
    have NB259_226 := Aside0.mk h13_
    have NB242_259 := Aside0.mk h14_
    have NB259_242 := Aside0.mk h15_
    have NB243_259 := Aside0.mk h16_
    have NB259_243 := Aside0.mk h17_
    have NB247_259 := Aside0.mk h18_
    have NB259_247 := Aside0.mk h19_
    replace HB := Aside0.mk h20_
    clear h0_ h1_ h2_ h3_ h4_ h5_ h6_ h7_ h8_ h9_ h10_ h11_ h12_ h13_ h14_ h15_ h16_ h17_ h18_ h19_ h20_
    refine norm_ tM ?_
    refine one_ (i := 9) (N := some 11) #[true, true, true, true, true, true, true, true, true, true, false, false, false] rfl rfl (one_of HT_.out (by kernel_rfl)) (by decide) (fun K hK => ?_)
    refine box_step ?hg (N := 11) ?hd (cs := #[.int .i64 0, .int .i64 0, .int .i64 0, .int .i64 0]) (t := 40) ?hr ?_; (case hd => rfl); (case hg => rfl); (case hr => exact tG)
    intro gb260 hg w54 hbox hb
    replace HO233 := Aside0.mk (Kd.R_below (tR HO233) hb)
    replace HO246 := Aside0.mk (Kd.R_below (tR HO246) hb)
    have BK260 := Aside0.mk (hbox)
    have GW260 := gW HB hg
    have GE260 := gW HB hg
    replace HB := bH HB hb
    have NB225_260 := nL BK225 hg
    have NB260_225 := nR BK225 hg
    replace BK225 := bB BK225 hb
    have NB226_260 := nL BK226 hg
    have NB260_226 := nR BK226 hg
    replace BK226 := bB BK226 hb
    have NB242_260 := nL BK242 hg
    have NB260_242 := nR BK242 hg
    replace BK242 := bB BK242 hb
    have NB243_260 := nL BK243 hg
    have NB260_243 := nR BK243 hg
    replace BK243 := bB BK243 hb
    have NB247_260 := nL BK247 hg
    have NB260_247 := nR BK247 hg
    replace BK247 := bB BK247 hb
    have NB259_260 := nL BK259 hg
    have NB260_259 := nR BK259 hg
    replace BK259 := bB BK259 hb
    clear hb hbox hg
    refine hK.out _ _ ⟨(blk_cell BK225.out 0).trans rfl, (blk_cell BK225.out 1).trans rfl, (blk_cell BK225.out 2).trans rfl, (blk_cell BK247.out 0).trans rfl⟩ (fun hHeld => ?_)
    clear hK K
    refine norm_ (tV : Act.put _ (some 11) _ = _) ?_
    exact norm_ tM (hJ1_3_8_9 (gb259, gb260) _ ⟨hHeld, tR HO233, tR HO246, tK BK225, tK BK226, tK BK242, tK BK243, tK BK247, tK BK259, tK BK260, GW259.out, GE259.out, NB225_259.out, NB259_225.out, NB226_259.out, NB259_226.out, NB242_259.out, NB259_242.out, NB243_259.out, NB259_243.out, NB247_259.out, NB259_247.out, NB260_259.out, NB259_260.out, GW260.out, GE260.out, NB225_260.out, NB260_225.out, NB226_260.out, NB260_226.out, NB242_260.out, NB260_242.out, NB243_260.out, NB260_243.out, NB247_260.out, NB260_247.out, tB⟩)
   intro hJ1_3_8
   refine join_ (σ := Nat) 4 #[true, true, true, true, true, true, true, true, false, true, false, false, false] (fun s_ => [(31, .agg #[.int .i64 t248, .int .i64 t249, .int .i64 t250]), (33, .tuple #[.agg #[.int .i64 t251, .int .i64 t252, .int .i64 t253], .agg #[.int .i64 t254, .int .i64 t255, .int .i64 t256, .int .i64 t257], .bool t258]), (11, .pointer (some ⟨s_, 0, none⟩)), (29, .tuple #[.agg #[.int .i64 t251, .int .i64 t252, .int .i64 t253], .agg #[.int .i64 t254, .int .i64 t255, .int .i64 t256, .int .i64 t257], .bool t258]), (34, .agg #[.int .i64 t251, .int .i64 t252, .int .i64 t253]), (35, .agg #[.int .i64 t254, .int .i64 t255, .int .i64 t256, .int .i64 t257]), (36, .bool t258)]) (fun s_ w' => (w'.cell? ⟨gb225, 0, none⟩ = some (.int .i64 a0_0) ∧ w'.cell? ⟨gb225, 1, none⟩ = some (.int .i64 a0_1) ∧ w'.cell? ⟨gb225, 2, none⟩ = some (.int .i64 a0_2) ∧ w'.cell? ⟨gb247, 0, none⟩ = some (.slice Ao42 t244.length co42)) ∧ (Kd.R (Kd.int .i64) 3 w' w.heap.size (fun k_ => some k_ ≠ (.slice Ao42 t244.length co42 : Value).ownBlock) v232 t231) ∧ (Kd.R (Kd.int .i64) 3 w' w.heap.size (fun k_ => some k_ ≠ (v232 : Value).ownBlock) (.slice Ao42 t244.length co42) t244) ∧ (w'.heap[gb225]? = some (.cells #[.int .i64 a0_0, .int .i64 a0_1, .int .i64 a0_2] 92 (0, 0))) ∧ (w'.heap[gb226]? = some (.cells #[.slice A1_0 l1_0.length c1_0] 94 (0, 0))) ∧ (w'.heap[gb242]? = some (.cells #[.int .i64 t234, .int .i64 t235, .int .i64 t236] 96 (0, 0))) ∧ (w'.heap[gb243]? = some (.cells #[.int .i64 t237, .int .i64 t238, .int .i64 t239, .int .i64 t240] 40 (0, 0))) ∧ (w'.heap[gb247]? = some (.cells #[.slice Ao42 t244.length co42] 100 (0, 0))) ∧ (w'.heap[s_]? = some (.cells #[.int .i64 0, .int .i64 0, .int .i64 0, .int .i64 0] 40 (0, 0))) ∧ (w.heap.size ≤ s_) ∧ (w.heap.size ≤ s_) ∧ (gb225 ≠ s_) ∧ (s_ ≠ gb225) ∧ (gb226 ≠ s_) ∧ (s_ ≠ gb226) ∧ (gb242 ≠ s_) ∧ (s_ ≠ gb242) ∧ (gb243 ≠ s_) ∧ (s_ ≠ gb243) ∧ (gb247 ≠ s_) ∧ (s_ ≠ gb247) ∧ (Below w.heap.size w w')) ?_ ?_
   ·rintro gb260 w53 ⟨hHeld, h0_, h1_, h2_, h3_, h4_, h5_, h6_, h7_, h8_, h9_, h10_, h11_, h12_, h13_, h14_, h15_, h16_, h17_, h18_, h19_, h20_⟩
    replace HO233 := Aside0.mk h0_
    replace HO246 := Aside0.mk h1_
    replace BK225 := Aside0.mk h2_
    replace BK226 := Aside0.mk h3_
    replace BK242 := Aside0.mk h4_
    replace BK243 := Aside0.mk h5_
    replace BK247 := Aside0.mk h6_
    have BK260 := Aside0.mk h7_
    have GW260 := Aside0.mk h8_
    have GE260 := Aside0.mk h9_
    have NB225_260 := Aside0.mk h10_
    have NB260_225 := Aside0.mk h11_
    have NB226_260 := Aside0.mk h12_
    have NB260_226 := Aside0.mk h13_
    have NB242_260 := Aside0.mk h14_
    have NB260_242 := Aside0.mk h15_
    have NB243_260 := Aside0.mk h16_
    have NB260_243 := Aside0.mk h17_
    have NB247_260 := Aside0.mk h18_
    have NB260_247 := Aside0.mk h19_
    replace HB := Aside0.mk h20_
    clear h0_ h1_ h2_ h3_ h4_ h5_ h6_ h7_ h8_ h9_ h10_ h11_ h12_ h13_ h14_ h15_ h16_ h17_ h18_ h19_ h20_
    refine norm_ tM ?_
    refine one_ (i := 8) (N := some 10) #[true, true, true, true, true, true, true, true, true, true, false, false, false] rfl rfl (one_of HT_.out (by kernel_rfl)) (by decide) (fun K hK => ?_)
    refine box_step ?hg (N := 10) ?hd (cs := #[.int .i64 0, .int .i64 0, .int .i64 0]) (t := 96) ?hr ?_; (case hd => rfl); (case hg => rfl); (case hr => exact tG)
    intro gb259 hg w54 hbox hb
    replace HO233 := Aside0.mk (Kd.R_below (tR HO233) hb)
    replace HO246 := Aside0.mk (Kd.R_below (tR HO246) hb)
    have BK259 := Aside0.mk (hbox)
    have GW259 := gW HB hg
    have GE259 := gW HB hg
    replace HB := bH HB hb
    have NB225_259 := nL BK225 hg
    have NB259_225 := nR BK225 hg
    replace BK225 := bB BK225 hb
    have NB226_259 := nL BK226 hg
    have NB259_226 := nR BK226 hg
    replace BK226 := bB BK226 hb
    have NB242_259 := nL BK242 hg
    have NB259_242 := nR BK242 hg
    replace BK242 := bB BK242 hb
    have NB243_259 := nL BK243 hg
    have NB259_243 := nR BK243 hg
    replace BK243 := bB BK243 hb
    have NB247_259 := nL BK247 hg
    have NB259_247 := nR BK247 hg
    replace BK247 := bB BK247 hb
    have NB260_259 := nL BK260 hg
    have NB259_260 := nR BK260 hg
    replace BK260 := bB BK260 hb
    clear hb hbox hg
    refine hK.out _ _ ⟨(blk_cell BK225.out 0).trans rfl, (blk_cell BK225.out 1).trans rfl, (blk_cell BK225.out 2).trans rfl, (blk_cell BK247.out 0).trans rfl⟩ (fun hHeld => ?_)
    clear hK K
    refine norm_ (tV : Act.put _ (some 10) _ = _) ?_
    exact norm_ tM (hJ1_3_8_9 (gb259, gb260) _ ⟨hHeld, tR HO233, tR HO246, tK BK225, tK BK226, tK BK242, tK BK243, tK BK247, tK BK259, tK BK260, GW259.out, GE259.out, NB225_259.out, NB259_225.out, NB226_259.out, NB259_226.out, NB242_259.out, NB259_242.out, NB243_259.out, NB259_243.out, NB247_259.out, NB259_247.out, NB260_259.out, NB259_260.out, GW260.out, GE260.out, NB225_260.out, NB260_225.out, NB226_260.out, NB260_226.out, NB242_260.out, NB260_242.out, NB243_260.out, NB260_243.out, NB247_260.out, NB260_247.out, tB⟩)
   intro hJ1_3_9
   refine join_ (σ := Nat × Nat) 8 #[true, true, true, false, false, false, false, false, true, true, false, false, false] (fun s_ => [(31, .agg #[.int .i64 t248, .int .i64 t249, .int .i64 t250]), (10, .pointer (some ⟨s_.1, 0, none⟩)), (11, .pointer (some ⟨s_.2, 0, none⟩))]) (fun s_ w' => (w'.cell? ⟨gb225, 0, none⟩ = some (.int .i64 a0_0) ∧ w'.cell? ⟨gb225, 1, none⟩ = some (.int .i64 a0_1) ∧ w'.cell? ⟨gb225, 2, none⟩ = some (.int .i64 a0_2) ∧ w'.cell? ⟨gb247, 0, none⟩ = some (.slice Ao42 t244.length co42)) ∧ (Kd.R (Kd.int .i64) 3 w' w.heap.size (fun k_ => some k_ ≠ (.slice Ao42 t244.length co42 : Value).ownBlock) v232 t231) ∧ (Kd.R (Kd.int .i64) 3 w' w.heap.size (fun k_ => some k_ ≠ (v232 : Value).ownBlock) (.slice Ao42 t244.length co42) t244) ∧ (w'.heap[gb225]? = some (.cells #[.int .i64 a0_0, .int .i64 a0_1, .int .i64 a0_2] 92 (0, 0))) ∧ (w'.heap[gb226]? = some (.cells #[.slice A1_0 l1_0.length c1_0] 94 (0, 0))) ∧ (w'.heap[gb242]? = some (.cells #[.int .i64 t234, .int .i64 t235, .int .i64 t236] 96 (0, 0))) ∧ (w'.heap[gb243]? = some (.cells #[.int .i64 t237, .int .i64 t238, .int .i64 t239, .int .i64 t240] 40 (0, 0))) ∧ (w'.heap[gb247]? = some (.cells #[.slice Ao42 t244.length co42] 100 (0, 0))) ∧ (w'.heap[s_.1]? = some (.cells #[.int .i64 0, .int .i64 0, .int .i64 0] 96 (0, 0))) ∧ (w'.heap[s_.2]? = some (.cells #[.int .i64 0, .int .i64 0, .int .i64 0, .int .i64 0] 40 (0, 0))) ∧ (w.heap.size ≤ s_.1) ∧ (w.heap.size ≤ s_.1) ∧ (gb225 ≠ s_.1) ∧ (s_.1 ≠ gb225) ∧ (gb226 ≠ s_.1) ∧ (s_.1 ≠ gb226) ∧ (gb242 ≠ s_.1) ∧ (s_.1 ≠ gb242) ∧ (gb243 ≠ s_.1) ∧ (s_.1 ≠ gb243) ∧ (gb247 ≠ s_.1) ∧ (s_.1 ≠ gb247) ∧ (s_.2 ≠ s_.1) ∧ (s_.1 ≠ s_.2) ∧ (w.heap.size ≤ s_.2) ∧ (w.heap.size ≤ s_.2) ∧ (gb225 ≠ s_.2) ∧ (s_.2 ≠ gb225) ∧ (gb226 ≠ s_.2) ∧ (s_.2 ≠ gb226) ∧ (gb242 ≠ s_.2) ∧ (s_.2 ≠ gb242) ∧ (gb243 ≠ s_.2) ∧ (s_.2 ≠ gb243) ∧ (gb247 ≠ s_.2) ∧ (s_.2 ≠ gb247) ∧ (Below w.heap.size w w')) ?_ ?_
   ·rintro ⟨gb259, gb260⟩ w53 hS_
    dsimp only at hS_
    obtain ⟨hHeld, h0_, h1_, h2_, h3_, h4_, h5_, h6_, h7_, h8_, h9_, h10_, h11_, h12_, h13_, h14_, h15_, h16_, h17_, h18_, h19_, h20_, h21_, h22_, h23_, h24_, h25_, h26_, h27_, h28_, h29_, h30_, h31_, h32_, h33_, h34_, h35_⟩ := hS_
    replace HO233 := Aside0.mk h0_
    replace HO246 := Aside0.mk h1_
    replace BK225 := Aside0.mk h2_
    replace BK226 := Aside0.mk h3_
    replace BK242 := Aside0.mk h4_
    replace BK243 := Aside0.mk h5_
    replace BK247 := Aside0.mk h6_
    have BK259 := Aside0.mk h7_
    have BK260 := Aside0.mk h8_
    have GW259 := Aside0.mk h9_
    have GE259 := Aside0.mk h10_
    have NB225_259 := Aside0.mk h11_
    have NB259_225 := Aside0.mk h12_
    have NB226_259 := Aside0.mk h13_
    have NB259_226 := Aside0.mk h14_
    have NB242_259 := Aside0.mk h15_
    have NB259_242 := Aside0.mk h16_
    have NB243_259 := Aside0.mk h17_
    have NB259_243 := Aside0.mk h18_
    have NB247_259 := Aside0.mk h19_
    have NB259_247 := Aside0.mk h20_
    have NB260_259 := Aside0.mk h21_
    have NB259_260 := Aside0.mk h22_
    have GW260 := Aside0.mk h23_
    have GE260 := Aside0.mk h24_
    have NB225_260 := Aside0.mk h25_
    have NB260_225 := Aside0.mk h26_
    have NB226_260 := Aside0.mk h27_
    have NB260_226 := Aside0.mk h28_
    have NB242_260 := Aside0.mk h29_
    have NB260_242 := Aside0.mk h30_
    have NB243_260 := Aside0.mk h31_
    have NB260_243 := Aside0.mk h32_
    have NB247_260 := Aside0.mk h33_
    have NB260_247 := Aside0.mk h34_
    replace HB := Aside0.mk h35_
    clear h0_ h1_ h2_ h3_ h4_ h5_ h6_ h7_ h8_ h9_ h10_ h11_ h12_ h13_ h14_ h15_ h16_ h17_ h18_ h19_ h20_ h21_ h22_ h23_ h24_ h25_ h26_ h27_ h28_ h29_ h30_ h31_ h32_ h33_ h34_ h35_
    refine norm_ tM ?_
    refine one_ (i := 3) (N := some 33) #[true, true, true, true, false, false, false, false, true, true, false, false, false] rfl rfl (one_of HT_.out (by kernel_rfl)) (by decide) (fun K hK => ?_)
    refine goes_ Try.func63 (by kernel_rfl) rfl #[.agg #[.int .i64 t248, .int .i64 t249, .int .i64 t250], .agg #[.slice Ao42 t244.length co42]] (by rfl) rfl rfl tL ?_
    with_reducible refine (impl_SignHead.calls k t248 t249 t250 _ _ t244 t251 t252 t253 t254 t255 t256 t257 t258 _ ?side1 ?side2 A15.out).mono ?_
    (case side1 => repeat (first | exact (Kd.R_reads' HO246.out).2.2 | (with_reducible refine Kd.C_alloc ?_ _) | (with_reducible refine Kd.C_drewN ?_ _) | (with_reducible refine Kd.C_drew ?_)))
    (case side2 => exact (Kd.R_reads' HO246.out).2.1)
    rintro e w54 ⟨rfl, hb⟩
    refine ⟨_, rfl, ?_⟩
    replace HO233 := Aside0.mk (Kd.R_below (tR HO233) hb)
    replace HO246 := Aside0.mk (Kd.R_below (tR HO246) hb)
    replace BK225 := bB BK225 hb
    replace BK226 := bB BK226 hb
    replace BK242 := bB BK242 hb
    replace BK243 := bB BK243 hb
    replace BK247 := bB BK247 hb
    replace BK259 := bB BK259 hb
    replace BK260 := bB BK260 hb
    replace HB := bH HB hb
    (try clear hb)
    (try clear hb2)
    (try clear hk)
    (try clear hi)
    refine hK.out _ _ ⟨(blk_cell BK225.out 0).trans rfl, (blk_cell BK225.out 1).trans rfl, (blk_cell BK225.out 2).trans rfl, (blk_cell BK247.out 0).trans rfl⟩ (fun hHeld => ?_)
    clear hK K
    refine norm_ (tV : Act.put _ (some 33) _ = _) ?_
    refine pure_ (i := 4) (N := some 29) (v := ?_) (a' := ?_) #[true, true, true, true, true, false, false, false, true, true, false, false, false] rfl rfl (any_of HT_.out (by kernel_rfl)) (fun _ _ _ h => h) (Or.inl ⟨by rfl, ?_⟩) ?_ ?_
    rotate_left
    ·intro w'
     go_simp
     with_reducible rfl
    rotate_left
    ·simp only [Act.put, List.setIfInBounds_toArray, List.set_cons_zero, List.set_cons_succ, i64_w, i32_w]
     rfl
    refine pure_ (i := 5) (N := some 34) (v := ?_) (a' := ?_) #[true, true, true, true, true, true, false, false, true, true, false, false, false] rfl rfl (any_of HT_.out (by kernel_rfl)) (fun _ _ _ h => h) (Or.inl ⟨by rfl, ?_⟩) ?_ ?_
    rotate_left
    ·intro w'
     go_simp
     with_reducible rfl
    rotate_left
    ·simp only [Act.put, List.setIfInBounds_toArray, List.set_cons_zero, List.set_cons_succ, i64_w, i32_w]
     rfl
    refine pure_ (i := 6) (N := some 35) (v := ?_) (a' := ?_) #[true, true, true, true, true, true, true, false, true, true, false, false, false] rfl rfl (any_of HT_.out (by kernel_rfl)) (fun _ _ _ h => h) (Or.inl ⟨by rfl, ?_⟩) ?_ ?_
    rotate_left
    ·intro w'
     go_simp
     with_reducible rfl
    rotate_left
    ·simp only [Act.put, List.setIfInBounds_toArray, List.set_cons_zero, List.set_cons_succ, i64_w, i32_w]
     rfl
    refine pure_ (i := 7) (N := some 36) (v := ?_) (a' := ?_) #[true, true, true, true, true, true, true, true, true, true, false, false, false] rfl rfl (any_of HT_.out (by kernel_rfl)) (fun _ _ _ h => h) (Or.inl ⟨by rfl, ?_⟩) ?_ ?_
    rotate_left
    ·intro w'
     go_simp
     with_reducible rfl
    rotate_left
    ·simp only [Act.put, List.setIfInBounds_toArray, List.set_cons_zero, List.set_cons_succ, i64_w, i32_w]
     rfl
    exact norm_ tM (hJ1_3_8_9 (gb259, gb260) _ ⟨hHeld, tR HO233, tR HO246, tK BK225, tK BK226, tK BK242, tK BK243, tK BK247, tK BK259, tK BK260, GW259.out, GE259.out, NB225_259.out, NB259_225.out, NB226_259.out, NB259_226.out, NB242_259.out, NB259_242.out, NB243_259.out, NB259_243.out, NB247_259.out, NB259_247.out, NB260_259.out, NB259_260.out, GW260.out, GE260.out, NB225_260.out, NB260_225.out, NB226_260.out, NB260_226.out, NB242_260.out, NB260_242.out, NB243_260.out, NB260_243.out, NB247_260.out, NB260_247.out, tB⟩)
   intro hJ1_8_9
   refine join_ (σ := Unit) 5 #[true, true, true, true, true, true, true, true, false, false, false, false, false] (fun s_ => [(31, .agg #[.int .i64 t248, .int .i64 t249, .int .i64 t250]), (33, .tuple #[.agg #[.int .i64 t251, .int .i64 t252, .int .i64 t253], .agg #[.int .i64 t254, .int .i64 t255, .int .i64 t256, .int .i64 t257], .bool t258]), (29, .tuple #[.agg #[.int .i64 t251, .int .i64 t252, .int .i64 t253], .agg #[.int .i64 t254, .int .i64 t255, .int .i64 t256, .int .i64 t257], .bool t258]), (34, .agg #[.int .i64 t251, .int .i64 t252, .int .i64 t253]), (35, .agg #[.int .i64 t254, .int .i64 t255, .int .i64 t256, .int .i64 t257]), (36, .bool t258)]) (fun s_ w' => (w'.cell? ⟨gb225, 0, none⟩ = some (.int .i64 a0_0) ∧ w'.cell? ⟨gb225, 1, none⟩ = some (.int .i64 a0_1) ∧ w'.cell? ⟨gb225, 2, none⟩ = some (.int .i64 a0_2) ∧ w'.cell? ⟨gb247, 0, none⟩ = some (.slice Ao42 t244.length co42)) ∧ (Kd.R (Kd.int .i64) 3 w' w.heap.size (fun k_ => some k_ ≠ (.slice Ao42 t244.length co42 : Value).ownBlock) v232 t231) ∧ (Kd.R (Kd.int .i64) 3 w' w.heap.size (fun k_ => some k_ ≠ (v232 : Value).ownBlock) (.slice Ao42 t244.length co42) t244) ∧ (w'.heap[gb225]? = some (.cells #[.int .i64 a0_0, .int .i64 a0_1, .int .i64 a0_2] 92 (0, 0))) ∧ (w'.heap[gb226]? = some (.cells #[.slice A1_0 l1_0.length c1_0] 94 (0, 0))) ∧ (w'.heap[gb242]? = some (.cells #[.int .i64 t234, .int .i64 t235, .int .i64 t236] 96 (0, 0))) ∧ (w'.heap[gb243]? = some (.cells #[.int .i64 t237, .int .i64 t238, .int .i64 t239, .int .i64 t240] 40 (0, 0))) ∧ (w'.heap[gb247]? = some (.cells #[.slice Ao42 t244.length co42] 100 (0, 0))) ∧ (Below w.heap.size w w')) ?_ ?_
   ·rintro _ w52 ⟨hHeld, h0_, h1_, h2_, h3_, h4_, h5_, h6_, h7_⟩
    replace HO233 := Aside0.mk h0_
    replace HO246 := Aside0.mk h1_
    replace BK225 := Aside0.mk h2_
    replace BK226 := Aside0.mk h3_
    replace BK242 := Aside0.mk h4_
    replace BK243 := Aside0.mk h5_
    replace BK247 := Aside0.mk h6_
    replace HB := Aside0.mk h7_
    clear h0_ h1_ h2_ h3_ h4_ h5_ h6_ h7_
    refine norm_ tM ?_
    refine two_ (i := 8) (j := 9) (Ni := some 10) (Nj := some 11) #[true, true, true, true, true, true, true, true, true, false, false, false, false] #[true, true, true, true, true, true, true, true, false, true, false, false, false] rfl rfl rfl rfl (two_of HT_.out (by kernel_rfl)) (by decide) (by decide) (fun K hK => ?_) (fun K hK => ?_)
    ·refine box_step ?hg (N := 10) ?hd (cs := #[.int .i64 0, .int .i64 0, .int .i64 0]) (t := 96) ?hr ?_; (case hd => rfl); (case hg => rfl); (case hr => exact tG)
     intro gb259 hg w53 hbox hb
     replace HO233 := Aside0.mk (Kd.R_below (tR HO233) hb)
     replace HO246 := Aside0.mk (Kd.R_below (tR HO246) hb)
     have BK259 := Aside0.mk (hbox)
     have GW259 := gW HB hg
     have GE259 := gW HB hg
     replace HB := bH HB hb
     have NB225_259 := nL BK225 hg
     have NB259_225 := nR BK225 hg
     replace BK225 := bB BK225 hb
     have NB226_259 := nL BK226 hg
     have NB259_226 := nR BK226 hg
     replace BK226 := bB BK226 hb
     have NB242_259 := nL BK242 hg
     have NB259_242 := nR BK242 hg
     replace BK242 := bB BK242 hb
     have NB243_259 := nL BK243 hg
     have NB259_243 := nR BK243 hg
     replace BK243 := bB BK243 hb
     have NB247_259 := nL BK247 hg
     have NB259_247 := nR BK247 hg
     replace BK247 := bB BK247 hb
     clear hb hbox hg
     refine hK.out _ _ ⟨(blk_cell BK225.out 0).trans rfl, (blk_cell BK225.out 1).trans rfl, (blk_cell BK225.out 2).trans rfl, (blk_cell BK247.out 0).trans rfl⟩ (fun hHeld => ?_)
     clear hK K
     refine norm_ (tV : Act.put _ (some 10) _ = _) ?_
     exact norm_ tM (hJ1_3_8 (gb259) _ ⟨hHeld, tR HO233, tR HO246, tK BK225, tK BK226, tK BK242, tK BK243, tK BK247, tK BK259, GW259.out, GE259.out, NB225_259.out, NB259_225.out, NB226_259.out, NB259_226.out, NB242_259.out, NB259_242.out, NB243_259.out, NB259_243.out, NB247_259.out, NB259_247.out, tB⟩)
    ·refine box_step ?hg (N := 11) ?hd (cs := #[.int .i64 0, .int .i64 0, .int .i64 0, .int .i64 0]) (t := 40) ?hr ?_; (case hd => rfl); (case hg => rfl); (case hr => exact tG)
     intro gb260 hg w53 hbox hb
     replace HO233 := Aside0.mk (Kd.R_below (tR HO233) hb)
     replace HO246 := Aside0.mk (Kd.R_below (tR HO246) hb)
     have BK260 := Aside0.mk (hbox)
     have GW260 := gW HB hg
     have GE260 := gW HB hg
     replace HB := bH HB hb
     have NB225_260 := nL BK225 hg
     have NB260_225 := nR BK225 hg
     replace BK225 := bB BK225 hb
     have NB226_260 := nL BK226 hg
     have NB260_226 := nR BK226 hg
     replace BK226 := bB BK226 hb
     have NB242_260 := nL BK242 hg
     have NB260_242 := nR BK242 hg
     replace BK242 := bB BK242 hb
     have NB243_260 := nL BK243 hg
     have NB260_243 := nR BK243 hg
     replace BK243 := bB BK243 hb
     have NB247_260 := nL BK247 hg
     have NB260_247 := nR BK247 hg
     replace BK247 := bB BK247 hb
     clear hb hbox hg
     refine hK.out _ _ ⟨(blk_cell BK225.out 0).trans rfl, (blk_cell BK225.out 1).trans rfl, (blk_cell BK225.out 2).trans rfl, (blk_cell BK247.out 0).trans rfl⟩ (fun hHeld => ?_)
     clear hK K
     refine norm_ (tV : Act.put _ (some 11) _ = _) ?_
     exact norm_ tM (hJ1_3_9 (gb260) _ ⟨hHeld, tR HO233, tR HO246, tK BK225, tK BK226, tK BK242, tK BK243, tK BK247, tK BK260, GW260.out, GE260.out, NB225_260.out, NB260_225.out, NB226_260.out, NB260_226.out, NB242_260.out, NB260_242.out, NB243_260.out, NB260_243.out, NB247_260.out, NB260_247.out, tB⟩)
   intro hJ1_3
   refine join_ (σ := Nat) 9 #[true, true, true, false, false, false, false, false, true, false, false, false, false] (fun s_ => [(31, .agg #[.int .i64 t248, .int .i64 t249, .int .i64 t250]), (10, .pointer (some ⟨s_, 0, none⟩))]) (fun s_ w' => (w'.cell? ⟨gb225, 0, none⟩ = some (.int .i64 a0_0) ∧ w'.cell? ⟨gb225, 1, none⟩ = some (.int .i64 a0_1) ∧ w'.cell? ⟨gb225, 2, none⟩ = some (.int .i64 a0_2) ∧ w'.cell? ⟨gb247, 0, none⟩ = some (.slice Ao42 t244.length co42)) ∧ (Kd.R (Kd.int .i64) 3 w' w.heap.size (fun k_ => some k_ ≠ (.slice Ao42 t244.length co42 : Value).ownBlock) v232 t231) ∧ (Kd.R (Kd.int .i64) 3 w' w.heap.size (fun k_ => some k_ ≠ (v232 : Value).ownBlock) (.slice Ao42 t244.length co42) t244) ∧ (w'.heap[gb225]? = some (.cells #[.int .i64 a0_0, .int .i64 a0_1, .int .i64 a0_2] 92 (0, 0))) ∧ (w'.heap[gb226]? = some (.cells #[.slice A1_0 l1_0.length c1_0] 94 (0, 0))) ∧ (w'.heap[gb242]? = some (.cells #[.int .i64 t234, .int .i64 t235, .int .i64 t236] 96 (0, 0))) ∧ (w'.heap[gb243]? = some (.cells #[.int .i64 t237, .int .i64 t238, .int .i64 t239, .int .i64 t240] 40 (0, 0))) ∧ (w'.heap[gb247]? = some (.cells #[.slice Ao42 t244.length co42] 100 (0, 0))) ∧ (w'.heap[s_]? = some (.cells #[.int .i64 0, .int .i64 0, .int .i64 0] 96 (0, 0))) ∧ (w.heap.size ≤ s_) ∧ (w.heap.size ≤ s_) ∧ (gb225 ≠ s_) ∧ (s_ ≠ gb225) ∧ (gb226 ≠ s_) ∧ (s_ ≠ gb226) ∧ (gb242 ≠ s_) ∧ (s_ ≠ gb242) ∧ (gb243 ≠ s_) ∧ (s_ ≠ gb243) ∧ (gb247 ≠ s_) ∧ (s_ ≠ gb247) ∧ (Below w.heap.size w w')) ?_ ?_
   ·rintro gb259 w52 ⟨hHeld, h0_, h1_, h2_, h3_, h4_, h5_, h6_, h7_, h8_, h9_, h10_, h11_, h12_, h13_, h14_, h15_, h16_, h17_, h18_, h19_, h20_⟩
    replace HO233 := Aside0.mk h0_
    replace HO246 := Aside0.mk h1_
    replace BK225 := Aside0.mk h2_
    replace BK226 := Aside0.mk h3_
    replace BK242 := Aside0.mk h4_
    replace BK243 := Aside0.mk h5_
    replace BK247 := Aside0.mk h6_
    have BK259 := Aside0.mk h7_
    have GW259 := Aside0.mk h8_
    have GE259 := Aside0.mk h9_
    have NB225_259 := Aside0.mk h10_
    have NB259_225 := Aside0.mk h11_
    have NB226_259 := Aside0.mk h12_
    have NB259_226 := Aside0.mk h13_
    have NB242_259 := Aside0.mk h14_
    have NB259_242 := Aside0.mk h15_
    have NB243_259 := Aside0.mk h16_
    have NB259_243 := Aside0.mk h17_
    have NB247_259 := Aside0.mk h18_
    have NB259_247 := Aside0.mk h19_
    replace HB := Aside0.mk h20_
    clear h0_ h1_ h2_ h3_ h4_ h5_ h6_ h7_ h8_ h9_ h10_ h11_ h12_ h13_ h14_ h15_ h16_ h17_ h18_ h19_ h20_
    refine norm_ tM ?_
    refine two_ (i := 3) (j := 9) (Ni := some 33) (Nj := some 11) #[true, true, true, true, false, false, false, false, true, false, false, false, false] #[true, true, true, false, false, false, false, false, true, true, false, false, false] rfl rfl rfl rfl (two_of HT_.out (by kernel_rfl)) (by decide) (by decide) (fun K hK => ?_) (fun K hK => ?_)
    ·refine goes_ Try.func63 (by kernel_rfl) rfl #[.agg #[.int .i64 t248, .int .i64 t249, .int .i64 t250], .agg #[.slice Ao42 t244.length co42]] (by rfl) rfl rfl tL ?_
     with_reducible refine (impl_SignHead.calls k t248 t249 t250 _ _ t244 t251 t252 t253 t254 t255 t256 t257 t258 _ ?side1 ?side2 A15.out).mono ?_
     (case side1 => repeat (first | exact (Kd.R_reads' HO246.out).2.2 | (with_reducible refine Kd.C_alloc ?_ _) | (with_reducible refine Kd.C_drewN ?_ _) | (with_reducible refine Kd.C_drew ?_)))
     (case side2 => exact (Kd.R_reads' HO246.out).2.1)
     rintro e w53 ⟨rfl, hb⟩
     refine ⟨_, rfl, ?_⟩
     replace HO233 := Aside0.mk (Kd.R_below (tR HO233) hb)
     replace HO246 := Aside0.mk (Kd.R_below (tR HO246) hb)
     replace BK225 := bB BK225 hb
     replace BK226 := bB BK226 hb
     replace BK242 := bB BK242 hb
     replace BK243 := bB BK243 hb
     replace BK247 := bB BK247 hb
     replace BK259 := bB BK259 hb
     replace HB := bH HB hb
     (try clear hb)
     (try clear hb2)
     (try clear hk)
     (try clear hi)
     refine hK.out _ _ ⟨(blk_cell BK225.out 0).trans rfl, (blk_cell BK225.out 1).trans rfl, (blk_cell BK225.out 2).trans rfl, (blk_cell BK247.out 0).trans rfl⟩ (fun hHeld => ?_)
     clear hK K
     refine norm_ (tV : Act.put _ (some 33) _ = _) ?_
     refine pure_ (i := 4) (N := some 29) (v := ?_) (a' := ?_) #[true, true, true, true, true, false, false, false, true, false, false, false, false] rfl rfl (any_of HT_.out (by kernel_rfl)) (fun _ _ _ h => h) (Or.inl ⟨by rfl, ?_⟩) ?_ ?_
     rotate_left
     ·intro w'
      go_simp
      with_reducible rfl
     rotate_left
     ·simp only [Act.put, List.setIfInBounds_toArray, List.set_cons_zero, List.set_cons_succ, i64_w, i32_w]
      rfl
     refine pure_ (i := 5) (N := some 34) (v := ?_) (a' := ?_) #[true, true, true, true, true, true, false, false, true, false, false, false, false] rfl rfl (any_of HT_.out (by kernel_rfl)) (fun _ _ _ h => h) (Or.inl ⟨by rfl, ?_⟩) ?_ ?_
     rotate_left
     ·intro w'
      go_simp
      with_reducible rfl
     rotate_left
     ·simp only [Act.put, List.setIfInBounds_toArray, List.set_cons_zero, List.set_cons_succ, i64_w, i32_w]
      rfl
     refine pure_ (i := 6) (N := some 35) (v := ?_) (a' := ?_) #[true, true, true, true, true, true, true, false, true, false, false, false, false] rfl rfl (any_of HT_.out (by kernel_rfl)) (fun _ _ _ h => h) (Or.inl ⟨by rfl, ?_⟩) ?_ ?_
     rotate_left
     ·intro w'
      go_simp
      with_reducible rfl
     rotate_left
     ·simp only [Act.put, List.setIfInBounds_toArray, List.set_cons_zero, List.set_cons_succ, i64_w, i32_w]
      rfl
     refine pure_ (i := 7) (N := some 36) (v := ?_) (a' := ?_) #[true, true, true, true, true, true, true, true, true, false, false, false, false] rfl rfl (any_of HT_.out (by kernel_rfl)) (fun _ _ _ h => h) (Or.inl ⟨by rfl, ?_⟩) ?_ ?_
     rotate_left
     ·intro w'
      go_simp
      with_reducible rfl
     rotate_left
     ·simp only [Act.put, List.setIfInBounds_toArray, List.set_cons_zero, List.set_cons_succ, i64_w, i32_w]
      rfl
     exact norm_ tM (hJ1_3_8 (gb259) _ ⟨hHeld, tR HO233, tR HO246, tK BK225, tK BK226, tK BK242, tK BK243, tK BK247, tK BK259, GW259.out, GE259.out, NB225_259.out, NB259_225.out, NB226_259.out, NB259_226.out, NB242_259.out, NB259_242.out, NB243_259.out, NB259_243.out, NB247_259.out, NB259_247.out, tB⟩)
    ·refine box_step ?hg (N := 11) ?hd (cs := #[.int .i64 0, .int .i64 0, .int .i64 0, .int .i64 0]) (t := 40) ?hr ?_; (case hd => rfl); (case hg => rfl); (case hr => exact tG)
     intro gb260 hg w53 hbox hb
     replace HO233 := Aside0.mk (Kd.R_below (tR HO233) hb)
     replace HO246 := Aside0.mk (Kd.R_below (tR HO246) hb)
     have BK260 := Aside0.mk (hbox)
     have GW260 := gW HB hg
     have GE260 := gW HB hg
     replace HB := bH HB hb
     have NB225_260 := nL BK225 hg
     have NB260_225 := nR BK225 hg
     replace BK225 := bB BK225 hb
     have NB226_260 := nL BK226 hg
     have NB260_226 := nR BK226 hg
     replace BK226 := bB BK226 hb
     have NB242_260 := nL BK242 hg
     have NB260_242 := nR BK242 hg
     replace BK242 := bB BK242 hb
     have NB243_260 := nL BK243 hg
     have NB260_243 := nR BK243 hg
     replace BK243 := bB BK243 hb
     have NB247_260 := nL BK247 hg
     have NB260_247 := nR BK247 hg
     replace BK247 := bB BK247 hb
     have NB259_260 := nL BK259 hg
     have NB260_259 := nR BK259 hg
     replace BK259 := bB BK259 hb
     clear hb hbox hg
     refine hK.out _ _ ⟨(blk_cell BK225.out 0).trans rfl, (blk_cell BK225.out 1).trans rfl, (blk_cell BK225.out 2).trans rfl, (blk_cell BK247.out 0).trans rfl⟩ (fun hHeld => ?_)
     clear hK K
     refine norm_ (tV : Act.put _ (some 11) _ = _) ?_
     exact norm_ tM (hJ1_8_9 (gb259, gb260) _ ⟨hHeld, tR HO233, tR HO246, tK BK225, tK BK226, tK BK242, tK BK243, tK BK247, tK BK259, tK BK260, GW259.out, GE259.out, NB225_259.out, NB259_225.out, NB226_259.out, NB259_226.out, NB242_259.out, NB259_242.out, NB243_259.out, NB259_243.out, NB247_259.out, NB259_247.out, NB260_259.out, NB259_260.out, GW260.out, GE260.out, NB225_260.out, NB260_225.out, NB226_260.out, NB260_226.out, NB242_260.out, NB260_242.out, NB243_260.out, NB260_243.out, NB247_260.out, NB260_247.out, tB⟩)
   intro hJ1_8
   refine join_ (σ := Nat) 9 #[true, true, true, false, false, false, false, false, false, true, false, false, false] (fun s_ => [(31, .agg #[.int .i64 t248, .int .i64 t249, .int .i64 t250]), (11, .pointer (some ⟨s_, 0, none⟩))]) (fun s_ w' => (w'.cell? ⟨gb225, 0, none⟩ = some (.int .i64 a0_0) ∧ w'.cell? ⟨gb225, 1, none⟩ = some (.int .i64 a0_1) ∧ w'.cell? ⟨gb225, 2, none⟩ = some (.int .i64 a0_2) ∧ w'.cell? ⟨gb247, 0, none⟩ = some (.slice Ao42 t244.length co42)) ∧ (Kd.R (Kd.int .i64) 3 w' w.heap.size (fun k_ => some k_ ≠ (.slice Ao42 t244.length co42 : Value).ownBlock) v232 t231) ∧ (Kd.R (Kd.int .i64) 3 w' w.heap.size (fun k_ => some k_ ≠ (v232 : Value).ownBlock) (.slice Ao42 t244.length co42) t244) ∧ (w'.heap[gb225]? = some (.cells #[.int .i64 a0_0, .int .i64 a0_1, .int .i64 a0_2] 92 (0, 0))) ∧ (w'.heap[gb226]? = some (.cells #[.slice A1_0 l1_0.length c1_0] 94 (0, 0))) ∧ (w'.heap[gb242]? = some (.cells #[.int .i64 t234, .int .i64 t235, .int .i64 t236] 96 (0, 0))) ∧ (w'.heap[gb243]? = some (.cells #[.int .i64 t237, .int .i64 t238, .int .i64 t239, .int .i64 t240] 40 (0, 0))) ∧ (w'.heap[gb247]? = some (.cells #[.slice Ao42 t244.length co42] 100 (0, 0))) ∧ (w'.heap[s_]? = some (.cells #[.int .i64 0, .int .i64 0, .int .i64 0, .int .i64 0] 40 (0, 0))) ∧ (w.heap.size ≤ s_) ∧ (w.heap.size ≤ s_) ∧ (gb225 ≠ s_) ∧ (s_ ≠ gb225) ∧ (gb226 ≠ s_) ∧ (s_ ≠ gb226) ∧ (gb242 ≠ s_) ∧ (s_ ≠ gb242) ∧ (gb243 ≠ s_) ∧ (s_ ≠ gb243) ∧ (gb247 ≠ s_) ∧ (s_ ≠ gb247) ∧ (Below w.heap.size w w')) ?_ ?_
   ·rintro gb260 w52 ⟨hHeld, h0_, h1_, h2_, h3_, h4_, h5_, h6_, h7_, h8_, h9_, h10_, h11_, h12_, h13_, h14_, h15_, h16_, h17_, h18_, h19_, h20_⟩
    replace HO233 := Aside0.mk h0_
    replace HO246 := Aside0.mk h1_
    replace BK225 := Aside0.mk h2_
    replace BK226 := Aside0.mk h3_
    replace BK242 := Aside0.mk h4_
    replace BK243 := Aside0.mk h5_
    replace BK247 := Aside0.mk h6_
    have BK260 := Aside0.mk h7_
    have GW260 := Aside0.mk h8_
    have GE260 := Aside0.mk h9_
    have NB225_260 := Aside0.mk h10_
    have NB260_225 := Aside0.mk h11_
    have NB226_260 := Aside0.mk h12_
    have NB260_226 := Aside0.mk h13_
    have NB242_260 := Aside0.mk h14_
    have NB260_242 := Aside0.mk h15_
    have NB243_260 := Aside0.mk h16_
    have NB260_243 := Aside0.mk h17_
    have NB247_260 := Aside0.mk h18_
    have NB260_247 := Aside0.mk h19_
    replace HB := Aside0.mk h20_
    clear h0_ h1_ h2_ h3_ h4_ h5_ h6_ h7_ h8_ h9_ h10_ h11_ h12_ h13_ h14_ h15_ h16_ h17_ h18_ h19_ h20_
    refine norm_ tM ?_
    refine two_ (i := 3) (j := 8) (Ni := some 33) (Nj := some 10) #[true, true, true, true, false, false, false, false, false, true, false, false, false] #[true, true, true, false, false, false, false, false, true, true, false, false, false] rfl rfl rfl rfl (two_of HT_.out (by kernel_rfl)) (by decide) (by decide) (fun K hK => ?_) (fun K hK => ?_)
    ·refine goes_ Try.func63 (by kernel_rfl) rfl #[.agg #[.int .i64 t248, .int .i64 t249, .int .i64 t250], .agg #[.slice Ao42 t244.length co42]] (by rfl) rfl rfl tL ?_
     with_reducible refine (impl_SignHead.calls k t248 t249 t250 _ _ t244 t251 t252 t253 t254 t255 t256 t257 t258 _ ?side1 ?side2 A15.out).mono ?_
     (case side1 => repeat (first | exact (Kd.R_reads' HO246.out).2.2 | (with_reducible refine Kd.C_alloc ?_ _) | (with_reducible refine Kd.C_drewN ?_ _) | (with_reducible refine Kd.C_drew ?_)))
     (case side2 => exact (Kd.R_reads' HO246.out).2.1)
     rintro e w53 ⟨rfl, hb⟩
     refine ⟨_, rfl, ?_⟩
     replace HO233 := Aside0.mk (Kd.R_below (tR HO233) hb)
     replace HO246 := Aside0.mk (Kd.R_below (tR HO246) hb)
     replace BK225 := bB BK225 hb
     replace BK226 := bB BK226 hb
     replace BK242 := bB BK242 hb
     replace BK243 := bB BK243 hb
     replace BK247 := bB BK247 hb
     replace BK260 := bB BK260 hb
     replace HB := bH HB hb
     (try clear hb)
     (try clear hb2)
     (try clear hk)
     (try clear hi)
     refine hK.out _ _ ⟨(blk_cell BK225.out 0).trans rfl, (blk_cell BK225.out 1).trans rfl, (blk_cell BK225.out 2).trans rfl, (blk_cell BK247.out 0).trans rfl⟩ (fun hHeld => ?_)
     clear hK K
     refine norm_ (tV : Act.put _ (some 33) _ = _) ?_
     refine pure_ (i := 4) (N := some 29) (v := ?_) (a' := ?_) #[true, true, true, true, true, false, false, false, false, true, false, false, false] rfl rfl (any_of HT_.out (by kernel_rfl)) (fun _ _ _ h => h) (Or.inl ⟨by rfl, ?_⟩) ?_ ?_
     rotate_left
     ·intro w'
      go_simp
      with_reducible rfl
     rotate_left
     ·simp only [Act.put, List.setIfInBounds_toArray, List.set_cons_zero, List.set_cons_succ, i64_w, i32_w]
      rfl
     refine pure_ (i := 5) (N := some 34) (v := ?_) (a' := ?_) #[true, true, true, true, true, true, false, false, false, true, false, false, false] rfl rfl (any_of HT_.out (by kernel_rfl)) (fun _ _ _ h => h) (Or.inl ⟨by rfl, ?_⟩) ?_ ?_
     rotate_left
     ·intro w'
      go_simp
      with_reducible rfl
     rotate_left
     ·simp only [Act.put, List.setIfInBounds_toArray, List.set_cons_zero, List.set_cons_succ, i64_w, i32_w]
      rfl
     refine pure_ (i := 6) (N := some 35) (v := ?_) (a' := ?_) #[true, true, true, true, true, true, true, false, false, true, false, false, false] rfl rfl (any_of HT_.out (by kernel_rfl)) (fun _ _ _ h => h) (Or.inl ⟨by rfl, ?_⟩) ?_ ?_
     rotate_left
     ·intro w'
      go_simp
      with_reducible rfl
     rotate_left
     ·simp only [Act.put, List.setIfInBounds_toArray, List.set_cons_zero, List.set_cons_succ, i64_w, i32_w]
      rfl
     refine pure_ (i := 7) (N := some 36) (v := ?_) (a' := ?_) #[true, true, true, true, true, true, true, true, false, true, false, false, false] rfl rfl (any_of HT_.out (by kernel_rfl)) (fun _ _ _ h => h) (Or.inl ⟨by rfl, ?_⟩) ?_ ?_
     rotate_left
     ·intro w'
      go_simp
      with_reducible rfl
     rotate_left
     ·simp only [Act.put, List.setIfInBounds_toArray, List.set_cons_zero, List.set_cons_succ, i64_w, i32_w]
      rfl
     exact norm_ tM (hJ1_3_9 (gb260) _ ⟨hHeld, tR HO233, tR HO246, tK BK225, tK BK226, tK BK242, tK BK243, tK BK247, tK BK260, GW260.out, GE260.out, NB225_260.out, NB260_225.out, NB226_260.out, NB260_226.out, NB242_260.out, NB260_242.out, NB243_260.out, NB260_243.out, NB247_260.out, NB260_247.out, tB⟩)
    ·refine box_step ?hg (N := 10) ?hd (cs := #[.int .i64 0, .int .i64 0, .int .i64 0]) (t := 96) ?hr ?_; (case hd => rfl); (case hg => rfl); (case hr => exact tG)
     intro gb259 hg w53 hbox hb
     replace HO233 := Aside0.mk (Kd.R_below (tR HO233) hb)
     replace HO246 := Aside0.mk (Kd.R_below (tR HO246) hb)
     have BK259 := Aside0.mk (hbox)
     have GW259 := gW HB hg
     have GE259 := gW HB hg
     replace HB := bH HB hb
     have NB225_259 := nL BK225 hg
     have NB259_225 := nR BK225 hg
     replace BK225 := bB BK225 hb
     have NB226_259 := nL BK226 hg
     have NB259_226 := nR BK226 hg
     replace BK226 := bB BK226 hb
     have NB242_259 := nL BK242 hg
     have NB259_242 := nR BK242 hg
     replace BK242 := bB BK242 hb
     have NB243_259 := nL BK243 hg
     have NB259_243 := nR BK243 hg
     replace BK243 := bB BK243 hb
     have NB247_259 := nL BK247 hg
     have NB259_247 := nR BK247 hg
     replace BK247 := bB BK247 hb
     have NB260_259 := nL BK260 hg
     have NB259_260 := nR BK260 hg
     replace BK260 := bB BK260 hb
     clear hb hbox hg
     refine hK.out _ _ ⟨(blk_cell BK225.out 0).trans rfl, (blk_cell BK225.out 1).trans rfl, (blk_cell BK225.out 2).trans rfl, (blk_cell BK247.out 0).trans rfl⟩ (fun hHeld => ?_)
     clear hK K
     refine norm_ (tV : Act.put _ (some 10) _ = _) ?_
     exact norm_ tM (hJ1_8_9 (gb259, gb260) _ ⟨hHeld, tR HO233, tR HO246, tK BK225, tK BK226, tK BK242, tK BK243, tK BK247, tK BK259, tK BK260, GW259.out, GE259.out, NB225_259.out, NB259_225.out, NB226_259.out, NB259_226.out, NB242_259.out, NB259_242.out, NB243_259.out, NB259_243.out, NB247_259.out, NB259_247.out, NB260_259.out, NB259_260.out, GW260.out, GE260.out, NB225_260.out, NB260_225.out, NB226_260.out, NB260_226.out, NB242_260.out, NB260_242.out, NB243_260.out, NB260_243.out, NB247_260.out, NB260_247.out, tB⟩)
   intro hJ1_9
   refine join_ (σ := Nat × Nat) 9 #[true, false, true, false, false, false, false, false, true, true, false, false, false] (fun s_ => [(10, .pointer (some ⟨s_.1, 0, none⟩)), (11, .pointer (some ⟨s_.2, 0, none⟩))]) (fun s_ w' => (w'.cell? ⟨gb225, 0, none⟩ = some (.int .i64 a0_0) ∧ w'.cell? ⟨gb225, 1, none⟩ = some (.int .i64 a0_1) ∧ w'.cell? ⟨gb225, 2, none⟩ = some (.int .i64 a0_2) ∧ w'.cell? ⟨gb247, 0, none⟩ = some (.slice Ao42 t244.length co42)) ∧ (Kd.R (Kd.int .i64) 3 w' w.heap.size (fun k_ => some k_ ≠ (.slice Ao42 t244.length co42 : Value).ownBlock) v232 t231) ∧ (Kd.R (Kd.int .i64) 3 w' w.heap.size (fun k_ => some k_ ≠ (v232 : Value).ownBlock) (.slice Ao42 t244.length co42) t244) ∧ (w'.heap[gb225]? = some (.cells #[.int .i64 a0_0, .int .i64 a0_1, .int .i64 a0_2] 92 (0, 0))) ∧ (w'.heap[gb226]? = some (.cells #[.slice A1_0 l1_0.length c1_0] 94 (0, 0))) ∧ (w'.heap[gb242]? = some (.cells #[.int .i64 t234, .int .i64 t235, .int .i64 t236] 96 (0, 0))) ∧ (w'.heap[gb243]? = some (.cells #[.int .i64 t237, .int .i64 t238, .int .i64 t239, .int .i64 t240] 40 (0, 0))) ∧ (w'.heap[gb247]? = some (.cells #[.slice Ao42 t244.length co42] 100 (0, 0))) ∧ (w'.heap[s_.1]? = some (.cells #[.int .i64 0, .int .i64 0, .int .i64 0] 96 (0, 0))) ∧ (w'.heap[s_.2]? = some (.cells #[.int .i64 0, .int .i64 0, .int .i64 0, .int .i64 0] 40 (0, 0))) ∧ (w.heap.size ≤ s_.1) ∧ (w.heap.size ≤ s_.1) ∧ (gb225 ≠ s_.1) ∧ (s_.1 ≠ gb225) ∧ (gb226 ≠ s_.1) ∧ (s_.1 ≠ gb226) ∧ (gb242 ≠ s_.1) ∧ (s_.1 ≠ gb242) ∧ (gb243 ≠ s_.1) ∧ (s_.1 ≠ gb243) ∧ (gb247 ≠ s_.1) ∧ (s_.1 ≠ gb247) ∧ (s_.2 ≠ s_.1) ∧ (s_.1 ≠ s_.2) ∧ (w.heap.size ≤ s_.2) ∧ (w.heap.size ≤ s_.2) ∧ (gb225 ≠ s_.2) ∧ (s_.2 ≠ gb225) ∧ (gb226 ≠ s_.2) ∧ (s_.2 ≠ gb226) ∧ (gb242 ≠ s_.2) ∧ (s_.2 ≠ gb242) ∧ (gb243 ≠ s_.2) ∧ (s_.2 ≠ gb243) ∧ (gb247 ≠ s_.2) ∧ (s_.2 ≠ gb247) ∧ (Below w.heap.size w w')) ?_ ?_
   ·rintro ⟨gb259, gb260⟩ w52 hS_
    dsimp only at hS_
    obtain ⟨hHeld, h0_, h1_, h2_, h3_, h4_, h5_, h6_, h7_, h8_, h9_, h10_, h11_, h12_, h13_, h14_, h15_, h16_, h17_, h18_, h19_, h20_, h21_, h22_, h23_, h24_, h25_, h26_, h27_, h28_, h29_, h30_, h31_, h32_, h33_, h34_, h35_⟩ := hS_
    replace HO233 := Aside0.mk h0_
    replace HO246 := Aside0.mk h1_
    replace BK225 := Aside0.mk h2_
    replace BK226 := Aside0.mk h3_
    replace BK242 := Aside0.mk h4_
    replace BK243 := Aside0.mk h5_
    replace BK247 := Aside0.mk h6_
    have BK259 := Aside0.mk h7_
    have BK260 := Aside0.mk h8_
    have GW259 := Aside0.mk h9_
    have GE259 := Aside0.mk h10_
    have NB225_259 := Aside0.mk h11_
    have NB259_225 := Aside0.mk h12_
    have NB226_259 := Aside0.mk h13_
    have NB259_226 := Aside0.mk h14_
    have NB242_259 := Aside0.mk h15_
    have NB259_242 := Aside0.mk h16_
    have NB243_259 := Aside0.mk h17_
    have NB259_243 := Aside0.mk h18_
    have NB247_259 := Aside0.mk h19_
    have NB259_247 := Aside0.mk h20_
    have NB260_259 := Aside0.mk h21_
    have NB259_260 := Aside0.mk h22_
    have GW260 := Aside0.mk h23_
    have GE260 := Aside0.mk h24_
    have NB225_260 := Aside0.mk h25_
    have NB260_225 := Aside0.mk h26_
    have NB226_260 := Aside0.mk h27_
    have NB260_226 := Aside0.mk h28_
    have NB242_260 := Aside0.mk h29_
    have NB260_242 := Aside0.mk h30_
    have NB243_260 := Aside0.mk h31_
    have NB260_243 := Aside0.mk h32_
    have NB247_260 := Aside0.mk h33_
    have NB260_247 := Aside0.mk h34_
    replace HB := Aside0.mk h35_
    clear h0_ h1_ h2_ h3_ h4_ h5_ h6_ h7_ h8_ h9_ h10_ h11_ h12_ h13_ h14_ h15_ h16_ h17_ h18_ h19_ h20_ h21_ h22_ h23_ h24_ h25_ h26_ h27_ h28_ h29_ h30_ h31_ h32_ h33_ h34_ h35_
    refine norm_ tM ?_
    refine one_ (i := 1) (N := some 31) #[true, true, true, false, false, false, false, false, true, true, false, false, false] rfl rfl (one_of HT_.out (by kernel_rfl)) (by decide) (fun K hK => ?_)
    refine goes_ Try.func61 (by kernel_rfl) rfl #[.agg #[.int .i64 a0_0, .int .i64 a0_1, .int .i64 a0_2]] (by rfl) rfl rfl tL ?_
    with_reducible refine (laws_toWitness.calls a0_0 a0_1 a0_2 t248 t249 t250 _ A14.out).mono ?_
    rintro e w53 ⟨rfl, hb⟩
    refine ⟨_, rfl, ?_⟩
    replace HO233 := Aside0.mk (Kd.R_below (tR HO233) hb)
    replace HO246 := Aside0.mk (Kd.R_below (tR HO246) hb)
    replace BK225 := bB BK225 hb
    replace BK226 := bB BK226 hb
    replace BK242 := bB BK242 hb
    replace BK243 := bB BK243 hb
    replace BK247 := bB BK247 hb
    replace BK259 := bB BK259 hb
    replace BK260 := bB BK260 hb
    replace HB := bH HB hb
    (try clear hb)
    (try clear hb2)
    (try clear hk)
    (try clear hi)
    refine hK.out _ _ ⟨(blk_cell BK225.out 0).trans rfl, (blk_cell BK225.out 1).trans rfl, (blk_cell BK225.out 2).trans rfl, (blk_cell BK247.out 0).trans rfl⟩ (fun hHeld => ?_)
    clear hK K
    refine norm_ (tV : Act.put _ (some 31) _ = _) ?_
    exact norm_ tM (hJ1_8_9 (gb259, gb260) _ ⟨hHeld, tR HO233, tR HO246, tK BK225, tK BK226, tK BK242, tK BK243, tK BK247, tK BK259, tK BK260, GW259.out, GE259.out, NB225_259.out, NB259_225.out, NB226_259.out, NB259_226.out, NB242_259.out, NB259_242.out, NB243_259.out, NB259_243.out, NB247_259.out, NB259_247.out, NB260_259.out, NB259_260.out, GW260.out, GE260.out, NB225_260.out, NB260_225.out, NB226_260.out, NB260_226.out, NB242_260.out, NB260_242.out, NB243_260.out, NB260_243.out, NB247_260.out, NB260_247.out, tB⟩)
   intro hJ8_9
   refine join_ (σ := Unit) 10 #[true, true, true, false, false, false, false, false, false, false, false, false, false] (fun s_ => [(31, .agg #[.int .i64 t248, .int .i64 t249, .int .i64 t250])]) (fun s_ w' => (w'.cell? ⟨gb225, 0, none⟩ = some (.int .i64 a0_0) ∧ w'.cell? ⟨gb225, 1, none⟩ = some (.int .i64 a0_1) ∧ w'.cell? ⟨gb225, 2, none⟩ = some (.int .i64 a0_2) ∧ w'.cell? ⟨gb247, 0, none⟩ = some (.slice Ao42 t244.length co42)) ∧ (Kd.R (Kd.int .i64) 3 w' w.heap.size (fun k_ => some k_ ≠ (.slice Ao42 t244.length co42 : Value).ownBlock) v232 t231) ∧ (Kd.R (Kd.int .i64) 3 w' w.heap.size (fun k_ => some k_ ≠ (v232 : Value).ownBlock) (.slice Ao42 t244.length co42) t244) ∧ (w'.heap[gb225]? = some (.cells #[.int .i64 a0_0, .int .i64 a0_1, .int .i64 a0_2] 92 (0, 0))) ∧ (w'.heap[gb226]? = some (.cells #[.slice A1_0 l1_0.length c1_0] 94 (0, 0))) ∧ (w'.heap[gb242]? = some (.cells #[.int .i64 t234, .int .i64 t235, .int .i64 t236] 96 (0, 0))) ∧ (w'.heap[gb243]? = some (.cells #[.int .i64 t237, .int .i64 t238, .int .i64 t239, .int .i64 t240] 40 (0, 0))) ∧ (w'.heap[gb247]? = some (.cells #[.slice Ao42 t244.length co42] 100 (0, 0))) ∧ (Below w.heap.size w w')) ?_ ?_
   ·rintro _ w51 ⟨hHeld, h0_, h1_, h2_, h3_, h4_, h5_, h6_, h7_⟩
    replace HO233 := Aside0.mk h0_
    replace HO246 := Aside0.mk h1_
    replace BK225 := Aside0.mk h2_
    replace BK226 := Aside0.mk h3_
    replace BK242 := Aside0.mk h4_
    replace BK243 := Aside0.mk h5_
    replace BK247 := Aside0.mk h6_
    replace HB := Aside0.mk h7_
    clear h0_ h1_ h2_ h3_ h4_ h5_ h6_ h7_
    refine norm_ tM ?_
    refine three_ (i := 3) (j := 8) (k := 9) (Ni := some 33) (Nj := some 10) (Nk := some 11) #[true, true, true, true, false, false, false, false, false, false, false, false, false] #[true, true, true, false, false, false, false, false, true, false, false, false, false] #[true, true, true, false, false, false, false, false, false, true, false, false, false] rfl rfl rfl rfl rfl rfl (three_of HT_.out (by kernel_rfl)) (by decide) (by decide) (by decide) (fun K hK => ?_) (fun K hK => ?_) (fun K hK => ?_)
    ·refine goes_ Try.func63 (by kernel_rfl) rfl #[.agg #[.int .i64 t248, .int .i64 t249, .int .i64 t250], .agg #[.slice Ao42 t244.length co42]] (by rfl) rfl rfl tL ?_
     with_reducible refine (impl_SignHead.calls k t248 t249 t250 _ _ t244 t251 t252 t253 t254 t255 t256 t257 t258 _ ?side1 ?side2 A15.out).mono ?_
     (case side1 => repeat (first | exact (Kd.R_reads' HO246.out).2.2 | (with_reducible refine Kd.C_alloc ?_ _) | (with_reducible refine Kd.C_drewN ?_ _) | (with_reducible refine Kd.C_drew ?_)))
     (case side2 => exact (Kd.R_reads' HO246.out).2.1)
     rintro e w52 ⟨rfl, hb⟩
     refine ⟨_, rfl, ?_⟩
     replace HO233 := Aside0.mk (Kd.R_below (tR HO233) hb)
     replace HO246 := Aside0.mk (Kd.R_below (tR HO246) hb)
     replace BK225 := bB BK225 hb
     replace BK226 := bB BK226 hb
     replace BK242 := bB BK242 hb
     replace BK243 := bB BK243 hb
     replace BK247 := bB BK247 hb
     replace HB := bH HB hb
     (try clear hb)
     (try clear hb2)
     (try clear hk)
     (try clear hi)
     refine hK.out _ _ ⟨(blk_cell BK225.out 0).trans rfl, (blk_cell BK225.out 1).trans rfl, (blk_cell BK225.out 2).trans rfl, (blk_cell BK247.out 0).trans rfl⟩ (fun hHeld => ?_)
     clear hK K
     refine norm_ (tV : Act.put _ (some 33) _ = _) ?_
     refine pure_ (i := 4) (N := some 29) (v := ?_) (a' := ?_) #[true, true, true, true, true, false, false, false, false, false, false, false, false] rfl rfl (any_of HT_.out (by kernel_rfl)) (fun _ _ _ h => h) (Or.inl ⟨by rfl, ?_⟩) ?_ ?_
     rotate_left
     ·intro w'
      go_simp
      with_reducible rfl
     rotate_left
     ·simp only [Act.put, List.setIfInBounds_toArray, List.set_cons_zero, List.set_cons_succ, i64_w, i32_w]
      rfl
     refine pure_ (i := 5) (N := some 34) (v := ?_) (a' := ?_) #[true, true, true, true, true, true, false, false, false, false, false, false, false] rfl rfl (any_of HT_.out (by kernel_rfl)) (fun _ _ _ h => h) (Or.inl ⟨by rfl, ?_⟩) ?_ ?_
     rotate_left
     ·intro w'
      go_simp
      with_reducible rfl
     rotate_left
     ·simp only [Act.put, List.setIfInBounds_toArray, List.set_cons_zero, List.set_cons_succ, i64_w, i32_w]
      rfl
     refine pure_ (i := 6) (N := some 35) (v := ?_) (a' := ?_) #[true, true, true, true, true, true, true, false, false, false, false, false, false] rfl rfl (any_of HT_.out (by kernel_rfl)) (fun _ _ _ h => h) (Or.inl ⟨by rfl, ?_⟩) ?_ ?_
     rotate_left
     ·intro w'
      go_simp
      with_reducible rfl
     rotate_left
     ·simp only [Act.put, List.setIfInBounds_toArray, List.set_cons_zero, List.set_cons_succ, i64_w, i32_w]
      rfl
     refine pure_ (i := 7) (N := some 36) (v := ?_) (a' := ?_) #[true, true, true, true, true, true, true, true, false, false, false, false, false] rfl rfl (any_of HT_.out (by kernel_rfl)) (fun _ _ _ h => h) (Or.inl ⟨by rfl, ?_⟩) ?_ ?_
     rotate_left
     ·intro w'
      go_simp
      with_reducible rfl
     rotate_left
     ·simp only [Act.put, List.setIfInBounds_toArray, List.set_cons_zero, List.set_cons_succ, i64_w, i32_w]
      rfl
     exact norm_ tM (hJ1_3 () _ ⟨hHeld, tR HO233, tR HO246, tK BK225, tK BK226, tK BK242, tK BK243, tK BK247, tB⟩)
    ·refine box_step ?hg (N := 10) ?hd (cs := #[.int .i64 0, .int .i64 0, .int .i64 0]) (t := 96) ?hr ?_; (case hd => rfl); (case hg => rfl); (case hr => exact tG)
     intro gb259 hg w52 hbox hb
     replace HO233 := Aside0.mk (Kd.R_below (tR HO233) hb)
     replace HO246 := Aside0.mk (Kd.R_below (tR HO246) hb)
     have BK259 := Aside0.mk (hbox)
     have GW259 := gW HB hg
     have GE259 := gW HB hg
     replace HB := bH HB hb
     have NB225_259 := nL BK225 hg
     have NB259_225 := nR BK225 hg
     replace BK225 := bB BK225 hb
     have NB226_259 := nL BK226 hg
     have NB259_226 := nR BK226 hg
     replace BK226 := bB BK226 hb
     have NB242_259 := nL BK242 hg
     have NB259_242 := nR BK242 hg
     replace BK242 := bB BK242 hb
     have NB243_259 := nL BK243 hg
     have NB259_243 := nR BK243 hg
     replace BK243 := bB BK243 hb
     have NB247_259 := nL BK247 hg
     have NB259_247 := nR BK247 hg
     replace BK247 := bB BK247 hb
     clear hb hbox hg
     refine hK.out _ _ ⟨(blk_cell BK225.out 0).trans rfl, (blk_cell BK225.out 1).trans rfl, (blk_cell BK225.out 2).trans rfl, (blk_cell BK247.out 0).trans rfl⟩ (fun hHeld => ?_)
     clear hK K
     refine norm_ (tV : Act.put _ (some 10) _ = _) ?_
     exact norm_ tM (hJ1_8 (gb259) _ ⟨hHeld, tR HO233, tR HO246, tK BK225, tK BK226, tK BK242, tK BK243, tK BK247, tK BK259, GW259.out, GE259.out, NB225_259.out, NB259_225.out, NB226_259.out, NB259_226.out, NB242_259.out, NB259_242.out, NB243_259.out, NB259_243.out, NB247_259.out, NB259_247.out, tB⟩)
    ·refine box_step ?hg (N := 11) ?hd (cs := #[.int .i64 0, .int .i64 0, .int .i64 0, .int .i64 0]) (t := 40) ?hr ?_; (case hd => rfl); (case hg => rfl); (case hr => exact tG)
     intro gb260 hg w52 hbox hb
     replace HO233 := Aside0.mk (Kd.R_below (tR HO233) hb)
     replace HO246 := Aside0.mk (Kd.R_below (tR HO246) hb)
     have BK260 := Aside0.mk (hbox)
     have GW260 := gW HB hg
     have GE260 := gW HB hg
     replace HB := bH HB hb
     have NB225_260 := nL BK225 hg
     have NB260_225 := nR BK225 hg
     replace BK225 := bB BK225 hb
     have NB226_260 := nL BK226 hg
     have NB260_226 := nR BK226 hg
     replace BK226 := bB BK226 hb
     have NB242_260 := nL BK242 hg
     have NB260_242 := nR BK242 hg
     replace BK242 := bB BK242 hb
     have NB243_260 := nL BK243 hg
     have NB260_243 := nR BK243 hg
     replace BK243 := bB BK243 hb
     have NB247_260 := nL BK247 hg
     have NB260_247 := nR BK247 hg
     replace BK247 := bB BK247 hb
     clear hb hbox hg
     refine hK.out _ _ ⟨(blk_cell BK225.out 0).trans rfl, (blk_cell BK225.out 1).trans rfl, (blk_cell BK225.out 2).trans rfl, (blk_cell BK247.out 0).trans rfl⟩ (fun hHeld => ?_)
     clear hK K
     refine norm_ (tV : Act.put _ (some 11) _ = _) ?_
     exact norm_ tM (hJ1_9 (gb260) _ ⟨hHeld, tR HO233, tR HO246, tK BK225, tK BK226, tK BK242, tK BK243, tK BK247, tK BK260, GW260.out, GE260.out, NB225_260.out, NB260_225.out, NB226_260.out, NB260_226.out, NB242_260.out, NB260_242.out, NB243_260.out, NB260_243.out, NB247_260.out, NB260_247.out, tB⟩)
   intro hJ1
   refine join_ (σ := Nat) 10 #[true, false, true, false, false, false, false, false, true, false, false, false, false] (fun s_ => [(10, .pointer (some ⟨s_, 0, none⟩))]) (fun s_ w' => (w'.cell? ⟨gb225, 0, none⟩ = some (.int .i64 a0_0) ∧ w'.cell? ⟨gb225, 1, none⟩ = some (.int .i64 a0_1) ∧ w'.cell? ⟨gb225, 2, none⟩ = some (.int .i64 a0_2) ∧ w'.cell? ⟨gb247, 0, none⟩ = some (.slice Ao42 t244.length co42)) ∧ (Kd.R (Kd.int .i64) 3 w' w.heap.size (fun k_ => some k_ ≠ (.slice Ao42 t244.length co42 : Value).ownBlock) v232 t231) ∧ (Kd.R (Kd.int .i64) 3 w' w.heap.size (fun k_ => some k_ ≠ (v232 : Value).ownBlock) (.slice Ao42 t244.length co42) t244) ∧ (w'.heap[gb225]? = some (.cells #[.int .i64 a0_0, .int .i64 a0_1, .int .i64 a0_2] 92 (0, 0))) ∧ (w'.heap[gb226]? = some (.cells #[.slice A1_0 l1_0.length c1_0] 94 (0, 0))) ∧ (w'.heap[gb242]? = some (.cells #[.int .i64 t234, .int .i64 t235, .int .i64 t236] 96 (0, 0))) ∧ (w'.heap[gb243]? = some (.cells #[.int .i64 t237, .int .i64 t238, .int .i64 t239, .int .i64 t240] 40 (0, 0))) ∧ (w'.heap[gb247]? = some (.cells #[.slice Ao42 t244.length co42] 100 (0, 0))) ∧ (w'.heap[s_]? = some (.cells #[.int .i64 0, .int .i64 0, .int .i64 0] 96 (0, 0))) ∧ (w.heap.size ≤ s_) ∧ (w.heap.size ≤ s_) ∧ (gb225 ≠ s_) ∧ (s_ ≠ gb225) ∧ (gb226 ≠ s_) ∧ (s_ ≠ gb226) ∧ (gb242 ≠ s_) ∧ (s_ ≠ gb242) ∧ (gb243 ≠ s_) ∧ (s_ ≠ gb243) ∧ (gb247 ≠ s_) ∧ (s_ ≠ gb247) ∧ (Below w.heap.size w w')) ?_ ?_
   ·rintro gb259 w51 ⟨hHeld, h0_, h1_, h2_, h3_, h4_, h5_, h6_, h7_, h8_, h9_, h10_, h11_, h12_, h13_, h14_, h15_, h16_, h17_, h18_, h19_, h20_⟩
    replace HO233 := Aside0.mk h0_
    replace HO246 := Aside0.mk h1_
    replace BK225 := Aside0.mk h2_
    replace BK226 := Aside0.mk h3_
    replace BK242 := Aside0.mk h4_
    replace BK243 := Aside0.mk h5_
    replace BK247 := Aside0.mk h6_
    have BK259 := Aside0.mk h7_
    have GW259 := Aside0.mk h8_
    have GE259 := Aside0.mk h9_
    have NB225_259 := Aside0.mk h10_
    have NB259_225 := Aside0.mk h11_
    have NB226_259 := Aside0.mk h12_
    have NB259_226 := Aside0.mk h13_
    have NB242_259 := Aside0.mk h14_
    have NB259_242 := Aside0.mk h15_
    have NB243_259 := Aside0.mk h16_
    have NB259_243 := Aside0.mk h17_
    have NB247_259 := Aside0.mk h18_
    have NB259_247 := Aside0.mk h19_
    replace HB := Aside0.mk h20_
    clear h0_ h1_ h2_ h3_ h4_ h5_ h6_ h7_ h8_ h9_ h10_ h11_ h12_ h13_ h14_ h15_ h16_ h17_ h18_ h19_ h20_
    refine norm_ tM ?_
    refine two_ (i := 1) (j := 9) (Ni := some 31) (Nj := some 11) #[true, true, true, false, false, false, false, false, true, false, false, false, false] #[true, false, true, false, false, false, false, false, true, true, false, false, false] rfl rfl rfl rfl (two_of HT_.out (by kernel_rfl)) (by decide) (by decide) (fun K hK => ?_) (fun K hK => ?_)
    ·refine goes_ Try.func61 (by kernel_rfl) rfl #[.agg #[.int .i64 a0_0, .int .i64 a0_1, .int .i64 a0_2]] (by rfl) rfl rfl tL ?_
     with_reducible refine (laws_toWitness.calls a0_0 a0_1 a0_2 t248 t249 t250 _ A14.out).mono ?_
     rintro e w52 ⟨rfl, hb⟩
     refine ⟨_, rfl, ?_⟩
     replace HO233 := Aside0.mk (Kd.R_below (tR HO233) hb)
     replace HO246 := Aside0.mk (Kd.R_below (tR HO246) hb)
     replace BK225 := bB BK225 hb
     replace BK226 := bB BK226 hb
     replace BK242 := bB BK242 hb
     replace BK243 := bB BK243 hb
     replace BK247 := bB BK247 hb
     replace BK259 := bB BK259 hb
     replace HB := bH HB hb
     (try clear hb)
     (try clear hb2)
     (try clear hk)
     (try clear hi)
     refine hK.out _ _ ⟨(blk_cell BK225.out 0).trans rfl, (blk_cell BK225.out 1).trans rfl, (blk_cell BK225.out 2).trans rfl, (blk_cell BK247.out 0).trans rfl⟩ (fun hHeld => ?_)
     clear hK K
     refine norm_ (tV : Act.put _ (some 31) _ = _) ?_
     exact norm_ tM (hJ1_8 (gb259) _ ⟨hHeld, tR HO233, tR HO246, tK BK225, tK BK226, tK BK242, tK BK243, tK BK247, tK BK259, GW259.out, GE259.out, NB225_259.out, NB259_225.out, NB226_259.out, NB259_226.out, NB242_259.out, NB259_242.out, NB243_259.out, NB259_243.out, NB247_259.out, NB259_247.out, tB⟩)
    ·refine box_step ?hg (N := 11) ?hd (cs := #[.int .i64 0, .int .i64 0, .int .i64 0, .int .i64 0]) (t := 40) ?hr ?_; (case hd => rfl); (case hg => rfl); (case hr => exact tG)
     intro gb260 hg w52 hbox hb
     replace HO233 := Aside0.mk (Kd.R_below (tR HO233) hb)
     replace HO246 := Aside0.mk (Kd.R_below (tR HO246) hb)
     have BK260 := Aside0.mk (hbox)
     have GW260 := gW HB hg
     have GE260 := gW HB hg
     replace HB := bH HB hb
     have NB225_260 := nL BK225 hg
     have NB260_225 := nR BK225 hg
     replace BK225 := bB BK225 hb
     have NB226_260 := nL BK226 hg
     have NB260_226 := nR BK226 hg
     replace BK226 := bB BK226 hb
     have NB242_260 := nL BK242 hg
     have NB260_242 := nR BK242 hg
     replace BK242 := bB BK242 hb
     have NB243_260 := nL BK243 hg
     have NB260_243 := nR BK243 hg
     replace BK243 := bB BK243 hb
     have NB247_260 := nL BK247 hg
     have NB260_247 := nR BK247 hg
     replace BK247 := bB BK247 hb
     have NB259_260 := nL BK259 hg
     have NB260_259 := nR BK259 hg
     replace BK259 := bB BK259 hb
     clear hb hbox hg
     refine hK.out _ _ ⟨(blk_cell BK225.out 0).trans rfl, (blk_cell BK225.out 1).trans rfl, (blk_cell BK225.out 2).trans rfl, (blk_cell BK247.out 0).trans rfl⟩ (fun hHeld => ?_)
     clear hK K
     refine norm_ (tV : Act.put _ (some 11) _ = _) ?_
     exact norm_ tM (hJ8_9 (gb259, gb260) _ ⟨hHeld, tR HO233, tR HO246, tK BK225, tK BK226, tK BK242, tK BK243, tK BK247, tK BK259, tK BK260, GW259.out, GE259.out, NB225_259.out, NB259_225.out, NB226_259.out, NB259_226.out, NB242_259.out, NB259_242.out, NB243_259.out, NB259_243.out, NB247_259.out, NB259_247.out, NB260_259.out, NB259_260.out, GW260.out, GE260.out, NB225_260.out, NB260_225.out, NB226_260.out, NB260_226.out, NB242_260.out, NB260_242.out, NB243_260.out, NB260_243.out, NB247_260.out, NB260_247.out, tB⟩)
   intro hJ8
   refine join_ (σ := Nat) 10 #[true, false, true, false, false, false, false, false, false, true, false, false, false] (fun s_ => [(11, .pointer (some ⟨s_, 0, none⟩))]) (fun s_ w' => (w'.cell? ⟨gb225, 0, none⟩ = some (.int .i64 a0_0) ∧ w'.cell? ⟨gb225, 1, none⟩ = some (.int .i64 a0_1) ∧ w'.cell? ⟨gb225, 2, none⟩ = some (.int .i64 a0_2) ∧ w'.cell? ⟨gb247, 0, none⟩ = some (.slice Ao42 t244.length co42)) ∧ (Kd.R (Kd.int .i64) 3 w' w.heap.size (fun k_ => some k_ ≠ (.slice Ao42 t244.length co42 : Value).ownBlock) v232 t231) ∧ (Kd.R (Kd.int .i64) 3 w' w.heap.size (fun k_ => some k_ ≠ (v232 : Value).ownBlock) (.slice Ao42 t244.length co42) t244) ∧ (w'.heap[gb225]? = some (.cells #[.int .i64 a0_0, .int .i64 a0_1, .int .i64 a0_2] 92 (0, 0))) ∧ (w'.heap[gb226]? = some (.cells #[.slice A1_0 l1_0.length c1_0] 94 (0, 0))) ∧ (w'.heap[gb242]? = some (.cells #[.int .i64 t234, .int .i64 t235, .int .i64 t236] 96 (0, 0))) ∧ (w'.heap[gb243]? = some (.cells #[.int .i64 t237, .int .i64 t238, .int .i64 t239, .int .i64 t240] 40 (0, 0))) ∧ (w'.heap[gb247]? = some (.cells #[.slice Ao42 t244.length co42] 100 (0, 0))) ∧ (w'.heap[s_]? = some (.cells #[.int .i64 0, .int .i64 0, .int .i64 0, .int .i64 0] 40 (0, 0))) ∧ (w.heap.size ≤ s_) ∧ (w.heap.size ≤ s_) ∧ (gb225 ≠ s_) ∧ (s_ ≠ gb225) ∧ (gb226 ≠ s_) ∧ (s_ ≠ gb226) ∧ (gb242 ≠ s_) ∧ (s_ ≠ gb242) ∧ (gb243 ≠ s_) ∧ (s_ ≠ gb243) ∧ (gb247 ≠ s_) ∧ (s_ ≠ gb247) ∧ (Below w.heap.size w w')) ?_ ?_
   ·rintro gb260 w51 ⟨hHeld, h0_, h1_, h2_, h3_, h4_, h5_, h6_, h7_, h8_, h9_, h10_, h11_, h12_, h13_, h14_, h15_, h16_, h17_, h18_, h19_, h20_⟩
    replace HO233 := Aside0.mk h0_
    replace HO246 := Aside0.mk h1_
    replace BK225 := Aside0.mk h2_
    replace BK226 := Aside0.mk h3_
    replace BK242 := Aside0.mk h4_
    replace BK243 := Aside0.mk h5_
    replace BK247 := Aside0.mk h6_
    have BK260 := Aside0.mk h7_
    have GW260 := Aside0.mk h8_
    have GE260 := Aside0.mk h9_
    have NB225_260 := Aside0.mk h10_
    have NB260_225 := Aside0.mk h11_
    have NB226_260 := Aside0.mk h12_
    have NB260_226 := Aside0.mk h13_
    have NB242_260 := Aside0.mk h14_
    have NB260_242 := Aside0.mk h15_
    have NB243_260 := Aside0.mk h16_
    have NB260_243 := Aside0.mk h17_
    have NB247_260 := Aside0.mk h18_
    have NB260_247 := Aside0.mk h19_
    replace HB := Aside0.mk h20_
    clear h0_ h1_ h2_ h3_ h4_ h5_ h6_ h7_ h8_ h9_ h10_ h11_ h12_ h13_ h14_ h15_ h16_ h17_ h18_ h19_ h20_
    refine norm_ tM ?_
    refine two_ (i := 1) (j := 8) (Ni := some 31) (Nj := some 10) #[true, true, true, false, false, false, false, false, false, true, false, false, false] #[true, false, true, false, false, false, false, false, true, true, false, false, false] rfl rfl rfl rfl (two_of HT_.out (by kernel_rfl)) (by decide) (by decide) (fun K hK => ?_) (fun K hK => ?_)
    ·refine goes_ Try.func61 (by kernel_rfl) rfl #[.agg #[.int .i64 a0_0, .int .i64 a0_1, .int .i64 a0_2]] (by rfl) rfl rfl tL ?_
     with_reducible refine (laws_toWitness.calls a0_0 a0_1 a0_2 t248 t249 t250 _ A14.out).mono ?_
     rintro e w52 ⟨rfl, hb⟩
     refine ⟨_, rfl, ?_⟩
     replace HO233 := Aside0.mk (Kd.R_below (tR HO233) hb)
     replace HO246 := Aside0.mk (Kd.R_below (tR HO246) hb)
     replace BK225 := bB BK225 hb
     replace BK226 := bB BK226 hb
     replace BK242 := bB BK242 hb
     replace BK243 := bB BK243 hb
     replace BK247 := bB BK247 hb
     replace BK260 := bB BK260 hb
     replace HB := bH HB hb
     (try clear hb)
     (try clear hb2)
     (try clear hk)
     (try clear hi)
     refine hK.out _ _ ⟨(blk_cell BK225.out 0).trans rfl, (blk_cell BK225.out 1).trans rfl, (blk_cell BK225.out 2).trans rfl, (blk_cell BK247.out 0).trans rfl⟩ (fun hHeld => ?_)
     clear hK K
     refine norm_ (tV : Act.put _ (some 31) _ = _) ?_
     exact norm_ tM (hJ1_9 (gb260) _ ⟨hHeld, tR HO233, tR HO246, tK BK225, tK BK226, tK BK242, tK BK243, tK BK247, tK BK260, GW260.out, GE260.out, NB225_260.out, NB260_225.out, NB226_260.out, NB260_226.out, NB242_260.out, NB260_242.out, NB243_260.out, NB260_243.out, NB247_260.out, NB260_247.out, tB⟩)
    ·refine box_step ?hg (N := 10) ?hd (cs := #[.int .i64 0, .int .i64 0, .int .i64 0]) (t := 96) ?hr ?_; (case hd => rfl); (case hg => rfl); (case hr => exact tG)
     intro gb259 hg w52 hbox hb
     replace HO233 := Aside0.mk (Kd.R_below (tR HO233) hb)
     replace HO246 := Aside0.mk (Kd.R_below (tR HO246) hb)
     have BK259 := Aside0.mk (hbox)
     have GW259 := gW HB hg
     have GE259 := gW HB hg
     replace HB := bH HB hb
     have NB225_259 := nL BK225 hg
     have NB259_225 := nR BK225 hg
     replace BK225 := bB BK225 hb
     have NB226_259 := nL BK226 hg
     have NB259_226 := nR BK226 hg
     replace BK226 := bB BK226 hb
     have NB242_259 := nL BK242 hg
     have NB259_242 := nR BK242 hg
     replace BK242 := bB BK242 hb
     have NB243_259 := nL BK243 hg
     have NB259_243 := nR BK243 hg
     replace BK243 := bB BK243 hb
     have NB247_259 := nL BK247 hg
     have NB259_247 := nR BK247 hg
     replace BK247 := bB BK247 hb
     have NB260_259 := nL BK260 hg
     have NB259_260 := nR BK260 hg
     replace BK260 := bB BK260 hb
     clear hb hbox hg
     refine hK.out _ _ ⟨(blk_cell BK225.out 0).trans rfl, (blk_cell BK225.out 1).trans rfl, (blk_cell BK225.out 2).trans rfl, (blk_cell BK247.out 0).trans rfl⟩ (fun hHeld => ?_)
     clear hK K
     refine norm_ (tV : Act.put _ (some 10) _ = _) ?_
     exact norm_ tM (hJ8_9 (gb259, gb260) _ ⟨hHeld, tR HO233, tR HO246, tK BK225, tK BK226, tK BK242, tK BK243, tK BK247, tK BK259, tK BK260, GW259.out, GE259.out, NB225_259.out, NB259_225.out, NB226_259.out, NB259_226.out, NB242_259.out, NB259_242.out, NB243_259.out, NB259_243.out, NB247_259.out, NB259_247.out, NB260_259.out, NB259_260.out, GW260.out, GE260.out, NB225_260.out, NB260_225.out, NB226_260.out, NB260_226.out, NB242_260.out, NB260_242.out, NB243_260.out, NB260_243.out, NB247_260.out, NB260_247.out, tB⟩)
   intro hJ9
   refine three_ (i := 1) (j := 8) (k := 9) (Ni := some 31) (Nj := some 10) (Nk := some 11) #[true, true, true, false, false, false, false, false, false, false, false, false, false] #[true, false, true, false, false, false, false, false, true, false, false, false, false] #[true, false, true, false, false, false, false, false, false, true, false, false, false] rfl rfl rfl rfl rfl rfl (three_of HT_.out (by kernel_rfl)) (by decide) (by decide) (by decide) (fun K hK => ?_) (fun K hK => ?_) (fun K hK => ?_)
   ·refine goes_ Try.func61 (by kernel_rfl) rfl #[.agg #[.int .i64 a0_0, .int .i64 a0_1, .int .i64 a0_2]] (by rfl) rfl rfl tL ?_
    with_reducible refine (laws_toWitness.calls a0_0 a0_1 a0_2 t248 t249 t250 _ A14.out).mono ?_
    rintro e w50 ⟨rfl, hb⟩
    refine ⟨_, rfl, ?_⟩
    replace HO233 := Aside0.mk (Kd.R_below (tR HO233) hb)
    replace HO246 := Aside0.mk (Kd.R_below (tR HO246) hb)
    replace BK225 := bB BK225 hb
    replace BK226 := bB BK226 hb
    replace BK242 := bB BK242 hb
    replace BK243 := bB BK243 hb
    replace BK247 := bB BK247 hb
    replace HB := bH HB hb
    (try clear hb)
    (try clear hb2)
    (try clear hk)
    (try clear hi)
    refine hK.out _ _ ⟨(blk_cell BK225.out 0).trans rfl, (blk_cell BK225.out 1).trans rfl, (blk_cell BK225.out 2).trans rfl, (blk_cell BK247.out 0).trans rfl⟩ (fun hHeld => ?_)
    clear hK K
    refine norm_ (tV : Act.put _ (some 31) _ = _) ?_
    exact norm_ tM (hJ1 () _ ⟨hHeld, tR HO233, tR HO246, tK BK225, tK BK226, tK BK242, tK BK243, tK BK247, tB⟩)
   ·refine box_step ?hg (N := 10) ?hd (cs := #[.int .i64 0, .int .i64 0, .int .i64 0]) (t := 96) ?hr ?_; (case hd => rfl); (case hg => rfl); (case hr => exact tG)
    intro gb259 hg w50 hbox hb
    replace HO233 := Aside0.mk (Kd.R_below (tR HO233) hb)
    replace HO246 := Aside0.mk (Kd.R_below (tR HO246) hb)
    have BK259 := Aside0.mk (hbox)
    have GW259 := gW HB hg
    have GE259 := gW HB hg
    replace HB := bH HB hb
    have NB225_259 := nL BK225 hg
    have NB259_225 := nR BK225 hg
    replace BK225 := bB BK225 hb
    have NB226_259 := nL BK226 hg
    have NB259_226 := nR BK226 hg
    replace BK226 := bB BK226 hb
    have NB242_259 := nL BK242 hg
    have NB259_242 := nR BK242 hg
    replace BK242 := bB BK242 hb
    have NB243_259 := nL BK243 hg
    have NB259_243 := nR BK243 hg
    replace BK243 := bB BK243 hb
    have NB247_259 := nL BK247 hg
    have NB259_247 := nR BK247 hg
    replace BK247 := bB BK247 hb
    clear hb hbox hg
    refine hK.out _ _ ⟨(blk_cell BK225.out 0).trans rfl, (blk_cell BK225.out 1).trans rfl, (blk_cell BK225.out 2).trans rfl, (blk_cell BK247.out 0).trans rfl⟩ (fun hHeld => ?_)
    clear hK K
    refine norm_ (tV : Act.put _ (some 10) _ = _) ?_
    exact norm_ tM (hJ8 (gb259) _ ⟨hHeld, tR HO233, tR HO246, tK BK225, tK BK226, tK BK242, tK BK243, tK BK247, tK BK259, GW259.out, GE259.out, NB225_259.out, NB259_225.out, NB226_259.out, NB259_226.out, NB242_259.out, NB259_242.out, NB243_259.out, NB259_243.out, NB247_259.out, NB259_247.out, tB⟩)
   ·refine box_step ?hg (N := 11) ?hd (cs := #[.int .i64 0, .int .i64 0, .int .i64 0, .int .i64 0]) (t := 40) ?hr ?_; (case hd => rfl); (case hg => rfl); (case hr => exact tG)
    intro gb260 hg w50 hbox hb
    replace HO233 := Aside0.mk (Kd.R_below (tR HO233) hb)
    replace HO246 := Aside0.mk (Kd.R_below (tR HO246) hb)
    have BK260 := Aside0.mk (hbox)
    have GW260 := gW HB hg
    have GE260 := gW HB hg
    replace HB := bH HB hb
    have NB225_260 := nL BK225 hg
    have NB260_225 := nR BK225 hg
    replace BK225 := bB BK225 hb
    have NB226_260 := nL BK226 hg
    have NB260_226 := nR BK226 hg
    replace BK226 := bB BK226 hb
    have NB242_260 := nL BK242 hg
    have NB260_242 := nR BK242 hg
    replace BK242 := bB BK242 hb
    have NB243_260 := nL BK243 hg
    have NB260_243 := nR BK243 hg
    replace BK243 := bB BK243 hb
    have NB247_260 := nL BK247 hg
    have NB260_247 := nR BK247 hg
    replace BK247 := bB BK247 hb
    clear hb hbox hg
    refine hK.out _ _ ⟨(blk_cell BK225.out 0).trans rfl, (blk_cell BK225.out 1).trans rfl, (blk_cell BK225.out 2).trans rfl, (blk_cell BK247.out 0).trans rfl⟩ (fun hHeld => ?_)
    clear hK K
    refine norm_ (tV : Act.put _ (some 11) _ = _) ?_
    exact norm_ tM (hJ9 (gb260) _ ⟨hHeld, tR HO233, tR HO246, tK BK225, tK BK226, tK BK242, tK BK243, tK BK247, tK BK260, GW260.out, GE260.out, NB225_260.out, NB260_225.out, NB226_260.out, NB260_226.out, NB242_260.out, NB260_242.out, NB243_260.out, NB260_243.out, NB247_260.out, NB260_247.out, tB⟩)
  intro hJ1_3_4_9_10
  refine join_ (σ := Value × Nat) 4 #[true, true, true, true, true, true, true, true, true, true, false, false, false, false] (fun s_ => [(20, .agg #[.int .i64 t228, .int .i64 t229, .int .i64 t230]), (22, .agg #[s_.1]), (23, .tuple #[.agg #[.int .i64 t234, .int .i64 t235, .int .i64 t236], .agg #[.int .i64 t237, .int .i64 t238, .int .i64 t239, .int .i64 t240], .bool t241]), (6, .pointer (some ⟨s_.2, 0, none⟩)), (18, .tuple #[.agg #[.int .i64 t234, .int .i64 t235, .int .i64 t236], .agg #[.int .i64 t237, .int .i64 t238, .int .i64 t239, .int .i64 t240], .bool t241]), (24, .agg #[.int .i64 t234, .int .i64 t235, .int .i64 t236]), (25, .agg #[.int .i64 t237, .int .i64 t238, .int .i64 t239, .int .i64 t240]), (26, .bool t241)]) (fun s_ w' => (w'.cell? ⟨gb225, 0, none⟩ = some (.int .i64 a0_0) ∧ w'.cell? ⟨gb225, 1, none⟩ = some (.int .i64 a0_1) ∧ w'.cell? ⟨gb225, 2, none⟩ = some (.int .i64 a0_2) ∧ w'.cell? ⟨gb226, 0, none⟩ = some (.slice A1_0 l1_0.length c1_0)) ∧ (Kd.R (Kd.int .i64) 3 w' w.heap.size (fun _ => True) s_.1 t231) ∧ (w'.heap[gb225]? = some (.cells #[.int .i64 a0_0, .int .i64 a0_1, .int .i64 a0_2] 92 (0, 0))) ∧ (w'.heap[gb226]? = some (.cells #[.slice A1_0 l1_0.length c1_0] 94 (0, 0))) ∧ (w'.heap[s_.2]? = some (.cells #[.int .i64 0, .int .i64 0, .int .i64 0] 96 (0, 0))) ∧ (w.heap.size ≤ s_.2) ∧ (w.heap.size ≤ s_.2) ∧ (gb225 ≠ s_.2) ∧ (s_.2 ≠ gb225) ∧ (gb226 ≠ s_.2) ∧ (s_.2 ≠ gb226) ∧ (Below w.heap.size w w')) ?_ ?_
  ·rintro ⟨v232, gb242⟩ w28 hS_
   dsimp only at hS_
   obtain ⟨hHeld, h0_, h1_, h2_, h3_, h4_, h5_, h6_, h7_, h8_, h9_, h10_⟩ := hS_
   have HO233 := Aside0.mk h0_
   replace BK225 := Aside0.mk h1_
   replace BK226 := Aside0.mk h2_
   have BK242 := Aside0.mk h3_
   have GW242 := Aside0.mk h4_
   have GE242 := Aside0.mk h5_
   have NB225_242 := Aside0.mk h6_
   have NB242_225 := Aside0.mk h7_
   have NB226_242 := Aside0.mk h8_
   have NB242_226 := Aside0.mk h9_
   replace HB := Aside0.mk h10_
   clear h0_ h1_ h2_ h3_ h4_ h5_ h6_ h7_ h8_ h9_ h10_
   refine norm_ tM ?_
   refine one_ (i := 10) (N := some 7) #[true, true, true, true, true, true, true, true, true, true, true, false, false, false] rfl rfl (one_of HT_.out (by kernel_rfl)) (by decide) (fun K hK => ?_)
   refine box_step ?hg (N := 7) ?hd (cs := #[.int .i64 0, .int .i64 0, .int .i64 0, .int .i64 0]) (t := 40) ?hr ?_; (case hd => rfl); (case hg => rfl); (case hr => exact tG)
   intro gb243 hg w29 hbox hb
   replace HO233 := Aside0.mk (Kd.R_below (tR HO233) hb)
   have BK243 := Aside0.mk (hbox)
   have GW243 := gW HB hg
   have GE243 := gW HB hg
   replace HB := bH HB hb
   have NB225_243 := nL BK225 hg
   have NB243_225 := nR BK225 hg
   replace BK225 := bB BK225 hb
   have NB226_243 := nL BK226 hg
   have NB243_226 := nR BK226 hg
   replace BK226 := bB BK226 hb
   have NB242_243 := nL BK242 hg
   have NB243_242 := nR BK242 hg
   replace BK242 := bB BK242 hb
   clear hb hbox hg
   refine hK.out _ _ ⟨(blk_cell BK225.out 0).trans rfl, (blk_cell BK225.out 1).trans rfl, (blk_cell BK225.out 2).trans rfl, (blk_cell BK226.out 0).trans rfl⟩ (fun hHeld => ?_)
   clear hK K
   refine norm_ (tV : Act.put _ (some 7) _ = _) ?_
   exact norm_ tM (hJ1_3_4_9_10 (v232, gb242, gb243) _ ⟨hHeld, tR HO233, tK BK225, tK BK226, tK BK242, tK BK243, GW242.out, GE242.out, NB225_242.out, NB242_225.out, NB226_242.out, NB242_226.out, NB243_242.out, NB242_243.out, GW243.out, GE243.out, NB225_243.out, NB243_225.out, NB226_243.out, NB243_226.out, tB⟩)
  intro hJ1_3_4_9
  refine join_ (σ := Value × Nat) 4 #[true, true, true, true, true, true, true, true, true, false, true, false, false, false] (fun s_ => [(20, .agg #[.int .i64 t228, .int .i64 t229, .int .i64 t230]), (22, .agg #[s_.1]), (23, .tuple #[.agg #[.int .i64 t234, .int .i64 t235, .int .i64 t236], .agg #[.int .i64 t237, .int .i64 t238, .int .i64 t239, .int .i64 t240], .bool t241]), (7, .pointer (some ⟨s_.2, 0, none⟩)), (18, .tuple #[.agg #[.int .i64 t234, .int .i64 t235, .int .i64 t236], .agg #[.int .i64 t237, .int .i64 t238, .int .i64 t239, .int .i64 t240], .bool t241]), (24, .agg #[.int .i64 t234, .int .i64 t235, .int .i64 t236]), (25, .agg #[.int .i64 t237, .int .i64 t238, .int .i64 t239, .int .i64 t240]), (26, .bool t241)]) (fun s_ w' => (w'.cell? ⟨gb225, 0, none⟩ = some (.int .i64 a0_0) ∧ w'.cell? ⟨gb225, 1, none⟩ = some (.int .i64 a0_1) ∧ w'.cell? ⟨gb225, 2, none⟩ = some (.int .i64 a0_2) ∧ w'.cell? ⟨gb226, 0, none⟩ = some (.slice A1_0 l1_0.length c1_0)) ∧ (Kd.R (Kd.int .i64) 3 w' w.heap.size (fun _ => True) s_.1 t231) ∧ (w'.heap[gb225]? = some (.cells #[.int .i64 a0_0, .int .i64 a0_1, .int .i64 a0_2] 92 (0, 0))) ∧ (w'.heap[gb226]? = some (.cells #[.slice A1_0 l1_0.length c1_0] 94 (0, 0))) ∧ (w'.heap[s_.2]? = some (.cells #[.int .i64 0, .int .i64 0, .int .i64 0, .int .i64 0] 40 (0, 0))) ∧ (w.heap.size ≤ s_.2) ∧ (w.heap.size ≤ s_.2) ∧ (gb225 ≠ s_.2) ∧ (s_.2 ≠ gb225) ∧ (gb226 ≠ s_.2) ∧ (s_.2 ≠ gb226) ∧ (Below w.heap.size w w')) ?_ ?_
  ·rintro ⟨v232, gb243⟩ w28 hS_
   dsimp only at hS_
   obtain ⟨hHeld, h0_, h1_, h2_, h3_, h4_, h5_, h6_, h7_, h8_, h9_, h10_⟩ := hS_
   have HO233 := Aside0.mk h0_
   replace BK225 := Aside0.mk h1_
   replace BK226 := Aside0.mk h2_
   have BK243 := Aside0.mk h3_
   have GW243 := Aside0.mk h4_
   have GE243 := Aside0.mk h5_
   have NB225_243 := Aside0.mk h6_
   have NB243_225 := Aside0.mk h7_
   have NB226_243 := Aside0.mk h8_
   have NB243_226 := Aside0.mk h9_
   replace HB := Aside0.mk h10_
   clear h0_ h1_ h2_ h3_ h4_ h5_ h6_ h7_ h8_ h9_ h10_
   refine norm_ tM ?_
   refine one_ (i := 9) (N := some 6) #[true, true, true, true, true, true, true, true, true, true, true, false, false, false] rfl rfl (one_of HT_.out (by kernel_rfl)) (by decide) (fun K hK => ?_)
   refine box_step ?hg (N := 6) ?hd (cs := #[.int .i64 0, .int .i64 0, .int .i64 0]) (t := 96) ?hr ?_; (case hd => rfl); (case hg => rfl); (case hr => exact tG)
   intro gb242 hg w29 hbox hb
   replace HO233 := Aside0.mk (Kd.R_below (tR HO233) hb)
   have BK242 := Aside0.mk (hbox)
   have GW242 := gW HB hg
   have GE242 := gW HB hg
   replace HB := bH HB hb
   have NB225_242 := nL BK225 hg
   have NB242_225 := nR BK225 hg
   replace BK225 := bB BK225 hb
   have NB226_242 := nL BK226 hg
   have NB242_226 := nR BK226 hg
   replace BK226 := bB BK226 hb
   have NB243_242 := nL BK243 hg
   have NB242_243 := nR BK243 hg
   replace BK243 := bB BK243 hb
   clear hb hbox hg
   refine hK.out _ _ ⟨(blk_cell BK225.out 0).trans rfl, (blk_cell BK225.out 1).trans rfl, (blk_cell BK225.out 2).trans rfl, (blk_cell BK226.out 0).trans rfl⟩ (fun hHeld => ?_)
   clear hK K
   refine norm_ (tV : Act.put _ (some 6) _ = _) ?_
   exact norm_ tM (hJ1_3_4_9_10 (v232, gb242, gb243) _ ⟨hHeld, tR HO233, tK BK225, tK BK226, tK BK242, tK BK243, GW242.out, GE242.out, NB225_242.out, NB242_225.out, NB226_242.out, NB242_226.out, NB243_242.out, NB242_243.out, GW243.out, GE243.out, NB225_243.out, NB243_225.out, NB226_243.out, NB243_226.out, tB⟩)
  intro hJ1_3_4_10
  refine join_ (σ := Value × Nat × Nat) 8 #[true, true, true, true, false, false, false, false, false, true, true, false, false, false] (fun s_ => [(20, .agg #[.int .i64 t228, .int .i64 t229, .int .i64 t230]), (22, .agg #[s_.1]), (6, .pointer (some ⟨s_.2.1, 0, none⟩)), (7, .pointer (some ⟨s_.2.2, 0, none⟩))]) (fun s_ w' => (w'.cell? ⟨gb225, 0, none⟩ = some (.int .i64 a0_0) ∧ w'.cell? ⟨gb225, 1, none⟩ = some (.int .i64 a0_1) ∧ w'.cell? ⟨gb225, 2, none⟩ = some (.int .i64 a0_2) ∧ w'.cell? ⟨gb226, 0, none⟩ = some (.slice A1_0 l1_0.length c1_0)) ∧ (Kd.R (Kd.int .i64) 3 w' w.heap.size (fun _ => True) s_.1 t231) ∧ (w'.heap[gb225]? = some (.cells #[.int .i64 a0_0, .int .i64 a0_1, .int .i64 a0_2] 92 (0, 0))) ∧ (w'.heap[gb226]? = some (.cells #[.slice A1_0 l1_0.length c1_0] 94 (0, 0))) ∧ (w'.heap[s_.2.1]? = some (.cells #[.int .i64 0, .int .i64 0, .int .i64 0] 96 (0, 0))) ∧ (w'.heap[s_.2.2]? = some (.cells #[.int .i64 0, .int .i64 0, .int .i64 0, .int .i64 0] 40 (0, 0))) ∧ (w.heap.size ≤ s_.2.1) ∧ (w.heap.size ≤ s_.2.1) ∧ (gb225 ≠ s_.2.1) ∧ (s_.2.1 ≠ gb225) ∧ (gb226 ≠ s_.2.1) ∧ (s_.2.1 ≠ gb226) ∧ (s_.2.2 ≠ s_.2.1) ∧ (s_.2.1 ≠ s_.2.2) ∧ (w.heap.size ≤ s_.2.2) ∧ (w.heap.size ≤ s_.2.2) ∧ (gb225 ≠ s_.2.2) ∧ (s_.2.2 ≠ gb225) ∧ (gb226 ≠ s_.2.2) ∧ (s_.2.2 ≠ gb226) ∧ (Below w.heap.size w w')) ?_ ?_
  ·rintro ⟨v232, gb242, gb243⟩ w27 hS_
   dsimp only at hS_
   obtain ⟨hHeld, h0_, h1_, h2_, h3_, h4_, h5_, h6_, h7_, h8_, h9_, h10_, h11_, h12_, h13_, h14_, h15_, h16_, h17_, h18_, h19_⟩ := hS_
   have HO233 := Aside0.mk h0_
   replace BK225 := Aside0.mk h1_
   replace BK226 := Aside0.mk h2_
   have BK242 := Aside0.mk h3_
   have BK243 := Aside0.mk h4_
   have GW242 := Aside0.mk h5_
   have GE242 := Aside0.mk h6_
   have NB225_242 := Aside0.mk h7_
   have NB242_225 := Aside0.mk h8_
   have NB226_242 := Aside0.mk h9_
   have NB242_226 := Aside0.mk h10_
   have NB243_242 := Aside0.mk h11_
   have NB242_243 := Aside0.mk h12_
   have GW243 := Aside0.mk h13_
   have GE243 := Aside0.mk h14_
   have NB225_243 := Aside0.mk h15_
   have NB243_225 := Aside0.mk h16_
   have NB226_243 := Aside0.mk h17_
   have NB243_226 := Aside0.mk h18_
   replace HB := Aside0.mk h19_
   clear h0_ h1_ h2_ h3_ h4_ h5_ h6_ h7_ h8_ h9_ h10_ h11_ h12_ h13_ h14_ h15_ h16_ h17_ h18_ h19_
   obtain ⟨Ao28, co28, eo28⟩ := Kd.R_slice HO233.out
   (first | subst eo28 | (injection eo28 with f1_ f2_ f3_; have f4_ := f1_.symm; have f5_ := f3_.symm; clear f1_ f2_ f3_; subst f4_; subst f5_))
   refine norm_ tM ?_
   refine one_ (i := 4) (N := some 23) #[true, true, true, true, true, false, false, false, false, true, true, false, false, false] rfl rfl (one_of HT_.out (by kernel_rfl)) (by decide) (fun K hK => ?_)
   refine goes_ Try.func60 (by kernel_rfl) rfl #[.agg #[.int .i64 t228, .int .i64 t229, .int .i64 t230], .agg #[.slice Ao28 t231.length co28]] (by rfl) rfl rfl tL ?_
   with_reducible refine (spec_SignHead.calls k t228 t229 t230 _ _ t231 t234 t235 t236 t237 t238 t239 t240 t241 _ ?side1 ?side2 A12.out).mono ?_
   (case side1 => repeat (first | exact (Kd.R_reads' HO233.out).2.2 | (with_reducible refine Kd.C_alloc ?_ _) | (with_reducible refine Kd.C_drewN ?_ _) | (with_reducible refine Kd.C_drew ?_)))
   (case side2 => exact (Kd.R_reads' HO233.out).2.1)
   rintro e w29 ⟨rfl, hb⟩
   refine ⟨_, rfl, ?_⟩
   replace HO233 := Aside0.mk (Kd.R_below (tR HO233) hb)
   replace BK225 := bB BK225 hb
   replace BK226 := bB BK226 hb
   replace BK242 := bB BK242 hb
   replace BK243 := bB BK243 hb
   replace HB := bH HB hb
   (try clear hb)
   (try clear hb2)
   (try clear hk)
   (try clear hi)
   refine hK.out _ _ ⟨(blk_cell BK225.out 0).trans rfl, (blk_cell BK225.out 1).trans rfl, (blk_cell BK225.out 2).trans rfl, (blk_cell BK226.out 0).trans rfl⟩ (fun hHeld => ?_)
   clear hK K
   refine norm_ (tV : Act.put _ (some 23) _ = _) ?_
   refine pure_ (i := 5) (N := some 18) (v := ?_) (a' := ?_) #[true, true, true, true, true, true, false, false, false, true, true, false, false, false] rfl rfl (any_of HT_.out (by kernel_rfl)) (fun _ _ _ h => h) (Or.inl ⟨by rfl, ?_⟩) ?_ ?_
   rotate_left
   ·intro w'
    go_simp
    with_reducible rfl
   rotate_left
   ·simp only [Act.put, List.setIfInBounds_toArray, List.set_cons_zero, List.set_cons_succ, i64_w, i32_w]
    rfl
   refine pure_ (i := 6) (N := some 24) (v := ?_) (a' := ?_) #[true, true, true, true, true, true, true, false, false, true, true, false, false, false] rfl rfl (any_of HT_.out (by kernel_rfl)) (fun _ _ _ h => h) (Or.inl ⟨by rfl, ?_⟩) ?_ ?_
   rotate_left
   ·intro w'
    go_simp
    with_reducible rfl
   rotate_left
   ·simp only [Act.put, List.setIfInBounds_toArray, List.set_cons_zero, List.set_cons_succ, i64_w, i32_w]
    rfl
   refine pure_ (i := 7) (N := some 25) (v := ?_) (a' := ?_) #[true, true, true, true, true, true, true, true, false, true, true, false, false, false] rfl rfl (any_of HT_.out (by kernel_rfl)) (fun _ _ _ h => h) (Or.inl ⟨by rfl, ?_⟩) ?_ ?_
   rotate_left
   ·intro w'
    go_simp
    with_reducible rfl
   rotate_left
   ·simp only [Act.put, List.setIfInBounds_toArray, List.set_cons_zero, List.set_cons_succ, i64_w, i32_w]
    rfl
   refine pure_ (i := 8) (N := some 26) (v := ?_) (a' := ?_) #[true, true, true, true, true, true, true, true, true, true, true, false, false, false] rfl rfl (any_of HT_.out (by kernel_rfl)) (fun _ _ _ h => h) (Or.inl ⟨by rfl, ?_⟩) ?_ ?_
   rotate_left
   ·intro w'
    go_simp
    with_reducible rfl
   rotate_left
   ·simp only [Act.put, List.setIfInBounds_toArray, List.set_cons_zero, List.set_cons_succ, i64_w, i32_w]
    rfl
   exact norm_ tM (hJ1_3_4_9_10 (.slice Ao28 t231.length co28, gb242, gb243) _ ⟨hHeld, tR HO233, tK BK225, tK BK226, tK BK242, tK BK243, GW242.out, GE242.out, NB225_242.out, NB242_225.out, NB226_242.out, NB242_226.out, NB243_242.out, NB242_243.out, GW243.out, GE243.out, NB225_243.out, NB243_225.out, NB226_243.out, NB243_226.out, tB⟩)
  intro hJ1_3_9_10
  refine join_ (σ := Value) 5 #[true, true, true, true, true, true, true, true, true, false, false, false, false, false] (fun s_ => [(20, .agg #[.int .i64 t228, .int .i64 t229, .int .i64 t230]), (22, .agg #[s_]), (23, .tuple #[.agg #[.int .i64 t234, .int .i64 t235, .int .i64 t236], .agg #[.int .i64 t237, .int .i64 t238, .int .i64 t239, .int .i64 t240], .bool t241]), (18, .tuple #[.agg #[.int .i64 t234, .int .i64 t235, .int .i64 t236], .agg #[.int .i64 t237, .int .i64 t238, .int .i64 t239, .int .i64 t240], .bool t241]), (24, .agg #[.int .i64 t234, .int .i64 t235, .int .i64 t236]), (25, .agg #[.int .i64 t237, .int .i64 t238, .int .i64 t239, .int .i64 t240]), (26, .bool t241)]) (fun s_ w' => (w'.cell? ⟨gb225, 0, none⟩ = some (.int .i64 a0_0) ∧ w'.cell? ⟨gb225, 1, none⟩ = some (.int .i64 a0_1) ∧ w'.cell? ⟨gb225, 2, none⟩ = some (.int .i64 a0_2) ∧ w'.cell? ⟨gb226, 0, none⟩ = some (.slice A1_0 l1_0.length c1_0)) ∧ (Kd.R (Kd.int .i64) 3 w' w.heap.size (fun _ => True) s_ t231) ∧ (w'.heap[gb225]? = some (.cells #[.int .i64 a0_0, .int .i64 a0_1, .int .i64 a0_2] 92 (0, 0))) ∧ (w'.heap[gb226]? = some (.cells #[.slice A1_0 l1_0.length c1_0] 94 (0, 0))) ∧ (Below w.heap.size w w')) ?_ ?_
  ·rintro v232 w27 ⟨hHeld, h0_, h1_, h2_, h3_⟩
   have HO233 := Aside0.mk h0_
   replace BK225 := Aside0.mk h1_
   replace BK226 := Aside0.mk h2_
   replace HB := Aside0.mk h3_
   clear h0_ h1_ h2_ h3_
   refine norm_ tM ?_
   refine two_ (i := 9) (j := 10) (Ni := some 6) (Nj := some 7) #[true, true, true, true, true, true, true, true, true, true, false, false, false, false] #[true, true, true, true, true, true, true, true, true, false, true, false, false, false] rfl rfl rfl rfl (two_of HT_.out (by kernel_rfl)) (by decide) (by decide) (fun K hK => ?_) (fun K hK => ?_)
   ·refine box_step ?hg (N := 6) ?hd (cs := #[.int .i64 0, .int .i64 0, .int .i64 0]) (t := 96) ?hr ?_; (case hd => rfl); (case hg => rfl); (case hr => exact tG)
    intro gb242 hg w28 hbox hb
    replace HO233 := Aside0.mk (Kd.R_below (tR HO233) hb)
    have BK242 := Aside0.mk (hbox)
    have GW242 := gW HB hg
    have GE242 := gW HB hg
    replace HB := bH HB hb
    have NB225_242 := nL BK225 hg
    have NB242_225 := nR BK225 hg
    replace BK225 := bB BK225 hb
    have NB226_242 := nL BK226 hg
    have NB242_226 := nR BK226 hg
    replace BK226 := bB BK226 hb
    clear hb hbox hg
    refine hK.out _ _ ⟨(blk_cell BK225.out 0).trans rfl, (blk_cell BK225.out 1).trans rfl, (blk_cell BK225.out 2).trans rfl, (blk_cell BK226.out 0).trans rfl⟩ (fun hHeld => ?_)
    clear hK K
    refine norm_ (tV : Act.put _ (some 6) _ = _) ?_
    exact norm_ tM (hJ1_3_4_9 (v232, gb242) _ ⟨hHeld, tR HO233, tK BK225, tK BK226, tK BK242, GW242.out, GE242.out, NB225_242.out, NB242_225.out, NB226_242.out, NB242_226.out, tB⟩)
   ·refine box_step ?hg (N := 7) ?hd (cs := #[.int .i64 0, .int .i64 0, .int .i64 0, .int .i64 0]) (t := 40) ?hr ?_; (case hd => rfl); (case hg => rfl); (case hr => exact tG)
    intro gb243 hg w28 hbox hb
    replace HO233 := Aside0.mk (Kd.R_below (tR HO233) hb)
    have BK243 := Aside0.mk (hbox)
    have GW243 := gW HB hg
    have GE243 := gW HB hg
    replace HB := bH HB hb
    have NB225_243 := nL BK225 hg
    have NB243_225 := nR BK225 hg
    replace BK225 := bB BK225 hb
    have NB226_243 := nL BK226 hg
    have NB243_226 := nR BK226 hg
    replace BK226 := bB BK226 hb
    clear hb hbox hg
    refine hK.out _ _ ⟨(blk_cell BK225.out 0).trans rfl, (blk_cell BK225.out 1).trans rfl, (blk_cell BK225.out 2).trans rfl, (blk_cell BK226.out 0).trans rfl⟩ (fun hHeld => ?_)
    clear hK K
    refine norm_ (tV : Act.put _ (some 7) _ = _) ?_
    exact norm_ tM (hJ1_3_4_10 (v232, gb243) _ ⟨hHeld, tR HO233, tK BK225, tK BK226, tK BK243, GW243.out, GE243.out, NB225_243.out, NB243_225.out, NB226_243.out, NB243_226.out, tB⟩)
  intro hJ1_3_4
  refine join_ (σ := Value × Nat) 9 #[true, true, true, true, false, false, false, false, false, true, false, false, false, false] (fun s_ => [(20, .agg #[.int .i64 t228, .int .i64 t229, .int .i64 t230]), (22, .agg #[s_.1]), (6, .pointer (some ⟨s_.2, 0, none⟩))]) (fun s_ w' => (w'.cell? ⟨gb225, 0, none⟩ = some (.int .i64 a0_0) ∧ w'.cell? ⟨gb225, 1, none⟩ = some (.int .i64 a0_1) ∧ w'.cell? ⟨gb225, 2, none⟩ = some (.int .i64 a0_2) ∧ w'.cell? ⟨gb226, 0, none⟩ = some (.slice A1_0 l1_0.length c1_0)) ∧ (Kd.R (Kd.int .i64) 3 w' w.heap.size (fun _ => True) s_.1 t231) ∧ (w'.heap[gb225]? = some (.cells #[.int .i64 a0_0, .int .i64 a0_1, .int .i64 a0_2] 92 (0, 0))) ∧ (w'.heap[gb226]? = some (.cells #[.slice A1_0 l1_0.length c1_0] 94 (0, 0))) ∧ (w'.heap[s_.2]? = some (.cells #[.int .i64 0, .int .i64 0, .int .i64 0] 96 (0, 0))) ∧ (w.heap.size ≤ s_.2) ∧ (w.heap.size ≤ s_.2) ∧ (gb225 ≠ s_.2) ∧ (s_.2 ≠ gb225) ∧ (gb226 ≠ s_.2) ∧ (s_.2 ≠ gb226) ∧ (Below w.heap.size w w')) ?_ ?_
  ·rintro ⟨v232, gb242⟩ w26 hS_
   dsimp only at hS_
   obtain ⟨hHeld, h0_, h1_, h2_, h3_, h4_, h5_, h6_, h7_, h8_, h9_, h10_⟩ := hS_
   have HO233 := Aside0.mk h0_
   replace BK225 := Aside0.mk h1_
   replace BK226 := Aside0.mk h2_
   have BK242 := Aside0.mk h3_
   have GW242 := Aside0.mk h4_
   have GE242 := Aside0.mk h5_
   have NB225_242 := Aside0.mk h6_
   have NB242_225 := Aside0.mk h7_
   have NB226_242 := Aside0.mk h8_
   have NB242_226 := Aside0.mk h9_
   replace HB := Aside0.mk h10_
   clear h0_ h1_ h2_ h3_ h4_ h5_ h6_ h7_ h8_ h9_ h10_
   obtain ⟨Ao27, co27, eo27⟩ := Kd.R_slice HO233.out
   (first | subst eo27 | (injection eo27 with f1_ f2_ f3_; have f4_ := f1_.symm; have f5_ := f3_.symm; clear f1_ f2_ f3_; subst f4_; subst f5_))
   refine norm_ tM ?_
   refine two_ (i := 4) (j := 10) (Ni := some 23) (Nj := some 7) #[true, true, true, true, true, false, false, false, false, true, false, false, false, false] #[true, true, true, true, false, false, false, false, false, true, true, false, false, false] rfl rfl rfl rfl (two_of HT_.out (by kernel_rfl)) (by decide) (by decide) (fun K hK => ?_) (fun K hK => ?_)
   ·refine goes_ Try.func60 (by kernel_rfl) rfl #[.agg #[.int .i64 t228, .int .i64 t229, .int .i64 t230], .agg #[.slice Ao27 t231.length co27]] (by rfl) rfl rfl tL ?_
    with_reducible refine (spec_SignHead.calls k t228 t229 t230 _ _ t231 t234 t235 t236 t237 t238 t239 t240 t241 _ ?side1 ?side2 A12.out).mono ?_
    (case side1 => repeat (first | exact (Kd.R_reads' HO233.out).2.2 | (with_reducible refine Kd.C_alloc ?_ _) | (with_reducible refine Kd.C_drewN ?_ _) | (with_reducible refine Kd.C_drew ?_)))
    (case side2 => exact (Kd.R_reads' HO233.out).2.1)
    rintro e w28 ⟨rfl, hb⟩
    refine ⟨_, rfl, ?_⟩
    replace HO233 := Aside0.mk (Kd.R_below (tR HO233) hb)
    replace BK225 := bB BK225 hb
    replace BK226 := bB BK226 hb
    replace BK242 := bB BK242 hb
    replace HB := bH HB hb
    (try clear hb)
    (try clear hb2)
    (try clear hk)
    (try clear hi)
    refine hK.out _ _ ⟨(blk_cell BK225.out 0).trans rfl, (blk_cell BK225.out 1).trans rfl, (blk_cell BK225.out 2).trans rfl, (blk_cell BK226.out 0).trans rfl⟩ (fun hHeld => ?_)
    clear hK K
    refine norm_ (tV : Act.put _ (some 23) _ = _) ?_
    refine pure_ (i := 5) (N := some 18) (v := ?_) (a' := ?_) #[true, true, true, true, true, true, false, false, false, true, false, false, false, false] rfl rfl (any_of HT_.out (by kernel_rfl)) (fun _ _ _ h => h) (Or.inl ⟨by rfl, ?_⟩) ?_ ?_
    rotate_left
    ·intro w'
     go_simp
     with_reducible rfl
    rotate_left
    ·simp only [Act.put, List.setIfInBounds_toArray, List.set_cons_zero, List.set_cons_succ, i64_w, i32_w]
     rfl
    refine pure_ (i := 6) (N := some 24) (v := ?_) (a' := ?_) #[true, true, true, true, true, true, true, false, false, true, false, false, false, false] rfl rfl (any_of HT_.out (by kernel_rfl)) (fun _ _ _ h => h) (Or.inl ⟨by rfl, ?_⟩) ?_ ?_
    rotate_left
    ·intro w'
     go_simp
     with_reducible rfl
    rotate_left
    ·simp only [Act.put, List.setIfInBounds_toArray, List.set_cons_zero, List.set_cons_succ, i64_w, i32_w]
     rfl
    refine pure_ (i := 7) (N := some 25) (v := ?_) (a' := ?_) #[true, true, true, true, true, true, true, true, false, true, false, false, false, false] rfl rfl (any_of HT_.out (by kernel_rfl)) (fun _ _ _ h => h) (Or.inl ⟨by rfl, ?_⟩) ?_ ?_
    rotate_left
    ·intro w'
     go_simp
     with_reducible rfl
    rotate_left
    ·simp only [Act.put, List.setIfInBounds_toArray, List.set_cons_zero, List.set_cons_succ, i64_w, i32_w]
     rfl
    refine pure_ (i := 8) (N := some 26) (v := ?_) (a' := ?_) #[true, true, true, true, true, true, true, true, true, true, false, false, false, false] rfl rfl (any_of HT_.out (by kernel_rfl)) (fun _ _ _ h => h) (Or.inl ⟨by rfl, ?_⟩) ?_ ?_
    rotate_left
    ·intro w'
     go_simp
     with_reducible rfl
    rotate_left
    ·simp only [Act.put, List.setIfInBounds_toArray, List.set_cons_zero, List.set_cons_succ, i64_w, i32_w]
     rfl
    exact norm_ tM (hJ1_3_4_9 (.slice Ao27 t231.length co27, gb242) _ ⟨hHeld, tR HO233, tK BK225, tK BK226, tK BK242, GW242.out, GE242.out, NB225_242.out, NB242_225.out, NB226_242.out, NB242_226.out, tB⟩)
   ·refine box_step ?hg (N := 7) ?hd (cs := #[.int .i64 0, .int .i64 0, .int .i64 0, .int .i64 0]) (t := 40) ?hr ?_; (case hd => rfl); (case hg => rfl); (case hr => exact tG)
    intro gb243 hg w27 hbox hb
    replace HO233 := Aside0.mk (Kd.R_below (tR HO233) hb)
    have BK243 := Aside0.mk (hbox)
    have GW243 := gW HB hg
    have GE243 := gW HB hg
    replace HB := bH HB hb
    have NB225_243 := nL BK225 hg
    have NB243_225 := nR BK225 hg
    replace BK225 := bB BK225 hb
    have NB226_243 := nL BK226 hg
    have NB243_226 := nR BK226 hg
    replace BK226 := bB BK226 hb
    have NB242_243 := nL BK242 hg
    have NB243_242 := nR BK242 hg
    replace BK242 := bB BK242 hb
    clear hb hbox hg
    refine hK.out _ _ ⟨(blk_cell BK225.out 0).trans rfl, (blk_cell BK225.out 1).trans rfl, (blk_cell BK225.out 2).trans rfl, (blk_cell BK226.out 0).trans rfl⟩ (fun hHeld => ?_)
    clear hK K
    refine norm_ (tV : Act.put _ (some 7) _ = _) ?_
    exact norm_ tM (hJ1_3_9_10 ((.slice Ao27 t231.length co27), gb242, gb243) _ ⟨hHeld, tR HO233, tK BK225, tK BK226, tK BK242, tK BK243, GW242.out, GE242.out, NB225_242.out, NB242_225.out, NB226_242.out, NB242_226.out, NB243_242.out, NB242_243.out, GW243.out, GE243.out, NB225_243.out, NB243_225.out, NB226_243.out, NB243_226.out, tB⟩)
  intro hJ1_3_9
  refine join_ (σ := Value × Nat) 9 #[true, true, true, true, false, false, false, false, false, false, true, false, false, false] (fun s_ => [(20, .agg #[.int .i64 t228, .int .i64 t229, .int .i64 t230]), (22, .agg #[s_.1]), (7, .pointer (some ⟨s_.2, 0, none⟩))]) (fun s_ w' => (w'.cell? ⟨gb225, 0, none⟩ = some (.int .i64 a0_0) ∧ w'.cell? ⟨gb225, 1, none⟩ = some (.int .i64 a0_1) ∧ w'.cell? ⟨gb225, 2, none⟩ = some (.int .i64 a0_2) ∧ w'.cell? ⟨gb226, 0, none⟩ = some (.slice A1_0 l1_0.length c1_0)) ∧ (Kd.R (Kd.int .i64) 3 w' w.heap.size (fun _ => True) s_.1 t231) ∧ (w'.heap[gb225]? = some (.cells #[.int .i64 a0_0, .int .i64 a0_1, .int .i64 a0_2] 92 (0, 0))) ∧ (w'.heap[gb226]? = some (.cells #[.slice A1_0 l1_0.length c1_0] 94 (0, 0))) ∧ (w'.heap[s_.2]? = some (.cells #[.int .i64 0, .int .i64 0, .int .i64 0, .int .i64 0] 40 (0, 0))) ∧ (w.heap.size ≤ s_.2) ∧ (w.heap.size ≤ s_.2) ∧ (gb225 ≠ s_.2) ∧ (s_.2 ≠ gb225) ∧ (gb226 ≠ s_.2) ∧ (s_.2 ≠ gb226) ∧ (Below w.heap.size w w')) ?_ ?_
  ·rintro ⟨v232, gb243⟩ w26 hS_
   dsimp only at hS_
   obtain ⟨hHeld, h0_, h1_, h2_, h3_, h4_, h5_, h6_, h7_, h8_, h9_, h10_⟩ := hS_
   have HO233 := Aside0.mk h0_
   replace BK225 := Aside0.mk h1_
   replace BK226 := Aside0.mk h2_
   have BK243 := Aside0.mk h3_
   have GW243 := Aside0.mk h4_
   have GE243 := Aside0.mk h5_
   have NB225_243 := Aside0.mk h6_
   have NB243_225 := Aside0.mk h7_
   have NB226_243 := Aside0.mk h8_
   have NB243_226 := Aside0.mk h9_
   replace HB := Aside0.mk h10_
   clear h0_ h1_ h2_ h3_ h4_ h5_ h6_ h7_ h8_ h9_ h10_
   obtain ⟨Ao27, co27, eo27⟩ := Kd.R_slice HO233.out
   (first | subst eo27 | (injection eo27 with f1_ f2_ f3_; have f4_ := f1_.symm; have f5_ := f3_.symm; clear f1_ f2_ f3_; subst f4_; subst f5_))
   refine norm_ tM ?_
   refine two_ (i := 4) (j := 9) (Ni := some 23) (Nj := some 6) #[true, true, true, true, true, false, false, false, false, false, true, false, false, false] #[true, true, true, true, false, false, false, false, false, true, true, false, false, false] rfl rfl rfl rfl (two_of HT_.out (by kernel_rfl)) (by decide) (by decide) (fun K hK => ?_) (fun K hK => ?_)
   ·refine goes_ Try.func60 (by kernel_rfl) rfl #[.agg #[.int .i64 t228, .int .i64 t229, .int .i64 t230], .agg #[.slice Ao27 t231.length co27]] (by rfl) rfl rfl tL ?_
    with_reducible refine (spec_SignHead.calls k t228 t229 t230 _ _ t231 t234 t235 t236 t237 t238 t239 t240 t241 _ ?side1 ?side2 A12.out).mono ?_
    (case side1 => repeat (first | exact (Kd.R_reads' HO233.out).2.2 | (with_reducible refine Kd.C_alloc ?_ _) | (with_reducible refine Kd.C_drewN ?_ _) | (with_reducible refine Kd.C_drew ?_)))
    (case side2 => exact (Kd.R_reads' HO233.out).2.1)
    rintro e w28 ⟨rfl, hb⟩
    refine ⟨_, rfl, ?_⟩
    replace HO233 := Aside0.mk (Kd.R_below (tR HO233) hb)
    replace BK225 := bB BK225 hb
    replace BK226 := bB BK226 hb
    replace BK243 := bB BK243 hb
    replace HB := bH HB hb
    (try clear hb)
    (try clear hb2)
    (try clear hk)
    (try clear hi)
    refine hK.out _ _ ⟨(blk_cell BK225.out 0).trans rfl, (blk_cell BK225.out 1).trans rfl, (blk_cell BK225.out 2).trans rfl, (blk_cell BK226.out 0).trans rfl⟩ (fun hHeld => ?_)
    clear hK K
    refine norm_ (tV : Act.put _ (some 23) _ = _) ?_
    refine pure_ (i := 5) (N := some 18) (v := ?_) (a' := ?_) #[true, true, true, true, true, true, false, false, false, false, true, false, false, false] rfl rfl (any_of HT_.out (by kernel_rfl)) (fun _ _ _ h => h) (Or.inl ⟨by rfl, ?_⟩) ?_ ?_
    rotate_left
    ·intro w'
     go_simp
     with_reducible rfl
    rotate_left
    ·simp only [Act.put, List.setIfInBounds_toArray, List.set_cons_zero, List.set_cons_succ, i64_w, i32_w]
     rfl
    refine pure_ (i := 6) (N := some 24) (v := ?_) (a' := ?_) #[true, true, true, true, true, true, true, false, false, false, true, false, false, false] rfl rfl (any_of HT_.out (by kernel_rfl)) (fun _ _ _ h => h) (Or.inl ⟨by rfl, ?_⟩) ?_ ?_
    rotate_left
    ·intro w'
     go_simp
     with_reducible rfl
    rotate_left
    ·simp only [Act.put, List.setIfInBounds_toArray, List.set_cons_zero, List.set_cons_succ, i64_w, i32_w]
     rfl
    refine pure_ (i := 7) (N := some 25) (v := ?_) (a' := ?_) #[true, true, true, true, true, true, true, true, false, false, true, false, false, false] rfl rfl (any_of HT_.out (by kernel_rfl)) (fun _ _ _ h => h) (Or.inl ⟨by rfl, ?_⟩) ?_ ?_
    rotate_left
    ·intro w'
     go_simp
     with_reducible rfl
    rotate_left
    ·simp only [Act.put, List.setIfInBounds_toArray, List.set_cons_zero, List.set_cons_succ, i64_w, i32_w]
     rfl
    refine pure_ (i := 8) (N := some 26) (v := ?_) (a' := ?_) #[true, true, true, true, true, true, true, true, true, false, true, false, false, false] rfl rfl (any_of HT_.out (by kernel_rfl)) (fun _ _ _ h => h) (Or.inl ⟨by rfl, ?_⟩) ?_ ?_
    rotate_left
    ·intro w'
     go_simp
     with_reducible rfl
    rotate_left
    ·simp only [Act.put, List.setIfInBounds_toArray, List.set_cons_zero, List.set_cons_succ, i64_w, i32_w]
     rfl
    exact norm_ tM (hJ1_3_4_10 (.slice Ao27 t231.length co27, gb243) _ ⟨hHeld, tR HO233, tK BK225, tK BK226, tK BK243, GW243.out, GE243.out, NB225_243.out, NB243_225.out, NB226_243.out, NB243_226.out, tB⟩)
   ·refine box_step ?hg (N := 6) ?hd (cs := #[.int .i64 0, .int .i64 0, .int .i64 0]) (t := 96) ?hr ?_; (case hd => rfl); (case hg => rfl); (case hr => exact tG)
    intro gb242 hg w27 hbox hb
    replace HO233 := Aside0.mk (Kd.R_below (tR HO233) hb)
    have BK242 := Aside0.mk (hbox)
    have GW242 := gW HB hg
    have GE242 := gW HB hg
    replace HB := bH HB hb
    have NB225_242 := nL BK225 hg
    have NB242_225 := nR BK225 hg
    replace BK225 := bB BK225 hb
    have NB226_242 := nL BK226 hg
    have NB242_226 := nR BK226 hg
    replace BK226 := bB BK226 hb
    have NB243_242 := nL BK243 hg
    have NB242_243 := nR BK243 hg
    replace BK243 := bB BK243 hb
    clear hb hbox hg
    refine hK.out _ _ ⟨(blk_cell BK225.out 0).trans rfl, (blk_cell BK225.out 1).trans rfl, (blk_cell BK225.out 2).trans rfl, (blk_cell BK226.out 0).trans rfl⟩ (fun hHeld => ?_)
    clear hK K
    refine norm_ (tV : Act.put _ (some 6) _ = _) ?_
    exact norm_ tM (hJ1_3_9_10 ((.slice Ao27 t231.length co27), gb242, gb243) _ ⟨hHeld, tR HO233, tK BK225, tK BK226, tK BK242, tK BK243, GW242.out, GE242.out, NB225_242.out, NB242_225.out, NB226_242.out, NB242_226.out, NB243_242.out, NB242_243.out, GW243.out, GE243.out, NB225_243.out, NB243_225.out, NB226_243.out, NB243_226.out, tB⟩)
  intro hJ1_3_10
  refine join_ (σ := Nat × Nat) 9 #[true, true, true, false, false, false, false, false, false, true, true, false, false, false] (fun s_ => [(20, .agg #[.int .i64 t228, .int .i64 t229, .int .i64 t230]), (6, .pointer (some ⟨s_.1, 0, none⟩)), (7, .pointer (some ⟨s_.2, 0, none⟩))]) (fun s_ w' => (w'.cell? ⟨gb225, 0, none⟩ = some (.int .i64 a0_0) ∧ w'.cell? ⟨gb225, 1, none⟩ = some (.int .i64 a0_1) ∧ w'.cell? ⟨gb225, 2, none⟩ = some (.int .i64 a0_2) ∧ w'.cell? ⟨gb226, 0, none⟩ = some (.slice A1_0 l1_0.length c1_0)) ∧ (w'.heap[gb225]? = some (.cells #[.int .i64 a0_0, .int .i64 a0_1, .int .i64 a0_2] 92 (0, 0))) ∧ (w'.heap[gb226]? = some (.cells #[.slice A1_0 l1_0.length c1_0] 94 (0, 0))) ∧ (w'.heap[s_.1]? = some (.cells #[.int .i64 0, .int .i64 0, .int .i64 0] 96 (0, 0))) ∧ (w'.heap[s_.2]? = some (.cells #[.int .i64 0, .int .i64 0, .int .i64 0, .int .i64 0] 40 (0, 0))) ∧ (w.heap.size ≤ s_.1) ∧ (w.heap.size ≤ s_.1) ∧ (gb225 ≠ s_.1) ∧ (s_.1 ≠ gb225) ∧ (gb226 ≠ s_.1) ∧ (s_.1 ≠ gb226) ∧ (s_.2 ≠ s_.1) ∧ (s_.1 ≠ s_.2) ∧ (w.heap.size ≤ s_.2) ∧ (w.heap.size ≤ s_.2) ∧ (gb225 ≠ s_.2) ∧ (s_.2 ≠ gb225) ∧ (gb226 ≠ s_.2) ∧ (s_.2 ≠ gb226) ∧ (Below w.heap.size w w')) ?_ ?_
  ·rintro ⟨gb242, gb243⟩ w26 hS_
   dsimp only at hS_
   obtain ⟨hHeld, h0_, h1_, h2_, h3_, h4_, h5_, h6_, h7_, h8_, h9_, h10_, h11_, h12_, h13_, h14_, h15_, h16_, h17_, h18_⟩ := hS_
   replace BK225 := Aside0.mk h0_
   replace BK226 := Aside0.mk h1_
   have BK242 := Aside0.mk h2_
   have BK243 := Aside0.mk h3_
   have GW242 := Aside0.mk h4_
   have GE242 := Aside0.mk h5_
   have NB225_242 := Aside0.mk h6_
   have NB242_225 := Aside0.mk h7_
   have NB226_242 := Aside0.mk h8_
   have NB242_226 := Aside0.mk h9_
   have NB243_242 := Aside0.mk h10_
   have NB242_243 := Aside0.mk h11_
   have GW243 := Aside0.mk h12_
   have GE243 := Aside0.mk h13_
   have NB225_243 := Aside0.mk h14_
   have NB243_225 := Aside0.mk h15_
   have NB226_243 := Aside0.mk h16_
   have NB243_226 := Aside0.mk h17_
   replace HB := Aside0.mk h18_
   clear h0_ h1_ h2_ h3_ h4_ h5_ h6_ h7_ h8_ h9_ h10_ h11_ h12_ h13_ h14_ h15_ h16_ h17_ h18_
   refine norm_ tM ?_
   refine one_ (i := 3) (N := some 22) #[true, true, true, true, false, false, false, false, false, true, true, false, false, false] rfl rfl (one_of HT_.out (by kernel_rfl)) (by decide) (fun K hK => ?_)
   refine goes_ Try.func62 (by kernel_rfl) rfl #[.agg #[.slice A1_0 l1_0.length c1_0]] (by rfl) rfl rfl tL ?_
   with_reducible refine (laws_toPublicLog.calls k _ _ l1_0 t231 _ ?side1 ?side2 A11.out).mono ?_
   (case side1 => repeat (first | exact (Kd.C_below HR1_0.out HB.out) | (with_reducible refine Kd.C_alloc ?_ _) | (with_reducible refine Kd.C_drewN ?_ _) | (with_reducible refine Kd.C_drew ?_)))
   (case side2 => exact HC1_0.out)
   rintro e w27 ⟨v232, rfl, ho0, hb⟩
   refine ⟨_, rfl, ?_⟩
   have HO233 := Aside0.mk (Kd.R_lower ho0 (below_size tB))
   replace BK225 := bB BK225 hb
   replace BK226 := bB BK226 hb
   replace BK242 := bB BK242 hb
   replace BK243 := bB BK243 hb
   replace HB := bH HB hb
   (try clear hb)
   (try clear hb2)
   (try clear hk)
   (try clear hi)
   (try clear ho0)
   refine hK.out _ _ ⟨(blk_cell BK225.out 0).trans rfl, (blk_cell BK225.out 1).trans rfl, (blk_cell BK225.out 2).trans rfl, (blk_cell BK226.out 0).trans rfl⟩ (fun hHeld => ?_)
   clear hK K
   refine norm_ (tV : Act.put _ (some 22) _ = _) ?_
   exact norm_ tM (hJ1_3_9_10 (v232, gb242, gb243) _ ⟨hHeld, tR HO233, tK BK225, tK BK226, tK BK242, tK BK243, GW242.out, GE242.out, NB225_242.out, NB242_225.out, NB226_242.out, NB242_226.out, NB243_242.out, NB242_243.out, GW243.out, GE243.out, NB225_243.out, NB243_225.out, NB226_243.out, NB243_226.out, tB⟩)
  intro hJ1_9_10
  refine join_ (σ := Value) 10 #[true, true, true, true, false, false, false, false, false, false, false, false, false, false] (fun s_ => [(20, .agg #[.int .i64 t228, .int .i64 t229, .int .i64 t230]), (22, .agg #[s_])]) (fun s_ w' => (w'.cell? ⟨gb225, 0, none⟩ = some (.int .i64 a0_0) ∧ w'.cell? ⟨gb225, 1, none⟩ = some (.int .i64 a0_1) ∧ w'.cell? ⟨gb225, 2, none⟩ = some (.int .i64 a0_2) ∧ w'.cell? ⟨gb226, 0, none⟩ = some (.slice A1_0 l1_0.length c1_0)) ∧ (Kd.R (Kd.int .i64) 3 w' w.heap.size (fun _ => True) s_ t231) ∧ (w'.heap[gb225]? = some (.cells #[.int .i64 a0_0, .int .i64 a0_1, .int .i64 a0_2] 92 (0, 0))) ∧ (w'.heap[gb226]? = some (.cells #[.slice A1_0 l1_0.length c1_0] 94 (0, 0))) ∧ (Below w.heap.size w w')) ?_ ?_
  ·rintro v232 w25 ⟨hHeld, h0_, h1_, h2_, h3_⟩
   have HO233 := Aside0.mk h0_
   replace BK225 := Aside0.mk h1_
   replace BK226 := Aside0.mk h2_
   replace HB := Aside0.mk h3_
   clear h0_ h1_ h2_ h3_
   obtain ⟨Ao26, co26, eo26⟩ := Kd.R_slice HO233.out
   (first | subst eo26 | (injection eo26 with f1_ f2_ f3_; have f4_ := f1_.symm; have f5_ := f3_.symm; clear f1_ f2_ f3_; subst f4_; subst f5_))
   refine norm_ tM ?_
   refine three_ (i := 4) (j := 9) (k := 10) (Ni := some 23) (Nj := some 6) (Nk := some 7) #[true, true, true, true, true, false, false, false, false, false, false, false, false, false] #[true, true, true, true, false, false, false, false, false, true, false, false, false, false] #[true, true, true, true, false, false, false, false, false, false, true, false, false, false] rfl rfl rfl rfl rfl rfl (three_of HT_.out (by kernel_rfl)) (by decide) (by decide) (by decide) (fun K hK => ?_) (fun K hK => ?_) (fun K hK => ?_)
   ·refine goes_ Try.func60 (by kernel_rfl) rfl #[.agg #[.int .i64 t228, .int .i64 t229, .int .i64 t230], .agg #[.slice Ao26 t231.length co26]] (by rfl) rfl rfl tL ?_
    with_reducible refine (spec_SignHead.calls k t228 t229 t230 _ _ t231 t234 t235 t236 t237 t238 t239 t240 t241 _ ?side1 ?side2 A12.out).mono ?_
    (case side1 => repeat (first | exact (Kd.R_reads' HO233.out).2.2 | (with_reducible refine Kd.C_alloc ?_ _) | (with_reducible refine Kd.C_drewN ?_ _) | (with_reducible refine Kd.C_drew ?_)))
    (case side2 => exact (Kd.R_reads' HO233.out).2.1)
    rintro e w27 ⟨rfl, hb⟩
    refine ⟨_, rfl, ?_⟩
    replace HO233 := Aside0.mk (Kd.R_below (tR HO233) hb)
    replace BK225 := bB BK225 hb
    replace BK226 := bB BK226 hb
    replace HB := bH HB hb
    (try clear hb)
    (try clear hb2)
    (try clear hk)
    (try clear hi)
    refine hK.out _ _ ⟨(blk_cell BK225.out 0).trans rfl, (blk_cell BK225.out 1).trans rfl, (blk_cell BK225.out 2).trans rfl, (blk_cell BK226.out 0).trans rfl⟩ (fun hHeld => ?_)
    clear hK K
    refine norm_ (tV : Act.put _ (some 23) _ = _) ?_
    refine pure_ (i := 5) (N := some 18) (v := ?_) (a' := ?_) #[true, true, true, true, true, true, false, false, false, false, false, false, false, false] rfl rfl (any_of HT_.out (by kernel_rfl)) (fun _ _ _ h => h) (Or.inl ⟨by rfl, ?_⟩) ?_ ?_
    rotate_left
    ·intro w'
     go_simp
     with_reducible rfl
    rotate_left
    ·simp only [Act.put, List.setIfInBounds_toArray, List.set_cons_zero, List.set_cons_succ, i64_w, i32_w]
     rfl
    refine pure_ (i := 6) (N := some 24) (v := ?_) (a' := ?_) #[true, true, true, true, true, true, true, false, false, false, false, false, false, false] rfl rfl (any_of HT_.out (by kernel_rfl)) (fun _ _ _ h => h) (Or.inl ⟨by rfl, ?_⟩) ?_ ?_
    rotate_left
    ·intro w'
     go_simp
     with_reducible rfl
    rotate_left
    ·simp only [Act.put, List.setIfInBounds_toArray, List.set_cons_zero, List.set_cons_succ, i64_w, i32_w]
     rfl
    refine pure_ (i := 7) (N := some 25) (v := ?_) (a' := ?_) #[true, true, true, true, true, true, true, true, false, false, false, false, false, false] rfl rfl (any_of HT_.out (by kernel_rfl)) (fun _ _ _ h => h) (Or.inl ⟨by rfl, ?_⟩) ?_ ?_
    rotate_left
    ·intro w'
     go_simp
     with_reducible rfl
    rotate_left
    ·simp only [Act.put, List.setIfInBounds_toArray, List.set_cons_zero, List.set_cons_succ, i64_w, i32_w]
     rfl
    refine pure_ (i := 8) (N := some 26) (v := ?_) (a' := ?_) #[true, true, true, true, true, true, true, true, true, false, false, false, false, false] rfl rfl (any_of HT_.out (by kernel_rfl)) (fun _ _ _ h => h) (Or.inl ⟨by rfl, ?_⟩) ?_ ?_
    rotate_left
    ·intro w'
     go_simp
     with_reducible rfl
    rotate_left
    ·simp only [Act.put, List.setIfInBounds_toArray, List.set_cons_zero, List.set_cons_succ, i64_w, i32_w]
     rfl
    exact norm_ tM (hJ1_3_4 (.slice Ao26 t231.length co26) _ ⟨hHeld, tR HO233, tK BK225, tK BK226, tB⟩)
   ·refine box_step ?hg (N := 6) ?hd (cs := #[.int .i64 0, .int .i64 0, .int .i64 0]) (t := 96) ?hr ?_; (case hd => rfl); (case hg => rfl); (case hr => exact tG)
    intro gb242 hg w26 hbox hb
    replace HO233 := Aside0.mk (Kd.R_below (tR HO233) hb)
    have BK242 := Aside0.mk (hbox)
    have GW242 := gW HB hg
    have GE242 := gW HB hg
    replace HB := bH HB hb
    have NB225_242 := nL BK225 hg
    have NB242_225 := nR BK225 hg
    replace BK225 := bB BK225 hb
    have NB226_242 := nL BK226 hg
    have NB242_226 := nR BK226 hg
    replace BK226 := bB BK226 hb
    clear hb hbox hg
    refine hK.out _ _ ⟨(blk_cell BK225.out 0).trans rfl, (blk_cell BK225.out 1).trans rfl, (blk_cell BK225.out 2).trans rfl, (blk_cell BK226.out 0).trans rfl⟩ (fun hHeld => ?_)
    clear hK K
    refine norm_ (tV : Act.put _ (some 6) _ = _) ?_
    exact norm_ tM (hJ1_3_9 ((.slice Ao26 t231.length co26), gb242) _ ⟨hHeld, tR HO233, tK BK225, tK BK226, tK BK242, GW242.out, GE242.out, NB225_242.out, NB242_225.out, NB226_242.out, NB242_226.out, tB⟩)
   ·refine box_step ?hg (N := 7) ?hd (cs := #[.int .i64 0, .int .i64 0, .int .i64 0, .int .i64 0]) (t := 40) ?hr ?_; (case hd => rfl); (case hg => rfl); (case hr => exact tG)
    intro gb243 hg w26 hbox hb
    replace HO233 := Aside0.mk (Kd.R_below (tR HO233) hb)
    have BK243 := Aside0.mk (hbox)
    have GW243 := gW HB hg
    have GE243 := gW HB hg
    replace HB := bH HB hb
    have NB225_243 := nL BK225 hg
    have NB243_225 := nR BK225 hg
    replace BK225 := bB BK225 hb
    have NB226_243 := nL BK226 hg
    have NB243_226 := nR BK226 hg
    replace BK226 := bB BK226 hb
    clear hb hbox hg
    refine hK.out _ _ ⟨(blk_cell BK225.out 0).trans rfl, (blk_cell BK225.out 1).trans rfl, (blk_cell BK225.out 2).trans rfl, (blk_cell BK226.out 0).trans rfl⟩ (fun hHeld => ?_)
    clear hK K
    refine norm_ (tV : Act.put _ (some 7) _ = _) ?_
    exact norm_ tM (hJ1_3_10 ((.slice Ao26 t231.length co26), gb243) _ ⟨hHeld, tR HO233, tK BK225, tK BK226, tK BK243, GW243.out, GE243.out, NB225_243.out, NB243_225.out, NB226_243.out, NB243_226.out, tB⟩)
  intro hJ1_3
  refine join_ (σ := Nat) 10 #[true, true, true, false, false, false, false, false, false, true, false, false, false, false] (fun s_ => [(20, .agg #[.int .i64 t228, .int .i64 t229, .int .i64 t230]), (6, .pointer (some ⟨s_, 0, none⟩))]) (fun s_ w' => (w'.cell? ⟨gb225, 0, none⟩ = some (.int .i64 a0_0) ∧ w'.cell? ⟨gb225, 1, none⟩ = some (.int .i64 a0_1) ∧ w'.cell? ⟨gb225, 2, none⟩ = some (.int .i64 a0_2) ∧ w'.cell? ⟨gb226, 0, none⟩ = some (.slice A1_0 l1_0.length c1_0)) ∧ (w'.heap[gb225]? = some (.cells #[.int .i64 a0_0, .int .i64 a0_1, .int .i64 a0_2] 92 (0, 0))) ∧ (w'.heap[gb226]? = some (.cells #[.slice A1_0 l1_0.length c1_0] 94 (0, 0))) ∧ (w'.heap[s_]? = some (.cells #[.int .i64 0, .int .i64 0, .int .i64 0] 96 (0, 0))) ∧ (w.heap.size ≤ s_) ∧ (w.heap.size ≤ s_) ∧ (gb225 ≠ s_) ∧ (s_ ≠ gb225) ∧ (gb226 ≠ s_) ∧ (s_ ≠ gb226) ∧ (Below w.heap.size w w')) ?_ ?_
  ·rintro gb242 w25 ⟨hHeld, h0_, h1_, h2_, h3_, h4_, h5_, h6_, h7_, h8_, h9_⟩
   replace BK225 := Aside0.mk h0_
   replace BK226 := Aside0.mk h1_
   have BK242 := Aside0.mk h2_
   have GW242 := Aside0.mk h3_
   have GE242 := Aside0.mk h4_
   have NB225_242 := Aside0.mk h5_
   have NB242_225 := Aside0.mk h6_
   have NB226_242 := Aside0.mk h7_
   have NB242_226 := Aside0.mk h8_
   replace HB := Aside0.mk h9_
   clear h0_ h1_ h2_ h3_ h4_ h5_ h6_ h7_ h8_ h9_
   refine norm_ tM ?_
   refine two_ (i := 3) (j := 10) (Ni := some 22) (Nj := some 7) #[true, true, true, true, false, false, false, false, false, true, false, false, false, false] #[true, true, true, false, false, false, false, false, false, true, true, false, false, false] rfl rfl rfl rfl (two_of HT_.out (by kernel_rfl)) (by decide) (by decide) (fun K hK => ?_) (fun K hK => ?_)
   ·refine goes_ Try.func62 (by kernel_rfl) rfl #[.agg #[.slice A1_0 l1_0.length c1_0]] (by rfl) rfl rfl tL ?_
    with_reducible refine (laws_toPublicLog.calls k _ _ l1_0 t231 _ ?side1 ?side2 A11.out).mono ?_
    (case side1 => repeat (first | exact (Kd.C_below HR1_0.out HB.out) | (with_reducible refine Kd.C_alloc ?_ _) | (with_reducible refine Kd.C_drewN ?_ _) | (with_reducible refine Kd.C_drew ?_)))
    (case side2 => exact HC1_0.out)
    rintro e w26 ⟨v232, rfl, ho0, hb⟩
    refine ⟨_, rfl, ?_⟩
    have HO233 := Aside0.mk (Kd.R_lower ho0 (below_size tB))
    replace BK225 := bB BK225 hb
    replace BK226 := bB BK226 hb
    replace BK242 := bB BK242 hb
    replace HB := bH HB hb
    (try clear hb)
    (try clear hb2)
    (try clear hk)
    (try clear hi)
    (try clear ho0)
    refine hK.out _ _ ⟨(blk_cell BK225.out 0).trans rfl, (blk_cell BK225.out 1).trans rfl, (blk_cell BK225.out 2).trans rfl, (blk_cell BK226.out 0).trans rfl⟩ (fun hHeld => ?_)
    clear hK K
    refine norm_ (tV : Act.put _ (some 22) _ = _) ?_
    exact norm_ tM (hJ1_3_9 (v232, gb242) _ ⟨hHeld, tR HO233, tK BK225, tK BK226, tK BK242, GW242.out, GE242.out, NB225_242.out, NB242_225.out, NB226_242.out, NB242_226.out, tB⟩)
   ·refine box_step ?hg (N := 7) ?hd (cs := #[.int .i64 0, .int .i64 0, .int .i64 0, .int .i64 0]) (t := 40) ?hr ?_; (case hd => rfl); (case hg => rfl); (case hr => exact tG)
    intro gb243 hg w26 hbox hb
    have BK243 := Aside0.mk (hbox)
    have GW243 := gW HB hg
    have GE243 := gW HB hg
    replace HB := bH HB hb
    have NB225_243 := nL BK225 hg
    have NB243_225 := nR BK225 hg
    replace BK225 := bB BK225 hb
    have NB226_243 := nL BK226 hg
    have NB243_226 := nR BK226 hg
    replace BK226 := bB BK226 hb
    have NB242_243 := nL BK242 hg
    have NB243_242 := nR BK242 hg
    replace BK242 := bB BK242 hb
    clear hb hbox hg
    refine hK.out _ _ ⟨(blk_cell BK225.out 0).trans rfl, (blk_cell BK225.out 1).trans rfl, (blk_cell BK225.out 2).trans rfl, (blk_cell BK226.out 0).trans rfl⟩ (fun hHeld => ?_)
    clear hK K
    refine norm_ (tV : Act.put _ (some 7) _ = _) ?_
    exact norm_ tM (hJ1_9_10 (gb242, gb243) _ ⟨hHeld, tK BK225, tK BK226, tK BK242, tK BK243, GW242.out, GE242.out, NB225_242.out, NB242_225.out, NB226_242.out, NB242_226.out, NB243_242.out, NB242_243.out, GW243.out, GE243.out, NB225_243.out, NB243_225.out, NB226_243.out, NB243_226.out, tB⟩)
  intro hJ1_9
  refine join_ (σ := Nat) 10 #[true, true, true, false, false, false, false, false, false, false, true, false, false, false] (fun s_ => [(20, .agg #[.int .i64 t228, .int .i64 t229, .int .i64 t230]), (7, .pointer (some ⟨s_, 0, none⟩))]) (fun s_ w' => (w'.cell? ⟨gb225, 0, none⟩ = some (.int .i64 a0_0) ∧ w'.cell? ⟨gb225, 1, none⟩ = some (.int .i64 a0_1) ∧ w'.cell? ⟨gb225, 2, none⟩ = some (.int .i64 a0_2) ∧ w'.cell? ⟨gb226, 0, none⟩ = some (.slice A1_0 l1_0.length c1_0)) ∧ (w'.heap[gb225]? = some (.cells #[.int .i64 a0_0, .int .i64 a0_1, .int .i64 a0_2] 92 (0, 0))) ∧ (w'.heap[gb226]? = some (.cells #[.slice A1_0 l1_0.length c1_0] 94 (0, 0))) ∧ (w'.heap[s_]? = some (.cells #[.int .i64 0, .int .i64 0, .int .i64 0, .int .i64 0] 40 (0, 0))) ∧ (w.heap.size ≤ s_) ∧ (w.heap.size ≤ s_) ∧ (gb225 ≠ s_) ∧ (s_ ≠ gb225) ∧ (gb226 ≠ s_) ∧ (s_ ≠ gb226) ∧ (Below w.heap.size w w')) ?_ ?_
  ·rintro gb243 w25 ⟨hHeld, h0_, h1_, h2_, h3_, h4_, h5_, h6_, h7_, h8_, h9_⟩
   replace BK225 := Aside0.mk h0_
   replace BK226 := Aside0.mk h1_
   have BK243 := Aside0.mk h2_
   have GW243 := Aside0.mk h3_
   have GE243 := Aside0.mk h4_
   have NB225_243 := Aside0.mk h5_
   have NB243_225 := Aside0.mk h6_
   have NB226_243 := Aside0.mk h7_
   have NB243_226 := Aside0.mk h8_
   replace HB := Aside0.mk h9_
   clear h0_ h1_ h2_ h3_ h4_ h5_ h6_ h7_ h8_ h9_
   refine norm_ tM ?_
   refine two_ (i := 3) (j := 9) (Ni := some 22) (Nj := some 6) #[true, true, true, true, false, false, false, false, false, false, true, false, false, false] #[true, true, true, false, false, false, false, false, false, true, true, false, false, false] rfl rfl rfl rfl (two_of HT_.out (by kernel_rfl)) (by decide) (by decide) (fun K hK => ?_) (fun K hK => ?_)
   ·refine goes_ Try.func62 (by kernel_rfl) rfl #[.agg #[.slice A1_0 l1_0.length c1_0]] (by rfl) rfl rfl tL ?_
    with_reducible refine (laws_toPublicLog.calls k _ _ l1_0 t231 _ ?side1 ?side2 A11.out).mono ?_
    (case side1 => repeat (first | exact (Kd.C_below HR1_0.out HB.out) | (with_reducible refine Kd.C_alloc ?_ _) | (with_reducible refine Kd.C_drewN ?_ _) | (with_reducible refine Kd.C_drew ?_)))
    (case side2 => exact HC1_0.out)
    rintro e w26 ⟨v232, rfl, ho0, hb⟩
    refine ⟨_, rfl, ?_⟩
    have HO233 := Aside0.mk (Kd.R_lower ho0 (below_size tB))
    replace BK225 := bB BK225 hb
    replace BK226 := bB BK226 hb
    replace BK243 := bB BK243 hb
    replace HB := bH HB hb
    (try clear hb)
    (try clear hb2)
    (try clear hk)
    (try clear hi)
    (try clear ho0)
    refine hK.out _ _ ⟨(blk_cell BK225.out 0).trans rfl, (blk_cell BK225.out 1).trans rfl, (blk_cell BK225.out 2).trans rfl, (blk_cell BK226.out 0).trans rfl⟩ (fun hHeld => ?_)
    clear hK K
    refine norm_ (tV : Act.put _ (some 22) _ = _) ?_
    exact norm_ tM (hJ1_3_10 (v232, gb243) _ ⟨hHeld, tR HO233, tK BK225, tK BK226, tK BK243, GW243.out, GE243.out, NB225_243.out, NB243_225.out, NB226_243.out, NB243_226.out, tB⟩)
   ·refine box_step ?hg (N := 6) ?hd (cs := #[.int .i64 0, .int .i64 0, .int .i64 0]) (t := 96) ?hr ?_; (case hd => rfl); (case hg => rfl); (case hr => exact tG)
    intro gb242 hg w26 hbox hb
    have BK242 := Aside0.mk (hbox)
    have GW242 := gW HB hg
    have GE242 := gW HB hg
    replace HB := bH HB hb
    have NB225_242 := nL BK225 hg
    have NB242_225 := nR BK225 hg
    replace BK225 := bB BK225 hb
    have NB226_242 := nL BK226 hg
    have NB242_226 := nR BK226 hg
    replace BK226 := bB BK226 hb
    have NB243_242 := nL BK243 hg
    have NB242_243 := nR BK243 hg
    replace BK243 := bB BK243 hb
    clear hb hbox hg
    refine hK.out _ _ ⟨(blk_cell BK225.out 0).trans rfl, (blk_cell BK225.out 1).trans rfl, (blk_cell BK225.out 2).trans rfl, (blk_cell BK226.out 0).trans rfl⟩ (fun hHeld => ?_)
    clear hK K
    refine norm_ (tV : Act.put _ (some 6) _ = _) ?_
    exact norm_ tM (hJ1_9_10 (gb242, gb243) _ ⟨hHeld, tK BK225, tK BK226, tK BK242, tK BK243, GW242.out, GE242.out, NB225_242.out, NB242_225.out, NB226_242.out, NB242_226.out, NB243_242.out, NB242_243.out, GW243.out, GE243.out, NB225_243.out, NB243_225.out, NB226_243.out, NB243_226.out, tB⟩)
  intro hJ1_10
  refine join_ (σ := Nat × Nat) 10 #[true, false, true, false, false, false, false, false, false, true, true, false, false, false] (fun s_ => [(6, .pointer (some ⟨s_.1, 0, none⟩)), (7, .pointer (some ⟨s_.2, 0, none⟩))]) (fun s_ w' => (w'.cell? ⟨gb225, 0, none⟩ = some (.int .i64 a0_0) ∧ w'.cell? ⟨gb225, 1, none⟩ = some (.int .i64 a0_1) ∧ w'.cell? ⟨gb225, 2, none⟩ = some (.int .i64 a0_2) ∧ w'.cell? ⟨gb226, 0, none⟩ = some (.slice A1_0 l1_0.length c1_0)) ∧ (w'.heap[gb225]? = some (.cells #[.int .i64 a0_0, .int .i64 a0_1, .int .i64 a0_2] 92 (0, 0))) ∧ (w'.heap[gb226]? = some (.cells #[.slice A1_0 l1_0.length c1_0] 94 (0, 0))) ∧ (w'.heap[s_.1]? = some (.cells #[.int .i64 0, .int .i64 0, .int .i64 0] 96 (0, 0))) ∧ (w'.heap[s_.2]? = some (.cells #[.int .i64 0, .int .i64 0, .int .i64 0, .int .i64 0] 40 (0, 0))) ∧ (w.heap.size ≤ s_.1) ∧ (w.heap.size ≤ s_.1) ∧ (gb225 ≠ s_.1) ∧ (s_.1 ≠ gb225) ∧ (gb226 ≠ s_.1) ∧ (s_.1 ≠ gb226) ∧ (s_.2 ≠ s_.1) ∧ (s_.1 ≠ s_.2) ∧ (w.heap.size ≤ s_.2) ∧ (w.heap.size ≤ s_.2) ∧ (gb225 ≠ s_.2) ∧ (s_.2 ≠ gb225) ∧ (gb226 ≠ s_.2) ∧ (s_.2 ≠ gb226) ∧ (Below w.heap.size w w')) ?_ ?_
  ·rintro ⟨gb242, gb243⟩ w25 hS_
   dsimp only at hS_
   obtain ⟨hHeld, h0_, h1_, h2_, h3_, h4_, h5_, h6_, h7_, h8_, h9_, h10_, h11_, h12_, h13_, h14_, h15_, h16_, h17_, h18_⟩ := hS_
   replace BK225 := Aside0.mk h0_
   replace BK226 := Aside0.mk h1_
   have BK242 := Aside0.mk h2_
   have BK243 := Aside0.mk h3_
   have GW242 := Aside0.mk h4_
   have GE242 := Aside0.mk h5_
   have NB225_242 := Aside0.mk h6_
   have NB242_225 := Aside0.mk h7_
   have NB226_242 := Aside0.mk h8_
   have NB242_226 := Aside0.mk h9_
   have NB243_242 := Aside0.mk h10_
   have NB242_243 := Aside0.mk h11_
   have GW243 := Aside0.mk h12_
   have GE243 := Aside0.mk h13_
   have NB225_243 := Aside0.mk h14_
   have NB243_225 := Aside0.mk h15_
   have NB226_243 := Aside0.mk h16_
   have NB243_226 := Aside0.mk h17_
   replace HB := Aside0.mk h18_
   clear h0_ h1_ h2_ h3_ h4_ h5_ h6_ h7_ h8_ h9_ h10_ h11_ h12_ h13_ h14_ h15_ h16_ h17_ h18_
   refine norm_ tM ?_
   refine one_ (i := 1) (N := some 20) #[true, true, true, false, false, false, false, false, false, true, true, false, false, false] rfl rfl (one_of HT_.out (by kernel_rfl)) (by decide) (fun K hK => ?_)
   refine goes_ Try.func61 (by kernel_rfl) rfl #[.agg #[.int .i64 a0_0, .int .i64 a0_1, .int .i64 a0_2]] (by rfl) rfl rfl tL ?_
   with_reducible refine (laws_toWitness.calls a0_0 a0_1 a0_2 t228 t229 t230 _ A10.out).mono ?_
   rintro e w26 ⟨rfl, hb⟩
   refine ⟨_, rfl, ?_⟩
   replace BK225 := bB BK225 hb
   replace BK226 := bB BK226 hb
   replace BK242 := bB BK242 hb
   replace BK243 := bB BK243 hb
   replace HB := bH HB hb
   (try clear hb)
   (try clear hb2)
   (try clear hk)
   (try clear hi)
   refine hK.out _ _ ⟨(blk_cell BK225.out 0).trans rfl, (blk_cell BK225.out 1).trans rfl, (blk_cell BK225.out 2).trans rfl, (blk_cell BK226.out 0).trans rfl⟩ (fun hHeld => ?_)
   clear hK K
   refine norm_ (tV : Act.put _ (some 20) _ = _) ?_
   exact norm_ tM (hJ1_9_10 (gb242, gb243) _ ⟨hHeld, tK BK225, tK BK226, tK BK242, tK BK243, GW242.out, GE242.out, NB225_242.out, NB242_225.out, NB226_242.out, NB242_226.out, NB243_242.out, NB242_243.out, GW243.out, GE243.out, NB225_243.out, NB243_225.out, NB226_243.out, NB243_226.out, tB⟩)
  intro hJ9_10
  refine join_ (σ := Unit) 11 #[true, true, true, false, false, false, false, false, false, false, false, false, false, false] (fun s_ => [(20, .agg #[.int .i64 t228, .int .i64 t229, .int .i64 t230])]) (fun s_ w' => (w'.cell? ⟨gb225, 0, none⟩ = some (.int .i64 a0_0) ∧ w'.cell? ⟨gb225, 1, none⟩ = some (.int .i64 a0_1) ∧ w'.cell? ⟨gb225, 2, none⟩ = some (.int .i64 a0_2) ∧ w'.cell? ⟨gb226, 0, none⟩ = some (.slice A1_0 l1_0.length c1_0)) ∧ (w'.heap[gb225]? = some (.cells #[.int .i64 a0_0, .int .i64 a0_1, .int .i64 a0_2] 92 (0, 0))) ∧ (w'.heap[gb226]? = some (.cells #[.slice A1_0 l1_0.length c1_0] 94 (0, 0))) ∧ (Below w.heap.size w w')) ?_ ?_
  ·rintro _ w24 ⟨hHeld, h0_, h1_, h2_⟩
   replace BK225 := Aside0.mk h0_
   replace BK226 := Aside0.mk h1_
   replace HB := Aside0.mk h2_
   clear h0_ h1_ h2_
   refine norm_ tM ?_
   refine three_ (i := 3) (j := 9) (k := 10) (Ni := some 22) (Nj := some 6) (Nk := some 7) #[true, true, true, true, false, false, false, false, false, false, false, false, false, false] #[true, true, true, false, false, false, false, false, false, true, false, false, false, false] #[true, true, true, false, false, false, false, false, false, false, true, false, false, false] rfl rfl rfl rfl rfl rfl (three_of HT_.out (by kernel_rfl)) (by decide) (by decide) (by decide) (fun K hK => ?_) (fun K hK => ?_) (fun K hK => ?_)
   ·refine goes_ Try.func62 (by kernel_rfl) rfl #[.agg #[.slice A1_0 l1_0.length c1_0]] (by rfl) rfl rfl tL ?_
    with_reducible refine (laws_toPublicLog.calls k _ _ l1_0 t231 _ ?side1 ?side2 A11.out).mono ?_
    (case side1 => repeat (first | exact (Kd.C_below HR1_0.out HB.out) | (with_reducible refine Kd.C_alloc ?_ _) | (with_reducible refine Kd.C_drewN ?_ _) | (with_reducible refine Kd.C_drew ?_)))
    (case side2 => exact HC1_0.out)
    rintro e w25 ⟨v232, rfl, ho0, hb⟩
    refine ⟨_, rfl, ?_⟩
    have HO233 := Aside0.mk (Kd.R_lower ho0 (below_size tB))
    replace BK225 := bB BK225 hb
    replace BK226 := bB BK226 hb
    replace HB := bH HB hb
    (try clear hb)
    (try clear hb2)
    (try clear hk)
    (try clear hi)
    (try clear ho0)
    refine hK.out _ _ ⟨(blk_cell BK225.out 0).trans rfl, (blk_cell BK225.out 1).trans rfl, (blk_cell BK225.out 2).trans rfl, (blk_cell BK226.out 0).trans rfl⟩ (fun hHeld => ?_)
    clear hK K
    refine norm_ (tV : Act.put _ (some 22) _ = _) ?_
    exact norm_ tM (hJ1_3 (v232) _ ⟨hHeld, tR HO233, tK BK225, tK BK226, tB⟩)
   ·refine box_step ?hg (N := 6) ?hd (cs := #[.int .i64 0, .int .i64 0, .int .i64 0]) (t := 96) ?hr ?_; (case hd => rfl); (case hg => rfl); (case hr => exact tG)
    intro gb242 hg w25 hbox hb
    have BK242 := Aside0.mk (hbox)
    have GW242 := gW HB hg
    have GE242 := gW HB hg
    replace HB := bH HB hb
    have NB225_242 := nL BK225 hg
    have NB242_225 := nR BK225 hg
    replace BK225 := bB BK225 hb
    have NB226_242 := nL BK226 hg
    have NB242_226 := nR BK226 hg
    replace BK226 := bB BK226 hb
    clear hb hbox hg
    refine hK.out _ _ ⟨(blk_cell BK225.out 0).trans rfl, (blk_cell BK225.out 1).trans rfl, (blk_cell BK225.out 2).trans rfl, (blk_cell BK226.out 0).trans rfl⟩ (fun hHeld => ?_)
    clear hK K
    refine norm_ (tV : Act.put _ (some 6) _ = _) ?_
    exact norm_ tM (hJ1_9 (gb242) _ ⟨hHeld, tK BK225, tK BK226, tK BK242, GW242.out, GE242.out, NB225_242.out, NB242_225.out, NB226_242.out, NB242_226.out, tB⟩)
   ·refine box_step ?hg (N := 7) ?hd (cs := #[.int .i64 0, .int .i64 0, .int .i64 0, .int .i64 0]) (t := 40) ?hr ?_; (case hd => rfl); (case hg => rfl); (case hr => exact tG)
    intro gb243 hg w25 hbox hb
    have BK243 := Aside0.mk (hbox)
    have GW243 := gW HB hg
    have GE243 := gW HB hg
    replace HB := bH HB hb
    have NB225_243 := nL BK225 hg
    have NB243_225 := nR BK225 hg
    replace BK225 := bB BK225 hb
    have NB226_243 := nL BK226 hg
    have NB243_226 := nR BK226 hg
    replace BK226 := bB BK226 hb
    clear hb hbox hg
    refine hK.out _ _ ⟨(blk_cell BK225.out 0).trans rfl, (blk_cell BK225.out 1).trans rfl, (blk_cell BK225.out 2).trans rfl, (blk_cell BK226.out 0).trans rfl⟩ (fun hHeld => ?_)
    clear hK K
    refine norm_ (tV : Act.put _ (some 7) _ = _) ?_
    exact norm_ tM (hJ1_10 (gb243) _ ⟨hHeld, tK BK225, tK BK226, tK BK243, GW243.out, GE243.out, NB225_243.out, NB243_225.out, NB226_243.out, NB243_226.out, tB⟩)
  intro hJ1
  refine join_ (σ := Nat) 11 #[true, false, true, false, false, false, false, false, false, true, false, false, false, false] (fun s_ => [(6, .pointer (some ⟨s_, 0, none⟩))]) (fun s_ w' => (w'.cell? ⟨gb225, 0, none⟩ = some (.int .i64 a0_0) ∧ w'.cell? ⟨gb225, 1, none⟩ = some (.int .i64 a0_1) ∧ w'.cell? ⟨gb225, 2, none⟩ = some (.int .i64 a0_2) ∧ w'.cell? ⟨gb226, 0, none⟩ = some (.slice A1_0 l1_0.length c1_0)) ∧ (w'.heap[gb225]? = some (.cells #[.int .i64 a0_0, .int .i64 a0_1, .int .i64 a0_2] 92 (0, 0))) ∧ (w'.heap[gb226]? = some (.cells #[.slice A1_0 l1_0.length c1_0] 94 (0, 0))) ∧ (w'.heap[s_]? = some (.cells #[.int .i64 0, .int .i64 0, .int .i64 0] 96 (0, 0))) ∧ (w.heap.size ≤ s_) ∧ (w.heap.size ≤ s_) ∧ (gb225 ≠ s_) ∧ (s_ ≠ gb225) ∧ (gb226 ≠ s_) ∧ (s_ ≠ gb226) ∧ (Below w.heap.size w w')) ?_ ?_
  ·rintro gb242 w24 ⟨hHeld, h0_, h1_, h2_, h3_, h4_, h5_, h6_, h7_, h8_, h9_⟩
   replace BK225 := Aside0.mk h0_
   replace BK226 := Aside0.mk h1_
   have BK242 := Aside0.mk h2_
   have GW242 := Aside0.mk h3_
   have GE242 := Aside0.mk h4_
   have NB225_242 := Aside0.mk h5_
   have NB242_225 := Aside0.mk h6_
   have NB226_242 := Aside0.mk h7_
   have NB242_226 := Aside0.mk h8_
   replace HB := Aside0.mk h9_
   clear h0_ h1_ h2_ h3_ h4_ h5_ h6_ h7_ h8_ h9_
   refine norm_ tM ?_
   refine two_ (i := 1) (j := 10) (Ni := some 20) (Nj := some 7) #[true, true, true, false, false, false, false, false, false, true, false, false, false, false] #[true, false, true, false, false, false, false, false, false, true, true, false, false, false] rfl rfl rfl rfl (two_of HT_.out (by kernel_rfl)) (by decide) (by decide) (fun K hK => ?_) (fun K hK => ?_)
   ·refine goes_ Try.func61 (by kernel_rfl) rfl #[.agg #[.int .i64 a0_0, .int .i64 a0_1, .int .i64 a0_2]] (by rfl) rfl rfl tL ?_
    with_reducible refine (laws_toWitness.calls a0_0 a0_1 a0_2 t228 t229 t230 _ A10.out).mono ?_
    rintro e w25 ⟨rfl, hb⟩
    refine ⟨_, rfl, ?_⟩
    replace BK225 := bB BK225 hb
    replace BK226 := bB BK226 hb
    replace BK242 := bB BK242 hb
    replace HB := bH HB hb
    (try clear hb)
    (try clear hb2)
    (try clear hk)
    (try clear hi)
    refine hK.out _ _ ⟨(blk_cell BK225.out 0).trans rfl, (blk_cell BK225.out 1).trans rfl, (blk_cell BK225.out 2).trans rfl, (blk_cell BK226.out 0).trans rfl⟩ (fun hHeld => ?_)
    clear hK K
    refine norm_ (tV : Act.put _ (some 20) _ = _) ?_
    exact norm_ tM (hJ1_9 (gb242) _ ⟨hHeld, tK BK225, tK BK226, tK BK242, GW242.out, GE242.out, NB225_242.out, NB242_225.out, NB226_242.out, NB242_226.out, tB⟩)
   ·refine box_step ?hg (N := 7) ?hd (cs := #[.int .i64 0, .int .i64 0, .int .i64 0, .int .i64 0]) (t := 40) ?hr ?_; (case hd => rfl); (case hg => rfl); (case hr => exact tG)
    intro gb243 hg w25 hbox hb
    have BK243 := Aside0.mk (hbox)
    have GW243 := gW HB hg
    have GE243 := gW HB hg
    replace HB := bH HB hb
    have NB225_243 := nL BK225 hg
    have NB243_225 := nR BK225 hg
    replace BK225 := bB BK225 hb
    have NB226_243 := nL BK226 hg
    have NB243_226 := nR BK226 hg
    replace BK226 := bB BK226 hb
    have NB242_243 := nL BK242 hg
    have NB243_242 := nR BK242 hg
    replace BK242 := bB BK242 hb
    clear hb hbox hg
    refine hK.out _ _ ⟨(blk_cell BK225.out 0).trans rfl, (blk_cell BK225.out 1).trans rfl, (blk_cell BK225.out 2).trans rfl, (blk_cell BK226.out 0).trans rfl⟩ (fun hHeld => ?_)
    clear hK K
    refine norm_ (tV : Act.put _ (some 7) _ = _) ?_
    exact norm_ tM (hJ9_10 (gb242, gb243) _ ⟨hHeld, tK BK225, tK BK226, tK BK242, tK BK243, GW242.out, GE242.out, NB225_242.out, NB242_225.out, NB226_242.out, NB242_226.out, NB243_242.out, NB242_243.out, GW243.out, GE243.out, NB225_243.out, NB243_225.out, NB226_243.out, NB243_226.out, tB⟩)
  intro hJ9
  refine join_ (σ := Nat) 11 #[true, false, true, false, false, false, false, false, false, false, true, false, false, false] (fun s_ => [(7, .pointer (some ⟨s_, 0, none⟩))]) (fun s_ w' => (w'.cell? ⟨gb225, 0, none⟩ = some (.int .i64 a0_0) ∧ w'.cell? ⟨gb225, 1, none⟩ = some (.int .i64 a0_1) ∧ w'.cell? ⟨gb225, 2, none⟩ = some (.int .i64 a0_2) ∧ w'.cell? ⟨gb226, 0, none⟩ = some (.slice A1_0 l1_0.length c1_0)) ∧ (w'.heap[gb225]? = some (.cells #[.int .i64 a0_0, .int .i64 a0_1, .int .i64 a0_2] 92 (0, 0))) ∧ (w'.heap[gb226]? = some (.cells #[.slice A1_0 l1_0.length c1_0] 94 (0, 0))) ∧ (w'.heap[s_]? = some (.cells #[.int .i64 0, .int .i64 0, .int .i64 0, .int .i64 0] 40 (0, 0))) ∧ (w.heap.size ≤ s_) ∧ (w.heap.size ≤ s_) ∧ (gb225 ≠ s_) ∧ (s_ ≠ gb225) ∧ (gb226 ≠ s_) ∧ (s_ ≠ gb226) ∧ (Below w.heap.size w w')) ?_ ?_
  ·rintro gb243 w24 ⟨hHeld, h0_, h1_, h2_, h3_, h4_, h5_, h6_, h7_, h8_, h9_⟩
   replace BK225 := Aside0.mk h0_
   replace BK226 := Aside0.mk h1_
   have BK243 := Aside0.mk h2_
   have GW243 := Aside0.mk h3_
   have GE243 := Aside0.mk h4_
   have NB225_243 := Aside0.mk h5_
   have NB243_225 := Aside0.mk h6_
   have NB226_243 := Aside0.mk h7_
   have NB243_226 := Aside0.mk h8_
   replace HB := Aside0.mk h9_
   clear h0_ h1_ h2_ h3_ h4_ h5_ h6_ h7_ h8_ h9_
   refine norm_ tM ?_
   refine two_ (i := 1) (j := 9) (Ni := some 20) (Nj := some 6) #[true, true, true, false, false, false, false, false, false, false, true, false, false, false] #[true, false, true, false, false, false, false, false, false, true, true, false, false, false] rfl rfl rfl rfl (two_of HT_.out (by kernel_rfl)) (by decide) (by decide) (fun K hK => ?_) (fun K hK => ?_)
   ·refine goes_ Try.func61 (by kernel_rfl) rfl #[.agg #[.int .i64 a0_0, .int .i64 a0_1, .int .i64 a0_2]] (by rfl) rfl rfl tL ?_
    with_reducible refine (laws_toWitness.calls a0_0 a0_1 a0_2 t228 t229 t230 _ A10.out).mono ?_
    rintro e w25 ⟨rfl, hb⟩
    refine ⟨_, rfl, ?_⟩
    replace BK225 := bB BK225 hb
    replace BK226 := bB BK226 hb
    replace BK243 := bB BK243 hb
    replace HB := bH HB hb
    (try clear hb)
    (try clear hb2)
    (try clear hk)
    (try clear hi)
    refine hK.out _ _ ⟨(blk_cell BK225.out 0).trans rfl, (blk_cell BK225.out 1).trans rfl, (blk_cell BK225.out 2).trans rfl, (blk_cell BK226.out 0).trans rfl⟩ (fun hHeld => ?_)
    clear hK K
    refine norm_ (tV : Act.put _ (some 20) _ = _) ?_
    exact norm_ tM (hJ1_10 (gb243) _ ⟨hHeld, tK BK225, tK BK226, tK BK243, GW243.out, GE243.out, NB225_243.out, NB243_225.out, NB226_243.out, NB243_226.out, tB⟩)
   ·refine box_step ?hg (N := 6) ?hd (cs := #[.int .i64 0, .int .i64 0, .int .i64 0]) (t := 96) ?hr ?_; (case hd => rfl); (case hg => rfl); (case hr => exact tG)
    intro gb242 hg w25 hbox hb
    have BK242 := Aside0.mk (hbox)
    have GW242 := gW HB hg
    have GE242 := gW HB hg
    replace HB := bH HB hb
    have NB225_242 := nL BK225 hg
    have NB242_225 := nR BK225 hg
    replace BK225 := bB BK225 hb
    have NB226_242 := nL BK226 hg
    have NB242_226 := nR BK226 hg
    replace BK226 := bB BK226 hb
    have NB243_242 := nL BK243 hg
    have NB242_243 := nR BK243 hg
    replace BK243 := bB BK243 hb
    clear hb hbox hg
    refine hK.out _ _ ⟨(blk_cell BK225.out 0).trans rfl, (blk_cell BK225.out 1).trans rfl, (blk_cell BK225.out 2).trans rfl, (blk_cell BK226.out 0).trans rfl⟩ (fun hHeld => ?_)
    clear hK K
    refine norm_ (tV : Act.put _ (some 6) _ = _) ?_
    exact norm_ tM (hJ9_10 (gb242, gb243) _ ⟨hHeld, tK BK225, tK BK226, tK BK242, tK BK243, GW242.out, GE242.out, NB225_242.out, NB242_225.out, NB226_242.out, NB242_226.out, NB243_242.out, NB242_243.out, GW243.out, GE243.out, NB225_243.out, NB243_225.out, NB226_243.out, NB243_226.out, tB⟩)
  intro hJ10
  refine three_ (i := 1) (j := 9) (k := 10) (Ni := some 20) (Nj := some 6) (Nk := some 7) #[true, true, true, false, false, false, false, false, false, false, false, false, false, false] #[true, false, true, false, false, false, false, false, false, true, false, false, false, false] #[true, false, true, false, false, false, false, false, false, false, true, false, false, false] rfl rfl rfl rfl rfl rfl (three_of HT_.out (by kernel_rfl)) (by decide) (by decide) (by decide) (fun K hK => ?_) (fun K hK => ?_) (fun K hK => ?_)
  ·refine goes_ Try.func61 (by kernel_rfl) rfl #[.agg #[.int .i64 a0_0, .int .i64 a0_1, .int .i64 a0_2]] (by rfl) rfl rfl tL ?_
   with_reducible refine (laws_toWitness.calls a0_0 a0_1 a0_2 t228 t229 t230 _ A10.out).mono ?_
   rintro e w23 ⟨rfl, hb⟩
   refine ⟨_, rfl, ?_⟩
   replace BK225 := bB BK225 hb
   replace BK226 := bB BK226 hb
   replace HB := bH HB hb
   (try clear hb)
   (try clear hb2)
   (try clear hk)
   (try clear hi)
   refine hK.out _ _ ⟨(blk_cell BK225.out 0).trans rfl, (blk_cell BK225.out 1).trans rfl, (blk_cell BK225.out 2).trans rfl, (blk_cell BK226.out 0).trans rfl⟩ (fun hHeld => ?_)
   clear hK K
   refine norm_ (tV : Act.put _ (some 20) _ = _) ?_
   exact norm_ tM (hJ1 () _ ⟨hHeld, tK BK225, tK BK226, tB⟩)
  ·refine box_step ?hg (N := 6) ?hd (cs := #[.int .i64 0, .int .i64 0, .int .i64 0]) (t := 96) ?hr ?_; (case hd => rfl); (case hg => rfl); (case hr => exact tG)
   intro gb242 hg w23 hbox hb
   have BK242 := Aside0.mk (hbox)
   have GW242 := gW HB hg
   have GE242 := gW HB hg
   replace HB := bH HB hb
   have NB225_242 := nL BK225 hg
   have NB242_225 := nR BK225 hg
   replace BK225 := bB BK225 hb
   have NB226_242 := nL BK226 hg
   have NB242_226 := nR BK226 hg
   replace BK226 := bB BK226 hb
   clear hb hbox hg
   refine hK.out _ _ ⟨(blk_cell BK225.out 0).trans rfl, (blk_cell BK225.out 1).trans rfl, (blk_cell BK225.out 2).trans rfl, (blk_cell BK226.out 0).trans rfl⟩ (fun hHeld => ?_)
   clear hK K
   refine norm_ (tV : Act.put _ (some 6) _ = _) ?_
   exact norm_ tM (hJ9 (gb242) _ ⟨hHeld, tK BK225, tK BK226, tK BK242, GW242.out, GE242.out, NB225_242.out, NB242_225.out, NB226_242.out, NB242_226.out, tB⟩)
  ·refine box_step ?hg (N := 7) ?hd (cs := #[.int .i64 0, .int .i64 0, .int .i64 0, .int .i64 0]) (t := 40) ?hr ?_; (case hd => rfl); (case hg => rfl); (case hr => exact tG)
   intro gb243 hg w23 hbox hb
   have BK243 := Aside0.mk (hbox)
   have GW243 := gW HB hg
   have GE243 := gW HB hg
   replace HB := bH HB hb
   have NB225_243 := nL BK225 hg
   have NB243_225 := nR BK225 hg
   replace BK225 := bB BK225 hb
   have NB226_243 := nL BK226 hg
   have NB243_226 := nR BK226 hg
   replace BK226 := bB BK226 hb
   clear hb hbox hg
   refine hK.out _ _ ⟨(blk_cell BK225.out 0).trans rfl, (blk_cell BK225.out 1).trans rfl, (blk_cell BK225.out 2).trans rfl, (blk_cell BK226.out 0).trans rfl⟩ (fun hHeld => ?_)
   clear hK K
   refine norm_ (tV : Act.put _ (some 7) _ = _) ?_
   exact norm_ tM (hJ10 (gb243) _ ⟨hHeld, tK BK225, tK BK226, tK BK243, GW243.out, GE243.out, NB225_243.out, NB243_225.out, NB226_243.out, NB243_226.out, tB⟩)

end Go.Proofs.Ytanoaneoanpkkaa.ZFnExactSignHead
