/- The machine side: for each Go function a Lean function and the contract that the Go code answers as it does; printed by program (wip/tmpl/pprint.sh). -/
import Derived.Test.YtanoaneoanpkkaaZFnNarrowingx0
import Derived.Test.YtanoaneoanpkkaaZFnNarrowingx1
import Derived.Test.YtanoaneoanpkkaaZFnNarrowingx2
import Derived.Test.YtanoaneoanpkkaaZFnNarrowingx3
import Derived.Test.YtanoaneoanpkkaaZFnNarrowingx4
import Derived.Test.YtanoaneoanpkkaaZFnNarrowingx5
import Derived.Test.YtanoaneoanpkkaaZFnNarrowingx6
namespace Go.Proofs.Ytanoaneoanpkkaa.ZFnNarrowing
open Go.RowKit Go.Proofs.YtanoaneoanpkkaaW.PrintWords Go.Proofs.YtanoaneoanpkkaaW.PrintLast Go.Proofs.YtanoaneoanpkkaaW.PrintMore
attribute [local go_sem] max2_int min2_int max_two min_two max_three min_three max_four min_four   -- for this text's walks alone
set_option linter.unusedVariables false
set_option linter.unusedSimpArgs false

attribute [local go_sem high] eqA26
/-! ### laws_FnNarrowing: function 3 -/
def laws_FnNarrowing.j0 : Nat → List Int → Int → Int → Bool → Bool → Int → Int → Int → Int → Int → Int → Int → Int → Int → Int → Int → Int → Option (Bool)
 | 0, _, _, _, _, _, _, _, _, _, _, _, _, _, _, _, _, _ => none
 | k + 1, x0, x3, x4, x8, x61, x205000, x205001, x205002, x205003, x205004, x205005, x215000, x215001, x215002, x215003, x215004, x215005 => if x61 = true then (some false) else (if x8 = true then ((spec_PublicKey.f 11).bind fun t229 => ((spec_PublicKey.f 13).bind fun t230 => ((impl_ChainScopes.f k (([(⟨x205000, x205001, x205002, x205003, x205004, x205005⟩ : S26), (⟨x215000, x215001, x215002, x215003, x215004, x215005⟩ : S26)] : List (S26))) t229 t230 50).bind fun t231 => ((laws_at.f x0 2).bind fun t232 => (if t231 = (Go.bits .and .i64 x4 (Int.tmod t232 8)) then ((spec_PublicKey.f 11).bind fun t236 => ((spec_PublicKey.f 13).bind fun t237 => ((impl_ChainScopes.f k (([(⟨x205000, x205001, x205002, x205003, x205004, x205005⟩ : S26), (⟨x215000, x215001, x215002, x215003, x215004, x215005⟩ : S26)] : List (S26))) t236 t237 51).bind fun t238 => (if t238 = 0 then (if x215002 = 7 then (if x215004 = (wrap64 (x3 - 1)) then ((impl_GrantMessage.f x215000 x215001 x215002 x215003 x215004 x215005).bind fun t239 => ((spec_GrantMessage.f x215000 x215001 x215002 x215003 x215004 x215005).bind fun t242 => ((laws_sameInts.f k t239 t242).bind fun t245 => (some t245)))) else (some false)) else ((impl_IsGrant.f k x215000 x215001 7 x215003 x215004 x215005).bind fun t246 => (if t246 = true then (some false) else (if x215004 = (wrap64 (x3 - 1)) then ((impl_GrantMessage.f x215000 x215001 x215002 x215003 x215004 x215005).bind fun t247 => ((spec_GrantMessage.f x215000 x215001 x215002 x215003 x215004 x215005).bind fun t250 => ((laws_sameInts.f k t247 t250).bind fun t253 => (some t253)))) else (some false))))) else (some false))))) else (some false)))))) else (some (x215000 == 0 && (x215001 == 0 && (x215002 == 0 && (x215003 == 0 && (x215004 == 0 && (x215005 == 0))))))))
def laws_FnNarrowing.f (k : Nat) (l0 : List Int) : Option (Bool) := (laws_big.f l0).bind fun t193 => (if t193 = true then (some true) else ((laws_at.f l0 0).bind fun t194 => ((laws_at.f l0 1).bind fun t195 => ((spec_PublicKey.f 12).bind fun t196 => ((impl_MakeGrant.f k 11 t196 (wrap64 (1 + (Int.tmod t195 7))) 50 (Int.tmod t194 6)).bind fun bt197 => ((spec_PublicKey.f 13).bind fun t205 => ((laws_at.f l0 2).bind fun t206 => ((impl_NarrowGrant.f k bt197.1 bt197.2.1 bt197.2.2.1 bt197.2.2.2.1 bt197.2.2.2.2.1 bt197.2.2.2.2.2.1 12 t205 (Int.tmod t206 8)).bind fun bt207 => ((spec_PublicKey.f 13).bind fun t215 => ((impl_NarrowGrant.f k bt197.1 bt197.2.1 bt197.2.2.1 bt197.2.2.2.1 bt197.2.2.2.2.1 bt197.2.2.2.2.2.1 14 t215 7).bind fun bt216 => (if bt197.2.2.2.2.2.2 = true then (if (Int.tmod t194 6) > 0 then ((laws_at.f l0 2).bind fun t224 => (if (bt207.2.2.2.2.2.2 != ((Go.bits .and .i64 (wrap64 (1 + (Int.tmod t195 7))) (Int.tmod t224 8)) != 0)) = true then (laws_FnNarrowing.j0 k l0 (Int.tmod t194 6) (wrap64 (1 + (Int.tmod t195 7))) bt207.2.2.2.2.2.2 true bt197.1 bt197.2.1 bt197.2.2.1 bt197.2.2.2.1 bt197.2.2.2.2.1 bt197.2.2.2.2.2.1 bt207.1 bt207.2.1 bt207.2.2.1 bt207.2.2.2.1 bt207.2.2.2.2.1 bt207.2.2.2.2.2.1) else (laws_FnNarrowing.j0 k l0 (Int.tmod t194 6) (wrap64 (1 + (Int.tmod t195 7))) bt207.2.2.2.2.2.2 bt216.2.2.2.2.2.2 bt197.1 bt197.2.1 bt197.2.2.1 bt197.2.2.2.1 bt197.2.2.2.2.1 bt197.2.2.2.2.2.1 bt207.1 bt207.2.1 bt207.2.2.1 bt207.2.2.2.1 bt207.2.2.2.2.1 bt207.2.2.2.2.2.1))) else (if (bt207.2.2.2.2.2.2 != false) = true then (laws_FnNarrowing.j0 k l0 (Int.tmod t194 6) (wrap64 (1 + (Int.tmod t195 7))) bt207.2.2.2.2.2.2 true bt197.1 bt197.2.1 bt197.2.2.1 bt197.2.2.2.1 bt197.2.2.2.2.1 bt197.2.2.2.2.2.1 bt207.1 bt207.2.1 bt207.2.2.1 bt207.2.2.2.1 bt207.2.2.2.2.1 bt207.2.2.2.2.2.1) else (laws_FnNarrowing.j0 k l0 (Int.tmod t194 6) (wrap64 (1 + (Int.tmod t195 7))) bt207.2.2.2.2.2.2 bt216.2.2.2.2.2.2 bt197.1 bt197.2.1 bt197.2.2.1 bt197.2.2.2.1 bt197.2.2.2.2.1 bt197.2.2.2.2.2.1 bt207.1 bt207.2.1 bt207.2.2.1 bt207.2.2.2.1 bt207.2.2.2.2.1 bt207.2.2.2.2.2.1))) else (laws_FnNarrowing.j0 k l0 (Int.tmod t194 6) (wrap64 (1 + (Int.tmod t195 7))) bt207.2.2.2.2.2.2 true bt197.1 bt197.2.1 bt197.2.2.1 bt197.2.2.2.1 bt197.2.2.2.2.1 bt197.2.2.2.2.2.1 bt207.1 bt207.2.1 bt207.2.2.1 bt207.2.2.2.1 bt207.2.2.2.2.1 bt207.2.2.2.2.2.1))))))))))))
theorem laws_FnNarrowing.mono_l : ∀ k, (∀ y0 y1 y2 y3 y4 y5 y6 y7 y8 y9 y10 y11 y12 y13 y14 y15 y16, LeO (laws_FnNarrowing.j0 k y0 y1 y2 y3 y4 y5 y6 y7 y8 y9 y10 y11 y12 y13 y14 y15 y16) (laws_FnNarrowing.j0 (k + 1) y0 y1 y2 y3 y4 y5 y6 y7 y8 y9 y10 y11 y12 y13 y14 y15 y16))
 | 0 => fun _ _ _ _ _ _ _ _ _ _ _ _ _ _ _ _ _ r h => by simp [laws_FnNarrowing.j0] at h
 | k + 1 => by
  have ih0 := laws_FnNarrowing.mono_l k
  ·intro y0 y1 y2 y3 y4 y5 y6 y7 y8 y9 y10 y11 y12 y13 y14 y15 y16
   unfold laws_FnNarrowing.j0
   repeat' first
   | (with_reducible exact ih0 _ _ _ _ _ _ _ _ _ _ _ _ _ _ _ _ _)
   | (with_reducible exact impl_ChainScopes.mono _ _ _ _ _)
   | (with_reducible exact impl_IsGrant.mono _ _ _ _ _ _ _)
   | (with_reducible exact impl_MakeGrant.mono _ _ _ _ _ _)
   | (with_reducible exact impl_NarrowGrant.mono _ _ _ _ _ _ _ _ _ _)
   | (with_reducible exact laws_sameInts.mono _ _ _)
   | (with_reducible exact LeO.refl _)
   | (with_reducible exact LeO.none _)
   | (with_reducible refine LeO.ite ?_ ?_)
   | (with_reducible refine LeO.bind ?_ (fun _ => ?_))
   | exact ih0 _ _ _ _ _ _ _ _ _ _ _ _ _ _ _ _ _
   | exact impl_ChainScopes.mono _ _ _ _ _
   | exact impl_IsGrant.mono _ _ _ _ _ _ _
   | exact impl_MakeGrant.mono _ _ _ _ _ _
   | exact impl_NarrowGrant.mono _ _ _ _ _ _ _ _ _ _
   | exact laws_sameInts.mono _ _ _
   | exact LeO.none _
   | refine LeO.ite ?_ ?_
   | refine LeO.bind ?_ (fun _ => ?_)
theorem laws_FnNarrowing.mono : ∀ a0 k, LeO (laws_FnNarrowing.f k a0) (laws_FnNarrowing.f (k + 1) a0) := by
 intro a0 k
 have ih0 := laws_FnNarrowing.mono_l k
 unfold laws_FnNarrowing.f
 repeat' first
   | (with_reducible exact ih0 _ _ _ _ _ _ _ _ _ _ _ _ _ _ _ _ _)
   | (with_reducible exact impl_ChainScopes.mono _ _ _ _ _)
   | (with_reducible exact impl_IsGrant.mono _ _ _ _ _ _ _)
   | (with_reducible exact impl_MakeGrant.mono _ _ _ _ _ _)
   | (with_reducible exact impl_NarrowGrant.mono _ _ _ _ _ _ _ _ _ _)
   | (with_reducible exact laws_sameInts.mono _ _ _)
   | (with_reducible exact LeO.refl _)
   | (with_reducible exact LeO.none _)
   | (with_reducible refine LeO.ite ?_ ?_)
   | (with_reducible refine LeO.bind ?_ (fun _ => ?_))
   | exact ih0 _ _ _ _ _ _ _ _ _ _ _ _ _ _ _ _ _
   | exact impl_ChainScopes.mono _ _ _ _ _
   | exact impl_IsGrant.mono _ _ _ _ _ _ _
   | exact impl_MakeGrant.mono _ _ _ _ _ _
   | exact impl_NarrowGrant.mono _ _ _ _ _ _ _ _ _ _
   | exact laws_sameInts.mono _ _ _
   | exact LeO.none _
   | refine LeO.ite ?_ ?_
   | refine LeO.bind ?_ (fun _ => ?_)
def laws_FnNarrowing.T6 : Bool × List (List Nat × List Nat) := (true, [([], []), ([], []), ([], []), ([2, 1], [2]), ([3], [3]), ([0, 1, 4, 3], [0, 1, 4]), ([5], [5]), ([6], [6]), ([6], [6]), ([], []), ([9, 7, 5, 0, 1, 2, 3, 4, 5, 6, 7, 9], [7, 9]), ([8, 10, 0, 1, 2, 3, 4, 5, 6, 7, 8, 9, 10], [8])])
def laws_FnNarrowing.B6 : List Nat := [0, 0, 0, 6, 14, 31, 63, 127, 127, 0, 767, 2047]
theorem laws_FnNarrowing.tab6 : rtab .any (opsOf Try.f3 6) = laws_FnNarrowing.T6 := by kernel_rfl
theorem laws_FnNarrowing.bits6 : waitsOk laws_FnNarrowing.T6.2 laws_FnNarrowing.B6 = true := by kernel_rfl
def laws_FnNarrowing.T7 : Bool × List (List Nat × List Nat) := (true, [([], []), ([], []), ([0, 1, 1], [0, 1]), ([2], [2]), ([3], [3]), ([3], [3]), ([], []), ([6, 4, 2, 0, 1, 2, 3, 4, 6], [4, 6]), ([5, 7, 0, 1, 2, 3, 4, 5, 6, 7], [5])])
def laws_FnNarrowing.B7 : List Nat := [0, 0, 3, 7, 15, 15, 0, 95, 255]
theorem laws_FnNarrowing.tab7 : rtab .any (opsOf Try.f3 7) = laws_FnNarrowing.T7 := by kernel_rfl
theorem laws_FnNarrowing.bits7 : waitsOk laws_FnNarrowing.T7.2 laws_FnNarrowing.B7 = true := by kernel_rfl
def laws_FnNarrowing.T14 : Bool × List (List Nat × List Nat) := (true, [([], []), ([], []), ([0, 1], [0, 1]), ([], []), ([3], []), ([2, 3, 4, 4], [2, 3, 4]), ([], []), ([], []), ([7, 5], [7]), ([8], [8]), ([6, 9], [6, 9]), ([5, 10], [5, 10]), ([11, 8], [11]), ([12], [12]), ([12], [12]), ([13, 14, 12], [12, 13, 14]), ([12, 12], [12]), ([16, 12], [12]), ([15, 16, 17, 17, 12], [12, 15, 16, 17]), ([18, 12], [12, 18]), ([12, 19], [12, 19]), ([20, 18], [20]), ([21], [21]), ([22, 21], [21, 22]), ([23, 21], [21, 23]), ([24, 21, 21], [21, 24]), ([25], [25]), ([26, 25, 25], [25, 26]), ([27, 25], [25, 27]), ([25, 28, 21], [21, 25, 28]), ([21, 29], [21, 29]), ([30, 27], [30]), ([31], [31]), ([32, 31], [31, 32]), ([31], [31]), ([34, 31], [31, 34]), ([33, 35, 31], [31, 33, 35]), ([31, 36], [31, 36]), ([37, 31], [37]), ([38], [38]), ([39, 38, 38], [38, 39]), ([38], [38]), ([41, 40, 38], [38, 41]), ([40, 42, 42, 38], [38, 40, 42]), ([38, 43], [38, 43]), ([44, 43, 0, 1, 2, 3, 4, 5, 6, 7, 8, 9, 10, 11, 12, 13, 14, 15, 16, 17, 18, 19, 20, 21, 22, 23, 24, 25, 26, 27, 28, 29, 30, 31, 32, 33, 34, 35, 36, 37, 38, 39, 40, 41, 42, 43, 44], [44])])
def laws_FnNarrowing.B14 : List Nat := [0, 0, 3, 0, 8, 31, 0, 0, 191, 447, 1023, 2047, 4095, 8191, 8191, 32767, 8191, 73727, 262143, 524287, 1048575, 2097151, 4194303, 8388607, 16777215, 33554431, 67108863, 134217727, 268435455, 536870911, 1073741823, 2147483647, 4294967295, 8589934591, 4294967295, 21474836479, 68719476735, 137438953471, 274877906943, 549755813887, 1099511627775, 549755813887, 4398046511103, 8796093022207, 17592186044415, 35184372088831]
theorem laws_FnNarrowing.tab14 : rtab .any (opsOf Try.f3 14) = laws_FnNarrowing.T14 := by kernel_rfl
theorem laws_FnNarrowing.bits14 : waitsOk laws_FnNarrowing.T14.2 laws_FnNarrowing.B14 = true := by kernel_rfl
set_option maxHeartbeats 8000000 in
set_option maxRecDepth 100000 in
theorem laws_FnNarrowing.calls (k : Nat) (A0 : Option Addr) (c0 : Nat) (l0 : List Int) (r : Bool) (w : World) (hr0 : Kd.C (Kd.int .u8) w A0 l0.length l0) (hc0 : l0.length ≤ c0) (hT_ : r = true) (h : laws_FnNarrowing.f k l0 = some r) :
  Calls Try.prog 3 #[.slice A0 l0.length c0] w fun e w' => e = .returned (.bool r) ∧ Below w.heap.size w w' := by
 have hu26 := Try.underlying26
 have HR0 := Aside0.mk hr0
 have HC0 := Aside0.mk hc0
 clear hr0 hc0
 have HB := Aside0.mk (Below.refl w.heap.size w)
 have H : ((laws_big.f l0).bind fun t193 => (if t193 = true then (some true) else ((laws_at.f l0 0).bind fun t194 => ((laws_at.f l0 1).bind fun t195 => ((spec_PublicKey.f 12).bind fun t196 => ((impl_MakeGrant.f k 11 t196 (wrap64 (1 + (Int.tmod t195 7))) 50 (Int.tmod t194 6)).bind fun bt197 => ((spec_PublicKey.f 13).bind fun t205 => ((laws_at.f l0 2).bind fun t206 => ((impl_NarrowGrant.f k bt197.1 bt197.2.1 bt197.2.2.1 bt197.2.2.2.1 bt197.2.2.2.2.1 bt197.2.2.2.2.2.1 12 t205 (Int.tmod t206 8)).bind fun bt207 => ((spec_PublicKey.f 13).bind fun t215 => ((impl_NarrowGrant.f k bt197.1 bt197.2.1 bt197.2.2.1 bt197.2.2.2.1 bt197.2.2.2.2.1 bt197.2.2.2.2.2.1 14 t215 7).bind fun bt216 => (if bt197.2.2.2.2.2.2 = true then (if (Int.tmod t194 6) > 0 then ((laws_at.f l0 2).bind fun t224 => (if (bt207.2.2.2.2.2.2 != ((Go.bits .and .i64 (wrap64 (1 + (Int.tmod t195 7))) (Int.tmod t224 8)) != 0)) = true then (laws_FnNarrowing.j0 k l0 (Int.tmod t194 6) (wrap64 (1 + (Int.tmod t195 7))) bt207.2.2.2.2.2.2 true bt197.1 bt197.2.1 bt197.2.2.1 bt197.2.2.2.1 bt197.2.2.2.2.1 bt197.2.2.2.2.2.1 bt207.1 bt207.2.1 bt207.2.2.1 bt207.2.2.2.1 bt207.2.2.2.2.1 bt207.2.2.2.2.2.1) else (laws_FnNarrowing.j0 k l0 (Int.tmod t194 6) (wrap64 (1 + (Int.tmod t195 7))) bt207.2.2.2.2.2.2 bt216.2.2.2.2.2.2 bt197.1 bt197.2.1 bt197.2.2.1 bt197.2.2.2.1 bt197.2.2.2.2.1 bt197.2.2.2.2.2.1 bt207.1 bt207.2.1 bt207.2.2.1 bt207.2.2.2.1 bt207.2.2.2.2.1 bt207.2.2.2.2.2.1))) else (if (bt207.2.2.2.2.2.2 != false) = true then (laws_FnNarrowing.j0 k l0 (Int.tmod t194 6) (wrap64 (1 + (Int.tmod t195 7))) bt207.2.2.2.2.2.2 true bt197.1 bt197.2.1 bt197.2.2.1 bt197.2.2.2.1 bt197.2.2.2.2.1 bt197.2.2.2.2.2.1 bt207.1 bt207.2.1 bt207.2.2.1 bt207.2.2.2.1 bt207.2.2.2.2.1 bt207.2.2.2.2.2.1) else (laws_FnNarrowing.j0 k l0 (Int.tmod t194 6) (wrap64 (1 + (Int.tmod t195 7))) bt207.2.2.2.2.2.2 bt216.2.2.2.2.2.2 bt197.1 bt197.2.1 bt197.2.2.1 bt197.2.2.2.1 bt197.2.2.2.2.1 bt197.2.2.2.2.2.1 bt207.1 bt207.2.1 bt207.2.2.1 bt207.2.2.2.1 bt207.2.2.2.2.1 bt207.2.2.2.2.2.1))) else (laws_FnNarrowing.j0 k l0 (Int.tmod t194 6) (wrap64 (1 + (Int.tmod t195 7))) bt207.2.2.2.2.2.2 true bt197.1 bt197.2.1 bt197.2.2.1 bt197.2.2.2.1 bt197.2.2.2.2.1 bt197.2.2.2.2.2.1 bt207.1 bt207.2.1 bt207.2.2.1 bt207.2.2.2.1 bt207.2.2.2.2.1 bt207.2.2.2.2.2.1))))))))))))) = some r := h
 clear h
 replace H := Option.bind_eq_some_iff.mp H
 obtain ⟨t193, A20, H⟩ := H
 try dsimp only at H
 have A2 := Aside0.mk A20
 clear A20
 by_cases c3 : t193 = true
 ·subst c3
  have H1 : (some true) = some r := by rw [if_pos rfl] at H; exact H
  clear H
  have H := H1
  clear H1
  obtain rfl := Option.some.inj H
  go_enter Try.func3, Try.ntmps3
  go_wp2_with (first | ((with_reducible refine gate_callee (f := 15) rfl ?_); refine goesL_ (some 13) rfl rfl Try.func15 (by kernel_rfl) rfl #[.slice A0 l0.length c0] rfl tL ?_; (with_reducible refine (laws_big.calls _ _ l0 true _ ?side1 ?side2 A2.out).mono ?_); (case side1 => repeat (first | exact HR0.out | (with_reducible refine Kd.C_alloc ?_ _) | (with_reducible refine Kd.C_drewN ?_ _) | (with_reducible refine Kd.C_drew ?_))); (case side2 => exact HC0.out); rintro e w' ⟨rfl, ⟨nd, rfl⟩⟩; refine ⟨_, rfl, ?_⟩))
  go_ret
  exact ⟨tE, tB⟩
 replace c3 := Bool.eq_false_iff.mpr c3
 subst c3
 have H1 : ((laws_at.f l0 0).bind fun t194 => ((laws_at.f l0 1).bind fun t195 => ((spec_PublicKey.f 12).bind fun t196 => ((impl_MakeGrant.f k 11 t196 (wrap64 (1 + (Int.tmod t195 7))) 50 (Int.tmod t194 6)).bind fun bt197 => ((spec_PublicKey.f 13).bind fun t205 => ((laws_at.f l0 2).bind fun t206 => ((impl_NarrowGrant.f k bt197.1 bt197.2.1 bt197.2.2.1 bt197.2.2.2.1 bt197.2.2.2.2.1 bt197.2.2.2.2.2.1 12 t205 (Int.tmod t206 8)).bind fun bt207 => ((spec_PublicKey.f 13).bind fun t215 => ((impl_NarrowGrant.f k bt197.1 bt197.2.1 bt197.2.2.1 bt197.2.2.2.1 bt197.2.2.2.2.1 bt197.2.2.2.2.2.1 14 t215 7).bind fun bt216 => (if bt197.2.2.2.2.2.2 = true then (if (Int.tmod t194 6) > 0 then ((laws_at.f l0 2).bind fun t224 => (if (bt207.2.2.2.2.2.2 != ((Go.bits .and .i64 (wrap64 (1 + (Int.tmod t195 7))) (Int.tmod t224 8)) != 0)) = true then (laws_FnNarrowing.j0 k l0 (Int.tmod t194 6) (wrap64 (1 + (Int.tmod t195 7))) bt207.2.2.2.2.2.2 true bt197.1 bt197.2.1 bt197.2.2.1 bt197.2.2.2.1 bt197.2.2.2.2.1 bt197.2.2.2.2.2.1 bt207.1 bt207.2.1 bt207.2.2.1 bt207.2.2.2.1 bt207.2.2.2.2.1 bt207.2.2.2.2.2.1) else (laws_FnNarrowing.j0 k l0 (Int.tmod t194 6) (wrap64 (1 + (Int.tmod t195 7))) bt207.2.2.2.2.2.2 bt216.2.2.2.2.2.2 bt197.1 bt197.2.1 bt197.2.2.1 bt197.2.2.2.1 bt197.2.2.2.2.1 bt197.2.2.2.2.2.1 bt207.1 bt207.2.1 bt207.2.2.1 bt207.2.2.2.1 bt207.2.2.2.2.1 bt207.2.2.2.2.2.1))) else (if (bt207.2.2.2.2.2.2 != false) = true then (laws_FnNarrowing.j0 k l0 (Int.tmod t194 6) (wrap64 (1 + (Int.tmod t195 7))) bt207.2.2.2.2.2.2 true bt197.1 bt197.2.1 bt197.2.2.1 bt197.2.2.2.1 bt197.2.2.2.2.1 bt197.2.2.2.2.2.1 bt207.1 bt207.2.1 bt207.2.2.1 bt207.2.2.2.1 bt207.2.2.2.2.1 bt207.2.2.2.2.2.1) else (laws_FnNarrowing.j0 k l0 (Int.tmod t194 6) (wrap64 (1 + (Int.tmod t195 7))) bt207.2.2.2.2.2.2 bt216.2.2.2.2.2.2 bt197.1 bt197.2.1 bt197.2.2.1 bt197.2.2.2.1 bt197.2.2.2.2.1 bt197.2.2.2.2.2.1 bt207.1 bt207.2.1 bt207.2.2.1 bt207.2.2.2.1 bt207.2.2.2.2.1 bt207.2.2.2.2.2.1))) else (laws_FnNarrowing.j0 k l0 (Int.tmod t194 6) (wrap64 (1 + (Int.tmod t195 7))) bt207.2.2.2.2.2.2 true bt197.1 bt197.2.1 bt197.2.2.1 bt197.2.2.2.1 bt197.2.2.2.2.1 bt197.2.2.2.2.2.1 bt207.1 bt207.2.1 bt207.2.2.1 bt207.2.2.2.1 bt207.2.2.2.2.1 bt207.2.2.2.2.2.1))))))))))) = some r := by rw [if_neg (show ¬ (false = true) by decide)] at H; exact H
 clear H
 have H := H1
 clear H1
 replace H := Option.bind_eq_some_iff.mp H
 obtain ⟨t194, A40, H⟩ := H
 try dsimp only at H
 have A4 := Aside0.mk A40
 clear A40
 replace H := Option.bind_eq_some_iff.mp H
 obtain ⟨t195, A50, H⟩ := H
 try dsimp only at H
 have A5 := Aside0.mk A50
 clear A50
 replace H := Option.bind_eq_some_iff.mp H
 obtain ⟨t196, A60, H⟩ := H
 try dsimp only at H
 have A6 := Aside0.mk A60
 clear A60
 replace H := Option.bind_eq_some_iff.mp H
 obtain ⟨⟨t197, t198, t199, t200, t201, t202, t203⟩, A70, H⟩ := H
 try dsimp only at H
 have A7 := Aside0.mk A70
 clear A70
 replace H := Option.bind_eq_some_iff.mp H
 obtain ⟨t205, A80, H⟩ := H
 try dsimp only at H
 have A8 := Aside0.mk A80
 clear A80
 replace H := Option.bind_eq_some_iff.mp H
 obtain ⟨t206, A90, H⟩ := H
 try dsimp only at H
 have A9 := Aside0.mk A90
 clear A90
 replace H := Option.bind_eq_some_iff.mp H
 obtain ⟨⟨t207, t208, t209, t210, t211, t212, t213⟩, A100, H⟩ := H
 try dsimp only at H
 have A10 := Aside0.mk A100
 clear A100
 replace H := Option.bind_eq_some_iff.mp H
 obtain ⟨t215, A110, H⟩ := H
 try dsimp only at H
 have A11 := Aside0.mk A110
 clear A110
 replace H := Option.bind_eq_some_iff.mp H
 obtain ⟨⟨t216, t217, t218, t219, t220, t221, t222⟩, A120, H⟩ := H
 try dsimp only at H
 have A12 := Aside0.mk A120
 clear A120
 have HC13 := Aside0.mk H
 clear H
 go_enter Try.func3, Try.ntmps3
 try go_wp2_with (first | ((with_reducible refine gate_callee (f := 15) rfl ?_); refine goesL_ (some 13) rfl rfl Try.func15 (by kernel_rfl) rfl #[.slice A0 l0.length c0] rfl tL ?_; (with_reducible refine (laws_big.calls _ _ l0 false _ ?side1 ?side2 A2.out).mono ?_); (case side1 => repeat (first | exact HR0.out | (with_reducible refine Kd.C_alloc ?_ _) | (with_reducible refine Kd.C_drewN ?_ _) | (with_reducible refine Kd.C_drew ?_))); (case side2 => exact HC0.out); rintro e w' ⟨rfl, ⟨nd, rfl⟩⟩; refine ⟨_, rfl, ?_⟩) | ((with_reducible refine gate_callee (f := 16) rfl ?_); refine goesL_ (some 15) rfl rfl Try.func16 (by kernel_rfl) rfl #[.slice A0 l0.length c0, .int .i64 0] rfl tL ?_; (with_reducible refine (laws_at.calls _ _ l0 0 t194 _ ?side1 ?side2 A4.out).mono ?_); (case side1 => repeat (first | exact HR0.out | (with_reducible refine Kd.C_alloc ?_ _) | (with_reducible refine Kd.C_drewN ?_ _) | (with_reducible refine Kd.C_drew ?_))); (case side2 => exact HC0.out); rintro e w' ⟨rfl, ⟨nd, rfl⟩⟩; refine ⟨_, rfl, ?_⟩) | ((with_reducible refine gate_callee (f := 16) rfl ?_); refine goesL_ (some 18) rfl rfl Try.func16 (by kernel_rfl) rfl #[.slice A0 l0.length c0, .int .i64 1] rfl tL ?_; (with_reducible refine (laws_at.calls _ _ l0 1 t195 _ ?side1 ?side2 A5.out).mono ?_); (case side1 => repeat (first | exact HR0.out | (with_reducible refine Kd.C_alloc ?_ _) | (with_reducible refine Kd.C_drewN ?_ _) | (with_reducible refine Kd.C_drew ?_))); (case side2 => exact HC0.out); rintro e w' ⟨rfl, ⟨nd, rfl⟩⟩; refine ⟨_, rfl, ?_⟩) | ((with_reducible refine gate_callee (f := 18) rfl ?_); refine goesL_ (some 22) rfl rfl Try.func18 (by kernel_rfl) rfl #[.int .i64 12] rfl tL ?_; (with_reducible refine (spec_PublicKey.calls 12 t196 _ A6.out).mono ?_); rintro e w' ⟨rfl, ⟨nd, rfl⟩⟩; refine ⟨_, rfl, ?_⟩) | ((with_reducible refine gate_callee (f := 17) rfl ?_); refine goesL_ (some 25) rfl rfl Try.func17 (by kernel_rfl) rfl #[.int .i64 11, .int .i64 t196, .int .i64 (wrap64 (1 + (Int.tmod t195 7))), .int .i64 50, .int .i64 (Int.tmod t194 6)] rfl tL ?_; (with_reducible refine (impl_MakeGrant.calls k 11 t196 (wrap64 (1 + (Int.tmod t195 7))) 50 (Int.tmod t194 6) t197 t198 t199 t200 t201 t202 t203 _ A7.out).mono ?_); rintro e w14 ⟨rfl, hb⟩; refine ⟨_, rfl, ?_⟩; replace HB := bH HB hb; (try clear hb); (try clear hb2); (try clear hk); (try clear hi)) | ((with_reducible refine gate_dst (N := 5) rfl ?_); (try (refine gate_guard (by rfl) ?_; dsimp only)); refine box_event ?hg (N := 5) ?hd (cs := #[.int .i64 0, .int .i64 0, .int .i64 0, .int .i64 0, .int .i64 0, .int .i64 0]) (t := 26) ?hr ?_; (case hd => rfl); (case hg => rfl); (case hr => exact tG); intro gb204 hg w15 hbox hb; have BK204 := Aside0.mk (hbox); have GW204 := gW HB hg; have GE204 := gW HB hg; replace HB := bH HB hb; clear hb hbox hg; obtain ⟨hcz16_0, hcz16_1, hcz16_2, hcz16_3, hcz16_4, hcz16_5, hfz16_0, hfz16_1, hfz16_2, hfz16_3, hfz16_4, hfz16_5⟩ := bc6 BK204.out))
 have n0_ : Aside0 (((((((w15.setCell ⟨gb204, 0, none⟩ (.int .i64 t197)).setCell ⟨gb204, 1, none⟩ (.int .i64 t198)).setCell ⟨gb204, 2, none⟩ (.int .i64 t199)).setCell ⟨gb204, 3, none⟩ (.int .i64 t200)).setCell ⟨gb204, 4, none⟩ (.int .i64 t201)).setCell ⟨gb204, 5, none⟩ (.int .i64 t202)).heap[gb204]? = some (.cells #[.int .i64 t197, .int .i64 t198, .int .i64 t199, .int .i64 t200, .int .i64 t201, .int .i64 t202] 26 (0, 0))) := ⟨by (with_reducible repeat (first | refine blk_drewN ?_ _ | refine blk_drew ?_ | refine blk_alloc ?_ _)); refine blk_put (cs := #[.int .i64 t197, .int .i64 t198, .int .i64 t199, .int .i64 t200, .int .i64 t201, .int .i64 0]) ?_ 5 _ rfl; (with_reducible repeat (first | refine blk_drewN ?_ _ | refine blk_drew ?_ | refine blk_alloc ?_ _)); refine blk_put (cs := #[.int .i64 t197, .int .i64 t198, .int .i64 t199, .int .i64 t200, .int .i64 0, .int .i64 0]) ?_ 4 _ rfl; (with_reducible repeat (first | refine blk_drewN ?_ _ | refine blk_drew ?_ | refine blk_alloc ?_ _)); refine blk_put (cs := #[.int .i64 t197, .int .i64 t198, .int .i64 t199, .int .i64 0, .int .i64 0, .int .i64 0]) ?_ 3 _ rfl; (with_reducible repeat (first | refine blk_drewN ?_ _ | refine blk_drew ?_ | refine blk_alloc ?_ _)); refine blk_put (cs := #[.int .i64 t197, .int .i64 t198, .int .i64 0, .int .i64 0, .int .i64 0, .int .i64 0]) ?_ 2 _ rfl; (with_reducible repeat (first | refine blk_drewN ?_ _ | refine blk_drew ?_ | refine blk_alloc ?_ _)); refine blk_put (cs := #[.int .i64 t197, .int .i64 0, .int .i64 0, .int .i64 0, .int .i64 0, .int .i64 0]) ?_ 1 _ rfl; (with_reducible repeat (first | refine blk_drewN ?_ _ | refine blk_drew ?_ | refine blk_alloc ?_ _)); refine blk_put (cs := #[.int .i64 0, .int .i64 0, .int .i64 0, .int .i64 0, .int .i64 0, .int .i64 0]) ?_ 0 _ rfl; (with_reducible repeat (first | refine blk_drewN ?_ _ | refine blk_drew ?_ | refine blk_alloc ?_ _)); exact BK204.out⟩
 have n1_ : Aside0 (Below w.heap.size w ((((((w15.setCell ⟨gb204, 0, none⟩ (.int .i64 t197)).setCell ⟨gb204, 1, none⟩ (.int .i64 t198)).setCell ⟨gb204, 2, none⟩ (.int .i64 t199)).setCell ⟨gb204, 3, none⟩ (.int .i64 t200)).setCell ⟨gb204, 4, none⟩ (.int .i64 t201)).setCell ⟨gb204, 5, none⟩ (.int .i64 t202))) := ⟨tB⟩
 (try clear BK204)
 (try clear HB)
 generalize ((((((w15.setCell ⟨gb204, 0, none⟩ (.int .i64 t197)).setCell ⟨gb204, 1, none⟩ (.int .i64 t198)).setCell ⟨gb204, 2, none⟩ (.int .i64 t199)).setCell ⟨gb204, 3, none⟩ (.int .i64 t200)).setCell ⟨gb204, 4, none⟩ (.int .i64 t201)).setCell ⟨gb204, 5, none⟩ (.int .i64 t202)) = w17 at n0_ n1_ ⊢
 have BK204 := n0_
 have HB := n1_
 clear n0_ n1_
 replace BK204 := Aside0.mk (blk_drew BK204.out)
 replace HB := Aside0.mk (below_drew1 HB.out)
 refine start_ (n := 12) (S := fun w' => w'.cell? ⟨gb204, 0, none⟩ = some (.int .i64 t197) ∧ w'.cell? ⟨gb204, 1, none⟩ = some (.int .i64 t198) ∧ w'.cell? ⟨gb204, 2, none⟩ = some (.int .i64 t199) ∧ w'.cell? ⟨gb204, 3, none⟩ = some (.int .i64 t200) ∧ w'.cell? ⟨gb204, 4, none⟩ = some (.int .i64 t201) ∧ w'.cell? ⟨gb204, 5, none⟩ = some (.int .i64 t202)) (ds := []) #[N_,N_,N_,N_,N_,N_,N_,N_,N_,N_,N_,N_] (by kernel_rfl) rfl rfl tH (fun hHeld => ?_); refine with_tabW laws_FnNarrowing.tab6 laws_FnNarrowing.bits6 (fun HT_ HW_ => ?_)
 generalize w17.drew = w18 at BK204 HB hHeld ⊢
 refine pure_ (i := 2) (N := some 31) #[N_,N_,Y_,N_,N_,N_,N_,N_,N_,N_,N_,N_] rfl rfl (any_of HT_.out (by kernel_rfl)) (fun _ _ _ h => h) (Or.inl ⟨by rfl, tX⟩) tV ?_
 refine take_ (i := 0) (N := some 29) (v := ?_) (a' := ?_) #[Y_,N_,Y_,N_,N_,N_,N_,N_,N_,N_,N_,N_] rfl rfl (take_ofW HT_.out HW_.out (by kernel_rfl)) (fun _ _ _ h => h) (Or.inl ⟨by rfl, ?_⟩) hHeld ?_ ?_
 rotate_left
 ·rintro w' ⟨s0, s1, s2, s3, s4, s5⟩
  go_simp
  with_reducible rfl
 rotate_left
 ·simp only [Act.put, List.setIfInBounds_toArray, List.set_cons_zero, List.set_cons_succ, i64_w, i32_w]
  rfl
 refine join_ (σ := Nat) 2 #[Y_,Y_,Y_,Y_,Y_,Y_,Y_,Y_,Y_,Y_,N_,N_] (fun s_ => [(30, .int .i64 t205), (32, .int .i64 t206), (34, .tuple #[.agg #[.int .i64 t207, .int .i64 t208, .int .i64 t209, .int .i64 t210, .int .i64 t211, .int .i64 t212], .bool t213]), (7, .pointer (some ⟨s_, 0, none⟩)), (33, .int .i64 (Int.tmod t206 8)), (28, .tuple #[.agg #[.int .i64 t207, .int .i64 t208, .int .i64 t209, .int .i64 t210, .int .i64 t211, .int .i64 t212], .bool t213]), (35, .agg #[.int .i64 t207, .int .i64 t208, .int .i64 t209, .int .i64 t210, .int .i64 t211, .int .i64 t212]), (36, .bool t213)]) (fun s_ w' => (w'.cell? ⟨gb204, 0, none⟩ = some (.int .i64 t197) ∧ w'.cell? ⟨gb204, 1, none⟩ = some (.int .i64 t198) ∧ w'.cell? ⟨gb204, 2, none⟩ = some (.int .i64 t199) ∧ w'.cell? ⟨gb204, 3, none⟩ = some (.int .i64 t200) ∧ w'.cell? ⟨gb204, 4, none⟩ = some (.int .i64 t201) ∧ w'.cell? ⟨gb204, 5, none⟩ = some (.int .i64 t202)) ∧ (w'.heap[gb204]? = some (.cells #[.int .i64 t197, .int .i64 t198, .int .i64 t199, .int .i64 t200, .int .i64 t201, .int .i64 t202] 26 (0, 0))) ∧ (w'.heap[s_]? = some (.cells #[.int .i64 0, .int .i64 0, .int .i64 0, .int .i64 0, .int .i64 0, .int .i64 0] 26 (0, 0))) ∧ (w.heap.size ≤ s_) ∧ (w.heap.size ≤ s_) ∧ (gb204 ≠ s_) ∧ (s_ ≠ gb204) ∧ (Below w.heap.size w w')) ?_ ?_
 ·rintro gb214 w21 ⟨hHeld, h0_, h1_, h2_, h3_, h4_, h5_, h6_⟩
  replace BK204 := Aside0.mk h0_
  have BK214 := Aside0.mk h1_
  have GW214 := Aside0.mk h2_
  have GE214 := Aside0.mk h3_
  have NB204_214 := Aside0.mk h4_
  have NB214_204 := Aside0.mk h5_
  replace HB := Aside0.mk h6_
  clear h0_ h1_ h2_ h3_ h4_ h5_ h6_
  refine norm_ tM ?_
  refine one_ (i := 10) (N := none) #[Y_,Y_,Y_,Y_,Y_,Y_,Y_,Y_,Y_,Y_,Y_,N_] rfl rfl (one_of HT_.out (by kernel_rfl)) (by decide) (fun K hK => ?_)
  have hs22 : w21.cell? ⟨gb214, 0, none⟩ = some (.int .i64 0) := (blk_cell BK214.out 0).trans rfl
  have hfs22 := blk_frozen BK214.out 0
  have hns22_0 := NB204_214.out
  have hms22_0 := NB214_204.out
  have hs23 : w21.cell? ⟨gb214, 1, none⟩ = some (.int .i64 0) := (blk_cell BK214.out 1).trans rfl
  have hfs23 := blk_frozen BK214.out 1
  have hns23_0 := NB204_214.out
  have hms23_0 := NB214_204.out
  have hs24 : w21.cell? ⟨gb214, 2, none⟩ = some (.int .i64 0) := (blk_cell BK214.out 2).trans rfl
  have hfs24 := blk_frozen BK214.out 2
  have hns24_0 := NB204_214.out
  have hms24_0 := NB214_204.out
  have hs25 : w21.cell? ⟨gb214, 3, none⟩ = some (.int .i64 0) := (blk_cell BK214.out 3).trans rfl
  have hfs25 := blk_frozen BK214.out 3
  have hns25_0 := NB204_214.out
  have hms25_0 := NB214_204.out
  have hs26 : w21.cell? ⟨gb214, 4, none⟩ = some (.int .i64 0) := (blk_cell BK214.out 4).trans rfl
  have hfs26 := blk_frozen BK214.out 4
  have hns26_0 := NB204_214.out
  have hms26_0 := NB214_204.out
  have hs27 : w21.cell? ⟨gb214, 5, none⟩ = some (.int .i64 0) := (blk_cell BK214.out 5).trans rfl
  have hfs27 := blk_frozen BK214.out 5
  have hns27_0 := NB204_214.out
  have hms27_0 := NB214_204.out
  refine skip_ (w1 := ?_) (by rfl) rfl ?_ ?_
  rotate_left
  ·go_simp
   rfl
  refine hK.out _ _ ⟨((cell_far (p := ⟨gb214, _, none⟩) NB204_214.out _).trans (((cell_far (p := ⟨gb214, _, none⟩) NB204_214.out _).trans (((cell_far (p := ⟨gb214, _, none⟩) NB204_214.out _).trans (((cell_far (p := ⟨gb214, _, none⟩) NB204_214.out _).trans (((cell_far (p := ⟨gb214, _, none⟩) NB204_214.out _).trans (((cell_far (p := ⟨gb214, _, none⟩) NB204_214.out _).trans (hHeld.1)))))))))))), ((cell_far (p := ⟨gb214, _, none⟩) NB204_214.out _).trans (((cell_far (p := ⟨gb214, _, none⟩) NB204_214.out _).trans (((cell_far (p := ⟨gb214, _, none⟩) NB204_214.out _).trans (((cell_far (p := ⟨gb214, _, none⟩) NB204_214.out _).trans (((cell_far (p := ⟨gb214, _, none⟩) NB204_214.out _).trans (((cell_far (p := ⟨gb214, _, none⟩) NB204_214.out _).trans (hHeld.2.1)))))))))))), ((cell_far (p := ⟨gb214, _, none⟩) NB204_214.out _).trans (((cell_far (p := ⟨gb214, _, none⟩) NB204_214.out _).trans (((cell_far (p := ⟨gb214, _, none⟩) NB204_214.out _).trans (((cell_far (p := ⟨gb214, _, none⟩) NB204_214.out _).trans (((cell_far (p := ⟨gb214, _, none⟩) NB204_214.out _).trans (((cell_far (p := ⟨gb214, _, none⟩) NB204_214.out _).trans (hHeld.2.2.1)))))))))))), ((cell_far (p := ⟨gb214, _, none⟩) NB204_214.out _).trans (((cell_far (p := ⟨gb214, _, none⟩) NB204_214.out _).trans (((cell_far (p := ⟨gb214, _, none⟩) NB204_214.out _).trans (((cell_far (p := ⟨gb214, _, none⟩) NB204_214.out _).trans (((cell_far (p := ⟨gb214, _, none⟩) NB204_214.out _).trans (((cell_far (p := ⟨gb214, _, none⟩) NB204_214.out _).trans (hHeld.2.2.2.1)))))))))))), ((cell_far (p := ⟨gb214, _, none⟩) NB204_214.out _).trans (((cell_far (p := ⟨gb214, _, none⟩) NB204_214.out _).trans (((cell_far (p := ⟨gb214, _, none⟩) NB204_214.out _).trans (((cell_far (p := ⟨gb214, _, none⟩) NB204_214.out _).trans (((cell_far (p := ⟨gb214, _, none⟩) NB204_214.out _).trans (((cell_far (p := ⟨gb214, _, none⟩) NB204_214.out _).trans (hHeld.2.2.2.2.1)))))))))))), ((cell_far (p := ⟨gb214, _, none⟩) NB204_214.out _).trans (((cell_far (p := ⟨gb214, _, none⟩) NB204_214.out _).trans (((cell_far (p := ⟨gb214, _, none⟩) NB204_214.out _).trans (((cell_far (p := ⟨gb214, _, none⟩) NB204_214.out _).trans (((cell_far (p := ⟨gb214, _, none⟩) NB204_214.out _).trans (((cell_far (p := ⟨gb214, _, none⟩) NB204_214.out _).trans (hHeld.2.2.2.2.2))))))))))))⟩ (fun hHeld => ?_)
  clear hK K
  refine pure_ (i := 11) (N := some 8) #[Y_,Y_,Y_,Y_,Y_,Y_,Y_,Y_,Y_,Y_,Y_,Y_] rfl rfl (any_of HT_.out (by kernel_rfl)) (fun _ _ _ h => h) (Or.inl ⟨by rfl, tX⟩) tV ?_
  refine done_ (done_of HT_.out (by kernel_rfl)) ?_
  try go_wp2
  have n0_ : Aside0 (((((((w21.setCell ⟨gb214, 0, none⟩ (.int .i64 t207)).setCell ⟨gb214, 1, none⟩ (.int .i64 t208)).setCell ⟨gb214, 2, none⟩ (.int .i64 t209)).setCell ⟨gb214, 3, none⟩ (.int .i64 t210)).setCell ⟨gb214, 4, none⟩ (.int .i64 t211)).setCell ⟨gb214, 5, none⟩ (.int .i64 t212)).heap[gb204]? = some (.cells #[.int .i64 t197, .int .i64 t198, .int .i64 t199, .int .i64 t200, .int .i64 t201, .int .i64 t202] 26 (0, 0))) := ⟨kF NB204_214 BK204⟩
  have n1_ : Aside0 (((((((w21.setCell ⟨gb214, 0, none⟩ (.int .i64 t207)).setCell ⟨gb214, 1, none⟩ (.int .i64 t208)).setCell ⟨gb214, 2, none⟩ (.int .i64 t209)).setCell ⟨gb214, 3, none⟩ (.int .i64 t210)).setCell ⟨gb214, 4, none⟩ (.int .i64 t211)).setCell ⟨gb214, 5, none⟩ (.int .i64 t212)).heap[gb214]? = some (.cells #[.int .i64 t207, .int .i64 t208, .int .i64 t209, .int .i64 t210, .int .i64 t211, .int .i64 t212] 26 (0, 0))) := ⟨by (with_reducible repeat (first | refine blk_drewN ?_ _ | refine blk_drew ?_ | refine blk_alloc ?_ _)); refine blk_put (cs := #[.int .i64 t207, .int .i64 t208, .int .i64 t209, .int .i64 t210, .int .i64 t211, .int .i64 0]) ?_ 5 _ rfl; (with_reducible repeat (first | refine blk_drewN ?_ _ | refine blk_drew ?_ | refine blk_alloc ?_ _)); refine blk_put (cs := #[.int .i64 t207, .int .i64 t208, .int .i64 t209, .int .i64 t210, .int .i64 0, .int .i64 0]) ?_ 4 _ rfl; (with_reducible repeat (first | refine blk_drewN ?_ _ | refine blk_drew ?_ | refine blk_alloc ?_ _)); refine blk_put (cs := #[.int .i64 t207, .int .i64 t208, .int .i64 t209, .int .i64 0, .int .i64 0, .int .i64 0]) ?_ 3 _ rfl; (with_reducible repeat (first | refine blk_drewN ?_ _ | refine blk_drew ?_ | refine blk_alloc ?_ _)); refine blk_put (cs := #[.int .i64 t207, .int .i64 t208, .int .i64 0, .int .i64 0, .int .i64 0, .int .i64 0]) ?_ 2 _ rfl; (with_reducible repeat (first | refine blk_drewN ?_ _ | refine blk_drew ?_ | refine blk_alloc ?_ _)); refine blk_put (cs := #[.int .i64 t207, .int .i64 0, .int .i64 0, .int .i64 0, .int .i64 0, .int .i64 0]) ?_ 1 _ rfl; (with_reducible repeat (first | refine blk_drewN ?_ _ | refine blk_drew ?_ | refine blk_alloc ?_ _)); refine blk_put (cs := #[.int .i64 0, .int .i64 0, .int .i64 0, .int .i64 0, .int .i64 0, .int .i64 0]) ?_ 0 _ rfl; (with_reducible repeat (first | refine blk_drewN ?_ _ | refine blk_drew ?_ | refine blk_alloc ?_ _)); exact BK214.out⟩
  have n2_ : Aside0 (Below w.heap.size w ((((((w21.setCell ⟨gb214, 0, none⟩ (.int .i64 t207)).setCell ⟨gb214, 1, none⟩ (.int .i64 t208)).setCell ⟨gb214, 2, none⟩ (.int .i64 t209)).setCell ⟨gb214, 3, none⟩ (.int .i64 t210)).setCell ⟨gb214, 4, none⟩ (.int .i64 t211)).setCell ⟨gb214, 5, none⟩ (.int .i64 t212))) := ⟨tB⟩
  (try clear BK204)
  (try clear BK214)
  (try clear HB)
  generalize ((((((w21.setCell ⟨gb214, 0, none⟩ (.int .i64 t207)).setCell ⟨gb214, 1, none⟩ (.int .i64 t208)).setCell ⟨gb214, 2, none⟩ (.int .i64 t209)).setCell ⟨gb214, 3, none⟩ (.int .i64 t210)).setCell ⟨gb214, 4, none⟩ (.int .i64 t211)).setCell ⟨gb214, 5, none⟩ (.int .i64 t212)) = w28 at n0_ n1_ n2_ ⊢
  have BK204 := n0_
  have BK214 := n1_
  have HB := n2_
  clear n0_ n1_ n2_
  replace BK204 := Aside0.mk (blk_drew BK204.out)
  replace BK214 := Aside0.mk (blk_drew BK214.out)
  replace HB := Aside0.mk (below_drew1 HB.out)
  refine start_ (n := 9) (S := fun w' => w'.cell? ⟨gb204, 0, none⟩ = some (.int .i64 t197) ∧ w'.cell? ⟨gb204, 1, none⟩ = some (.int .i64 t198) ∧ w'.cell? ⟨gb204, 2, none⟩ = some (.int .i64 t199) ∧ w'.cell? ⟨gb204, 3, none⟩ = some (.int .i64 t200) ∧ w'.cell? ⟨gb204, 4, none⟩ = some (.int .i64 t201) ∧ w'.cell? ⟨gb204, 5, none⟩ = some (.int .i64 t202)) (ds := []) #[N_,N_,N_,N_,N_,N_,N_,N_,N_] (by kernel_rfl) rfl rfl tH (fun hHeld => ?_); refine with_tabW laws_FnNarrowing.tab7 laws_FnNarrowing.bits7 (fun HT_ HW_ => ?_)
  generalize w28.drew = w29 at BK204 BK214 HB hHeld ⊢
  refine take_ (i := 0) (N := some 38) (v := ?_) (a' := ?_) #[Y_,N_,N_,N_,N_,N_,N_,N_,N_] rfl rfl (take_ofW HT_.out HW_.out (by kernel_rfl)) (fun _ _ _ h => h) (Or.inl ⟨by rfl, ?_⟩) hHeld ?_ ?_
  rotate_left
  ·rintro w' ⟨s0, s1, s2, s3, s4, s5⟩
   go_simp
   with_reducible rfl
  rotate_left
  ·simp only [Act.put, List.setIfInBounds_toArray, List.set_cons_zero, List.set_cons_succ, i64_w, i32_w]
   rfl
  refine join_ (σ := Nat) 2 #[Y_,Y_,Y_,Y_,Y_,Y_,Y_,N_,N_] (fun s_ => [(39, .int .i64 t215), (40, .tuple #[.agg #[.int .i64 t216, .int .i64 t217, .int .i64 t218, .int .i64 t219, .int .i64 t220, .int .i64 t221], .bool t222]), (9, .pointer (some ⟨s_, 0, none⟩)), (37, .tuple #[.agg #[.int .i64 t216, .int .i64 t217, .int .i64 t218, .int .i64 t219, .int .i64 t220, .int .i64 t221], .bool t222]), (41, .agg #[.int .i64 t216, .int .i64 t217, .int .i64 t218, .int .i64 t219, .int .i64 t220, .int .i64 t221]), (42, .bool t222)]) (fun s_ w' => (w'.cell? ⟨gb204, 0, none⟩ = some (.int .i64 t197) ∧ w'.cell? ⟨gb204, 1, none⟩ = some (.int .i64 t198) ∧ w'.cell? ⟨gb204, 2, none⟩ = some (.int .i64 t199) ∧ w'.cell? ⟨gb204, 3, none⟩ = some (.int .i64 t200) ∧ w'.cell? ⟨gb204, 4, none⟩ = some (.int .i64 t201) ∧ w'.cell? ⟨gb204, 5, none⟩ = some (.int .i64 t202)) ∧ (w'.heap[gb204]? = some (.cells #[.int .i64 t197, .int .i64 t198, .int .i64 t199, .int .i64 t200, .int .i64 t201, .int .i64 t202] 26 (0, 0))) ∧ (w'.heap[gb214]? = some (.cells #[.int .i64 t207, .int .i64 t208, .int .i64 t209, .int .i64 t210, .int .i64 t211, .int .i64 t212] 26 (0, 0))) ∧ (w'.heap[s_]? = some (.cells #[.int .i64 0, .int .i64 0, .int .i64 0, .int .i64 0, .int .i64 0, .int .i64 0] 26 (0, 0))) ∧ (w.heap.size ≤ s_) ∧ (w.heap.size ≤ s_) ∧ (gb204 ≠ s_) ∧ (s_ ≠ gb204) ∧ (gb214 ≠ s_) ∧ (s_ ≠ gb214) ∧ (Below w.heap.size w w')) ?_ ?_
  ·rintro gb223 w32 ⟨hHeld, h0_, h1_, h2_, h3_, h4_, h5_, h6_, h7_, h8_, h9_⟩
   replace BK204 := Aside0.mk h0_
   replace BK214 := Aside0.mk h1_
   have BK223 := Aside0.mk h2_
   have GW223 := Aside0.mk h3_
   have GE223 := Aside0.mk h4_
   have NB204_223 := Aside0.mk h5_
   have NB223_204 := Aside0.mk h6_
   have NB214_223 := Aside0.mk h7_
   have NB223_214 := Aside0.mk h8_
   replace HB := Aside0.mk h9_
   clear h0_ h1_ h2_ h3_ h4_ h5_ h6_ h7_ h8_ h9_
   refine norm_ tM ?_
   refine one_ (i := 7) (N := none) #[Y_,Y_,Y_,Y_,Y_,Y_,Y_,Y_,N_] rfl rfl (one_of HT_.out (by kernel_rfl)) (by decide) (fun K hK => ?_)
   have hs33 : w32.cell? ⟨gb223, 0, none⟩ = some (.int .i64 0) := (blk_cell BK223.out 0).trans rfl
   have hfs33 := blk_frozen BK223.out 0
   have hns33_0 := NB204_223.out
   have hns33_1 := NB214_223.out
   have hms33_0 := NB223_204.out
   have hms33_1 := NB223_214.out
   have hs34 : w32.cell? ⟨gb223, 1, none⟩ = some (.int .i64 0) := (blk_cell BK223.out 1).trans rfl
   have hfs34 := blk_frozen BK223.out 1
   have hns34_0 := NB204_223.out
   have hns34_1 := NB214_223.out
   have hms34_0 := NB223_204.out
   have hms34_1 := NB223_214.out
   have hs35 : w32.cell? ⟨gb223, 2, none⟩ = some (.int .i64 0) := (blk_cell BK223.out 2).trans rfl
   have hfs35 := blk_frozen BK223.out 2
   have hns35_0 := NB204_223.out
   have hns35_1 := NB214_223.out
   have hms35_0 := NB223_204.out
   have hms35_1 := NB223_214.out
   have hs36 : w32.cell? ⟨gb223, 3, none⟩ = some (.int .i64 0) := (blk_cell BK223.out 3).trans rfl
   have hfs36 := blk_frozen BK223.out 3
   have hns36_0 := NB204_223.out
   have hns36_1 := NB214_223.out
   have hms36_0 := NB223_204.out
   have hms36_1 := NB223_214.out
   have hs37 : w32.cell? ⟨gb223, 4, none⟩ = some (.int .i64 0) := (blk_cell BK223.out 4).trans rfl
   have hfs37 := blk_frozen BK223.out 4
   have hns37_0 := NB204_223.out
   have hns37_1 := NB214_223.out
   have hms37_0 := NB223_204.out
   have hms37_1 := NB223_214.out
   have hs38 : w32.cell? ⟨gb223, 5, none⟩ = some (.int .i64 0) := (blk_cell BK223.out 5).trans rfl
   have hfs38 := blk_frozen BK223.out 5
   have hns38_0 := NB204_223.out
   have hns38_1 := NB214_223.out
   have hms38_0 := NB223_204.out
   have hms38_1 := NB223_214.out
   refine skip_ (w1 := ?_) (by rfl) rfl ?_ ?_
   rotate_left
   ·go_simp
    rfl
   refine hK.out _ _ ⟨((cell_far (p := ⟨gb223, _, none⟩) NB204_223.out _).trans (((cell_far (p := ⟨gb223, _, none⟩) NB204_223.out _).trans (((cell_far (p := ⟨gb223, _, none⟩) NB204_223.out _).trans (((cell_far (p := ⟨gb223, _, none⟩) NB204_223.out _).trans (((cell_far (p := ⟨gb223, _, none⟩) NB204_223.out _).trans (((cell_far (p := ⟨gb223, _, none⟩) NB204_223.out _).trans (hHeld.1)))))))))))), ((cell_far (p := ⟨gb223, _, none⟩) NB204_223.out _).trans (((cell_far (p := ⟨gb223, _, none⟩) NB204_223.out _).trans (((cell_far (p := ⟨gb223, _, none⟩) NB204_223.out _).trans (((cell_far (p := ⟨gb223, _, none⟩) NB204_223.out _).trans (((cell_far (p := ⟨gb223, _, none⟩) NB204_223.out _).trans (((cell_far (p := ⟨gb223, _, none⟩) NB204_223.out _).trans (hHeld.2.1)))))))))))), ((cell_far (p := ⟨gb223, _, none⟩) NB204_223.out _).trans (((cell_far (p := ⟨gb223, _, none⟩) NB204_223.out _).trans (((cell_far (p := ⟨gb223, _, none⟩) NB204_223.out _).trans (((cell_far (p := ⟨gb223, _, none⟩) NB204_223.out _).trans (((cell_far (p := ⟨gb223, _, none⟩) NB204_223.out _).trans (((cell_far (p := ⟨gb223, _, none⟩) NB204_223.out _).trans (hHeld.2.2.1)))))))))))), ((cell_far (p := ⟨gb223, _, none⟩) NB204_223.out _).trans (((cell_far (p := ⟨gb223, _, none⟩) NB204_223.out _).trans (((cell_far (p := ⟨gb223, _, none⟩) NB204_223.out _).trans (((cell_far (p := ⟨gb223, _, none⟩) NB204_223.out _).trans (((cell_far (p := ⟨gb223, _, none⟩) NB204_223.out _).trans (((cell_far (p := ⟨gb223, _, none⟩) NB204_223.out _).trans (hHeld.2.2.2.1)))))))))))), ((cell_far (p := ⟨gb223, _, none⟩) NB204_223.out _).trans (((cell_far (p := ⟨gb223, _, none⟩) NB204_223.out _).trans (((cell_far (p := ⟨gb223, _, none⟩) NB204_223.out _).trans (((cell_far (p := ⟨gb223, _, none⟩) NB204_223.out _).trans (((cell_far (p := ⟨gb223, _, none⟩) NB204_223.out _).trans (((cell_far (p := ⟨gb223, _, none⟩) NB204_223.out _).trans (hHeld.2.2.2.2.1)))))))))))), ((cell_far (p := ⟨gb223, _, none⟩) NB204_223.out _).trans (((cell_far (p := ⟨gb223, _, none⟩) NB204_223.out _).trans (((cell_far (p := ⟨gb223, _, none⟩) NB204_223.out _).trans (((cell_far (p := ⟨gb223, _, none⟩) NB204_223.out _).trans (((cell_far (p := ⟨gb223, _, none⟩) NB204_223.out _).trans (((cell_far (p := ⟨gb223, _, none⟩) NB204_223.out _).trans (hHeld.2.2.2.2.2))))))))))))⟩ (fun hHeld => ?_)
   clear hK K
   refine pure_ (i := 8) (N := some 10) #[Y_,Y_,Y_,Y_,Y_,Y_,Y_,Y_,Y_] rfl rfl (any_of HT_.out (by kernel_rfl)) (fun _ _ _ h => h) (Or.inl ⟨by rfl, tX⟩) tV ?_
   refine done_ (done_of HT_.out (by kernel_rfl)) ?_
   go_upto_region 8 with (fail)
   go_cut [61] (fun v61 wc => ∃ (kq : Nat) (x61_12 : Bool), v61 = .bool x61_12 ∧ Aside0 (laws_FnNarrowing.j0 kq l0 (Int.tmod t194 6) (wrap64 (1 + (Int.tmod t195 7))) t213 x61_12 t197 t198 t199 t200 t201 t202 t207 t208 t209 t210 t211 t212 = some r) ∧ Aside0 (kq ≤ k) ∧ Aside0 (wc.heap[gb204]? = some (.cells #[.int .i64 t197, .int .i64 t198, .int .i64 t199, .int .i64 t200, .int .i64 t201, .int .i64 t202] 26 (0, 0))) ∧ Aside0 (wc.heap[gb214]? = some (.cells #[.int .i64 t207, .int .i64 t208, .int .i64 t209, .int .i64 t210, .int .i64 t211, .int .i64 t212] 26 (0, 0))) ∧ Aside0 (wc.heap[gb223]? = some (.cells #[.int .i64 t216, .int .i64 t217, .int .i64 t218, .int .i64 t219, .int .i64 t220, .int .i64 t221] 26 (0, 0))) ∧ Aside0 (Below w.heap.size w wc))
   case first =>
    have H := HC13.out
    clear HC13
    by_cases c39 : t203 = true
    ·subst c39
     have H1 : (if (Int.tmod t194 6) > 0 then ((laws_at.f l0 2).bind fun t224 => (if (t213 != ((Go.bits .and .i64 (wrap64 (1 + (Int.tmod t195 7))) (Int.tmod t224 8)) != 0)) = true then (laws_FnNarrowing.j0 k l0 (Int.tmod t194 6) (wrap64 (1 + (Int.tmod t195 7))) t213 true t197 t198 t199 t200 t201 t202 t207 t208 t209 t210 t211 t212) else (laws_FnNarrowing.j0 k l0 (Int.tmod t194 6) (wrap64 (1 + (Int.tmod t195 7))) t213 t222 t197 t198 t199 t200 t201 t202 t207 t208 t209 t210 t211 t212))) else (if (t213 != false) = true then (laws_FnNarrowing.j0 k l0 (Int.tmod t194 6) (wrap64 (1 + (Int.tmod t195 7))) t213 true t197 t198 t199 t200 t201 t202 t207 t208 t209 t210 t211 t212) else (laws_FnNarrowing.j0 k l0 (Int.tmod t194 6) (wrap64 (1 + (Int.tmod t195 7))) t213 t222 t197 t198 t199 t200 t201 t202 t207 t208 t209 t210 t211 t212))) = some r := by rw [if_pos rfl] at H; exact H
     clear H
     have H := H1
     clear H1
     by_cases c40 : (Int.tmod t194 6) > 0
     ·rw [if_pos c40] at H
      have c40b0 : decide (0 < (Int.tmod t194 6)) = true := decide_eq_true c40
      clear c40
      (first | rw [c40b0] | (simp only [i64_w, i32_w]; rw [c40b0]) | skip)
      replace H := Option.bind_eq_some_iff.mp H
      obtain ⟨t224, A410, H⟩ := H
      try dsimp only at H
      have A41 := Aside0.mk A410
      clear A410
      by_cases c42 : (t213 != ((Go.bits .and .i64 (wrap64 (1 + (Int.tmod t195 7))) (Int.tmod t224 8)) != 0)) = true
      ·rw [if_pos c42] at H
       have c42b0 : (t213 != ((Go.bits .and .i64 (wrap64 (1 + (Int.tmod t195 7))) (Int.tmod t224 8)) != 0)) = true := c42
       (try (have c42b1 : decide (t213 = ((Go.bits .and .i64 (wrap64 (1 + (Int.tmod t195 7))) (Int.tmod t224 8)) != 0)) = false := by simpa using c42))
       (try (have c42b2 : (t213 == ((Go.bits .and .i64 (wrap64 (1 + (Int.tmod t195 7))) (Int.tmod t224 8)) != 0)) = false := by simpa using c42))
       (try (have c42b3 : ¬ (t213 = ((Go.bits .and .i64 (wrap64 (1 + (Int.tmod t195 7))) (Int.tmod t224 8)) != 0)) := by simpa using c42))
       clear c42
       have H' := Aside0.mk H
       clear H
       go_wp2_with (first | (go_at_call 16; (with_reducible refine (laws_at.calls _ _ l0 2 t224 _ ?side1 ?side2 A41.out).mono ?_); (case side1 => exact Kd.C_below HR0.out tB); (case side2 => exact HC0.out); rintro e w' ⟨rfl, ⟨nd, rfl⟩⟩))
       go_meet
       case rel => exact ⟨_, (true), tS, H', ⟨by first | omega | exact Nat.le_refl _⟩, ⟨kF NB204_223 BK204⟩, ⟨kF NB214_223 BK214⟩, ⟨by (with_reducible repeat (first | refine blk_drewN ?_ _ | refine blk_drew ?_ | refine blk_alloc ?_ _)); refine blk_put (cs := #[.int .i64 t216, .int .i64 t217, .int .i64 t218, .int .i64 t219, .int .i64 t220, .int .i64 0]) ?_ 5 _ rfl; (with_reducible repeat (first | refine blk_drewN ?_ _ | refine blk_drew ?_ | refine blk_alloc ?_ _)); refine blk_put (cs := #[.int .i64 t216, .int .i64 t217, .int .i64 t218, .int .i64 t219, .int .i64 0, .int .i64 0]) ?_ 4 _ rfl; (with_reducible repeat (first | refine blk_drewN ?_ _ | refine blk_drew ?_ | refine blk_alloc ?_ _)); refine blk_put (cs := #[.int .i64 t216, .int .i64 t217, .int .i64 t218, .int .i64 0, .int .i64 0, .int .i64 0]) ?_ 3 _ rfl; (with_reducible repeat (first | refine blk_drewN ?_ _ | refine blk_drew ?_ | refine blk_alloc ?_ _)); refine blk_put (cs := #[.int .i64 t216, .int .i64 t217, .int .i64 0, .int .i64 0, .int .i64 0, .int .i64 0]) ?_ 2 _ rfl; (with_reducible repeat (first | refine blk_drewN ?_ _ | refine blk_drew ?_ | refine blk_alloc ?_ _)); refine blk_put (cs := #[.int .i64 t216, .int .i64 0, .int .i64 0, .int .i64 0, .int .i64 0, .int .i64 0]) ?_ 1 _ rfl; (with_reducible repeat (first | refine blk_drewN ?_ _ | refine blk_drew ?_ | refine blk_alloc ?_ _)); refine blk_put (cs := #[.int .i64 0, .int .i64 0, .int .i64 0, .int .i64 0, .int .i64 0, .int .i64 0]) ?_ 0 _ rfl; (with_reducible repeat (first | refine blk_drewN ?_ _ | refine blk_drew ?_ | refine blk_alloc ?_ _)); exact BK223.out⟩, ⟨tB⟩⟩
      rw [if_neg c42] at H
      have c42b0 : (t213 != ((Go.bits .and .i64 (wrap64 (1 + (Int.tmod t195 7))) (Int.tmod t224 8)) != 0)) = false := by simpa using c42
      (try (have c42b1 : decide (t213 = ((Go.bits .and .i64 (wrap64 (1 + (Int.tmod t195 7))) (Int.tmod t224 8)) != 0)) = true := by simpa using c42))
      (try (have c42b2 : (t213 == ((Go.bits .and .i64 (wrap64 (1 + (Int.tmod t195 7))) (Int.tmod t224 8)) != 0)) = true := by simpa using c42))
      clear c42
      have H' := Aside0.mk H
      clear H
      go_wp2_with (first | (go_at_call 16; (with_reducible refine (laws_at.calls _ _ l0 2 t224 _ ?side1 ?side2 A41.out).mono ?_); (case side1 => exact Kd.C_below HR0.out tB); (case side2 => exact HC0.out); rintro e w' ⟨rfl, ⟨nd, rfl⟩⟩))
      go_meet
      case rel => exact ⟨_, (t222), tS, H', ⟨by first | omega | exact Nat.le_refl _⟩, ⟨kF NB204_223 BK204⟩, ⟨kF NB214_223 BK214⟩, ⟨by (with_reducible repeat (first | refine blk_drewN ?_ _ | refine blk_drew ?_ | refine blk_alloc ?_ _)); refine blk_put (cs := #[.int .i64 t216, .int .i64 t217, .int .i64 t218, .int .i64 t219, .int .i64 t220, .int .i64 0]) ?_ 5 _ rfl; (with_reducible repeat (first | refine blk_drewN ?_ _ | refine blk_drew ?_ | refine blk_alloc ?_ _)); refine blk_put (cs := #[.int .i64 t216, .int .i64 t217, .int .i64 t218, .int .i64 t219, .int .i64 0, .int .i64 0]) ?_ 4 _ rfl; (with_reducible repeat (first | refine blk_drewN ?_ _ | refine blk_drew ?_ | refine blk_alloc ?_ _)); refine blk_put (cs := #[.int .i64 t216, .int .i64 t217, .int .i64 t218, .int .i64 0, .int .i64 0, .int .i64 0]) ?_ 3 _ rfl; (with_reducible repeat (first | refine blk_drewN ?_ _ | refine blk_drew ?_ | refine blk_alloc ?_ _)); refine blk_put (cs := #[.int .i64 t216, .int .i64 t217, .int .i64 0, .int .i64 0, .int .i64 0, .int .i64 0]) ?_ 2 _ rfl; (with_reducible repeat (first | refine blk_drewN ?_ _ | refine blk_drew ?_ | refine blk_alloc ?_ _)); refine blk_put (cs := #[.int .i64 t216, .int .i64 0, .int .i64 0, .int .i64 0, .int .i64 0, .int .i64 0]) ?_ 1 _ rfl; (with_reducible repeat (first | refine blk_drewN ?_ _ | refine blk_drew ?_ | refine blk_alloc ?_ _)); refine blk_put (cs := #[.int .i64 0, .int .i64 0, .int .i64 0, .int .i64 0, .int .i64 0, .int .i64 0]) ?_ 0 _ rfl; (with_reducible repeat (first | refine blk_drewN ?_ _ | refine blk_drew ?_ | refine blk_alloc ?_ _)); exact BK223.out⟩, ⟨tB⟩⟩
     rw [if_neg c40] at H
     have c40b0 : decide (0 < (Int.tmod t194 6)) = false := decide_eq_false c40
     clear c40
     (first | rw [c40b0] | (simp only [i64_w, i32_w]; rw [c40b0]) | skip)
     by_cases c43 : (t213 != false) = true
     ·rw [if_pos c43] at H
      have c43b0 : (t213 != false) = true := c43
      (try (have c43b1 : decide (t213 = false) = false := by simpa using c43))
      (try (have c43b2 : (t213 == false) = false := by simpa using c43))
      (try (have c43b3 : ¬ (t213 = false) := by simpa using c43))
      clear c43
      have H' := Aside0.mk H
      clear H
      go_wp2
      go_meet
      case rel => exact ⟨_, (true), tS, H', ⟨by first | omega | exact Nat.le_refl _⟩, ⟨kF NB204_223 BK204⟩, ⟨kF NB214_223 BK214⟩, ⟨by (with_reducible repeat (first | refine blk_drewN ?_ _ | refine blk_drew ?_ | refine blk_alloc ?_ _)); refine blk_put (cs := #[.int .i64 t216, .int .i64 t217, .int .i64 t218, .int .i64 t219, .int .i64 t220, .int .i64 0]) ?_ 5 _ rfl; (with_reducible repeat (first | refine blk_drewN ?_ _ | refine blk_drew ?_ | refine blk_alloc ?_ _)); refine blk_put (cs := #[.int .i64 t216, .int .i64 t217, .int .i64 t218, .int .i64 t219, .int .i64 0, .int .i64 0]) ?_ 4 _ rfl; (with_reducible repeat (first | refine blk_drewN ?_ _ | refine blk_drew ?_ | refine blk_alloc ?_ _)); refine blk_put (cs := #[.int .i64 t216, .int .i64 t217, .int .i64 t218, .int .i64 0, .int .i64 0, .int .i64 0]) ?_ 3 _ rfl; (with_reducible repeat (first | refine blk_drewN ?_ _ | refine blk_drew ?_ | refine blk_alloc ?_ _)); refine blk_put (cs := #[.int .i64 t216, .int .i64 t217, .int .i64 0, .int .i64 0, .int .i64 0, .int .i64 0]) ?_ 2 _ rfl; (with_reducible repeat (first | refine blk_drewN ?_ _ | refine blk_drew ?_ | refine blk_alloc ?_ _)); refine blk_put (cs := #[.int .i64 t216, .int .i64 0, .int .i64 0, .int .i64 0, .int .i64 0, .int .i64 0]) ?_ 1 _ rfl; (with_reducible repeat (first | refine blk_drewN ?_ _ | refine blk_drew ?_ | refine blk_alloc ?_ _)); refine blk_put (cs := #[.int .i64 0, .int .i64 0, .int .i64 0, .int .i64 0, .int .i64 0, .int .i64 0]) ?_ 0 _ rfl; (with_reducible repeat (first | refine blk_drewN ?_ _ | refine blk_drew ?_ | refine blk_alloc ?_ _)); exact BK223.out⟩, ⟨tB⟩⟩
     rw [if_neg c43] at H
     have c43b0 : (t213 != false) = false := by simpa using c43
     (try (have c43b1 : decide (t213 = false) = true := by simpa using c43))
     (try (have c43b2 : (t213 == false) = true := by simpa using c43))
     clear c43
     have H' := Aside0.mk H
     clear H
     go_wp2
     go_meet
     case rel => exact ⟨_, (t222), tS, H', ⟨by first | omega | exact Nat.le_refl _⟩, ⟨kF NB204_223 BK204⟩, ⟨kF NB214_223 BK214⟩, ⟨by (with_reducible repeat (first | refine blk_drewN ?_ _ | refine blk_drew ?_ | refine blk_alloc ?_ _)); refine blk_put (cs := #[.int .i64 t216, .int .i64 t217, .int .i64 t218, .int .i64 t219, .int .i64 t220, .int .i64 0]) ?_ 5 _ rfl; (with_reducible repeat (first | refine blk_drewN ?_ _ | refine blk_drew ?_ | refine blk_alloc ?_ _)); refine blk_put (cs := #[.int .i64 t216, .int .i64 t217, .int .i64 t218, .int .i64 t219, .int .i64 0, .int .i64 0]) ?_ 4 _ rfl; (with_reducible repeat (first | refine blk_drewN ?_ _ | refine blk_drew ?_ | refine blk_alloc ?_ _)); refine blk_put (cs := #[.int .i64 t216, .int .i64 t217, .int .i64 t218, .int .i64 0, .int .i64 0, .int .i64 0]) ?_ 3 _ rfl; (with_reducible repeat (first | refine blk_drewN ?_ _ | refine blk_drew ?_ | refine blk_alloc ?_ _)); refine blk_put (cs := #[.int .i64 t216, .int .i64 t217, .int .i64 0, .int .i64 0, .int .i64 0, .int .i64 0]) ?_ 2 _ rfl; (with_reducible repeat (first | refine blk_drewN ?_ _ | refine blk_drew ?_ | refine blk_alloc ?_ _)); refine blk_put (cs := #[.int .i64 t216, .int .i64 0, .int .i64 0, .int .i64 0, .int .i64 0, .int .i64 0]) ?_ 1 _ rfl; (with_reducible repeat (first | refine blk_drewN ?_ _ | refine blk_drew ?_ | refine blk_alloc ?_ _)); refine blk_put (cs := #[.int .i64 0, .int .i64 0, .int .i64 0, .int .i64 0, .int .i64 0, .int .i64 0]) ?_ 0 _ rfl; (with_reducible repeat (first | refine blk_drewN ?_ _ | refine blk_drew ?_ | refine blk_alloc ?_ _)); exact BK223.out⟩, ⟨tB⟩⟩
    replace c39 := Bool.eq_false_iff.mpr c39
    subst c39
    have H1 : (laws_FnNarrowing.j0 k l0 (Int.tmod t194 6) (wrap64 (1 + (Int.tmod t195 7))) t213 true t197 t198 t199 t200 t201 t202 t207 t208 t209 t210 t211 t212) = some r := by rw [if_neg (show ¬ (false = true) by decide)] at H; exact H
    clear H
    have H := H1
    clear H1
    have H' := Aside0.mk H
    clear H
    go_wp2
    go_meet
    case rel => exact ⟨_, (true), tS, H', ⟨by first | omega | exact Nat.le_refl _⟩, ⟨kF NB204_223 BK204⟩, ⟨kF NB214_223 BK214⟩, ⟨by (with_reducible repeat (first | refine blk_drewN ?_ _ | refine blk_drew ?_ | refine blk_alloc ?_ _)); refine blk_put (cs := #[.int .i64 t216, .int .i64 t217, .int .i64 t218, .int .i64 t219, .int .i64 t220, .int .i64 0]) ?_ 5 _ rfl; (with_reducible repeat (first | refine blk_drewN ?_ _ | refine blk_drew ?_ | refine blk_alloc ?_ _)); refine blk_put (cs := #[.int .i64 t216, .int .i64 t217, .int .i64 t218, .int .i64 t219, .int .i64 0, .int .i64 0]) ?_ 4 _ rfl; (with_reducible repeat (first | refine blk_drewN ?_ _ | refine blk_drew ?_ | refine blk_alloc ?_ _)); refine blk_put (cs := #[.int .i64 t216, .int .i64 t217, .int .i64 t218, .int .i64 0, .int .i64 0, .int .i64 0]) ?_ 3 _ rfl; (with_reducible repeat (first | refine blk_drewN ?_ _ | refine blk_drew ?_ | refine blk_alloc ?_ _)); refine blk_put (cs := #[.int .i64 t216, .int .i64 t217, .int .i64 0, .int .i64 0, .int .i64 0, .int .i64 0]) ?_ 2 _ rfl; (with_reducible repeat (first | refine blk_drewN ?_ _ | refine blk_drew ?_ | refine blk_alloc ?_ _)); refine blk_put (cs := #[.int .i64 t216, .int .i64 0, .int .i64 0, .int .i64 0, .int .i64 0, .int .i64 0]) ?_ 1 _ rfl; (with_reducible repeat (first | refine blk_drewN ?_ _ | refine blk_drew ?_ | refine blk_alloc ?_ _)); refine blk_put (cs := #[.int .i64 0, .int .i64 0, .int .i64 0, .int .i64 0, .int .i64 0, .int .i64 0]) ?_ 0 _ rfl; (with_reducible repeat (first | refine blk_drewN ?_ _ | refine blk_drew ?_ | refine blk_alloc ?_ _)); exact BK223.out⟩, ⟨tB⟩⟩
   case rest =>
    clear HC13
    try clear c1
    try clear p2
    try clear c3
    try clear c4
    try clear p6
    try clear c18
    try clear c19
    try clear c39
    try clear c40
    try clear c40b0
    try clear c42
    try clear c42b0
    try clear c42b1
    try clear c42b2
    try clear c43
    try clear c43b0
    try clear c43b1
    try clear c43b2
    obtain ⟨kq, x61_12, rfl, HA, HJ12, BK204, BK214, BK223, HB⟩ := hcut
    cases kq with
    | zero => exact absurd HA.out (by simp [laws_FnNarrowing.j0])
    | succ kj12 =>
     have H := HA.out
     clear HA
     simp only [laws_FnNarrowing.j0] at H
     by_cases c44 : x61_12 = true
     ·subst c44
      have H1 : (some false) = some r := by rw [if_pos rfl] at H; exact H
      clear H
      have H := H1
      clear H1
      exact absurd ((Option.some.inj H).trans hT_) (by decide)
     replace c44 := Bool.eq_false_iff.mpr c44
     subst c44
     have H1 : (if t213 = true then ((spec_PublicKey.f 11).bind fun t229 => ((spec_PublicKey.f 13).bind fun t230 => ((impl_ChainScopes.f kj12 (([(⟨t197, t198, t199, t200, t201, t202⟩ : S26), (⟨t207, t208, t209, t210, t211, t212⟩ : S26)] : List (S26))) t229 t230 50).bind fun t231 => ((laws_at.f l0 2).bind fun t232 => (if t231 = (Go.bits .and .i64 (wrap64 (1 + (Int.tmod t195 7))) (Int.tmod t232 8)) then ((spec_PublicKey.f 11).bind fun t236 => ((spec_PublicKey.f 13).bind fun t237 => ((impl_ChainScopes.f kj12 (([(⟨t197, t198, t199, t200, t201, t202⟩ : S26), (⟨t207, t208, t209, t210, t211, t212⟩ : S26)] : List (S26))) t236 t237 51).bind fun t238 => (if t238 = 0 then (if t209 = 7 then (if t211 = (wrap64 ((Int.tmod t194 6) - 1)) then ((impl_GrantMessage.f t207 t208 t209 t210 t211 t212).bind fun t239 => ((spec_GrantMessage.f t207 t208 t209 t210 t211 t212).bind fun t242 => ((laws_sameInts.f kj12 t239 t242).bind fun t245 => (some t245)))) else (some false)) else ((impl_IsGrant.f kj12 t207 t208 7 t210 t211 t212).bind fun t246 => (if t246 = true then (some false) else (if t211 = (wrap64 ((Int.tmod t194 6) - 1)) then ((impl_GrantMessage.f t207 t208 t209 t210 t211 t212).bind fun t247 => ((spec_GrantMessage.f t207 t208 t209 t210 t211 t212).bind fun t250 => ((laws_sameInts.f kj12 t247 t250).bind fun t253 => (some t253)))) else (some false))))) else (some false))))) else (some false)))))) else (some (t207 == 0 && (t208 == 0 && (t209 == 0 && (t210 == 0 && (t211 == 0 && (t212 == 0)))))))) = some r := by rw [if_neg (show ¬ (false = true) by decide)] at H; exact H
     clear H
     have H := H1
     clear H1
     by_cases c45 : t213 = true
     ·subst c45
      have H1 : ((spec_PublicKey.f 11).bind fun t229 => ((spec_PublicKey.f 13).bind fun t230 => ((impl_ChainScopes.f kj12 (([(⟨t197, t198, t199, t200, t201, t202⟩ : S26), (⟨t207, t208, t209, t210, t211, t212⟩ : S26)] : List (S26))) t229 t230 50).bind fun t231 => ((laws_at.f l0 2).bind fun t232 => (if t231 = (Go.bits .and .i64 (wrap64 (1 + (Int.tmod t195 7))) (Int.tmod t232 8)) then ((spec_PublicKey.f 11).bind fun t236 => ((spec_PublicKey.f 13).bind fun t237 => ((impl_ChainScopes.f kj12 (([(⟨t197, t198, t199, t200, t201, t202⟩ : S26), (⟨t207, t208, t209, t210, t211, t212⟩ : S26)] : List (S26))) t236 t237 51).bind fun t238 => (if t238 = 0 then (if t209 = 7 then (if t211 = (wrap64 ((Int.tmod t194 6) - 1)) then ((impl_GrantMessage.f t207 t208 t209 t210 t211 t212).bind fun t239 => ((spec_GrantMessage.f t207 t208 t209 t210 t211 t212).bind fun t242 => ((laws_sameInts.f kj12 t239 t242).bind fun t245 => (some t245)))) else (some false)) else ((impl_IsGrant.f kj12 t207 t208 7 t210 t211 t212).bind fun t246 => (if t246 = true then (some false) else (if t211 = (wrap64 ((Int.tmod t194 6) - 1)) then ((impl_GrantMessage.f t207 t208 t209 t210 t211 t212).bind fun t247 => ((spec_GrantMessage.f t207 t208 t209 t210 t211 t212).bind fun t250 => ((laws_sameInts.f kj12 t247 t250).bind fun t253 => (some t253)))) else (some false))))) else (some false))))) else (some false)))))) = some r := by rw [if_pos rfl] at H; exact H
      clear H
      have H := H1
      clear H1
      obtain ⟨y226, hy226⟩ : ∃ y_ : List (S26), y_ = (([(⟨t197, t198, t199, t200, t201, t202⟩ : S26), (⟨t207, t208, t209, t210, t211, t212⟩ : S26)] : List (S26))) := ⟨_, rfl⟩
      replace H : ((spec_PublicKey.f 11).bind fun t229 => ((spec_PublicKey.f 13).bind fun t230 => ((impl_ChainScopes.f kj12 y226 t229 t230 50).bind fun t231 => ((laws_at.f l0 2).bind fun t232 => (if t231 = (Go.bits .and .i64 (wrap64 (1 + (Int.tmod t195 7))) (Int.tmod t232 8)) then ((spec_PublicKey.f 11).bind fun t236 => ((spec_PublicKey.f 13).bind fun t237 => ((impl_ChainScopes.f kj12 (([(⟨t197, t198, t199, t200, t201, t202⟩ : S26), (⟨t207, t208, t209, t210, t211, t212⟩ : S26)] : List (S26))) t236 t237 51).bind fun t238 => (if t238 = 0 then (if t209 = 7 then (if t211 = (wrap64 ((Int.tmod t194 6) - 1)) then ((impl_GrantMessage.f t207 t208 t209 t210 t211 t212).bind fun t239 => ((spec_GrantMessage.f t207 t208 t209 t210 t211 t212).bind fun t242 => ((laws_sameInts.f kj12 t239 t242).bind fun t245 => (some t245)))) else (some false)) else ((impl_IsGrant.f kj12 t207 t208 7 t210 t211 t212).bind fun t246 => (if t246 = true then (some false) else (if t211 = (wrap64 ((Int.tmod t194 6) - 1)) then ((impl_GrantMessage.f t207 t208 t209 t210 t211 t212).bind fun t247 => ((spec_GrantMessage.f t207 t208 t209 t210 t211 t212).bind fun t250 => ((laws_sameInts.f kj12 t247 t250).bind fun t253 => (some t253)))) else (some false))))) else (some false))))) else (some false)))))) = some r := by first | (rw [hy226]; with_reducible exact H) | (have H2_ := (Option.bind_some _ _).symm.trans H; rw [hy226]; with_reducible exact H2_) | (have H2_ := (Option.bind_some _ _).symm.trans H; with_reducible exact H2_) | with_reducible exact H | (rw [hy226]; exact H) | exact H
      have Ny226 := Aside0.mk hy226
      clear hy226
      replace H := Option.bind_eq_some_iff.mp H
      obtain ⟨t229, A460, H⟩ := H
      try dsimp only at H
      have A46 := Aside0.mk A460
      clear A460
      replace H := Option.bind_eq_some_iff.mp H
      obtain ⟨t230, A470, H⟩ := H
      try dsimp only at H
      have A47 := Aside0.mk A470
      clear A470
      replace H := Option.bind_eq_some_iff.mp H
      obtain ⟨t231, A480, H⟩ := H
      try dsimp only at H
      have A48 := Aside0.mk A480
      clear A480
      replace H := Option.bind_eq_some_iff.mp H
      obtain ⟨t232, A490, H⟩ := H
      try dsimp only at H
      have A49 := Aside0.mk A490
      clear A490
      by_cases c50 : t231 = (Go.bits .and .i64 (wrap64 (1 + (Int.tmod t195 7))) (Int.tmod t232 8))
      ·rw [if_pos c50] at H
       have c50b0 : (t231 == (Go.bits .and .i64 (wrap64 (1 + (Int.tmod t195 7))) (Int.tmod t232 8))) = true := beq_iff_eq.mpr c50
       have c50b1 : (t231 != (Go.bits .and .i64 (wrap64 (1 + (Int.tmod t195 7))) (Int.tmod t232 8))) = false := bne_eq_false_iff_eq.mpr c50
       clear c50
       obtain ⟨y233, hy233⟩ : ∃ y_ : List (S26), y_ = (([(⟨t197, t198, t199, t200, t201, t202⟩ : S26), (⟨t207, t208, t209, t210, t211, t212⟩ : S26)] : List (S26))) := ⟨_, rfl⟩
       replace H : ((spec_PublicKey.f 11).bind fun t236 => ((spec_PublicKey.f 13).bind fun t237 => ((impl_ChainScopes.f kj12 y233 t236 t237 51).bind fun t238 => (if t238 = 0 then (if t209 = 7 then (if t211 = (wrap64 ((Int.tmod t194 6) - 1)) then ((impl_GrantMessage.f t207 t208 t209 t210 t211 t212).bind fun t239 => ((spec_GrantMessage.f t207 t208 t209 t210 t211 t212).bind fun t242 => ((laws_sameInts.f kj12 t239 t242).bind fun t245 => (some t245)))) else (some false)) else ((impl_IsGrant.f kj12 t207 t208 7 t210 t211 t212).bind fun t246 => (if t246 = true then (some false) else (if t211 = (wrap64 ((Int.tmod t194 6) - 1)) then ((impl_GrantMessage.f t207 t208 t209 t210 t211 t212).bind fun t247 => ((spec_GrantMessage.f t207 t208 t209 t210 t211 t212).bind fun t250 => ((laws_sameInts.f kj12 t247 t250).bind fun t253 => (some t253)))) else (some false))))) else (some false))))) = some r := by first | (rw [hy233]; with_reducible exact H) | (have H2_ := (Option.bind_some _ _).symm.trans H; rw [hy233]; with_reducible exact H2_) | (have H2_ := (Option.bind_some _ _).symm.trans H; with_reducible exact H2_) | with_reducible exact H | (rw [hy233]; exact H) | exact H
       have Ny233 := Aside0.mk hy233
       clear hy233
       replace H := Option.bind_eq_some_iff.mp H
       obtain ⟨t236, A510, H⟩ := H
       try dsimp only at H
       have A51 := Aside0.mk A510
       clear A510
       replace H := Option.bind_eq_some_iff.mp H
       obtain ⟨t237, A520, H⟩ := H
       try dsimp only at H
       have A52 := Aside0.mk A520
       clear A520
       replace H := Option.bind_eq_some_iff.mp H
       obtain ⟨t238, A530, H⟩ := H
       try dsimp only at H
       have A53 := Aside0.mk A530
       clear A530
       by_cases c54 : t238 = 0
       ·rw [if_pos c54] at H
        have c54b0 : (t238 == 0) = true := beq_iff_eq.mpr c54
        have c54b1 : (t238 != 0) = false := bne_eq_false_iff_eq.mpr c54
        clear c54
        by_cases c55 : t209 = 7
        ·rw [if_pos c55] at H
         have c55b0 : (t209 == 7) = true := beq_iff_eq.mpr c55
         have c55b1 : (t209 != 7) = false := bne_eq_false_iff_eq.mpr c55
         clear c55
         by_cases c56 : t211 = (wrap64 ((Int.tmod t194 6) - 1))
         ·rw [if_pos c56] at H
          have c56b0 : (t211 == (wrap64 ((Int.tmod t194 6) - 1))) = true := beq_iff_eq.mpr c56
          have c56b1 : (t211 != (wrap64 ((Int.tmod t194 6) - 1))) = false := bne_eq_false_iff_eq.mpr c56
          clear c56
          replace H := Option.bind_eq_some_iff.mp H
          obtain ⟨t239, A570, H⟩ := H
          try dsimp only at H
          have A57 := Aside0.mk A570
          clear A570
          replace H := Option.bind_eq_some_iff.mp H
          obtain ⟨t242, A580, H⟩ := H
          try dsimp only at H
          have A58 := Aside0.mk A580
          clear A580
          replace H := Option.bind_eq_some_iff.mp H
          obtain ⟨t245, A590, H⟩ := H
          try dsimp only at H
          have A59 := Aside0.mk A590
          clear A590
          obtain rfl := Option.some.inj H
          have hnb60 := NB214_204.out
          have hnc60 := NB204_214.out
          have hnb61 := NB214_223.out
          have hnc61 := NB223_214.out
          obtain ⟨hcz62_0, hcz62_1, hcz62_2, hcz62_3, hcz62_4, hcz62_5, hfz62_0, hfz62_1, hfz62_2, hfz62_3, hfz62_4, hfz62_5⟩ := bc6 BK214.out
          try go_wp2_with (first | ((with_reducible refine gate_dst (N := 11) rfl ?_); (try (refine gate_guard (by rfl) ?_; dsimp only)); refine box_event ?hg (N := 11) ?hd (cs := #[.int .i64 0, .int .i64 0, .int .i64 0, .int .i64 0, .int .i64 0, .int .i64 0]) (t := 26) ?hr ?_; (case hd => rfl); (case hg => rfl); (case hr => exact tG); intro gb225 hg w63 hbox hb; have BK225 := Aside0.mk (hbox); have GW225 := gW HB hg; have GE225 := gW HB hg; replace HB := bH HB hb; have NB204_225 := nL BK204 hg; have NB225_204 := nR BK204 hg; replace BK204 := bB BK204 hb; have NB214_225 := nL BK214 hg; have NB225_214 := nR BK214 hg; replace BK214 := bB BK214 hb; have NB223_225 := nL BK223 hg; have NB225_223 := nR BK223 hg; replace BK223 := bB BK223 hb; clear hb hbox hg; have hnb64 := NB225_204.out; have hnc64 := NB204_225.out; have hnb65 := NB225_214.out; have hnc65 := NB214_225.out; have hnb66 := NB225_223.out; have hnc66 := NB223_225.out; obtain ⟨hcz67_0, hcz67_1, hcz67_2, hcz67_3, hcz67_4, hcz67_5, hfz67_0, hfz67_1, hfz67_2, hfz67_3, hfz67_4, hfz67_5⟩ := bc6 BK225.out))
          have n0_ : Aside0 ((((((((w63.setCell ⟨gb225, 0, none⟩ (.int .i64 t207)).setCell ⟨gb225, 1, none⟩ (.int .i64 t208)).setCell ⟨gb225, 2, none⟩ (.int .i64 t209)).setCell ⟨gb225, 3, none⟩ (.int .i64 t210)).setCell ⟨gb225, 4, none⟩ (.int .i64 t211)).setCell ⟨gb225, 5, none⟩ (.int .i64 t212)).setCell ⟨gb225, 2, none⟩ (.int .i64 7)).heap[gb204]? = some (.cells #[.int .i64 t197, .int .i64 t198, .int .i64 t199, .int .i64 t200, .int .i64 t201, .int .i64 t202] 26 (0, 0))) := ⟨kF NB204_225 BK204⟩
          have n1_ : Aside0 ((((((((w63.setCell ⟨gb225, 0, none⟩ (.int .i64 t207)).setCell ⟨gb225, 1, none⟩ (.int .i64 t208)).setCell ⟨gb225, 2, none⟩ (.int .i64 t209)).setCell ⟨gb225, 3, none⟩ (.int .i64 t210)).setCell ⟨gb225, 4, none⟩ (.int .i64 t211)).setCell ⟨gb225, 5, none⟩ (.int .i64 t212)).setCell ⟨gb225, 2, none⟩ (.int .i64 7)).heap[gb214]? = some (.cells #[.int .i64 t207, .int .i64 t208, .int .i64 t209, .int .i64 t210, .int .i64 t211, .int .i64 t212] 26 (0, 0))) := ⟨kF NB214_225 BK214⟩
          have n2_ : Aside0 ((((((((w63.setCell ⟨gb225, 0, none⟩ (.int .i64 t207)).setCell ⟨gb225, 1, none⟩ (.int .i64 t208)).setCell ⟨gb225, 2, none⟩ (.int .i64 t209)).setCell ⟨gb225, 3, none⟩ (.int .i64 t210)).setCell ⟨gb225, 4, none⟩ (.int .i64 t211)).setCell ⟨gb225, 5, none⟩ (.int .i64 t212)).setCell ⟨gb225, 2, none⟩ (.int .i64 7)).heap[gb223]? = some (.cells #[.int .i64 t216, .int .i64 t217, .int .i64 t218, .int .i64 t219, .int .i64 t220, .int .i64 t221] 26 (0, 0))) := ⟨kF NB223_225 BK223⟩
          have n3_ : Aside0 ((((((((w63.setCell ⟨gb225, 0, none⟩ (.int .i64 t207)).setCell ⟨gb225, 1, none⟩ (.int .i64 t208)).setCell ⟨gb225, 2, none⟩ (.int .i64 t209)).setCell ⟨gb225, 3, none⟩ (.int .i64 t210)).setCell ⟨gb225, 4, none⟩ (.int .i64 t211)).setCell ⟨gb225, 5, none⟩ (.int .i64 t212)).setCell ⟨gb225, 2, none⟩ (.int .i64 7)).heap[gb225]? = some (.cells #[.int .i64 t207, .int .i64 t208, .int .i64 7, .int .i64 t210, .int .i64 t211, .int .i64 t212] 26 (0, 0))) := ⟨by (with_reducible repeat (first | refine blk_drewN ?_ _ | refine blk_drew ?_ | refine blk_alloc ?_ _)); refine blk_put (cs := #[.int .i64 t207, .int .i64 t208, .int .i64 t209, .int .i64 t210, .int .i64 t211, .int .i64 t212]) ?_ 2 _ rfl; (with_reducible repeat (first | refine blk_drewN ?_ _ | refine blk_drew ?_ | refine blk_alloc ?_ _)); refine blk_put (cs := #[.int .i64 t207, .int .i64 t208, .int .i64 t209, .int .i64 t210, .int .i64 t211, .int .i64 0]) ?_ 5 _ rfl; (with_reducible repeat (first | refine blk_drewN ?_ _ | refine blk_drew ?_ | refine blk_alloc ?_ _)); refine blk_put (cs := #[.int .i64 t207, .int .i64 t208, .int .i64 t209, .int .i64 t210, .int .i64 0, .int .i64 0]) ?_ 4 _ rfl; (with_reducible repeat (first | refine blk_drewN ?_ _ | refine blk_drew ?_ | refine blk_alloc ?_ _)); refine blk_put (cs := #[.int .i64 t207, .int .i64 t208, .int .i64 t209, .int .i64 0, .int .i64 0, .int .i64 0]) ?_ 3 _ rfl; (with_reducible repeat (first | refine blk_drewN ?_ _ | refine blk_drew ?_ | refine blk_alloc ?_ _)); refine blk_put (cs := #[.int .i64 t207, .int .i64 t208, .int .i64 0, .int .i64 0, .int .i64 0, .int .i64 0]) ?_ 2 _ rfl; (with_reducible repeat (first | refine blk_drewN ?_ _ | refine blk_drew ?_ | refine blk_alloc ?_ _)); refine blk_put (cs := #[.int .i64 t207, .int .i64 0, .int .i64 0, .int .i64 0, .int .i64 0, .int .i64 0]) ?_ 1 _ rfl; (with_reducible repeat (first | refine blk_drewN ?_ _ | refine blk_drew ?_ | refine blk_alloc ?_ _)); refine blk_put (cs := #[.int .i64 0, .int .i64 0, .int .i64 0, .int .i64 0, .int .i64 0, .int .i64 0]) ?_ 0 _ rfl; (with_reducible repeat (first | refine blk_drewN ?_ _ | refine blk_drew ?_ | refine blk_alloc ?_ _)); exact BK225.out⟩
          have n4_ : Aside0 (Below w.heap.size w (((((((w63.setCell ⟨gb225, 0, none⟩ (.int .i64 t207)).setCell ⟨gb225, 1, none⟩ (.int .i64 t208)).setCell ⟨gb225, 2, none⟩ (.int .i64 t209)).setCell ⟨gb225, 3, none⟩ (.int .i64 t210)).setCell ⟨gb225, 4, none⟩ (.int .i64 t211)).setCell ⟨gb225, 5, none⟩ (.int .i64 t212)).setCell ⟨gb225, 2, none⟩ (.int .i64 7))) := ⟨tB⟩
          (try clear BK204)
          (try clear BK214)
          (try clear BK223)
          (try clear BK225)
          (try clear HB)
          generalize (((((((w63.setCell ⟨gb225, 0, none⟩ (.int .i64 t207)).setCell ⟨gb225, 1, none⟩ (.int .i64 t208)).setCell ⟨gb225, 2, none⟩ (.int .i64 t209)).setCell ⟨gb225, 3, none⟩ (.int .i64 t210)).setCell ⟨gb225, 4, none⟩ (.int .i64 t211)).setCell ⟨gb225, 5, none⟩ (.int .i64 t212)).setCell ⟨gb225, 2, none⟩ (.int .i64 7)) = w68 at n0_ n1_ n2_ n3_ n4_ ⊢
          have BK204 := n0_
          have BK214 := n1_
          have BK223 := n2_
          have BK225 := n3_
          have HB := n4_
          clear n0_ n1_ n2_ n3_ n4_
          replace BK204 := Aside0.mk (blk_drew BK204.out)
          replace BK214 := Aside0.mk (blk_drew BK214.out)
          replace BK223 := Aside0.mk (blk_drew BK223.out)
          replace BK225 := Aside0.mk (blk_drew BK225.out)
          replace HB := Aside0.mk (below_drew1 HB.out)
          refine start_ (n := 46) (S := fun w' => w'.cell? ⟨gb204, 0, none⟩ = some (.int .i64 t197) ∧ w'.cell? ⟨gb204, 1, none⟩ = some (.int .i64 t198) ∧ w'.cell? ⟨gb204, 2, none⟩ = some (.int .i64 t199) ∧ w'.cell? ⟨gb204, 3, none⟩ = some (.int .i64 t200) ∧ w'.cell? ⟨gb204, 4, none⟩ = some (.int .i64 t201) ∧ w'.cell? ⟨gb204, 5, none⟩ = some (.int .i64 t202) ∧ w'.cell? ⟨gb214, 0, none⟩ = some (.int .i64 t207) ∧ w'.cell? ⟨gb214, 1, none⟩ = some (.int .i64 t208) ∧ w'.cell? ⟨gb214, 2, none⟩ = some (.int .i64 t209) ∧ w'.cell? ⟨gb214, 3, none⟩ = some (.int .i64 t210) ∧ w'.cell? ⟨gb214, 4, none⟩ = some (.int .i64 t211) ∧ w'.cell? ⟨gb214, 5, none⟩ = some (.int .i64 t212)) (ds := []) #[N_,N_,N_,N_,N_,N_,N_,N_,N_,N_,N_,N_,N_,N_,N_,N_,N_,N_,N_,N_,N_,N_,N_,N_,N_,N_,N_,N_,N_,N_,N_,N_,N_,N_,N_,N_,N_,N_,N_,N_,N_,N_,N_,N_,N_,N_] (by kernel_rfl) rfl rfl tH (fun hHeld => ?_); refine with_tabW laws_FnNarrowing.tab14 laws_FnNarrowing.bits14 (fun HT_ HW_ => ?_)
          generalize w68.drew = w69 at BK204 BK214 BK223 BK225 HB hHeld ⊢
          refine pure_ (i := 6) (N := some 75) #[N_,N_,N_,N_,N_,N_,Y_,N_,N_,N_,N_,N_,N_,N_,N_,N_,N_,N_,N_,N_,N_,N_,N_,N_,N_,N_,N_,N_,N_,N_,N_,N_,N_,N_,N_,N_,N_,N_,N_,N_,N_,N_,N_,N_,N_,N_] rfl rfl (any_of HT_.out (by kernel_rfl)) (fun _ _ _ h => h) (Or.inl ⟨by rfl, tX⟩) tV ?_
          refine pure_ (i := 7) (N := some 76) #[N_,N_,N_,N_,N_,N_,Y_,Y_,N_,N_,N_,N_,N_,N_,N_,N_,N_,N_,N_,N_,N_,N_,N_,N_,N_,N_,N_,N_,N_,N_,N_,N_,N_,N_,N_,N_,N_,N_,N_,N_,N_,N_,N_,N_,N_,N_] rfl rfl (any_of HT_.out (by kernel_rfl)) (fun _ _ _ h => h) (Or.inl ⟨by rfl, tX⟩) tV ?_
          refine take_ (i := 0) (N := some 69) (v := ?_) (a' := ?_) #[Y_,N_,N_,N_,N_,N_,Y_,Y_,N_,N_,N_,N_,N_,N_,N_,N_,N_,N_,N_,N_,N_,N_,N_,N_,N_,N_,N_,N_,N_,N_,N_,N_,N_,N_,N_,N_,N_,N_,N_,N_,N_,N_,N_,N_,N_,N_] rfl rfl (take_ofW HT_.out HW_.out (by kernel_rfl)) (fun _ _ _ h => h) (Or.inl ⟨by rfl, ?_⟩) hHeld ?_ ?_
          rotate_left
          ·rintro w' ⟨s0, s1, s2, s3, s4, s5, s6, s7, s8, s9, s10, s11⟩
           go_simp
           with_reducible rfl
          rotate_left
          ·simp only [Act.put, List.setIfInBounds_toArray, List.set_cons_zero, List.set_cons_succ, i64_w, i32_w]
           rfl
          refine take_ (i := 1) (N := some 70) (v := ?_) (a' := ?_) #[Y_,Y_,N_,N_,N_,N_,Y_,Y_,N_,N_,N_,N_,N_,N_,N_,N_,N_,N_,N_,N_,N_,N_,N_,N_,N_,N_,N_,N_,N_,N_,N_,N_,N_,N_,N_,N_,N_,N_,N_,N_,N_,N_,N_,N_,N_,N_] rfl rfl (take_ofW HT_.out HW_.out (by kernel_rfl)) (fun _ _ _ h => h) (Or.inl ⟨by rfl, ?_⟩) hHeld ?_ ?_
          rotate_left
          ·rintro w' ⟨s0, s1, s2, s3, s4, s5, s6, s7, s8, s9, s10, s11⟩
           go_simp
           with_reducible rfl
          rotate_left
          ·simp only [Act.put, List.setIfInBounds_toArray, List.set_cons_zero, List.set_cons_succ, i64_w, i32_w]
           rfl
          refine join_ (σ := Value × Value) 28 #[Y_,Y_,Y_,Y_,Y_,Y_,Y_,Y_,Y_,Y_,Y_,Y_,Y_,Y_,Y_,Y_,Y_,Y_,N_,N_,N_,N_,N_,N_,N_,N_,N_,N_,N_,N_,N_,N_,N_,N_,N_,N_,N_,N_,N_,N_,N_,N_,N_,N_,N_,N_] (fun s_ => [(71, s_.1), (72, .int .i64 t229), (73, .int .i64 t230), (74, .int .i64 t231), (77, .int .i64 t232), (84, s_.2), (85, .int .i64 t236), (86, .int .i64 t237), (78, .int .i64 (Int.tmod t232 8)), (79, .int .i64 (Go.bits .and .i64 (wrap64 (1 + (Int.tmod t195 7))) (Int.tmod t232 8))), (80, .bool true), (81, .bool true), (82, .agg #[.int .i64 t197, .int .i64 t198, .int .i64 t199, .int .i64 t200, .int .i64 t201, .int .i64 t202]), (83, .agg #[.int .i64 t207, .int .i64 t208, .int .i64 t209, .int .i64 t210, .int .i64 t211, .int .i64 t212])]) (fun s_ w' => (w'.cell? ⟨gb204, 0, none⟩ = some (.int .i64 t197) ∧ w'.cell? ⟨gb204, 1, none⟩ = some (.int .i64 t198) ∧ w'.cell? ⟨gb204, 2, none⟩ = some (.int .i64 t199) ∧ w'.cell? ⟨gb204, 3, none⟩ = some (.int .i64 t200) ∧ w'.cell? ⟨gb204, 4, none⟩ = some (.int .i64 t201) ∧ w'.cell? ⟨gb204, 5, none⟩ = some (.int .i64 t202) ∧ w'.cell? ⟨gb214, 0, none⟩ = some (.int .i64 t207) ∧ w'.cell? ⟨gb214, 1, none⟩ = some (.int .i64 t208) ∧ w'.cell? ⟨gb214, 2, none⟩ = some (.int .i64 t209) ∧ w'.cell? ⟨gb214, 3, none⟩ = some (.int .i64 t210) ∧ w'.cell? ⟨gb214, 4, none⟩ = some (.int .i64 t211) ∧ w'.cell? ⟨gb214, 5, none⟩ = some (.int .i64 t212)) ∧ (Kd.R k26 26 w' w.heap.size (fun k_ => some k_ ≠ (s_.2 : Value).ownBlock ∧ k_ ≠ gb204 ∧ k_ ≠ gb214 ∧ k_ ≠ gb223 ∧ k_ ≠ gb225) s_.1 y226) ∧ (Kd.R k26 26 w' w.heap.size (fun k_ => some k_ ≠ (s_.1 : Value).ownBlock ∧ k_ ≠ gb204 ∧ k_ ≠ gb214 ∧ k_ ≠ gb223 ∧ k_ ≠ gb225) s_.2 y233) ∧ (w'.heap[gb204]? = some (.cells #[.int .i64 t197, .int .i64 t198, .int .i64 t199, .int .i64 t200, .int .i64 t201, .int .i64 t202] 26 (0, 0))) ∧ (w'.heap[gb214]? = some (.cells #[.int .i64 t207, .int .i64 t208, .int .i64 t209, .int .i64 t210, .int .i64 t211, .int .i64 t212] 26 (0, 0))) ∧ (w'.heap[gb223]? = some (.cells #[.int .i64 t216, .int .i64 t217, .int .i64 t218, .int .i64 t219, .int .i64 t220, .int .i64 t221] 26 (0, 0))) ∧ (w'.heap[gb225]? = some (.cells #[.int .i64 t207, .int .i64 t208, .int .i64 7, .int .i64 t210, .int .i64 t211, .int .i64 t212] 26 (0, 0))) ∧ (Below w.heap.size w w')) ?_ ?_
          ·rintro ⟨v227, v234⟩ w76 hS_
           dsimp only at hS_
           obtain ⟨hHeld, h0_, h1_, h2_, h3_, h4_, h5_, h6_⟩ := hS_
           have HO228 := Aside0.mk h0_
           have HO235 := Aside0.mk h1_
           replace BK204 := Aside0.mk h2_
           replace BK214 := Aside0.mk h3_
           replace BK223 := Aside0.mk h4_
           replace BK225 := Aside0.mk h5_
           replace HB := Aside0.mk h6_
           clear h0_ h1_ h2_ h3_ h4_ h5_ h6_
           obtain ⟨Ao77, co77, eo77⟩ := Kd.R_slice HO235.out
           (first | subst eo77 | (injection eo77 with f1_ f2_ f3_; have f4_ := f1_.symm; have f5_ := f3_.symm; clear f1_ f2_ f3_; subst f4_; subst f5_))
           refine norm_ tM ?_
           refine one_ (i := 18) (N := some 87) #[Y_,Y_,Y_,Y_,Y_,Y_,Y_,Y_,Y_,Y_,Y_,Y_,Y_,Y_,Y_,Y_,Y_,Y_,Y_,N_,N_,N_,N_,N_,N_,N_,N_,N_,N_,N_,N_,N_,N_,N_,N_,N_,N_,N_,N_,N_,N_,N_,N_,N_,N_,N_] rfl rfl (one_of HT_.out (by kernel_rfl)) (by decide) (fun K hK => ?_)
           refine goes_ Try.func20 (by kernel_rfl) rfl #[.slice Ao77 y233.length co77, .int .i64 t236, .int .i64 t237, .int .i64 51] (by rfl) rfl rfl tL ?_
           with_reducible refine (impl_ChainScopes.calls kj12 _ _ y233 t236 t237 51 t238 _ ?side1 ?side2 A53.out).mono ?_
           (case side1 => repeat (first | exact (Kd.R_reads' HO235.out).2.2 | (with_reducible refine Kd.C_alloc ?_ _) | (with_reducible refine Kd.C_drewN ?_ _) | (with_reducible refine Kd.C_drew ?_)))
           (case side2 => exact (Kd.R_reads' HO235.out).2.1)
           rintro e w78 ⟨rfl, hb⟩
           refine ⟨_, rfl, ?_⟩
           replace HO228 := Aside0.mk (Kd.R_below (tR HO228) hb)
           replace HO235 := Aside0.mk (Kd.R_below (tR HO235) hb)
           replace BK204 := bB BK204 hb
           replace BK214 := bB BK214 hb
           replace BK223 := bB BK223 hb
           replace BK225 := bB BK225 hb
           replace HB := bH HB hb
           (try clear hb)
           (try clear hb2)
           (try clear hk)
           (try clear hi)
           refine hK.out _ _ tH (fun hHeld => ?_)
           clear hK K
           refine norm_ (tV : Act.put _ (some 87) _ = _) ?_
           refine pure_ (i := 19) (N := some 88) #[Y_,Y_,Y_,Y_,Y_,Y_,Y_,Y_,Y_,Y_,Y_,Y_,Y_,Y_,Y_,Y_,Y_,Y_,Y_,Y_,N_,N_,N_,N_,N_,N_,N_,N_,N_,N_,N_,N_,N_,N_,N_,N_,N_,N_,N_,N_,N_,N_,N_,N_,N_,N_] rfl rfl (any_of HT_.out (by kernel_rfl)) (fun _ _ _ h => h) (Or.inl ⟨by rfl, tX⟩) tV ?_
           refine pure_ (i := 20) (N := some 89) #[Y_,Y_,Y_,Y_,Y_,Y_,Y_,Y_,Y_,Y_,Y_,Y_,Y_,Y_,Y_,Y_,Y_,Y_,Y_,Y_,Y_,N_,N_,N_,N_,N_,N_,N_,N_,N_,N_,N_,N_,N_,N_,N_,N_,N_,N_,N_,N_,N_,N_,N_,N_,N_] rfl rfl (any_of HT_.out (by kernel_rfl)) (fun _ _ _ h => h) (Or.inl ⟨by rfl, tX⟩) tV ?_
           refine pure_ (i := 21) (N := some 90) #[Y_,Y_,Y_,Y_,Y_,Y_,Y_,Y_,Y_,Y_,Y_,Y_,Y_,Y_,Y_,Y_,Y_,Y_,Y_,Y_,Y_,Y_,N_,N_,N_,N_,N_,N_,N_,N_,N_,N_,N_,N_,N_,N_,N_,N_,N_,N_,N_,N_,N_,N_,N_,N_] rfl rfl (any_of HT_.out (by kernel_rfl)) (fun _ _ _ h => h) (Or.inl ⟨by rfl, tX⟩) tV ?_
           refine pure_ (i := 22) (N := some 91) #[Y_,Y_,Y_,Y_,Y_,Y_,Y_,Y_,Y_,Y_,Y_,Y_,Y_,Y_,Y_,Y_,Y_,Y_,Y_,Y_,Y_,Y_,Y_,N_,N_,N_,N_,N_,N_,N_,N_,N_,N_,N_,N_,N_,N_,N_,N_,N_,N_,N_,N_,N_,N_,N_] rfl rfl (any_of HT_.out (by kernel_rfl)) (fun _ _ _ h => h) (Or.inl ⟨by rfl, tX⟩) tV ?_
           refine take_ (i := 23) (N := some 92) (v := ?_) (a' := ?_) #[Y_,Y_,Y_,Y_,Y_,Y_,Y_,Y_,Y_,Y_,Y_,Y_,Y_,Y_,Y_,Y_,Y_,Y_,Y_,Y_,Y_,Y_,Y_,Y_,N_,N_,N_,N_,N_,N_,N_,N_,N_,N_,N_,N_,N_,N_,N_,N_,N_,N_,N_,N_,N_,N_] rfl rfl (take_ofW HT_.out HW_.out (by kernel_rfl)) (fun _ _ _ h => h) (Or.inl ⟨by rfl, ?_⟩) hHeld ?_ ?_
           rotate_left
           ·rintro w' ⟨s0, s1, s2, s3, s4, s5, s6, s7, s8, s9, s10, s11⟩
            go_simp
            with_reducible rfl
           rotate_left
           ·simp only [Act.put, List.setIfInBounds_toArray, List.set_cons_zero, List.set_cons_succ, i64_w, i32_w]
            rfl
           refine pure_ (i := 24) (N := some 93) #[Y_,Y_,Y_,Y_,Y_,Y_,Y_,Y_,Y_,Y_,Y_,Y_,Y_,Y_,Y_,Y_,Y_,Y_,Y_,Y_,Y_,Y_,Y_,Y_,Y_,N_,N_,N_,N_,N_,N_,N_,N_,N_,N_,N_,N_,N_,N_,N_,N_,N_,N_,N_,N_,N_] rfl rfl (any_of HT_.out (by kernel_rfl)) (fun _ _ _ h => h) (Or.inl ⟨by rfl, tX⟩) tV ?_
           refine pure_ (i := 25) (N := some 94) #[Y_,Y_,Y_,Y_,Y_,Y_,Y_,Y_,Y_,Y_,Y_,Y_,Y_,Y_,Y_,Y_,Y_,Y_,Y_,Y_,Y_,Y_,Y_,Y_,Y_,Y_,N_,N_,N_,N_,N_,N_,N_,N_,N_,N_,N_,N_,N_,N_,N_,N_,N_,N_,N_,N_] rfl rfl (any_of HT_.out (by kernel_rfl)) (fun _ _ _ h => h) (Or.inl ⟨by rfl, tX⟩) tV ?_
           refine pure_ (i := 26) (N := some 95) (v := undef) (a' := ?_) #[Y_,Y_,Y_,Y_,Y_,Y_,Y_,Y_,Y_,Y_,Y_,Y_,Y_,Y_,Y_,Y_,Y_,Y_,Y_,Y_,Y_,Y_,Y_,Y_,Y_,Y_,Y_,N_,N_,N_,N_,N_,N_,N_,N_,N_,N_,N_,N_,N_,N_,N_,N_,N_,N_,N_] rfl rfl (any_of HT_.out (by kernel_rfl)) (fun _ _ _ h => h) (Or.inr ⟨by rfl, rfl⟩) ?_ ?_
           rotate_left
           ·simp only [Act.put, List.setIfInBounds_toArray, List.set_cons_zero, List.set_cons_succ, i64_w, i32_w]
            rfl
           refine pure_ (i := 27) (N := some 96) (v := undef) (a' := ?_) #[Y_,Y_,Y_,Y_,Y_,Y_,Y_,Y_,Y_,Y_,Y_,Y_,Y_,Y_,Y_,Y_,Y_,Y_,Y_,Y_,Y_,Y_,Y_,Y_,Y_,Y_,Y_,Y_,N_,N_,N_,N_,N_,N_,N_,N_,N_,N_,N_,N_,N_,N_,N_,N_,N_,N_] rfl rfl (any_of HT_.out (by kernel_rfl)) (fun _ _ _ h => h) (Or.inr ⟨by rfl, rfl⟩) ?_ ?_
           rotate_left
           ·simp only [Act.put, List.setIfInBounds_toArray, List.set_cons_zero, List.set_cons_succ, i64_w, i32_w]
            rfl
           refine pure_ (i := 28) (N := some 97) (v := undef) (a' := ?_) #[Y_,Y_,Y_,Y_,Y_,Y_,Y_,Y_,Y_,Y_,Y_,Y_,Y_,Y_,Y_,Y_,Y_,Y_,Y_,Y_,Y_,Y_,Y_,Y_,Y_,Y_,Y_,Y_,Y_,N_,N_,N_,N_,N_,N_,N_,N_,N_,N_,N_,N_,N_,N_,N_,N_,N_] rfl rfl (any_of HT_.out (by kernel_rfl)) (fun _ _ _ h => h) (Or.inr ⟨by rfl, rfl⟩) ?_ ?_
           rotate_left
           ·simp only [Act.put, List.setIfInBounds_toArray, List.set_cons_zero, List.set_cons_succ, i64_w, i32_w]
            rfl
           refine pure_ (i := 29) (N := some 98) #[Y_,Y_,Y_,Y_,Y_,Y_,Y_,Y_,Y_,Y_,Y_,Y_,Y_,Y_,Y_,Y_,Y_,Y_,Y_,Y_,Y_,Y_,Y_,Y_,Y_,Y_,Y_,Y_,Y_,Y_,N_,N_,N_,N_,N_,N_,N_,N_,N_,N_,N_,N_,N_,N_,N_,N_] rfl rfl (any_of HT_.out (by kernel_rfl)) (fun _ _ _ h => h) (Or.inl ⟨by rfl, tX⟩) tV ?_
           refine pure_ (i := 30) (N := some 99) #[Y_,Y_,Y_,Y_,Y_,Y_,Y_,Y_,Y_,Y_,Y_,Y_,Y_,Y_,Y_,Y_,Y_,Y_,Y_,Y_,Y_,Y_,Y_,Y_,Y_,Y_,Y_,Y_,Y_,Y_,Y_,N_,N_,N_,N_,N_,N_,N_,N_,N_,N_,N_,N_,N_,N_,N_] rfl rfl (any_of HT_.out (by kernel_rfl)) (fun _ _ _ h => h) (Or.inl ⟨by rfl, tX⟩) tV ?_
           refine pure_ (i := 31) (N := some 100) #[Y_,Y_,Y_,Y_,Y_,Y_,Y_,Y_,Y_,Y_,Y_,Y_,Y_,Y_,Y_,Y_,Y_,Y_,Y_,Y_,Y_,Y_,Y_,Y_,Y_,Y_,Y_,Y_,Y_,Y_,Y_,Y_,N_,N_,N_,N_,N_,N_,N_,N_,N_,N_,N_,N_,N_,N_] rfl rfl (any_of HT_.out (by kernel_rfl)) (fun _ _ _ h => h) (Or.inl ⟨by rfl, tX⟩) tV ?_
           refine pure_ (i := 32) (N := some 101) #[Y_,Y_,Y_,Y_,Y_,Y_,Y_,Y_,Y_,Y_,Y_,Y_,Y_,Y_,Y_,Y_,Y_,Y_,Y_,Y_,Y_,Y_,Y_,Y_,Y_,Y_,Y_,Y_,Y_,Y_,Y_,Y_,Y_,N_,N_,N_,N_,N_,N_,N_,N_,N_,N_,N_,N_,N_] rfl rfl (any_of HT_.out (by kernel_rfl)) (fun _ _ _ h => h) (Or.inl ⟨by rfl, tX⟩) tV ?_
           refine pure_ (i := 34) (N := some 103) #[Y_,Y_,Y_,Y_,Y_,Y_,Y_,Y_,Y_,Y_,Y_,Y_,Y_,Y_,Y_,Y_,Y_,Y_,Y_,Y_,Y_,Y_,Y_,Y_,Y_,Y_,Y_,Y_,Y_,Y_,Y_,Y_,Y_,N_,Y_,N_,N_,N_,N_,N_,N_,N_,N_,N_,N_,N_] rfl rfl (any_of HT_.out (by kernel_rfl)) (fun _ _ _ h => h) (Or.inl ⟨by rfl, tX⟩) tV ?_
           refine pure_ (i := 35) (N := some 104) #[Y_,Y_,Y_,Y_,Y_,Y_,Y_,Y_,Y_,Y_,Y_,Y_,Y_,Y_,Y_,Y_,Y_,Y_,Y_,Y_,Y_,Y_,Y_,Y_,Y_,Y_,Y_,Y_,Y_,Y_,Y_,Y_,Y_,N_,Y_,Y_,N_,N_,N_,N_,N_,N_,N_,N_,N_,N_] rfl rfl (any_of HT_.out (by kernel_rfl)) (fun _ _ _ h => h) (Or.inl ⟨by rfl, tX⟩) tV ?_
           refine take_ (i := 33) (N := some 102) (v := ?_) (a' := ?_) #[Y_,Y_,Y_,Y_,Y_,Y_,Y_,Y_,Y_,Y_,Y_,Y_,Y_,Y_,Y_,Y_,Y_,Y_,Y_,Y_,Y_,Y_,Y_,Y_,Y_,Y_,Y_,Y_,Y_,Y_,Y_,Y_,Y_,Y_,Y_,Y_,N_,N_,N_,N_,N_,N_,N_,N_,N_,N_] rfl rfl (take_ofW HT_.out HW_.out (by kernel_rfl)) (fun _ _ _ h => h) (Or.inl ⟨by rfl, ?_⟩) hHeld ?_ ?_
           rotate_left
           ·rintro w' ⟨s0, s1, s2, s3, s4, s5, s6, s7, s8, s9, s10, s11⟩
            go_simp
            with_reducible rfl
           rotate_left
           ·simp only [Act.put, List.setIfInBounds_toArray, List.set_cons_zero, List.set_cons_succ, i64_w, i32_w]
            rfl
           refine pure_ (i := 36) (N := some 105) #[Y_,Y_,Y_,Y_,Y_,Y_,Y_,Y_,Y_,Y_,Y_,Y_,Y_,Y_,Y_,Y_,Y_,Y_,Y_,Y_,Y_,Y_,Y_,Y_,Y_,Y_,Y_,Y_,Y_,Y_,Y_,Y_,Y_,Y_,Y_,Y_,Y_,N_,N_,N_,N_,N_,N_,N_,N_,N_] rfl rfl (any_of HT_.out (by kernel_rfl)) (fun _ _ _ h => h) (Or.inl ⟨by rfl, tX⟩) tV ?_
           refine pure_ (i := 37) (N := some 106) #[Y_,Y_,Y_,Y_,Y_,Y_,Y_,Y_,Y_,Y_,Y_,Y_,Y_,Y_,Y_,Y_,Y_,Y_,Y_,Y_,Y_,Y_,Y_,Y_,Y_,Y_,Y_,Y_,Y_,Y_,Y_,Y_,Y_,Y_,Y_,Y_,Y_,Y_,N_,N_,N_,N_,N_,N_,N_,N_] rfl rfl (any_of HT_.out (by kernel_rfl)) (fun _ _ _ h => h) (Or.inl ⟨by rfl, tX⟩) tV ?_
           refine pure_ (i := 38) (N := some 107) #[Y_,Y_,Y_,Y_,Y_,Y_,Y_,Y_,Y_,Y_,Y_,Y_,Y_,Y_,Y_,Y_,Y_,Y_,Y_,Y_,Y_,Y_,Y_,Y_,Y_,Y_,Y_,Y_,Y_,Y_,Y_,Y_,Y_,Y_,Y_,Y_,Y_,Y_,Y_,N_,N_,N_,N_,N_,N_,N_] rfl rfl (any_of HT_.out (by kernel_rfl)) (fun _ _ _ h => h) (Or.inl ⟨by rfl, tX⟩) tV ?_
           refine take_ (i := 39) (N := some 108) (v := ?_) (a' := ?_) #[Y_,Y_,Y_,Y_,Y_,Y_,Y_,Y_,Y_,Y_,Y_,Y_,Y_,Y_,Y_,Y_,Y_,Y_,Y_,Y_,Y_,Y_,Y_,Y_,Y_,Y_,Y_,Y_,Y_,Y_,Y_,Y_,Y_,Y_,Y_,Y_,Y_,Y_,Y_,Y_,N_,N_,N_,N_,N_,N_] rfl rfl (take_ofW HT_.out HW_.out (by kernel_rfl)) (fun _ _ _ h => h) (Or.inl ⟨by rfl, ?_⟩) hHeld ?_ ?_
           rotate_left
           ·rintro w' ⟨s0, s1, s2, s3, s4, s5, s6, s7, s8, s9, s10, s11⟩
            go_simp
            with_reducible rfl
           rotate_left
           ·simp only [Act.put, List.setIfInBounds_toArray, List.set_cons_zero, List.set_cons_succ, i64_w, i32_w]
            rfl
           refine take_ (i := 41) (N := some 110) (v := ?_) (a' := ?_) #[Y_,Y_,Y_,Y_,Y_,Y_,Y_,Y_,Y_,Y_,Y_,Y_,Y_,Y_,Y_,Y_,Y_,Y_,Y_,Y_,Y_,Y_,Y_,Y_,Y_,Y_,Y_,Y_,Y_,Y_,Y_,Y_,Y_,Y_,Y_,Y_,Y_,Y_,Y_,Y_,N_,Y_,N_,N_,N_,N_] rfl rfl (take_ofW HT_.out HW_.out (by kernel_rfl)) (fun _ _ _ h => h) (Or.inl ⟨by rfl, ?_⟩) hHeld ?_ ?_
           rotate_left
           ·rintro w' ⟨s0, s1, s2, s3, s4, s5, s6, s7, s8, s9, s10, s11⟩
            go_simp
            with_reducible rfl
           rotate_left
           ·simp only [Act.put, List.setIfInBounds_toArray, List.set_cons_zero, List.set_cons_succ, i64_w, i32_w]
            rfl
           refine one_ (i := 40) (N := some 109) #[Y_,Y_,Y_,Y_,Y_,Y_,Y_,Y_,Y_,Y_,Y_,Y_,Y_,Y_,Y_,Y_,Y_,Y_,Y_,Y_,Y_,Y_,Y_,Y_,Y_,Y_,Y_,Y_,Y_,Y_,Y_,Y_,Y_,Y_,Y_,Y_,Y_,Y_,Y_,Y_,Y_,Y_,N_,N_,N_,N_] rfl rfl (one_of HT_.out (by kernel_rfl)) (by decide) (fun K hK => ?_)
           refine goes_ Try.func23 (by kernel_rfl) rfl #[.agg #[.int .i64 t207, .int .i64 t208, .int .i64 t209, .int .i64 t210, .int .i64 t211, .int .i64 t212]] (by rfl) rfl rfl tL ?_
           with_reducible refine (impl_GrantMessage.calls t207 t208 t209 t210 t211 t212 t239 _ A57.out).mono ?_
           rintro e w79 ⟨v240, rfl, ho0, hb⟩
           refine ⟨_, rfl, ?_⟩
           replace HO228 := Aside0.mk (Kd.R_below (tR HO228) hb)
           replace HO235 := Aside0.mk (Kd.R_below (tR HO235) hb)
           have HO241 := Aside0.mk (Kd.R_lower ho0 (below_size tB))
           replace BK204 := bB BK204 hb
           replace BK214 := bB BK214 hb
           replace BK223 := bB BK223 hb
           replace BK225 := bB BK225 hb
           replace HB := bH HB hb
           (try clear hb)
           (try clear hb2)
           (try clear hk)
           (try clear hi)
           (try clear ho0)
           refine hK.out _ _ tH (fun hHeld => ?_)
           clear hK K
           refine norm_ (tV : Act.put _ (some 109) _ = _) ?_
           refine one_ (i := 42) (N := some 111) #[Y_,Y_,Y_,Y_,Y_,Y_,Y_,Y_,Y_,Y_,Y_,Y_,Y_,Y_,Y_,Y_,Y_,Y_,Y_,Y_,Y_,Y_,Y_,Y_,Y_,Y_,Y_,Y_,Y_,Y_,Y_,Y_,Y_,Y_,Y_,Y_,Y_,Y_,Y_,Y_,Y_,Y_,Y_,N_,N_,N_] rfl rfl (one_of HT_.out (by kernel_rfl)) (by decide) (fun K hK => ?_)
           refine goes_ Try.func24 (by kernel_rfl) rfl #[.agg #[.int .i64 t207, .int .i64 t208, .int .i64 t209, .int .i64 t210, .int .i64 t211, .int .i64 t212]] (by rfl) rfl rfl tL ?_
           with_reducible refine (spec_GrantMessage.calls t207 t208 t209 t210 t211 t212 t242 _ A58.out).mono ?_
           rintro e w80 ⟨v243, rfl, ho0, hb⟩
           refine ⟨_, rfl, ?_⟩
           replace HO228 := Aside0.mk (Kd.R_below (tR HO228) hb)
           replace HO235 := Aside0.mk (Kd.R_below (tR HO235) hb)
           have HO244 := Aside0.mk (Kd.R_lower (Kd.R_new' ho0 (Kd.R_lt (tR HO241))) (below_size tB))
           replace HO241 := Aside0.mk (Kd.R_elder' (tR HO241) (Kd.R_base ho0) hb)
           replace BK204 := bB BK204 hb
           replace BK214 := bB BK214 hb
           replace BK223 := bB BK223 hb
           replace BK225 := bB BK225 hb
           replace HB := bH HB hb
           (try clear hb)
           (try clear hb2)
           (try clear hk)
           (try clear hi)
           (try clear ho0)
           obtain ⟨Ao81, co81, eo81⟩ := Kd.R_slice HO241.out
           (first | subst eo81 | (injection eo81 with f1_ f2_ f3_; have f4_ := f1_.symm; have f5_ := f3_.symm; clear f1_ f2_ f3_; subst f4_; subst f5_))
           obtain ⟨Ao82, co82, eo82⟩ := Kd.R_slice HO244.out
           (first | subst eo82 | (injection eo82 with f1_ f2_ f3_; have f4_ := f1_.symm; have f5_ := f3_.symm; clear f1_ f2_ f3_; subst f4_; subst f5_))
           refine hK.out _ _ tH (fun hHeld => ?_)
           clear hK K
           refine norm_ (tV : Act.put _ (some 111) _ = _) ?_
           refine one_ (i := 43) (N := some 112) #[Y_,Y_,Y_,Y_,Y_,Y_,Y_,Y_,Y_,Y_,Y_,Y_,Y_,Y_,Y_,Y_,Y_,Y_,Y_,Y_,Y_,Y_,Y_,Y_,Y_,Y_,Y_,Y_,Y_,Y_,Y_,Y_,Y_,Y_,Y_,Y_,Y_,Y_,Y_,Y_,Y_,Y_,Y_,Y_,N_,N_] rfl rfl (one_of HT_.out (by kernel_rfl)) (by decide) (fun K hK => ?_)
           refine goes_ Try.func22 (by kernel_rfl) rfl #[.slice Ao81 t239.length co81, .slice Ao82 t242.length co82] (by rfl) rfl rfl tL ?_
           with_reducible refine (laws_sameInts.calls kj12 _ _ t239 _ _ t242 t245 _ ?side1 ?side2 ?side3 ?side4 A59.out).mono ?_
           (case side1 => repeat (first | exact (Kd.R_reads' HO241.out).2.2 | (with_reducible refine Kd.C_alloc ?_ _) | (with_reducible refine Kd.C_drewN ?_ _) | (with_reducible refine Kd.C_drew ?_)))
           (case side2 => exact (Kd.R_reads' HO241.out).2.1)
           (case side3 => repeat (first | exact (Kd.R_reads' HO244.out).2.2 | (with_reducible refine Kd.C_alloc ?_ _) | (with_reducible refine Kd.C_drewN ?_ _) | (with_reducible refine Kd.C_drew ?_)))
           (case side4 => exact (Kd.R_reads' HO244.out).2.1)
           rintro e w' ⟨rfl, ⟨nd, rfl⟩⟩
           refine ⟨_, rfl, ?_⟩
           refine hK.out _ _ tH (fun hHeld => ?_)
           clear hK K
           refine norm_ (tV : Act.put _ (some 112) _ = _) ?_
           refine pure_ (i := 44) (N := some 113) #[Y_,Y_,Y_,Y_,Y_,Y_,Y_,Y_,Y_,Y_,Y_,Y_,Y_,Y_,Y_,Y_,Y_,Y_,Y_,Y_,Y_,Y_,Y_,Y_,Y_,Y_,Y_,Y_,Y_,Y_,Y_,Y_,Y_,Y_,Y_,Y_,Y_,Y_,Y_,Y_,Y_,Y_,Y_,Y_,Y_,N_] rfl rfl (any_of HT_.out (by kernel_rfl)) (fun _ _ _ h => h) (Or.inl ⟨by rfl, tX⟩) tV ?_
           refine pure_ (i := 45) (N := some 2) #[Y_,Y_,Y_,Y_,Y_,Y_,Y_,Y_,Y_,Y_,Y_,Y_,Y_,Y_,Y_,Y_,Y_,Y_,Y_,Y_,Y_,Y_,Y_,Y_,Y_,Y_,Y_,Y_,Y_,Y_,Y_,Y_,Y_,Y_,Y_,Y_,Y_,Y_,Y_,Y_,Y_,Y_,Y_,Y_,Y_,Y_] rfl rfl (any_of HT_.out (by kernel_rfl)) (fun _ _ _ h => h) (Or.inl ⟨by rfl, tX⟩) tV ?_
           refine done_ (done_of HT_.out (by kernel_rfl)) ?_
           try go_wp2
           go_ret
           exact ⟨tE, tB⟩
          intro hJ2_3_4_5_8_15_16_17
          refine join_ (σ := Value × Value) 29 #[Y_,Y_,Y_,Y_,Y_,Y_,Y_,Y_,Y_,Y_,Y_,Y_,Y_,Y_,Y_,Y_,Y_,N_,N_,N_,N_,N_,N_,N_,N_,N_,N_,N_,N_,N_,N_,N_,N_,N_,N_,N_,N_,N_,N_,N_,N_,N_,N_,N_,N_,N_] (fun s_ => [(71, s_.1), (72, .int .i64 t229), (73, .int .i64 t230), (74, .int .i64 t231), (77, .int .i64 t232), (84, s_.2), (85, .int .i64 t236), (78, .int .i64 (Int.tmod t232 8)), (79, .int .i64 (Go.bits .and .i64 (wrap64 (1 + (Int.tmod t195 7))) (Int.tmod t232 8))), (80, .bool true), (81, .bool true), (82, .agg #[.int .i64 t197, .int .i64 t198, .int .i64 t199, .int .i64 t200, .int .i64 t201, .int .i64 t202]), (83, .agg #[.int .i64 t207, .int .i64 t208, .int .i64 t209, .int .i64 t210, .int .i64 t211, .int .i64 t212])]) (fun s_ w' => (w'.cell? ⟨gb204, 0, none⟩ = some (.int .i64 t197) ∧ w'.cell? ⟨gb204, 1, none⟩ = some (.int .i64 t198) ∧ w'.cell? ⟨gb204, 2, none⟩ = some (.int .i64 t199) ∧ w'.cell? ⟨gb204, 3, none⟩ = some (.int .i64 t200) ∧ w'.cell? ⟨gb204, 4, none⟩ = some (.int .i64 t201) ∧ w'.cell? ⟨gb204, 5, none⟩ = some (.int .i64 t202) ∧ w'.cell? ⟨gb214, 0, none⟩ = some (.int .i64 t207) ∧ w'.cell? ⟨gb214, 1, none⟩ = some (.int .i64 t208) ∧ w'.cell? ⟨gb214, 2, none⟩ = some (.int .i64 t209) ∧ w'.cell? ⟨gb214, 3, none⟩ = some (.int .i64 t210) ∧ w'.cell? ⟨gb214, 4, none⟩ = some (.int .i64 t211) ∧ w'.cell? ⟨gb214, 5, none⟩ = some (.int .i64 t212)) ∧ (Kd.R k26 26 w' w.heap.size (fun k_ => some k_ ≠ (s_.2 : Value).ownBlock ∧ k_ ≠ gb204 ∧ k_ ≠ gb214 ∧ k_ ≠ gb223 ∧ k_ ≠ gb225) s_.1 y226) ∧ (Kd.R k26 26 w' w.heap.size (fun k_ => some k_ ≠ (s_.1 : Value).ownBlock ∧ k_ ≠ gb204 ∧ k_ ≠ gb214 ∧ k_ ≠ gb223 ∧ k_ ≠ gb225) s_.2 y233) ∧ (w'.heap[gb204]? = some (.cells #[.int .i64 t197, .int .i64 t198, .int .i64 t199, .int .i64 t200, .int .i64 t201, .int .i64 t202] 26 (0, 0))) ∧ (w'.heap[gb214]? = some (.cells #[.int .i64 t207, .int .i64 t208, .int .i64 t209, .int .i64 t210, .int .i64 t211, .int .i64 t212] 26 (0, 0))) ∧ (w'.heap[gb223]? = some (.cells #[.int .i64 t216, .int .i64 t217, .int .i64 t218, .int .i64 t219, .int .i64 t220, .int .i64 t221] 26 (0, 0))) ∧ (w'.heap[gb225]? = some (.cells #[.int .i64 t207, .int .i64 t208, .int .i64 7, .int .i64 t210, .int .i64 t211, .int .i64 t212] 26 (0, 0))) ∧ (Below w.heap.size w w')) ?_ ?_
          ·rintro ⟨v227, v234⟩ w76 hS_
           dsimp only at hS_
           obtain ⟨hHeld, h0_, h1_, h2_, h3_, h4_, h5_, h6_⟩ := hS_
           have HO228 := Aside0.mk h0_
           have HO235 := Aside0.mk h1_
           replace BK204 := Aside0.mk h2_
           replace BK214 := Aside0.mk h3_
           replace BK223 := Aside0.mk h4_
           replace BK225 := Aside0.mk h5_
           replace HB := Aside0.mk h6_
           clear h0_ h1_ h2_ h3_ h4_ h5_ h6_
           refine norm_ tM ?_
           refine one_ (i := 17) (N := some 86) #[Y_,Y_,Y_,Y_,Y_,Y_,Y_,Y_,Y_,Y_,Y_,Y_,Y_,Y_,Y_,Y_,Y_,Y_,N_,N_,N_,N_,N_,N_,N_,N_,N_,N_,N_,N_,N_,N_,N_,N_,N_,N_,N_,N_,N_,N_,N_,N_,N_,N_,N_,N_] rfl rfl (one_of HT_.out (by kernel_rfl)) (by decide) (fun K hK => ?_)
           refine goes_ Try.func18 (by kernel_rfl) rfl #[.int .i64 13] (by rfl) rfl rfl tL ?_
           with_reducible refine (spec_PublicKey.calls 13 t237 _ A52.out).mono ?_
           rintro e w' ⟨rfl, ⟨nd, rfl⟩⟩
           refine ⟨_, rfl, ?_⟩
           refine hK.out _ _ tH (fun hHeld => ?_)
           clear hK K
           refine norm_ (tV : Act.put _ (some 86) _ = _) ?_
           exact norm_ tM (hJ2_3_4_5_8_15_16_17 (v227, v234) _ ⟨hHeld, tR HO228, tR HO235, tK BK204, tK BK214, tK BK223, tK BK225, tB⟩)
          intro hJ2_3_4_5_8_15_16
          refine join_ (σ := Value) 29 #[Y_,Y_,Y_,Y_,Y_,Y_,Y_,Y_,Y_,Y_,Y_,Y_,Y_,Y_,Y_,N_,Y_,Y_,N_,N_,N_,N_,N_,N_,N_,N_,N_,N_,N_,N_,N_,N_,N_,N_,N_,N_,N_,N_,N_,N_,N_,N_,N_,N_,N_,N_] (fun s_ => [(71, s_), (72, .int .i64 t229), (73, .int .i64 t230), (74, .int .i64 t231), (77, .int .i64 t232), (85, .int .i64 t236), (86, .int .i64 t237), (78, .int .i64 (Int.tmod t232 8)), (79, .int .i64 (Go.bits .and .i64 (wrap64 (1 + (Int.tmod t195 7))) (Int.tmod t232 8))), (80, .bool true), (81, .bool true), (82, .agg #[.int .i64 t197, .int .i64 t198, .int .i64 t199, .int .i64 t200, .int .i64 t201, .int .i64 t202]), (83, .agg #[.int .i64 t207, .int .i64 t208, .int .i64 t209, .int .i64 t210, .int .i64 t211, .int .i64 t212])]) (fun s_ w' => (w'.cell? ⟨gb204, 0, none⟩ = some (.int .i64 t197) ∧ w'.cell? ⟨gb204, 1, none⟩ = some (.int .i64 t198) ∧ w'.cell? ⟨gb204, 2, none⟩ = some (.int .i64 t199) ∧ w'.cell? ⟨gb204, 3, none⟩ = some (.int .i64 t200) ∧ w'.cell? ⟨gb204, 4, none⟩ = some (.int .i64 t201) ∧ w'.cell? ⟨gb204, 5, none⟩ = some (.int .i64 t202) ∧ w'.cell? ⟨gb214, 0, none⟩ = some (.int .i64 t207) ∧ w'.cell? ⟨gb214, 1, none⟩ = some (.int .i64 t208) ∧ w'.cell? ⟨gb214, 2, none⟩ = some (.int .i64 t209) ∧ w'.cell? ⟨gb214, 3, none⟩ = some (.int .i64 t210) ∧ w'.cell? ⟨gb214, 4, none⟩ = some (.int .i64 t211) ∧ w'.cell? ⟨gb214, 5, none⟩ = some (.int .i64 t212)) ∧ (Kd.R k26 26 w' w.heap.size (fun k_ => k_ ≠ gb204 ∧ k_ ≠ gb214 ∧ k_ ≠ gb223 ∧ k_ ≠ gb225) s_ y226) ∧ (w'.heap[gb204]? = some (.cells #[.int .i64 t197, .int .i64 t198, .int .i64 t199, .int .i64 t200, .int .i64 t201, .int .i64 t202] 26 (0, 0))) ∧ (w'.heap[gb214]? = some (.cells #[.int .i64 t207, .int .i64 t208, .int .i64 t209, .int .i64 t210, .int .i64 t211, .int .i64 t212] 26 (0, 0))) ∧ (w'.heap[gb223]? = some (.cells #[.int .i64 t216, .int .i64 t217, .int .i64 t218, .int .i64 t219, .int .i64 t220, .int .i64 t221] 26 (0, 0))) ∧ (w'.heap[gb225]? = some (.cells #[.int .i64 t207, .int .i64 t208, .int .i64 7, .int .i64 t210, .int .i64 t211, .int .i64 t212] 26 (0, 0))) ∧ (Below w.heap.size w w')) ?_ ?_
          ·rintro v227 w74 ⟨hHeld, h0_, h1_, h2_, h3_, h4_, h5_⟩
           have HO228 := Aside0.mk h0_
           replace BK204 := Aside0.mk h1_
           replace BK214 := Aside0.mk h2_
           replace BK223 := Aside0.mk h3_
           replace BK225 := Aside0.mk h4_
           replace HB := Aside0.mk h5_
           clear h0_ h1_ h2_ h3_ h4_ h5_
           refine norm_ tM ?_
           refine one_ (i := 15) (N := some 84) #[Y_,Y_,Y_,Y_,Y_,Y_,Y_,Y_,Y_,Y_,Y_,Y_,Y_,Y_,Y_,Y_,Y_,Y_,N_,N_,N_,N_,N_,N_,N_,N_,N_,N_,N_,N_,N_,N_,N_,N_,N_,N_,N_,N_,N_,N_,N_,N_,N_,N_,N_,N_] rfl rfl (one_of HT_.out (by kernel_rfl)) (by decide) (fun K hK => ?_)
           refine Kd.R_lit_step k26 _ 26 ?hg (N := 84) ?hd (xs := ([(⟨t197, t198, t199, t200, t201, t202⟩ : S26), (⟨t207, t208, t209, t210, t211, t212⟩ : S26)] : List (S26))) (inner := [.int .i64 t197, .int .i64 t198, .int .i64 t199, .int .i64 t200, .int .i64 t201, .int .i64 t202, .int .i64 t207, .int .i64 t208, .int .i64 t209, .int .i64 t210, .int .i64 t211, .int .i64 t212]) (ok := fun _ => True) (okp := fun _ => True) ?hr ?hp (fun _ hk => hk) trivial (Below.refl _ _) (Nat.le_refl _) (by simp) ?_; (case hd => rfl); (case hg => rfl); (case hr => exact tG); (case hp => exact (Reps.c6 (show Kd.M k26 _ _ _ (⟨t197, t198, t199, t200, t201, t202⟩ : S26) [.int .i64 t197, .int .i64 t198, .int .i64 t199, .int .i64 t200, .int .i64 t201, .int .i64 t202] from (k26_mkM _ _ _ (⟨t197, t198, t199, t200, t201, t202⟩ : S26) )) (Reps.c6 (show Kd.M k26 _ _ _ (⟨t207, t208, t209, t210, t211, t212⟩ : S26) [.int .i64 t207, .int .i64 t208, .int .i64 t209, .int .i64 t210, .int .i64 t211, .int .i64 t212] from (k26_mkM _ _ _ (⟨t207, t208, t209, t210, t211, t212⟩ : S26) )) (Reps.none _ _))))
           intro v234 w75 ho76 hb hg_ hnew_
           clear hg_ hnew_
           (first | rw [← Ny233.out] at ho76 | (simp only [Int.reduceToNat] at ho76; rw [← Ny233.out] at ho76))
           have HO235 := Aside0.mk (Kd.R_lower (Kd.R_newB (Kd.R_newB (Kd.R_newB (Kd.R_newB (Kd.R_new' ho76 (Kd.R_lt (tR HO228))) (g := gb204) (o := .cells #[.int .i64 t197, .int .i64 t198, .int .i64 t199, .int .i64 t200, .int .i64 t201, .int .i64 t202] 26 (0, 0)) (tK BK204)) (g := gb214) (o := .cells #[.int .i64 t207, .int .i64 t208, .int .i64 t209, .int .i64 t210, .int .i64 t211, .int .i64 t212] 26 (0, 0)) (tK BK214)) (g := gb223) (o := .cells #[.int .i64 t216, .int .i64 t217, .int .i64 t218, .int .i64 t219, .int .i64 t220, .int .i64 t221] 26 (0, 0)) (tK BK223)) (g := gb225) (o := .cells #[.int .i64 t207, .int .i64 t208, .int .i64 7, .int .i64 t210, .int .i64 t211, .int .i64 t212] 26 (0, 0)) (tK BK225)) (below_size tB))
           replace HO228 := Aside0.mk (Kd.R_elder' (tR HO228) (Kd.R_base ho76) hb)
           replace BK204 := bB BK204 hb
           replace BK214 := bB BK214 hb
           replace BK223 := bB BK223 hb
           replace BK225 := bB BK225 hb
           replace HB := bH HB hb
           clear hb ho76
           refine hK.out _ _ tH (fun hHeld => ?_)
           clear hK K
           refine norm_ (tV : Act.put _ (some 84) _ = _) ?_
           exact norm_ tM (hJ2_3_4_5_8_15_16_17 (v227, v234) _ ⟨hHeld, (by (with_reducible repeat (first | apply Kd.R_alloc | apply Kd.R_drewN | apply Kd.R_drew)); exact Kd.R_mono HO228.out (fun _ hk => ⟨hk.2, ⟨hk.1.1, ⟨hk.1.2.1, ⟨hk.1.2.2.1, hk.1.2.2.2⟩⟩⟩⟩)), (by (with_reducible repeat (first | apply Kd.R_alloc | apply Kd.R_drewN | apply Kd.R_drew)); exact Kd.R_mono HO235.out (fun _ hk => ⟨hk.1.1.1.1.2, ⟨hk.1.1.1.2, ⟨hk.1.1.2, ⟨hk.1.2, hk.2⟩⟩⟩⟩)), tK BK204, tK BK214, tK BK223, tK BK225, tB⟩)
          intro hJ2_3_4_5_8_16_17
          refine join_ (σ := Value × Value) 30 #[Y_,Y_,Y_,Y_,Y_,Y_,Y_,Y_,Y_,Y_,Y_,Y_,Y_,Y_,Y_,Y_,N_,N_,N_,N_,N_,N_,N_,N_,N_,N_,N_,N_,N_,N_,N_,N_,N_,N_,N_,N_,N_,N_,N_,N_,N_,N_,N_,N_,N_,N_] (fun s_ => [(71, s_.1), (72, .int .i64 t229), (73, .int .i64 t230), (74, .int .i64 t231), (77, .int .i64 t232), (84, s_.2), (78, .int .i64 (Int.tmod t232 8)), (79, .int .i64 (Go.bits .and .i64 (wrap64 (1 + (Int.tmod t195 7))) (Int.tmod t232 8))), (80, .bool true), (81, .bool true), (82, .agg #[.int .i64 t197, .int .i64 t198, .int .i64 t199, .int .i64 t200, .int .i64 t201, .int .i64 t202]), (83, .agg #[.int .i64 t207, .int .i64 t208, .int .i64 t209, .int .i64 t210, .int .i64 t211, .int .i64 t212])]) (fun s_ w' => (w'.cell? ⟨gb204, 0, none⟩ = some (.int .i64 t197) ∧ w'.cell? ⟨gb204, 1, none⟩ = some (.int .i64 t198) ∧ w'.cell? ⟨gb204, 2, none⟩ = some (.int .i64 t199) ∧ w'.cell? ⟨gb204, 3, none⟩ = some (.int .i64 t200) ∧ w'.cell? ⟨gb204, 4, none⟩ = some (.int .i64 t201) ∧ w'.cell? ⟨gb204, 5, none⟩ = some (.int .i64 t202) ∧ w'.cell? ⟨gb214, 0, none⟩ = some (.int .i64 t207) ∧ w'.cell? ⟨gb214, 1, none⟩ = some (.int .i64 t208) ∧ w'.cell? ⟨gb214, 2, none⟩ = some (.int .i64 t209) ∧ w'.cell? ⟨gb214, 3, none⟩ = some (.int .i64 t210) ∧ w'.cell? ⟨gb214, 4, none⟩ = some (.int .i64 t211) ∧ w'.cell? ⟨gb214, 5, none⟩ = some (.int .i64 t212)) ∧ (Kd.R k26 26 w' w.heap.size (fun k_ => some k_ ≠ (s_.2 : Value).ownBlock ∧ k_ ≠ gb204 ∧ k_ ≠ gb214 ∧ k_ ≠ gb223 ∧ k_ ≠ gb225) s_.1 y226) ∧ (Kd.R k26 26 w' w.heap.size (fun k_ => some k_ ≠ (s_.1 : Value).ownBlock ∧ k_ ≠ gb204 ∧ k_ ≠ gb214 ∧ k_ ≠ gb223 ∧ k_ ≠ gb225) s_.2 y233) ∧ (w'.heap[gb204]? = some (.cells #[.int .i64 t197, .int .i64 t198, .int .i64 t199, .int .i64 t200, .int .i64 t201, .int .i64 t202] 26 (0, 0))) ∧ (w'.heap[gb214]? = some (.cells #[.int .i64 t207, .int .i64 t208, .int .i64 t209, .int .i64 t210, .int .i64 t211, .int .i64 t212] 26 (0, 0))) ∧ (w'.heap[gb223]? = some (.cells #[.int .i64 t216, .int .i64 t217, .int .i64 t218, .int .i64 t219, .int .i64 t220, .int .i64 t221] 26 (0, 0))) ∧ (w'.heap[gb225]? = some (.cells #[.int .i64 t207, .int .i64 t208, .int .i64 7, .int .i64 t210, .int .i64 t211, .int .i64 t212] 26 (0, 0))) ∧ (Below w.heap.size w w')) ?_ ?_
          ·rintro ⟨v227, v234⟩ w76 hS_
           dsimp only at hS_
           obtain ⟨hHeld, h0_, h1_, h2_, h3_, h4_, h5_, h6_⟩ := hS_
           have HO228 := Aside0.mk h0_
           have HO235 := Aside0.mk h1_
           replace BK204 := Aside0.mk h2_
           replace BK214 := Aside0.mk h3_
           replace BK223 := Aside0.mk h4_
           replace BK225 := Aside0.mk h5_
           replace HB := Aside0.mk h6_
           clear h0_ h1_ h2_ h3_ h4_ h5_ h6_
           refine norm_ tM ?_
           refine one_ (i := 16) (N := some 85) #[Y_,Y_,Y_,Y_,Y_,Y_,Y_,Y_,Y_,Y_,Y_,Y_,Y_,Y_,Y_,Y_,Y_,N_,N_,N_,N_,N_,N_,N_,N_,N_,N_,N_,N_,N_,N_,N_,N_,N_,N_,N_,N_,N_,N_,N_,N_,N_,N_,N_,N_,N_] rfl rfl (one_of HT_.out (by kernel_rfl)) (by decide) (fun K hK => ?_)
           refine goes_ Try.func18 (by kernel_rfl) rfl #[.int .i64 11] (by rfl) rfl rfl tL ?_
           with_reducible refine (spec_PublicKey.calls 11 t236 _ A51.out).mono ?_
           rintro e w' ⟨rfl, ⟨nd, rfl⟩⟩
           refine ⟨_, rfl, ?_⟩
           refine hK.out _ _ tH (fun hHeld => ?_)
           clear hK K
           refine norm_ (tV : Act.put _ (some 85) _ = _) ?_
           exact norm_ tM (hJ2_3_4_5_8_15_16 (v227, v234) _ ⟨hHeld, tR HO228, tR HO235, tK BK204, tK BK214, tK BK223, tK BK225, tB⟩)
          intro hJ2_3_4_5_8_15
          refine join_ (σ := Value) 30 #[Y_,Y_,Y_,Y_,Y_,Y_,Y_,Y_,Y_,Y_,Y_,Y_,Y_,Y_,Y_,N_,Y_,N_,N_,N_,N_,N_,N_,N_,N_,N_,N_,N_,N_,N_,N_,N_,N_,N_,N_,N_,N_,N_,N_,N_,N_,N_,N_,N_,N_,N_] (fun s_ => [(71, s_), (72, .int .i64 t229), (73, .int .i64 t230), (74, .int .i64 t231), (77, .int .i64 t232), (85, .int .i64 t236), (78, .int .i64 (Int.tmod t232 8)), (79, .int .i64 (Go.bits .and .i64 (wrap64 (1 + (Int.tmod t195 7))) (Int.tmod t232 8))), (80, .bool true), (81, .bool true), (82, .agg #[.int .i64 t197, .int .i64 t198, .int .i64 t199, .int .i64 t200, .int .i64 t201, .int .i64 t202]), (83, .agg #[.int .i64 t207, .int .i64 t208, .int .i64 t209, .int .i64 t210, .int .i64 t211, .int .i64 t212])]) (fun s_ w' => (w'.cell? ⟨gb204, 0, none⟩ = some (.int .i64 t197) ∧ w'.cell? ⟨gb204, 1, none⟩ = some (.int .i64 t198) ∧ w'.cell? ⟨gb204, 2, none⟩ = some (.int .i64 t199) ∧ w'.cell? ⟨gb204, 3, none⟩ = some (.int .i64 t200) ∧ w'.cell? ⟨gb204, 4, none⟩ = some (.int .i64 t201) ∧ w'.cell? ⟨gb204, 5, none⟩ = some (.int .i64 t202) ∧ w'.cell? ⟨gb214, 0, none⟩ = some (.int .i64 t207) ∧ w'.cell? ⟨gb214, 1, none⟩ = some (.int .i64 t208) ∧ w'.cell? ⟨gb214, 2, none⟩ = some (.int .i64 t209) ∧ w'.cell? ⟨gb214, 3, none⟩ = some (.int .i64 t210) ∧ w'.cell? ⟨gb214, 4, none⟩ = some (.int .i64 t211) ∧ w'.cell? ⟨gb214, 5, none⟩ = some (.int .i64 t212)) ∧ (Kd.R k26 26 w' w.heap.size (fun k_ => k_ ≠ gb204 ∧ k_ ≠ gb214 ∧ k_ ≠ gb223 ∧ k_ ≠ gb225) s_ y226) ∧ (w'.heap[gb204]? = some (.cells #[.int .i64 t197, .int .i64 t198, .int .i64 t199, .int .i64 t200, .int .i64 t201, .int .i64 t202] 26 (0, 0))) ∧ (w'.heap[gb214]? = some (.cells #[.int .i64 t207, .int .i64 t208, .int .i64 t209, .int .i64 t210, .int .i64 t211, .int .i64 t212] 26 (0, 0))) ∧ (w'.heap[gb223]? = some (.cells #[.int .i64 t216, .int .i64 t217, .int .i64 t218, .int .i64 t219, .int .i64 t220, .int .i64 t221] 26 (0, 0))) ∧ (w'.heap[gb225]? = some (.cells #[.int .i64 t207, .int .i64 t208, .int .i64 7, .int .i64 t210, .int .i64 t211, .int .i64 t212] 26 (0, 0))) ∧ (Below w.heap.size w w')) ?_ ?_
          ·rintro v227 w74 ⟨hHeld, h0_, h1_, h2_, h3_, h4_, h5_⟩
           have HO228 := Aside0.mk h0_
           replace BK204 := Aside0.mk h1_
           replace BK214 := Aside0.mk h2_
           replace BK223 := Aside0.mk h3_
           replace BK225 := Aside0.mk h4_
           replace HB := Aside0.mk h5_
           clear h0_ h1_ h2_ h3_ h4_ h5_
           refine norm_ tM ?_
           refine two_ (i := 15) (j := 17) (Ni := some 84) (Nj := some 86) #[Y_,Y_,Y_,Y_,Y_,Y_,Y_,Y_,Y_,Y_,Y_,Y_,Y_,Y_,Y_,Y_,Y_,N_,N_,N_,N_,N_,N_,N_,N_,N_,N_,N_,N_,N_,N_,N_,N_,N_,N_,N_,N_,N_,N_,N_,N_,N_,N_,N_,N_,N_] #[Y_,Y_,Y_,Y_,Y_,Y_,Y_,Y_,Y_,Y_,Y_,Y_,Y_,Y_,Y_,N_,Y_,Y_,N_,N_,N_,N_,N_,N_,N_,N_,N_,N_,N_,N_,N_,N_,N_,N_,N_,N_,N_,N_,N_,N_,N_,N_,N_,N_,N_,N_] rfl rfl rfl rfl (two_of HT_.out (by kernel_rfl)) (by decide) (by decide) (fun K hK => ?_) (fun K hK => ?_)
           ·refine Kd.R_lit_step k26 _ 26 ?hg (N := 84) ?hd (xs := ([(⟨t197, t198, t199, t200, t201, t202⟩ : S26), (⟨t207, t208, t209, t210, t211, t212⟩ : S26)] : List (S26))) (inner := [.int .i64 t197, .int .i64 t198, .int .i64 t199, .int .i64 t200, .int .i64 t201, .int .i64 t202, .int .i64 t207, .int .i64 t208, .int .i64 t209, .int .i64 t210, .int .i64 t211, .int .i64 t212]) (ok := fun _ => True) (okp := fun _ => True) ?hr ?hp (fun _ hk => hk) trivial (Below.refl _ _) (Nat.le_refl _) (by simp) ?_; (case hd => rfl); (case hg => rfl); (case hr => exact tG); (case hp => exact (Reps.c6 (show Kd.M k26 _ _ _ (⟨t197, t198, t199, t200, t201, t202⟩ : S26) [.int .i64 t197, .int .i64 t198, .int .i64 t199, .int .i64 t200, .int .i64 t201, .int .i64 t202] from (k26_mkM _ _ _ (⟨t197, t198, t199, t200, t201, t202⟩ : S26) )) (Reps.c6 (show Kd.M k26 _ _ _ (⟨t207, t208, t209, t210, t211, t212⟩ : S26) [.int .i64 t207, .int .i64 t208, .int .i64 t209, .int .i64 t210, .int .i64 t211, .int .i64 t212] from (k26_mkM _ _ _ (⟨t207, t208, t209, t210, t211, t212⟩ : S26) )) (Reps.none _ _))))
            intro v234 w75 ho76 hb hg_ hnew_
            clear hg_ hnew_
            (first | rw [← Ny233.out] at ho76 | (simp only [Int.reduceToNat] at ho76; rw [← Ny233.out] at ho76))
            have HO235 := Aside0.mk (Kd.R_lower (Kd.R_newB (Kd.R_newB (Kd.R_newB (Kd.R_newB (Kd.R_new' ho76 (Kd.R_lt (tR HO228))) (g := gb204) (o := .cells #[.int .i64 t197, .int .i64 t198, .int .i64 t199, .int .i64 t200, .int .i64 t201, .int .i64 t202] 26 (0, 0)) (tK BK204)) (g := gb214) (o := .cells #[.int .i64 t207, .int .i64 t208, .int .i64 t209, .int .i64 t210, .int .i64 t211, .int .i64 t212] 26 (0, 0)) (tK BK214)) (g := gb223) (o := .cells #[.int .i64 t216, .int .i64 t217, .int .i64 t218, .int .i64 t219, .int .i64 t220, .int .i64 t221] 26 (0, 0)) (tK BK223)) (g := gb225) (o := .cells #[.int .i64 t207, .int .i64 t208, .int .i64 7, .int .i64 t210, .int .i64 t211, .int .i64 t212] 26 (0, 0)) (tK BK225)) (below_size tB))
            replace HO228 := Aside0.mk (Kd.R_elder' (tR HO228) (Kd.R_base ho76) hb)
            replace BK204 := bB BK204 hb
            replace BK214 := bB BK214 hb
            replace BK223 := bB BK223 hb
            replace BK225 := bB BK225 hb
            replace HB := bH HB hb
            clear hb ho76
            refine hK.out _ _ tH (fun hHeld => ?_)
            clear hK K
            refine norm_ (tV : Act.put _ (some 84) _ = _) ?_
            exact norm_ tM (hJ2_3_4_5_8_15_16 (v227, v234) _ ⟨hHeld, (by (with_reducible repeat (first | apply Kd.R_alloc | apply Kd.R_drewN | apply Kd.R_drew)); exact Kd.R_mono HO228.out (fun _ hk => ⟨hk.2, ⟨hk.1.1, ⟨hk.1.2.1, ⟨hk.1.2.2.1, hk.1.2.2.2⟩⟩⟩⟩)), (by (with_reducible repeat (first | apply Kd.R_alloc | apply Kd.R_drewN | apply Kd.R_drew)); exact Kd.R_mono HO235.out (fun _ hk => ⟨hk.1.1.1.1.2, ⟨hk.1.1.1.2, ⟨hk.1.1.2, ⟨hk.1.2, hk.2⟩⟩⟩⟩)), tK BK204, tK BK214, tK BK223, tK BK225, tB⟩)
           refine goes_ Try.func18 (by kernel_rfl) rfl #[.int .i64 13] (by rfl) rfl rfl tL ?_
           with_reducible refine (spec_PublicKey.calls 13 t237 _ A52.out).mono ?_
           rintro e w' ⟨rfl, ⟨nd, rfl⟩⟩
           refine ⟨_, rfl, ?_⟩
           refine hK.out _ _ tH (fun hHeld => ?_)
           clear hK K
           refine norm_ (tV : Act.put _ (some 86) _ = _) ?_
           exact norm_ tM (hJ2_3_4_5_8_16_17 (v227) _ ⟨hHeld, tR HO228, tK BK204, tK BK214, tK BK223, tK BK225, tB⟩)
          intro hJ2_3_4_5_8_16
          refine join_ (σ := Value) 31 #[Y_,Y_,Y_,Y_,Y_,Y_,Y_,Y_,Y_,Y_,Y_,Y_,Y_,Y_,Y_,N_,N_,N_,N_,N_,N_,N_,N_,N_,N_,N_,N_,N_,N_,N_,N_,N_,N_,N_,N_,N_,N_,N_,N_,N_,N_,N_,N_,N_,N_,N_] (fun s_ => [(71, s_), (72, .int .i64 t229), (73, .int .i64 t230), (74, .int .i64 t231), (77, .int .i64 t232), (78, .int .i64 (Int.tmod t232 8)), (79, .int .i64 (Go.bits .and .i64 (wrap64 (1 + (Int.tmod t195 7))) (Int.tmod t232 8))), (80, .bool true), (81, .bool true), (82, .agg #[.int .i64 t197, .int .i64 t198, .int .i64 t199, .int .i64 t200, .int .i64 t201, .int .i64 t202]), (83, .agg #[.int .i64 t207, .int .i64 t208, .int .i64 t209, .int .i64 t210, .int .i64 t211, .int .i64 t212])]) (fun s_ w' => (w'.cell? ⟨gb204, 0, none⟩ = some (.int .i64 t197) ∧ w'.cell? ⟨gb204, 1, none⟩ = some (.int .i64 t198) ∧ w'.cell? ⟨gb204, 2, none⟩ = some (.int .i64 t199) ∧ w'.cell? ⟨gb204, 3, none⟩ = some (.int .i64 t200) ∧ w'.cell? ⟨gb204, 4, none⟩ = some (.int .i64 t201) ∧ w'.cell? ⟨gb204, 5, none⟩ = some (.int .i64 t202) ∧ w'.cell? ⟨gb214, 0, none⟩ = some (.int .i64 t207) ∧ w'.cell? ⟨gb214, 1, none⟩ = some (.int .i64 t208) ∧ w'.cell? ⟨gb214, 2, none⟩ = some (.int .i64 t209) ∧ w'.cell? ⟨gb214, 3, none⟩ = some (.int .i64 t210) ∧ w'.cell? ⟨gb214, 4, none⟩ = some (.int .i64 t211) ∧ w'.cell? ⟨gb214, 5, none⟩ = some (.int .i64 t212)) ∧ (Kd.R k26 26 w' w.heap.size (fun k_ => k_ ≠ gb204 ∧ k_ ≠ gb214 ∧ k_ ≠ gb223 ∧ k_ ≠ gb225) s_ y226) ∧ (w'.heap[gb204]? = some (.cells #[.int .i64 t197, .int .i64 t198, .int .i64 t199, .int .i64 t200, .int .i64 t201, .int .i64 t202] 26 (0, 0))) ∧ (w'.heap[gb214]? = some (.cells #[.int .i64 t207, .int .i64 t208, .int .i64 t209, .int .i64 t210, .int .i64 t211, .int .i64 t212] 26 (0, 0))) ∧ (w'.heap[gb223]? = some (.cells #[.int .i64 t216, .int .i64 t217, .int .i64 t218, .int .i64 t219, .int .i64 t220, .int .i64 t221] 26 (0, 0))) ∧ (w'.heap[gb225]? = some (.cells #[.int .i64 t207, .int .i64 t208, .int .i64 7, .int .i64 t210, .int .i64 t211, .int .i64 t212] 26 (0, 0))) ∧ (Below w.heap.size w w')) ?_ ?_
          ·rintro v227 w74 ⟨hHeld, h0_, h1_, h2_, h3_, h4_, h5_⟩
           have HO228 := Aside0.mk h0_
           replace BK204 := Aside0.mk h1_
           replace BK214 := Aside0.mk h2_
           replace BK223 := Aside0.mk h3_
           replace BK225 := Aside0.mk h4_
           replace HB := Aside0.mk h5_
           clear h0_ h1_ h2_ h3_ h4_ h5_
           refine norm_ tM ?_
           refine two_ (i := 15) (j := 16) (Ni := some 84) (Nj := some 85) #[Y_,Y_,Y_,Y_,Y_,Y_,Y_,Y_,Y_,Y_,Y_,Y_,Y_,Y_,Y_,Y_,N_,N_,N_,N_,N_,N_,N_,N_,N_,N_,N_,N_,N_,N_,N_,N_,N_,N_,N_,N_,N_,N_,N_,N_,N_,N_,N_,N_,N_,N_] #[Y_,Y_,Y_,Y_,Y_,Y_,Y_,Y_,Y_,Y_,Y_,Y_,Y_,Y_,Y_,N_,Y_,N_,N_,N_,N_,N_,N_,N_,N_,N_,N_,N_,N_,N_,N_,N_,N_,N_,N_,N_,N_,N_,N_,N_,N_,N_,N_,N_,N_,N_] rfl rfl rfl rfl (two_of HT_.out (by kernel_rfl)) (by decide) (by decide) (fun K hK => ?_) (fun K hK => ?_)
           ·refine Kd.R_lit_step k26 _ 26 ?hg (N := 84) ?hd (xs := ([(⟨t197, t198, t199, t200, t201, t202⟩ : S26), (⟨t207, t208, t209, t210, t211, t212⟩ : S26)] : List (S26))) (inner := [.int .i64 t197, .int .i64 t198, .int .i64 t199, .int .i64 t200, .int .i64 t201, .int .i64 t202, .int .i64 t207, .int .i64 t208, .int .i64 t209, .int .i64 t210, .int .i64 t211, .int .i64 t212]) (ok := fun _ => True) (okp := fun _ => True) ?hr ?hp (fun _ hk => hk) trivial (Below.refl _ _) (Nat.le_refl _) (by simp) ?_; (case hd => rfl); (case hg => rfl); (case hr => exact tG); (case hp => exact (Reps.c6 (show Kd.M k26 _ _ _ (⟨t197, t198, t199, t200, t201, t202⟩ : S26) [.int .i64 t197, .int .i64 t198, .int .i64 t199, .int .i64 t200, .int .i64 t201, .int .i64 t202] from (k26_mkM _ _ _ (⟨t197, t198, t199, t200, t201, t202⟩ : S26) )) (Reps.c6 (show Kd.M k26 _ _ _ (⟨t207, t208, t209, t210, t211, t212⟩ : S26) [.int .i64 t207, .int .i64 t208, .int .i64 t209, .int .i64 t210, .int .i64 t211, .int .i64 t212] from (k26_mkM _ _ _ (⟨t207, t208, t209, t210, t211, t212⟩ : S26) )) (Reps.none _ _))))
            intro v234 w75 ho76 hb hg_ hnew_
            clear hg_ hnew_
            (first | rw [← Ny233.out] at ho76 | (simp only [Int.reduceToNat] at ho76; rw [← Ny233.out] at ho76))
            have HO235 := Aside0.mk (Kd.R_lower (Kd.R_newB (Kd.R_newB (Kd.R_newB (Kd.R_newB (Kd.R_new' ho76 (Kd.R_lt (tR HO228))) (g := gb204) (o := .cells #[.int .i64 t197, .int .i64 t198, .int .i64 t199, .int .i64 t200, .int .i64 t201, .int .i64 t202] 26 (0, 0)) (tK BK204)) (g := gb214) (o := .cells #[.int .i64 t207, .int .i64 t208, .int .i64 t209, .int .i64 t210, .int .i64 t211, .int .i64 t212] 26 (0, 0)) (tK BK214)) (g := gb223) (o := .cells #[.int .i64 t216, .int .i64 t217, .int .i64 t218, .int .i64 t219, .int .i64 t220, .int .i64 t221] 26 (0, 0)) (tK BK223)) (g := gb225) (o := .cells #[.int .i64 t207, .int .i64 t208, .int .i64 7, .int .i64 t210, .int .i64 t211, .int .i64 t212] 26 (0, 0)) (tK BK225)) (below_size tB))
            replace HO228 := Aside0.mk (Kd.R_elder' (tR HO228) (Kd.R_base ho76) hb)
            replace BK204 := bB BK204 hb
            replace BK214 := bB BK214 hb
            replace BK223 := bB BK223 hb
            replace BK225 := bB BK225 hb
            replace HB := bH HB hb
            clear hb ho76
            refine hK.out _ _ tH (fun hHeld => ?_)
            clear hK K
            refine norm_ (tV : Act.put _ (some 84) _ = _) ?_
            exact norm_ tM (hJ2_3_4_5_8_15 (v227, v234) _ ⟨hHeld, (by (with_reducible repeat (first | apply Kd.R_alloc | apply Kd.R_drewN | apply Kd.R_drew)); exact Kd.R_mono HO228.out (fun _ hk => ⟨hk.2, ⟨hk.1.1, ⟨hk.1.2.1, ⟨hk.1.2.2.1, hk.1.2.2.2⟩⟩⟩⟩)), (by (with_reducible repeat (first | apply Kd.R_alloc | apply Kd.R_drewN | apply Kd.R_drew)); exact Kd.R_mono HO235.out (fun _ hk => ⟨hk.1.1.1.1.2, ⟨hk.1.1.1.2, ⟨hk.1.1.2, ⟨hk.1.2, hk.2⟩⟩⟩⟩)), tK BK204, tK BK214, tK BK223, tK BK225, tB⟩)
           refine goes_ Try.func18 (by kernel_rfl) rfl #[.int .i64 11] (by rfl) rfl rfl tL ?_
           with_reducible refine (spec_PublicKey.calls 11 t236 _ A51.out).mono ?_
           rintro e w' ⟨rfl, ⟨nd, rfl⟩⟩
           refine ⟨_, rfl, ?_⟩
           refine hK.out _ _ tH (fun hHeld => ?_)
           clear hK K
           refine norm_ (tV : Act.put _ (some 85) _ = _) ?_
           exact norm_ tM (hJ2_3_4_5_8_16 (v227) _ ⟨hHeld, tR HO228, tK BK204, tK BK214, tK BK223, tK BK225, tB⟩)
          intro hJ2_3_4_5_8
          refine join_ (σ := Value) 38 #[Y_,Y_,Y_,Y_,Y_,Y_,Y_,Y_,N_,N_,N_,N_,N_,N_,N_,N_,N_,N_,N_,N_,N_,N_,N_,N_,N_,N_,N_,N_,N_,N_,N_,N_,N_,N_,N_,N_,N_,N_,N_,N_,N_,N_,N_,N_,N_,N_] (fun s_ => [(71, s_), (72, .int .i64 t229), (73, .int .i64 t230), (74, .int .i64 t231)]) (fun s_ w' => (w'.cell? ⟨gb204, 0, none⟩ = some (.int .i64 t197) ∧ w'.cell? ⟨gb204, 1, none⟩ = some (.int .i64 t198) ∧ w'.cell? ⟨gb204, 2, none⟩ = some (.int .i64 t199) ∧ w'.cell? ⟨gb204, 3, none⟩ = some (.int .i64 t200) ∧ w'.cell? ⟨gb204, 4, none⟩ = some (.int .i64 t201) ∧ w'.cell? ⟨gb204, 5, none⟩ = some (.int .i64 t202) ∧ w'.cell? ⟨gb214, 0, none⟩ = some (.int .i64 t207) ∧ w'.cell? ⟨gb214, 1, none⟩ = some (.int .i64 t208) ∧ w'.cell? ⟨gb214, 2, none⟩ = some (.int .i64 t209) ∧ w'.cell? ⟨gb214, 3, none⟩ = some (.int .i64 t210) ∧ w'.cell? ⟨gb214, 4, none⟩ = some (.int .i64 t211) ∧ w'.cell? ⟨gb214, 5, none⟩ = some (.int .i64 t212)) ∧ (Kd.R k26 26 w' w.heap.size (fun k_ => k_ ≠ gb204 ∧ k_ ≠ gb214 ∧ k_ ≠ gb223 ∧ k_ ≠ gb225) s_ y226) ∧ (w'.heap[gb204]? = some (.cells #[.int .i64 t197, .int .i64 t198, .int .i64 t199, .int .i64 t200, .int .i64 t201, .int .i64 t202] 26 (0, 0))) ∧ (w'.heap[gb214]? = some (.cells #[.int .i64 t207, .int .i64 t208, .int .i64 t209, .int .i64 t210, .int .i64 t211, .int .i64 t212] 26 (0, 0))) ∧ (w'.heap[gb223]? = some (.cells #[.int .i64 t216, .int .i64 t217, .int .i64 t218, .int .i64 t219, .int .i64 t220, .int .i64 t221] 26 (0, 0))) ∧ (w'.heap[gb225]? = some (.cells #[.int .i64 t207, .int .i64 t208, .int .i64 7, .int .i64 t210, .int .i64 t211, .int .i64 t212] 26 (0, 0))) ∧ (Below w.heap.size w w')) ?_ ?_
          ·rintro v227 w74 ⟨hHeld, h0_, h1_, h2_, h3_, h4_, h5_⟩
           have HO228 := Aside0.mk h0_
           replace BK204 := Aside0.mk h1_
           replace BK214 := Aside0.mk h2_
           replace BK223 := Aside0.mk h3_
           replace BK225 := Aside0.mk h4_
           replace HB := Aside0.mk h5_
           clear h0_ h1_ h2_ h3_ h4_ h5_
           refine norm_ tM ?_
           refine one_ (i := 8) (N := some 77) #[Y_,Y_,Y_,Y_,Y_,Y_,Y_,Y_,Y_,N_,N_,N_,N_,N_,N_,N_,N_,N_,N_,N_,N_,N_,N_,N_,N_,N_,N_,N_,N_,N_,N_,N_,N_,N_,N_,N_,N_,N_,N_,N_,N_,N_,N_,N_,N_,N_] rfl rfl (one_of HT_.out (by kernel_rfl)) (by decide) (fun K hK => ?_)
           refine goes_ Try.func16 (by kernel_rfl) rfl #[.slice A0 l0.length c0, .int .i64 2] (by rfl) rfl rfl tL ?_
           with_reducible refine (laws_at.calls _ _ l0 2 t232 _ ?side1 ?side2 A49.out).mono ?_
           (case side1 => repeat (first | exact (Kd.C_below HR0.out HB.out) | (with_reducible refine Kd.C_alloc ?_ _) | (with_reducible refine Kd.C_drewN ?_ _) | (with_reducible refine Kd.C_drew ?_)))
           (case side2 => exact HC0.out)
           rintro e w' ⟨rfl, ⟨nd, rfl⟩⟩
           refine ⟨_, rfl, ?_⟩
           refine hK.out _ _ tH (fun hHeld => ?_)
           clear hK K
           refine norm_ (tV : Act.put _ (some 77) _ = _) ?_
           refine pure_ (i := 9) (N := some 78) #[Y_,Y_,Y_,Y_,Y_,Y_,Y_,Y_,Y_,Y_,N_,N_,N_,N_,N_,N_,N_,N_,N_,N_,N_,N_,N_,N_,N_,N_,N_,N_,N_,N_,N_,N_,N_,N_,N_,N_,N_,N_,N_,N_,N_,N_,N_,N_,N_,N_] rfl rfl (any_of HT_.out (by kernel_rfl)) (fun _ _ _ h => h) (Or.inl ⟨by rfl, tX⟩) tV ?_
           refine pure_ (i := 10) (N := some 79) #[Y_,Y_,Y_,Y_,Y_,Y_,Y_,Y_,Y_,Y_,Y_,N_,N_,N_,N_,N_,N_,N_,N_,N_,N_,N_,N_,N_,N_,N_,N_,N_,N_,N_,N_,N_,N_,N_,N_,N_,N_,N_,N_,N_,N_,N_,N_,N_,N_,N_] rfl rfl (any_of HT_.out (by kernel_rfl)) (fun _ _ _ h => h) (Or.inl ⟨by rfl, tX⟩) tV ?_
           refine pure_ (i := 11) (N := some 80) #[Y_,Y_,Y_,Y_,Y_,Y_,Y_,Y_,Y_,Y_,Y_,Y_,N_,N_,N_,N_,N_,N_,N_,N_,N_,N_,N_,N_,N_,N_,N_,N_,N_,N_,N_,N_,N_,N_,N_,N_,N_,N_,N_,N_,N_,N_,N_,N_,N_,N_] rfl rfl (any_of HT_.out (by kernel_rfl)) (fun _ _ _ h => h) (Or.inl ⟨by rfl, tX⟩) tV ?_
           refine pure_ (i := 12) (N := some 81) #[Y_,Y_,Y_,Y_,Y_,Y_,Y_,Y_,Y_,Y_,Y_,Y_,Y_,N_,N_,N_,N_,N_,N_,N_,N_,N_,N_,N_,N_,N_,N_,N_,N_,N_,N_,N_,N_,N_,N_,N_,N_,N_,N_,N_,N_,N_,N_,N_,N_,N_] rfl rfl (any_of HT_.out (by kernel_rfl)) (fun _ _ _ h => h) (Or.inl ⟨by rfl, tX⟩) tV ?_
           refine take_ (i := 13) (N := some 82) (v := ?_) (a' := ?_) #[Y_,Y_,Y_,Y_,Y_,Y_,Y_,Y_,Y_,Y_,Y_,Y_,Y_,Y_,N_,N_,N_,N_,N_,N_,N_,N_,N_,N_,N_,N_,N_,N_,N_,N_,N_,N_,N_,N_,N_,N_,N_,N_,N_,N_,N_,N_,N_,N_,N_,N_] rfl rfl (take_ofW HT_.out HW_.out (by kernel_rfl)) (fun _ _ _ h => h) (Or.inl ⟨by rfl, ?_⟩) hHeld ?_ ?_
           rotate_left
           ·rintro w' ⟨s0, s1, s2, s3, s4, s5, s6, s7, s8, s9, s10, s11⟩
            go_simp
            with_reducible rfl
           rotate_left
           ·simp only [Act.put, List.setIfInBounds_toArray, List.set_cons_zero, List.set_cons_succ, i64_w, i32_w]
            rfl
           refine take_ (i := 14) (N := some 83) (v := ?_) (a' := ?_) #[Y_,Y_,Y_,Y_,Y_,Y_,Y_,Y_,Y_,Y_,Y_,Y_,Y_,Y_,Y_,N_,N_,N_,N_,N_,N_,N_,N_,N_,N_,N_,N_,N_,N_,N_,N_,N_,N_,N_,N_,N_,N_,N_,N_,N_,N_,N_,N_,N_,N_,N_] rfl rfl (take_ofW HT_.out HW_.out (by kernel_rfl)) (fun _ _ _ h => h) (Or.inl ⟨by rfl, ?_⟩) hHeld ?_ ?_
           rotate_left
           ·rintro w' ⟨s0, s1, s2, s3, s4, s5, s6, s7, s8, s9, s10, s11⟩
            go_simp
            with_reducible rfl
           rotate_left
           ·simp only [Act.put, List.setIfInBounds_toArray, List.set_cons_zero, List.set_cons_succ, i64_w, i32_w]
            rfl
           exact norm_ tM (hJ2_3_4_5_8 (v227) _ ⟨hHeld, tR HO228, tK BK204, tK BK214, tK BK223, tK BK225, tB⟩)
          intro hJ2_3_4_5
          refine join_ (σ := Value) 39 #[Y_,Y_,Y_,Y_,Y_,N_,Y_,Y_,N_,N_,N_,N_,N_,N_,N_,N_,N_,N_,N_,N_,N_,N_,N_,N_,N_,N_,N_,N_,N_,N_,N_,N_,N_,N_,N_,N_,N_,N_,N_,N_,N_,N_,N_,N_,N_,N_] (fun s_ => [(71, s_), (72, .int .i64 t229), (73, .int .i64 t230)]) (fun s_ w' => (w'.cell? ⟨gb204, 0, none⟩ = some (.int .i64 t197) ∧ w'.cell? ⟨gb204, 1, none⟩ = some (.int .i64 t198) ∧ w'.cell? ⟨gb204, 2, none⟩ = some (.int .i64 t199) ∧ w'.cell? ⟨gb204, 3, none⟩ = some (.int .i64 t200) ∧ w'.cell? ⟨gb204, 4, none⟩ = some (.int .i64 t201) ∧ w'.cell? ⟨gb204, 5, none⟩ = some (.int .i64 t202) ∧ w'.cell? ⟨gb214, 0, none⟩ = some (.int .i64 t207) ∧ w'.cell? ⟨gb214, 1, none⟩ = some (.int .i64 t208) ∧ w'.cell? ⟨gb214, 2, none⟩ = some (.int .i64 t209) ∧ w'.cell? ⟨gb214, 3, none⟩ = some (.int .i64 t210) ∧ w'.cell? ⟨gb214, 4, none⟩ = some (.int .i64 t211) ∧ w'.cell? ⟨gb214, 5, none⟩ = some (.int .i64 t212)) ∧ (Kd.R k26 26 w' w.heap.size (fun k_ => k_ ≠ gb204 ∧ k_ ≠ gb214 ∧ k_ ≠ gb223 ∧ k_ ≠ gb225) s_ y226) ∧ (w'.heap[gb204]? = some (.cells #[.int .i64 t197, .int .i64 t198, .int .i64 t199, .int .i64 t200, .int .i64 t201, .int .i64 t202] 26 (0, 0))) ∧ (w'.heap[gb214]? = some (.cells #[.int .i64 t207, .int .i64 t208, .int .i64 t209, .int .i64 t210, .int .i64 t211, .int .i64 t212] 26 (0, 0))) ∧ (w'.heap[gb223]? = some (.cells #[.int .i64 t216, .int .i64 t217, .int .i64 t218, .int .i64 t219, .int .i64 t220, .int .i64 t221] 26 (0, 0))) ∧ (w'.heap[gb225]? = some (.cells #[.int .i64 t207, .int .i64 t208, .int .i64 7, .int .i64 t210, .int .i64 t211, .int .i64 t212] 26 (0, 0))) ∧ (Below w.heap.size w w')) ?_ ?_
          ·rintro v227 w72 ⟨hHeld, h0_, h1_, h2_, h3_, h4_, h5_⟩
           have HO228 := Aside0.mk h0_
           replace BK204 := Aside0.mk h1_
           replace BK214 := Aside0.mk h2_
           replace BK223 := Aside0.mk h3_
           replace BK225 := Aside0.mk h4_
           replace HB := Aside0.mk h5_
           clear h0_ h1_ h2_ h3_ h4_ h5_
           obtain ⟨Ao73, co73, eo73⟩ := Kd.R_slice HO228.out
           (first | subst eo73 | (injection eo73 with f1_ f2_ f3_; have f4_ := f1_.symm; have f5_ := f3_.symm; clear f1_ f2_ f3_; subst f4_; subst f5_))
           refine norm_ tM ?_
           refine one_ (i := 5) (N := some 74) #[Y_,Y_,Y_,Y_,Y_,Y_,Y_,Y_,N_,N_,N_,N_,N_,N_,N_,N_,N_,N_,N_,N_,N_,N_,N_,N_,N_,N_,N_,N_,N_,N_,N_,N_,N_,N_,N_,N_,N_,N_,N_,N_,N_,N_,N_,N_,N_,N_] rfl rfl (one_of HT_.out (by kernel_rfl)) (by decide) (fun K hK => ?_)
           refine goes_ Try.func20 (by kernel_rfl) rfl #[.slice Ao73 y226.length co73, .int .i64 t229, .int .i64 t230, .int .i64 50] (by rfl) rfl rfl tL ?_
           with_reducible refine (impl_ChainScopes.calls kj12 _ _ y226 t229 t230 50 t231 _ ?side1 ?side2 A48.out).mono ?_
           (case side1 => repeat (first | exact (Kd.R_reads' HO228.out).2.2 | (with_reducible refine Kd.C_alloc ?_ _) | (with_reducible refine Kd.C_drewN ?_ _) | (with_reducible refine Kd.C_drew ?_)))
           (case side2 => exact (Kd.R_reads' HO228.out).2.1)
           rintro e w74 ⟨rfl, hb⟩
           refine ⟨_, rfl, ?_⟩
           replace HO228 := Aside0.mk (Kd.R_below (tR HO228) hb)
           replace BK204 := bB BK204 hb
           replace BK214 := bB BK214 hb
           replace BK223 := bB BK223 hb
           replace BK225 := bB BK225 hb
           replace HB := bH HB hb
           (try clear hb)
           (try clear hb2)
           (try clear hk)
           (try clear hi)
           refine hK.out _ _ tH (fun hHeld => ?_)
           clear hK K
           refine norm_ (tV : Act.put _ (some 74) _ = _) ?_
           exact norm_ tM (hJ2_3_4_5 (.slice Ao73 y226.length co73) _ ⟨hHeld, tR HO228, tK BK204, tK BK214, tK BK223, tK BK225, tB⟩)
          intro hJ2_3_4
          refine join_ (σ := Value) 40 #[Y_,Y_,Y_,Y_,N_,N_,Y_,Y_,N_,N_,N_,N_,N_,N_,N_,N_,N_,N_,N_,N_,N_,N_,N_,N_,N_,N_,N_,N_,N_,N_,N_,N_,N_,N_,N_,N_,N_,N_,N_,N_,N_,N_,N_,N_,N_,N_] (fun s_ => [(71, s_), (72, .int .i64 t229)]) (fun s_ w' => (w'.cell? ⟨gb204, 0, none⟩ = some (.int .i64 t197) ∧ w'.cell? ⟨gb204, 1, none⟩ = some (.int .i64 t198) ∧ w'.cell? ⟨gb204, 2, none⟩ = some (.int .i64 t199) ∧ w'.cell? ⟨gb204, 3, none⟩ = some (.int .i64 t200) ∧ w'.cell? ⟨gb204, 4, none⟩ = some (.int .i64 t201) ∧ w'.cell? ⟨gb204, 5, none⟩ = some (.int .i64 t202) ∧ w'.cell? ⟨gb214, 0, none⟩ = some (.int .i64 t207) ∧ w'.cell? ⟨gb214, 1, none⟩ = some (.int .i64 t208) ∧ w'.cell? ⟨gb214, 2, none⟩ = some (.int .i64 t209) ∧ w'.cell? ⟨gb214, 3, none⟩ = some (.int .i64 t210) ∧ w'.cell? ⟨gb214, 4, none⟩ = some (.int .i64 t211) ∧ w'.cell? ⟨gb214, 5, none⟩ = some (.int .i64 t212)) ∧ (Kd.R k26 26 w' w.heap.size (fun k_ => k_ ≠ gb204 ∧ k_ ≠ gb214 ∧ k_ ≠ gb223 ∧ k_ ≠ gb225) s_ y226) ∧ (w'.heap[gb204]? = some (.cells #[.int .i64 t197, .int .i64 t198, .int .i64 t199, .int .i64 t200, .int .i64 t201, .int .i64 t202] 26 (0, 0))) ∧ (w'.heap[gb214]? = some (.cells #[.int .i64 t207, .int .i64 t208, .int .i64 t209, .int .i64 t210, .int .i64 t211, .int .i64 t212] 26 (0, 0))) ∧ (w'.heap[gb223]? = some (.cells #[.int .i64 t216, .int .i64 t217, .int .i64 t218, .int .i64 t219, .int .i64 t220, .int .i64 t221] 26 (0, 0))) ∧ (w'.heap[gb225]? = some (.cells #[.int .i64 t207, .int .i64 t208, .int .i64 7, .int .i64 t210, .int .i64 t211, .int .i64 t212] 26 (0, 0))) ∧ (Below w.heap.size w w')) ?_ ?_
          ·rintro v227 w72 ⟨hHeld, h0_, h1_, h2_, h3_, h4_, h5_⟩
           have HO228 := Aside0.mk h0_
           replace BK204 := Aside0.mk h1_
           replace BK214 := Aside0.mk h2_
           replace BK223 := Aside0.mk h3_
           replace BK225 := Aside0.mk h4_
           replace HB := Aside0.mk h5_
           clear h0_ h1_ h2_ h3_ h4_ h5_
           refine norm_ tM ?_
           refine one_ (i := 4) (N := some 73) #[Y_,Y_,Y_,Y_,Y_,N_,Y_,Y_,N_,N_,N_,N_,N_,N_,N_,N_,N_,N_,N_,N_,N_,N_,N_,N_,N_,N_,N_,N_,N_,N_,N_,N_,N_,N_,N_,N_,N_,N_,N_,N_,N_,N_,N_,N_,N_,N_] rfl rfl (one_of HT_.out (by kernel_rfl)) (by decide) (fun K hK => ?_)
           refine goes_ Try.func18 (by kernel_rfl) rfl #[.int .i64 13] (by rfl) rfl rfl tL ?_
           with_reducible refine (spec_PublicKey.calls 13 t230 _ A47.out).mono ?_
           rintro e w' ⟨rfl, ⟨nd, rfl⟩⟩
           refine ⟨_, rfl, ?_⟩
           refine hK.out _ _ tH (fun hHeld => ?_)
           clear hK K
           refine norm_ (tV : Act.put _ (some 73) _ = _) ?_
           exact norm_ tM (hJ2_3_4 (v227) _ ⟨hHeld, tR HO228, tK BK204, tK BK214, tK BK223, tK BK225, tB⟩)
          intro hJ2_3
          refine join_ (σ := Unit) 40 #[Y_,Y_,N_,Y_,Y_,N_,Y_,Y_,N_,N_,N_,N_,N_,N_,N_,N_,N_,N_,N_,N_,N_,N_,N_,N_,N_,N_,N_,N_,N_,N_,N_,N_,N_,N_,N_,N_,N_,N_,N_,N_,N_,N_,N_,N_,N_,N_] (fun s_ => [(72, .int .i64 t229), (73, .int .i64 t230)]) (fun s_ w' => (w'.cell? ⟨gb204, 0, none⟩ = some (.int .i64 t197) ∧ w'.cell? ⟨gb204, 1, none⟩ = some (.int .i64 t198) ∧ w'.cell? ⟨gb204, 2, none⟩ = some (.int .i64 t199) ∧ w'.cell? ⟨gb204, 3, none⟩ = some (.int .i64 t200) ∧ w'.cell? ⟨gb204, 4, none⟩ = some (.int .i64 t201) ∧ w'.cell? ⟨gb204, 5, none⟩ = some (.int .i64 t202) ∧ w'.cell? ⟨gb214, 0, none⟩ = some (.int .i64 t207) ∧ w'.cell? ⟨gb214, 1, none⟩ = some (.int .i64 t208) ∧ w'.cell? ⟨gb214, 2, none⟩ = some (.int .i64 t209) ∧ w'.cell? ⟨gb214, 3, none⟩ = some (.int .i64 t210) ∧ w'.cell? ⟨gb214, 4, none⟩ = some (.int .i64 t211) ∧ w'.cell? ⟨gb214, 5, none⟩ = some (.int .i64 t212)) ∧ (w'.heap[gb204]? = some (.cells #[.int .i64 t197, .int .i64 t198, .int .i64 t199, .int .i64 t200, .int .i64 t201, .int .i64 t202] 26 (0, 0))) ∧ (w'.heap[gb214]? = some (.cells #[.int .i64 t207, .int .i64 t208, .int .i64 t209, .int .i64 t210, .int .i64 t211, .int .i64 t212] 26 (0, 0))) ∧ (w'.heap[gb223]? = some (.cells #[.int .i64 t216, .int .i64 t217, .int .i64 t218, .int .i64 t219, .int .i64 t220, .int .i64 t221] 26 (0, 0))) ∧ (w'.heap[gb225]? = some (.cells #[.int .i64 t207, .int .i64 t208, .int .i64 7, .int .i64 t210, .int .i64 t211, .int .i64 t212] 26 (0, 0))) ∧ (Below w.heap.size w w')) ?_ ?_
          ·rintro _ w70 ⟨hHeld, h0_, h1_, h2_, h3_, h4_⟩
           replace BK204 := Aside0.mk h0_
           replace BK214 := Aside0.mk h1_
           replace BK223 := Aside0.mk h2_
           replace BK225 := Aside0.mk h3_
           replace HB := Aside0.mk h4_
           clear h0_ h1_ h2_ h3_ h4_
           refine norm_ tM ?_
           refine one_ (i := 2) (N := some 71) #[Y_,Y_,Y_,Y_,Y_,N_,Y_,Y_,N_,N_,N_,N_,N_,N_,N_,N_,N_,N_,N_,N_,N_,N_,N_,N_,N_,N_,N_,N_,N_,N_,N_,N_,N_,N_,N_,N_,N_,N_,N_,N_,N_,N_,N_,N_,N_,N_] rfl rfl (one_of HT_.out (by kernel_rfl)) (by decide) (fun K hK => ?_)
           refine Kd.R_lit_step k26 _ 26 ?hg (N := 71) ?hd (xs := ([(⟨t197, t198, t199, t200, t201, t202⟩ : S26), (⟨t207, t208, t209, t210, t211, t212⟩ : S26)] : List (S26))) (inner := [.int .i64 t197, .int .i64 t198, .int .i64 t199, .int .i64 t200, .int .i64 t201, .int .i64 t202, .int .i64 t207, .int .i64 t208, .int .i64 t209, .int .i64 t210, .int .i64 t211, .int .i64 t212]) (ok := fun _ => True) (okp := fun _ => True) ?hr ?hp (fun _ hk => hk) trivial (Below.refl _ _) (Nat.le_refl _) (by simp) ?_; (case hd => rfl); (case hg => rfl); (case hr => exact tG); (case hp => exact (Reps.c6 (show Kd.M k26 _ _ _ (⟨t197, t198, t199, t200, t201, t202⟩ : S26) [.int .i64 t197, .int .i64 t198, .int .i64 t199, .int .i64 t200, .int .i64 t201, .int .i64 t202] from (k26_mkM _ _ _ (⟨t197, t198, t199, t200, t201, t202⟩ : S26) )) (Reps.c6 (show Kd.M k26 _ _ _ (⟨t207, t208, t209, t210, t211, t212⟩ : S26) [.int .i64 t207, .int .i64 t208, .int .i64 t209, .int .i64 t210, .int .i64 t211, .int .i64 t212] from (k26_mkM _ _ _ (⟨t207, t208, t209, t210, t211, t212⟩ : S26) )) (Reps.none _ _))))
           intro v227 w71 ho72 hb hg_ hnew_
           clear hg_ hnew_
           (first | rw [← Ny226.out] at ho72 | (simp only [Int.reduceToNat] at ho72; rw [← Ny226.out] at ho72))
           have HO228 := Aside0.mk (Kd.R_lower (Kd.R_newB (Kd.R_newB (Kd.R_newB (Kd.R_newB ho72 (g := gb204) (o := .cells #[.int .i64 t197, .int .i64 t198, .int .i64 t199, .int .i64 t200, .int .i64 t201, .int .i64 t202] 26 (0, 0)) (tK BK204)) (g := gb214) (o := .cells #[.int .i64 t207, .int .i64 t208, .int .i64 t209, .int .i64 t210, .int .i64 t211, .int .i64 t212] 26 (0, 0)) (tK BK214)) (g := gb223) (o := .cells #[.int .i64 t216, .int .i64 t217, .int .i64 t218, .int .i64 t219, .int .i64 t220, .int .i64 t221] 26 (0, 0)) (tK BK223)) (g := gb225) (o := .cells #[.int .i64 t207, .int .i64 t208, .int .i64 7, .int .i64 t210, .int .i64 t211, .int .i64 t212] 26 (0, 0)) (tK BK225)) (below_size tB))
           replace BK204 := bB BK204 hb
           replace BK214 := bB BK214 hb
           replace BK223 := bB BK223 hb
           replace BK225 := bB BK225 hb
           replace HB := bH HB hb
           clear hb ho72
           refine hK.out _ _ tH (fun hHeld => ?_)
           clear hK K
           refine norm_ (tV : Act.put _ (some 71) _ = _) ?_
           exact norm_ tM (hJ2_3_4 (v227) _ ⟨hHeld, (by (with_reducible repeat (first | apply Kd.R_alloc | apply Kd.R_drewN | apply Kd.R_drew)); exact Kd.R_mono HO228.out (fun _ hk => ⟨hk.1.1.1.2, ⟨hk.1.1.2, ⟨hk.1.2, hk.2⟩⟩⟩)), tK BK204, tK BK214, tK BK223, tK BK225, tB⟩)
          intro hJ3_4
          refine join_ (σ := Value) 41 #[Y_,Y_,Y_,N_,N_,N_,Y_,Y_,N_,N_,N_,N_,N_,N_,N_,N_,N_,N_,N_,N_,N_,N_,N_,N_,N_,N_,N_,N_,N_,N_,N_,N_,N_,N_,N_,N_,N_,N_,N_,N_,N_,N_,N_,N_,N_,N_] (fun s_ => [(71, s_)]) (fun s_ w' => (w'.cell? ⟨gb204, 0, none⟩ = some (.int .i64 t197) ∧ w'.cell? ⟨gb204, 1, none⟩ = some (.int .i64 t198) ∧ w'.cell? ⟨gb204, 2, none⟩ = some (.int .i64 t199) ∧ w'.cell? ⟨gb204, 3, none⟩ = some (.int .i64 t200) ∧ w'.cell? ⟨gb204, 4, none⟩ = some (.int .i64 t201) ∧ w'.cell? ⟨gb204, 5, none⟩ = some (.int .i64 t202) ∧ w'.cell? ⟨gb214, 0, none⟩ = some (.int .i64 t207) ∧ w'.cell? ⟨gb214, 1, none⟩ = some (.int .i64 t208) ∧ w'.cell? ⟨gb214, 2, none⟩ = some (.int .i64 t209) ∧ w'.cell? ⟨gb214, 3, none⟩ = some (.int .i64 t210) ∧ w'.cell? ⟨gb214, 4, none⟩ = some (.int .i64 t211) ∧ w'.cell? ⟨gb214, 5, none⟩ = some (.int .i64 t212)) ∧ (Kd.R k26 26 w' w.heap.size (fun k_ => k_ ≠ gb204 ∧ k_ ≠ gb214 ∧ k_ ≠ gb223 ∧ k_ ≠ gb225) s_ y226) ∧ (w'.heap[gb204]? = some (.cells #[.int .i64 t197, .int .i64 t198, .int .i64 t199, .int .i64 t200, .int .i64 t201, .int .i64 t202] 26 (0, 0))) ∧ (w'.heap[gb214]? = some (.cells #[.int .i64 t207, .int .i64 t208, .int .i64 t209, .int .i64 t210, .int .i64 t211, .int .i64 t212] 26 (0, 0))) ∧ (w'.heap[gb223]? = some (.cells #[.int .i64 t216, .int .i64 t217, .int .i64 t218, .int .i64 t219, .int .i64 t220, .int .i64 t221] 26 (0, 0))) ∧ (w'.heap[gb225]? = some (.cells #[.int .i64 t207, .int .i64 t208, .int .i64 7, .int .i64 t210, .int .i64 t211, .int .i64 t212] 26 (0, 0))) ∧ (Below w.heap.size w w')) ?_ ?_
          ·rintro v227 w72 ⟨hHeld, h0_, h1_, h2_, h3_, h4_, h5_⟩
           have HO228 := Aside0.mk h0_
           replace BK204 := Aside0.mk h1_
           replace BK214 := Aside0.mk h2_
           replace BK223 := Aside0.mk h3_
           replace BK225 := Aside0.mk h4_
           replace HB := Aside0.mk h5_
           clear h0_ h1_ h2_ h3_ h4_ h5_
           refine norm_ tM ?_
           refine one_ (i := 3) (N := some 72) #[Y_,Y_,Y_,Y_,N_,N_,Y_,Y_,N_,N_,N_,N_,N_,N_,N_,N_,N_,N_,N_,N_,N_,N_,N_,N_,N_,N_,N_,N_,N_,N_,N_,N_,N_,N_,N_,N_,N_,N_,N_,N_,N_,N_,N_,N_,N_,N_] rfl rfl (one_of HT_.out (by kernel_rfl)) (by decide) (fun K hK => ?_)
           refine goes_ Try.func18 (by kernel_rfl) rfl #[.int .i64 11] (by rfl) rfl rfl tL ?_
           with_reducible refine (spec_PublicKey.calls 11 t229 _ A46.out).mono ?_
           rintro e w' ⟨rfl, ⟨nd, rfl⟩⟩
           refine ⟨_, rfl, ?_⟩
           refine hK.out _ _ tH (fun hHeld => ?_)
           clear hK K
           refine norm_ (tV : Act.put _ (some 72) _ = _) ?_
           exact norm_ tM (hJ2_3 (v227) _ ⟨hHeld, tR HO228, tK BK204, tK BK214, tK BK223, tK BK225, tB⟩)
          intro hJ2
          refine join_ (σ := Unit) 41 #[Y_,Y_,N_,Y_,N_,N_,Y_,Y_,N_,N_,N_,N_,N_,N_,N_,N_,N_,N_,N_,N_,N_,N_,N_,N_,N_,N_,N_,N_,N_,N_,N_,N_,N_,N_,N_,N_,N_,N_,N_,N_,N_,N_,N_,N_,N_,N_] (fun s_ => [(72, .int .i64 t229)]) (fun s_ w' => (w'.cell? ⟨gb204, 0, none⟩ = some (.int .i64 t197) ∧ w'.cell? ⟨gb204, 1, none⟩ = some (.int .i64 t198) ∧ w'.cell? ⟨gb204, 2, none⟩ = some (.int .i64 t199) ∧ w'.cell? ⟨gb204, 3, none⟩ = some (.int .i64 t200) ∧ w'.cell? ⟨gb204, 4, none⟩ = some (.int .i64 t201) ∧ w'.cell? ⟨gb204, 5, none⟩ = some (.int .i64 t202) ∧ w'.cell? ⟨gb214, 0, none⟩ = some (.int .i64 t207) ∧ w'.cell? ⟨gb214, 1, none⟩ = some (.int .i64 t208) ∧ w'.cell? ⟨gb214, 2, none⟩ = some (.int .i64 t209) ∧ w'.cell? ⟨gb214, 3, none⟩ = some (.int .i64 t210) ∧ w'.cell? ⟨gb214, 4, none⟩ = some (.int .i64 t211) ∧ w'.cell? ⟨gb214, 5, none⟩ = some (.int .i64 t212)) ∧ (w'.heap[gb204]? = some (.cells #[.int .i64 t197, .int .i64 t198, .int .i64 t199, .int .i64 t200, .int .i64 t201, .int .i64 t202] 26 (0, 0))) ∧ (w'.heap[gb214]? = some (.cells #[.int .i64 t207, .int .i64 t208, .int .i64 t209, .int .i64 t210, .int .i64 t211, .int .i64 t212] 26 (0, 0))) ∧ (w'.heap[gb223]? = some (.cells #[.int .i64 t216, .int .i64 t217, .int .i64 t218, .int .i64 t219, .int .i64 t220, .int .i64 t221] 26 (0, 0))) ∧ (w'.heap[gb225]? = some (.cells #[.int .i64 t207, .int .i64 t208, .int .i64 7, .int .i64 t210, .int .i64 t211, .int .i64 t212] 26 (0, 0))) ∧ (Below w.heap.size w w')) ?_ ?_
          ·rintro _ w70 ⟨hHeld, h0_, h1_, h2_, h3_, h4_⟩
           replace BK204 := Aside0.mk h0_
           replace BK214 := Aside0.mk h1_
           replace BK223 := Aside0.mk h2_
           replace BK225 := Aside0.mk h3_
           replace HB := Aside0.mk h4_
           clear h0_ h1_ h2_ h3_ h4_
           refine norm_ tM ?_
           refine two_ (i := 2) (j := 4) (Ni := some 71) (Nj := some 73) #[Y_,Y_,Y_,Y_,N_,N_,Y_,Y_,N_,N_,N_,N_,N_,N_,N_,N_,N_,N_,N_,N_,N_,N_,N_,N_,N_,N_,N_,N_,N_,N_,N_,N_,N_,N_,N_,N_,N_,N_,N_,N_,N_,N_,N_,N_,N_,N_] #[Y_,Y_,N_,Y_,Y_,N_,Y_,Y_,N_,N_,N_,N_,N_,N_,N_,N_,N_,N_,N_,N_,N_,N_,N_,N_,N_,N_,N_,N_,N_,N_,N_,N_,N_,N_,N_,N_,N_,N_,N_,N_,N_,N_,N_,N_,N_,N_] rfl rfl rfl rfl (two_of HT_.out (by kernel_rfl)) (by decide) (by decide) (fun K hK => ?_) (fun K hK => ?_)
           ·refine Kd.R_lit_step k26 _ 26 ?hg (N := 71) ?hd (xs := ([(⟨t197, t198, t199, t200, t201, t202⟩ : S26), (⟨t207, t208, t209, t210, t211, t212⟩ : S26)] : List (S26))) (inner := [.int .i64 t197, .int .i64 t198, .int .i64 t199, .int .i64 t200, .int .i64 t201, .int .i64 t202, .int .i64 t207, .int .i64 t208, .int .i64 t209, .int .i64 t210, .int .i64 t211, .int .i64 t212]) (ok := fun _ => True) (okp := fun _ => True) ?hr ?hp (fun _ hk => hk) trivial (Below.refl _ _) (Nat.le_refl _) (by simp) ?_; (case hd => rfl); (case hg => rfl); (case hr => exact tG); (case hp => exact (Reps.c6 (show Kd.M k26 _ _ _ (⟨t197, t198, t199, t200, t201, t202⟩ : S26) [.int .i64 t197, .int .i64 t198, .int .i64 t199, .int .i64 t200, .int .i64 t201, .int .i64 t202] from (k26_mkM _ _ _ (⟨t197, t198, t199, t200, t201, t202⟩ : S26) )) (Reps.c6 (show Kd.M k26 _ _ _ (⟨t207, t208, t209, t210, t211, t212⟩ : S26) [.int .i64 t207, .int .i64 t208, .int .i64 t209, .int .i64 t210, .int .i64 t211, .int .i64 t212] from (k26_mkM _ _ _ (⟨t207, t208, t209, t210, t211, t212⟩ : S26) )) (Reps.none _ _))))
            intro v227 w71 ho72 hb hg_ hnew_
            clear hg_ hnew_
            (first | rw [← Ny226.out] at ho72 | (simp only [Int.reduceToNat] at ho72; rw [← Ny226.out] at ho72))
            have HO228 := Aside0.mk (Kd.R_lower (Kd.R_newB (Kd.R_newB (Kd.R_newB (Kd.R_newB ho72 (g := gb204) (o := .cells #[.int .i64 t197, .int .i64 t198, .int .i64 t199, .int .i64 t200, .int .i64 t201, .int .i64 t202] 26 (0, 0)) (tK BK204)) (g := gb214) (o := .cells #[.int .i64 t207, .int .i64 t208, .int .i64 t209, .int .i64 t210, .int .i64 t211, .int .i64 t212] 26 (0, 0)) (tK BK214)) (g := gb223) (o := .cells #[.int .i64 t216, .int .i64 t217, .int .i64 t218, .int .i64 t219, .int .i64 t220, .int .i64 t221] 26 (0, 0)) (tK BK223)) (g := gb225) (o := .cells #[.int .i64 t207, .int .i64 t208, .int .i64 7, .int .i64 t210, .int .i64 t211, .int .i64 t212] 26 (0, 0)) (tK BK225)) (below_size tB))
            replace BK204 := bB BK204 hb
            replace BK214 := bB BK214 hb
            replace BK223 := bB BK223 hb
            replace BK225 := bB BK225 hb
            replace HB := bH HB hb
            clear hb ho72
            refine hK.out _ _ tH (fun hHeld => ?_)
            clear hK K
            refine norm_ (tV : Act.put _ (some 71) _ = _) ?_
            exact norm_ tM (hJ2_3 (v227) _ ⟨hHeld, (by (with_reducible repeat (first | apply Kd.R_alloc | apply Kd.R_drewN | apply Kd.R_drew)); exact Kd.R_mono HO228.out (fun _ hk => ⟨hk.1.1.1.2, ⟨hk.1.1.2, ⟨hk.1.2, hk.2⟩⟩⟩)), tK BK204, tK BK214, tK BK223, tK BK225, tB⟩)
           refine goes_ Try.func18 (by kernel_rfl) rfl #[.int .i64 13] (by rfl) rfl rfl tL ?_
           with_reducible refine (spec_PublicKey.calls 13 t230 _ A47.out).mono ?_
           rintro e w' ⟨rfl, ⟨nd, rfl⟩⟩
           refine ⟨_, rfl, ?_⟩
           refine hK.out _ _ tH (fun hHeld => ?_)
           clear hK K
           refine norm_ (tV : Act.put _ (some 73) _ = _) ?_
           exact norm_ tM (hJ3_4 () _ ⟨hHeld, tK BK204, tK BK214, tK BK223, tK BK225, tB⟩)
          intro hJ3
          refine two_ (i := 2) (j := 3) (Ni := some 71) (Nj := some 72) #[Y_,Y_,Y_,N_,N_,N_,Y_,Y_,N_,N_,N_,N_,N_,N_,N_,N_,N_,N_,N_,N_,N_,N_,N_,N_,N_,N_,N_,N_,N_,N_,N_,N_,N_,N_,N_,N_,N_,N_,N_,N_,N_,N_,N_,N_,N_,N_] #[Y_,Y_,N_,Y_,N_,N_,Y_,Y_,N_,N_,N_,N_,N_,N_,N_,N_,N_,N_,N_,N_,N_,N_,N_,N_,N_,N_,N_,N_,N_,N_,N_,N_,N_,N_,N_,N_,N_,N_,N_,N_,N_,N_,N_,N_,N_,N_] rfl rfl rfl rfl (two_of HT_.out (by kernel_rfl)) (by decide) (by decide) (fun K hK => ?_) (fun K hK => ?_)
          ·refine Kd.R_lit_step k26 _ 26 ?hg (N := 71) ?hd (xs := ([(⟨t197, t198, t199, t200, t201, t202⟩ : S26), (⟨t207, t208, t209, t210, t211, t212⟩ : S26)] : List (S26))) (inner := [.int .i64 t197, .int .i64 t198, .int .i64 t199, .int .i64 t200, .int .i64 t201, .int .i64 t202, .int .i64 t207, .int .i64 t208, .int .i64 t209, .int .i64 t210, .int .i64 t211, .int .i64 t212]) (ok := fun _ => True) (okp := fun _ => True) ?hr ?hp (fun _ hk => hk) trivial (Below.refl _ _) (Nat.le_refl _) (by simp) ?_; (case hd => rfl); (case hg => rfl); (case hr => exact tG); (case hp => exact (Reps.c6 (show Kd.M k26 _ _ _ (⟨t197, t198, t199, t200, t201, t202⟩ : S26) [.int .i64 t197, .int .i64 t198, .int .i64 t199, .int .i64 t200, .int .i64 t201, .int .i64 t202] from (k26_mkM _ _ _ (⟨t197, t198, t199, t200, t201, t202⟩ : S26) )) (Reps.c6 (show Kd.M k26 _ _ _ (⟨t207, t208, t209, t210, t211, t212⟩ : S26) [.int .i64 t207, .int .i64 t208, .int .i64 t209, .int .i64 t210, .int .i64 t211, .int .i64 t212] from (k26_mkM _ _ _ (⟨t207, t208, t209, t210, t211, t212⟩ : S26) )) (Reps.none _ _))))
           intro v227 w70 ho71 hb hg_ hnew_
           clear hg_ hnew_
           (first | rw [← Ny226.out] at ho71 | (simp only [Int.reduceToNat] at ho71; rw [← Ny226.out] at ho71))
           have HO228 := Aside0.mk (Kd.R_lower (Kd.R_newB (Kd.R_newB (Kd.R_newB (Kd.R_newB ho71 (g := gb204) (o := .cells #[.int .i64 t197, .int .i64 t198, .int .i64 t199, .int .i64 t200, .int .i64 t201, .int .i64 t202] 26 (0, 0)) (tK BK204)) (g := gb214) (o := .cells #[.int .i64 t207, .int .i64 t208, .int .i64 t209, .int .i64 t210, .int .i64 t211, .int .i64 t212] 26 (0, 0)) (tK BK214)) (g := gb223) (o := .cells #[.int .i64 t216, .int .i64 t217, .int .i64 t218, .int .i64 t219, .int .i64 t220, .int .i64 t221] 26 (0, 0)) (tK BK223)) (g := gb225) (o := .cells #[.int .i64 t207, .int .i64 t208, .int .i64 7, .int .i64 t210, .int .i64 t211, .int .i64 t212] 26 (0, 0)) (tK BK225)) (below_size tB))
           replace BK204 := bB BK204 hb
           replace BK214 := bB BK214 hb
           replace BK223 := bB BK223 hb
           replace BK225 := bB BK225 hb
           replace HB := bH HB hb
           clear hb ho71
           refine hK.out _ _ tH (fun hHeld => ?_)
           clear hK K
           refine norm_ (tV : Act.put _ (some 71) _ = _) ?_
           exact norm_ tM (hJ2 (v227) _ ⟨hHeld, (by (with_reducible repeat (first | apply Kd.R_alloc | apply Kd.R_drewN | apply Kd.R_drew)); exact Kd.R_mono HO228.out (fun _ hk => ⟨hk.1.1.1.2, ⟨hk.1.1.2, ⟨hk.1.2, hk.2⟩⟩⟩)), tK BK204, tK BK214, tK BK223, tK BK225, tB⟩)
          refine goes_ Try.func18 (by kernel_rfl) rfl #[.int .i64 11] (by rfl) rfl rfl tL ?_
          with_reducible refine (spec_PublicKey.calls 11 t229 _ A46.out).mono ?_
          rintro e w' ⟨rfl, ⟨nd, rfl⟩⟩
          refine ⟨_, rfl, ?_⟩
          refine hK.out _ _ tH (fun hHeld => ?_)
          clear hK K
          refine norm_ (tV : Act.put _ (some 72) _ = _) ?_
          exact norm_ tM (hJ3 () _ ⟨hHeld, tK BK204, tK BK214, tK BK223, tK BK225, tB⟩)
         rw [if_neg c56] at H
         have c56b0 : (t211 == (wrap64 ((Int.tmod t194 6) - 1))) = false := beq_eq_false_iff_ne.mpr c56
         have c56b1 : (t211 != (wrap64 ((Int.tmod t194 6) - 1))) = true := bne_iff_ne.mpr c56
         exact absurd ((Option.some.inj H).trans hT_) (by decide)
        rw [if_neg c55] at H
        have c55b0 : (t209 == 7) = false := beq_eq_false_iff_ne.mpr c55
        have c55b1 : (t209 != 7) = true := bne_iff_ne.mpr c55
        replace H := Option.bind_eq_some_iff.mp H
        obtain ⟨t246, A830, H⟩ := H
        try dsimp only at H
        have A83 := Aside0.mk A830
        clear A830
        by_cases c84 : t246 = true
        ·subst c84
         have H1 : (some false) = some r := by rw [if_pos rfl] at H; exact H
         clear H
         have H := H1
         clear H1
         exact absurd ((Option.some.inj H).trans hT_) (by decide)
        replace c84 := Bool.eq_false_iff.mpr c84
        subst c84
        have H1 : (if t211 = (wrap64 ((Int.tmod t194 6) - 1)) then ((impl_GrantMessage.f t207 t208 t209 t210 t211 t212).bind fun t247 => ((spec_GrantMessage.f t207 t208 t209 t210 t211 t212).bind fun t250 => ((laws_sameInts.f kj12 t247 t250).bind fun t253 => (some t253)))) else (some false)) = some r := by rw [if_neg (show ¬ (false = true) by decide)] at H; exact H
        clear H
        have H := H1
        clear H1
        by_cases c85 : t211 = (wrap64 ((Int.tmod t194 6) - 1))
        ·rw [if_pos c85] at H
         have c85b0 : (t211 == (wrap64 ((Int.tmod t194 6) - 1))) = true := beq_iff_eq.mpr c85
         have c85b1 : (t211 != (wrap64 ((Int.tmod t194 6) - 1))) = false := bne_eq_false_iff_eq.mpr c85
         clear c85
         replace H := Option.bind_eq_some_iff.mp H
         obtain ⟨t247, A860, H⟩ := H
         try dsimp only at H
         have A86 := Aside0.mk A860
         clear A860
         replace H := Option.bind_eq_some_iff.mp H
         obtain ⟨t250, A870, H⟩ := H
         try dsimp only at H
         have A87 := Aside0.mk A870
         clear A870
         replace H := Option.bind_eq_some_iff.mp H
         obtain ⟨t253, A880, H⟩ := H
         try dsimp only at H
         have A88 := Aside0.mk A880
         clear A880
         obtain rfl := Option.some.inj H
         have hnb89 := NB214_204.out
         have hnc89 := NB204_214.out
         have hnb90 := NB214_223.out
         have hnc90 := NB223_214.out
         obtain ⟨hcz91_0, hcz91_1, hcz91_2, hcz91_3, hcz91_4, hcz91_5, hfz91_0, hfz91_1, hfz91_2, hfz91_3, hfz91_4, hfz91_5⟩ := bc6 BK214.out
         try go_wp2_with (first | ((with_reducible refine gate_dst (N := 11) rfl ?_); (try (refine gate_guard (by rfl) ?_; dsimp only)); refine box_event ?hg (N := 11) ?hd (cs := #[.int .i64 0, .int .i64 0, .int .i64 0, .int .i64 0, .int .i64 0, .int .i64 0]) (t := 26) ?hr ?_; (case hd => rfl); (case hg => rfl); (case hr => exact tG); intro gb225 hg w92 hbox hb; have BK225 := Aside0.mk (hbox); have GW225 := gW HB hg; have GE225 := gW HB hg; replace HB := bH HB hb; have NB204_225 := nL BK204 hg; have NB225_204 := nR BK204 hg; replace BK204 := bB BK204 hb; have NB214_225 := nL BK214 hg; have NB225_214 := nR BK214 hg; replace BK214 := bB BK214 hb; have NB223_225 := nL BK223 hg; have NB225_223 := nR BK223 hg; replace BK223 := bB BK223 hb; clear hb hbox hg; have hnb93 := NB225_204.out; have hnc93 := NB204_225.out; have hnb94 := NB225_214.out; have hnc94 := NB214_225.out; have hnb95 := NB225_223.out; have hnc95 := NB223_225.out; obtain ⟨hcz96_0, hcz96_1, hcz96_2, hcz96_3, hcz96_4, hcz96_5, hfz96_0, hfz96_1, hfz96_2, hfz96_3, hfz96_4, hfz96_5⟩ := bc6 BK225.out))
         have n0_ : Aside0 ((((((((w92.setCell ⟨gb225, 0, none⟩ (.int .i64 t207)).setCell ⟨gb225, 1, none⟩ (.int .i64 t208)).setCell ⟨gb225, 2, none⟩ (.int .i64 t209)).setCell ⟨gb225, 3, none⟩ (.int .i64 t210)).setCell ⟨gb225, 4, none⟩ (.int .i64 t211)).setCell ⟨gb225, 5, none⟩ (.int .i64 t212)).setCell ⟨gb225, 2, none⟩ (.int .i64 7)).heap[gb204]? = some (.cells #[.int .i64 t197, .int .i64 t198, .int .i64 t199, .int .i64 t200, .int .i64 t201, .int .i64 t202] 26 (0, 0))) := ⟨kF NB204_225 BK204⟩
         have n1_ : Aside0 ((((((((w92.setCell ⟨gb225, 0, none⟩ (.int .i64 t207)).setCell ⟨gb225, 1, none⟩ (.int .i64 t208)).setCell ⟨gb225, 2, none⟩ (.int .i64 t209)).setCell ⟨gb225, 3, none⟩ (.int .i64 t210)).setCell ⟨gb225, 4, none⟩ (.int .i64 t211)).setCell ⟨gb225, 5, none⟩ (.int .i64 t212)).setCell ⟨gb225, 2, none⟩ (.int .i64 7)).heap[gb214]? = some (.cells #[.int .i64 t207, .int .i64 t208, .int .i64 t209, .int .i64 t210, .int .i64 t211, .int .i64 t212] 26 (0, 0))) := ⟨kF NB214_225 BK214⟩
         have n2_ : Aside0 ((((((((w92.setCell ⟨gb225, 0, none⟩ (.int .i64 t207)).setCell ⟨gb225, 1, none⟩ (.int .i64 t208)).setCell ⟨gb225, 2, none⟩ (.int .i64 t209)).setCell ⟨gb225, 3, none⟩ (.int .i64 t210)).setCell ⟨gb225, 4, none⟩ (.int .i64 t211)).setCell ⟨gb225, 5, none⟩ (.int .i64 t212)).setCell ⟨gb225, 2, none⟩ (.int .i64 7)).heap[gb223]? = some (.cells #[.int .i64 t216, .int .i64 t217, .int .i64 t218, .int .i64 t219, .int .i64 t220, .int .i64 t221] 26 (0, 0))) := ⟨kF NB223_225 BK223⟩
         have n3_ : Aside0 ((((((((w92.setCell ⟨gb225, 0, none⟩ (.int .i64 t207)).setCell ⟨gb225, 1, none⟩ (.int .i64 t208)).setCell ⟨gb225, 2, none⟩ (.int .i64 t209)).setCell ⟨gb225, 3, none⟩ (.int .i64 t210)).setCell ⟨gb225, 4, none⟩ (.int .i64 t211)).setCell ⟨gb225, 5, none⟩ (.int .i64 t212)).setCell ⟨gb225, 2, none⟩ (.int .i64 7)).heap[gb225]? = some (.cells #[.int .i64 t207, .int .i64 t208, .int .i64 7, .int .i64 t210, .int .i64 t211, .int .i64 t212] 26 (0, 0))) := ⟨by (with_reducible repeat (first | refine blk_drewN ?_ _ | refine blk_drew ?_ | refine blk_alloc ?_ _)); refine blk_put (cs := #[.int .i64 t207, .int .i64 t208, .int .i64 t209, .int .i64 t210, .int .i64 t211, .int .i64 t212]) ?_ 2 _ rfl; (with_reducible repeat (first | refine blk_drewN ?_ _ | refine blk_drew ?_ | refine blk_alloc ?_ _)); refine blk_put (cs := #[.int .i64 t207, .int .i64 t208, .int .i64 t209, .int .i64 t210, .int .i64 t211, .int .i64 0]) ?_ 5 _ rfl; (with_reducible repeat (first | refine blk_drewN ?_ _ | refine blk_drew ?_ | refine blk_alloc ?_ _)); refine blk_put (cs := #[.int .i64 t207, .int .i64 t208, .int .i64 t209, .int .i64 t210, .int .i64 0, .int .i64 0]) ?_ 4 _ rfl; (with_reducible repeat (first | refine blk_drewN ?_ _ | refine blk_drew ?_ | refine blk_alloc ?_ _)); refine blk_put (cs := #[.int .i64 t207, .int .i64 t208, .int .i64 t209, .int .i64 0, .int .i64 0, .int .i64 0]) ?_ 3 _ rfl; (with_reducible repeat (first | refine blk_drewN ?_ _ | refine blk_drew ?_ | refine blk_alloc ?_ _)); refine blk_put (cs := #[.int .i64 t207, .int .i64 t208, .int .i64 0, .int .i64 0, .int .i64 0, .int .i64 0]) ?_ 2 _ rfl; (with_reducible repeat (first | refine blk_drewN ?_ _ | refine blk_drew ?_ | refine blk_alloc ?_ _)); refine blk_put (cs := #[.int .i64 t207, .int .i64 0, .int .i64 0, .int .i64 0, .int .i64 0, .int .i64 0]) ?_ 1 _ rfl; (with_reducible repeat (first | refine blk_drewN ?_ _ | refine blk_drew ?_ | refine blk_alloc ?_ _)); refine blk_put (cs := #[.int .i64 0, .int .i64 0, .int .i64 0, .int .i64 0, .int .i64 0, .int .i64 0]) ?_ 0 _ rfl; (with_reducible repeat (first | refine blk_drewN ?_ _ | refine blk_drew ?_ | refine blk_alloc ?_ _)); exact BK225.out⟩
         have n4_ : Aside0 (Below w.heap.size w (((((((w92.setCell ⟨gb225, 0, none⟩ (.int .i64 t207)).setCell ⟨gb225, 1, none⟩ (.int .i64 t208)).setCell ⟨gb225, 2, none⟩ (.int .i64 t209)).setCell ⟨gb225, 3, none⟩ (.int .i64 t210)).setCell ⟨gb225, 4, none⟩ (.int .i64 t211)).setCell ⟨gb225, 5, none⟩ (.int .i64 t212)).setCell ⟨gb225, 2, none⟩ (.int .i64 7))) := ⟨tB⟩
         (try clear BK204)
         (try clear BK214)
         (try clear BK223)
         (try clear BK225)
         (try clear HB)
         generalize (((((((w92.setCell ⟨gb225, 0, none⟩ (.int .i64 t207)).setCell ⟨gb225, 1, none⟩ (.int .i64 t208)).setCell ⟨gb225, 2, none⟩ (.int .i64 t209)).setCell ⟨gb225, 3, none⟩ (.int .i64 t210)).setCell ⟨gb225, 4, none⟩ (.int .i64 t211)).setCell ⟨gb225, 5, none⟩ (.int .i64 t212)).setCell ⟨gb225, 2, none⟩ (.int .i64 7)) = w97 at n0_ n1_ n2_ n3_ n4_ ⊢
         have BK204 := n0_
         have BK214 := n1_
         have BK223 := n2_
         have BK225 := n3_
         have HB := n4_
         clear n0_ n1_ n2_ n3_ n4_
         replace BK204 := Aside0.mk (blk_drew BK204.out)
         replace BK214 := Aside0.mk (blk_drew BK214.out)
         replace BK223 := Aside0.mk (blk_drew BK223.out)
         replace BK225 := Aside0.mk (blk_drew BK225.out)
         replace HB := Aside0.mk (below_drew1 HB.out)
         refine start_ (n := 46) (S := fun w' => w'.cell? ⟨gb204, 0, none⟩ = some (.int .i64 t197) ∧ w'.cell? ⟨gb204, 1, none⟩ = some (.int .i64 t198) ∧ w'.cell? ⟨gb204, 2, none⟩ = some (.int .i64 t199) ∧ w'.cell? ⟨gb204, 3, none⟩ = some (.int .i64 t200) ∧ w'.cell? ⟨gb204, 4, none⟩ = some (.int .i64 t201) ∧ w'.cell? ⟨gb204, 5, none⟩ = some (.int .i64 t202) ∧ w'.cell? ⟨gb214, 0, none⟩ = some (.int .i64 t207) ∧ w'.cell? ⟨gb214, 1, none⟩ = some (.int .i64 t208) ∧ w'.cell? ⟨gb214, 2, none⟩ = some (.int .i64 t209) ∧ w'.cell? ⟨gb214, 3, none⟩ = some (.int .i64 t210) ∧ w'.cell? ⟨gb214, 4, none⟩ = some (.int .i64 t211) ∧ w'.cell? ⟨gb214, 5, none⟩ = some (.int .i64 t212) ∧ w'.cell? ⟨gb225, 0, none⟩ = some (.int .i64 t207) ∧ w'.cell? ⟨gb225, 1, none⟩ = some (.int .i64 t208) ∧ w'.cell? ⟨gb225, 2, none⟩ = some (.int .i64 7) ∧ w'.cell? ⟨gb225, 3, none⟩ = some (.int .i64 t210) ∧ w'.cell? ⟨gb225, 4, none⟩ = some (.int .i64 t211) ∧ w'.cell? ⟨gb225, 5, none⟩ = some (.int .i64 t212)) (ds := []) #[N_,N_,N_,N_,N_,N_,N_,N_,N_,N_,N_,N_,N_,N_,N_,N_,N_,N_,N_,N_,N_,N_,N_,N_,N_,N_,N_,N_,N_,N_,N_,N_,N_,N_,N_,N_,N_,N_,N_,N_,N_,N_,N_,N_,N_,N_] (by kernel_rfl) rfl rfl tH (fun hHeld => ?_); refine with_tabW laws_FnNarrowing.tab14 laws_FnNarrowing.bits14 (fun HT_ HW_ => ?_)
         generalize w97.drew = w98 at BK204 BK214 BK223 BK225 HB hHeld ⊢
         refine pure_ (i := 6) (N := some 75) #[N_,N_,N_,N_,N_,N_,Y_,N_,N_,N_,N_,N_,N_,N_,N_,N_,N_,N_,N_,N_,N_,N_,N_,N_,N_,N_,N_,N_,N_,N_,N_,N_,N_,N_,N_,N_,N_,N_,N_,N_,N_,N_,N_,N_,N_,N_] rfl rfl (any_of HT_.out (by kernel_rfl)) (fun _ _ _ h => h) (Or.inl ⟨by rfl, tX⟩) tV ?_
         refine pure_ (i := 7) (N := some 76) #[N_,N_,N_,N_,N_,N_,Y_,Y_,N_,N_,N_,N_,N_,N_,N_,N_,N_,N_,N_,N_,N_,N_,N_,N_,N_,N_,N_,N_,N_,N_,N_,N_,N_,N_,N_,N_,N_,N_,N_,N_,N_,N_,N_,N_,N_,N_] rfl rfl (any_of HT_.out (by kernel_rfl)) (fun _ _ _ h => h) (Or.inl ⟨by rfl, tX⟩) tV ?_
         refine take_ (i := 0) (N := some 69) (v := ?_) (a' := ?_) #[Y_,N_,N_,N_,N_,N_,Y_,Y_,N_,N_,N_,N_,N_,N_,N_,N_,N_,N_,N_,N_,N_,N_,N_,N_,N_,N_,N_,N_,N_,N_,N_,N_,N_,N_,N_,N_,N_,N_,N_,N_,N_,N_,N_,N_,N_,N_] rfl rfl (take_ofW HT_.out HW_.out (by kernel_rfl)) (fun _ _ _ h => h) (Or.inl ⟨by rfl, ?_⟩) hHeld ?_ ?_
         rotate_left
         ·rintro w' ⟨s0, s1, s2, s3, s4, s5, s6, s7, s8, s9, s10, s11, s12, s13, s14, s15, s16, s17⟩
          go_simp
          with_reducible rfl
         rotate_left
         ·simp only [Act.put, List.setIfInBounds_toArray, List.set_cons_zero, List.set_cons_succ, i64_w, i32_w]
          rfl
         refine take_ (i := 1) (N := some 70) (v := ?_) (a' := ?_) #[Y_,Y_,N_,N_,N_,N_,Y_,Y_,N_,N_,N_,N_,N_,N_,N_,N_,N_,N_,N_,N_,N_,N_,N_,N_,N_,N_,N_,N_,N_,N_,N_,N_,N_,N_,N_,N_,N_,N_,N_,N_,N_,N_,N_,N_,N_,N_] rfl rfl (take_ofW HT_.out HW_.out (by kernel_rfl)) (fun _ _ _ h => h) (Or.inl ⟨by rfl, ?_⟩) hHeld ?_ ?_
         rotate_left
         ·rintro w' ⟨s0, s1, s2, s3, s4, s5, s6, s7, s8, s9, s10, s11, s12, s13, s14, s15, s16, s17⟩
          go_simp
          with_reducible rfl
         rotate_left
         ·simp only [Act.put, List.setIfInBounds_toArray, List.set_cons_zero, List.set_cons_succ, i64_w, i32_w]
          rfl
         refine join_ (σ := Value × Value) 28 #[Y_,Y_,Y_,Y_,Y_,Y_,Y_,Y_,Y_,Y_,Y_,Y_,Y_,Y_,Y_,Y_,Y_,Y_,N_,N_,N_,N_,N_,N_,N_,N_,N_,N_,N_,N_,N_,N_,N_,N_,N_,N_,N_,N_,N_,N_,N_,N_,N_,N_,N_,N_] (fun s_ => [(71, s_.1), (72, .int .i64 t229), (73, .int .i64 t230), (74, .int .i64 t231), (77, .int .i64 t232), (84, s_.2), (85, .int .i64 t236), (86, .int .i64 t237), (78, .int .i64 (Int.tmod t232 8)), (79, .int .i64 (Go.bits .and .i64 (wrap64 (1 + (Int.tmod t195 7))) (Int.tmod t232 8))), (80, .bool true), (81, .bool true), (82, .agg #[.int .i64 t197, .int .i64 t198, .int .i64 t199, .int .i64 t200, .int .i64 t201, .int .i64 t202]), (83, .agg #[.int .i64 t207, .int .i64 t208, .int .i64 t209, .int .i64 t210, .int .i64 t211, .int .i64 t212])]) (fun s_ w' => (w'.cell? ⟨gb204, 0, none⟩ = some (.int .i64 t197) ∧ w'.cell? ⟨gb204, 1, none⟩ = some (.int .i64 t198) ∧ w'.cell? ⟨gb204, 2, none⟩ = some (.int .i64 t199) ∧ w'.cell? ⟨gb204, 3, none⟩ = some (.int .i64 t200) ∧ w'.cell? ⟨gb204, 4, none⟩ = some (.int .i64 t201) ∧ w'.cell? ⟨gb204, 5, none⟩ = some (.int .i64 t202) ∧ w'.cell? ⟨gb214, 0, none⟩ = some (.int .i64 t207) ∧ w'.cell? ⟨gb214, 1, none⟩ = some (.int .i64 t208) ∧ w'.cell? ⟨gb214, 2, none⟩ = some (.int .i64 t209) ∧ w'.cell? ⟨gb214, 3, none⟩ = some (.int .i64 t210) ∧ w'.cell? ⟨gb214, 4, none⟩ = some (.int .i64 t211) ∧ w'.cell? ⟨gb214, 5, none⟩ = some (.int .i64 t212) ∧ w'.cell? ⟨gb225, 0, none⟩ = some (.int .i64 t207) ∧ w'.cell? ⟨gb225, 1, none⟩ = some (.int .i64 t208) ∧ w'.cell? ⟨gb225, 2, none⟩ = some (.int .i64 7) ∧ w'.cell? ⟨gb225, 3, none⟩ = some (.int .i64 t210) ∧ w'.cell? ⟨gb225, 4, none⟩ = some (.int .i64 t211) ∧ w'.cell? ⟨gb225, 5, none⟩ = some (.int .i64 t212)) ∧ (Kd.R k26 26 w' w.heap.size (fun k_ => some k_ ≠ (s_.2 : Value).ownBlock ∧ k_ ≠ gb204 ∧ k_ ≠ gb214 ∧ k_ ≠ gb223 ∧ k_ ≠ gb225) s_.1 y226) ∧ (Kd.R k26 26 w' w.heap.size (fun k_ => some k_ ≠ (s_.1 : Value).ownBlock ∧ k_ ≠ gb204 ∧ k_ ≠ gb214 ∧ k_ ≠ gb223 ∧ k_ ≠ gb225) s_.2 y233) ∧ (w'.heap[gb204]? = some (.cells #[.int .i64 t197, .int .i64 t198, .int .i64 t199, .int .i64 t200, .int .i64 t201, .int .i64 t202] 26 (0, 0))) ∧ (w'.heap[gb214]? = some (.cells #[.int .i64 t207, .int .i64 t208, .int .i64 t209, .int .i64 t210, .int .i64 t211, .int .i64 t212] 26 (0, 0))) ∧ (w'.heap[gb223]? = some (.cells #[.int .i64 t216, .int .i64 t217, .int .i64 t218, .int .i64 t219, .int .i64 t220, .int .i64 t221] 26 (0, 0))) ∧ (w'.heap[gb225]? = some (.cells #[.int .i64 t207, .int .i64 t208, .int .i64 7, .int .i64 t210, .int .i64 t211, .int .i64 t212] 26 (0, 0))) ∧ (Below w.heap.size w w')) ?_ ?_
         ·rintro ⟨v227, v234⟩ w105 hS_
          dsimp only at hS_
          obtain ⟨hHeld, h0_, h1_, h2_, h3_, h4_, h5_, h6_⟩ := hS_
          have HO228 := Aside0.mk h0_
          have HO235 := Aside0.mk h1_
          replace BK204 := Aside0.mk h2_
          replace BK214 := Aside0.mk h3_
          replace BK223 := Aside0.mk h4_
          replace BK225 := Aside0.mk h5_
          replace HB := Aside0.mk h6_
          clear h0_ h1_ h2_ h3_ h4_ h5_ h6_
          obtain ⟨Ao106, co106, eo106⟩ := Kd.R_slice HO235.out
          (first | subst eo106 | (injection eo106 with f1_ f2_ f3_; have f4_ := f1_.symm; have f5_ := f3_.symm; clear f1_ f2_ f3_; subst f4_; subst f5_))
          refine norm_ tM ?_
          refine one_ (i := 18) (N := some 87) #[Y_,Y_,Y_,Y_,Y_,Y_,Y_,Y_,Y_,Y_,Y_,Y_,Y_,Y_,Y_,Y_,Y_,Y_,Y_,N_,N_,N_,N_,N_,N_,N_,N_,N_,N_,N_,N_,N_,N_,N_,N_,N_,N_,N_,N_,N_,N_,N_,N_,N_,N_,N_] rfl rfl (one_of HT_.out (by kernel_rfl)) (by decide) (fun K hK => ?_)
          refine goes_ Try.func20 (by kernel_rfl) rfl #[.slice Ao106 y233.length co106, .int .i64 t236, .int .i64 t237, .int .i64 51] (by rfl) rfl rfl tL ?_
          with_reducible refine (impl_ChainScopes.calls kj12 _ _ y233 t236 t237 51 t238 _ ?side1 ?side2 A53.out).mono ?_
          (case side1 => repeat (first | exact (Kd.R_reads' HO235.out).2.2 | (with_reducible refine Kd.C_alloc ?_ _) | (with_reducible refine Kd.C_drewN ?_ _) | (with_reducible refine Kd.C_drew ?_)))
          (case side2 => exact (Kd.R_reads' HO235.out).2.1)
          rintro e w107 ⟨rfl, hb⟩
          refine ⟨_, rfl, ?_⟩
          replace HO228 := Aside0.mk (Kd.R_below (tR HO228) hb)
          replace HO235 := Aside0.mk (Kd.R_below (tR HO235) hb)
          replace BK204 := bB BK204 hb
          replace BK214 := bB BK214 hb
          replace BK223 := bB BK223 hb
          replace BK225 := bB BK225 hb
          replace HB := bH HB hb
          (try clear hb)
          (try clear hb2)
          (try clear hk)
          (try clear hi)
          refine hK.out _ _ tH (fun hHeld => ?_)
          clear hK K
          refine norm_ (tV : Act.put _ (some 87) _ = _) ?_
          refine pure_ (i := 19) (N := some 88) #[Y_,Y_,Y_,Y_,Y_,Y_,Y_,Y_,Y_,Y_,Y_,Y_,Y_,Y_,Y_,Y_,Y_,Y_,Y_,Y_,N_,N_,N_,N_,N_,N_,N_,N_,N_,N_,N_,N_,N_,N_,N_,N_,N_,N_,N_,N_,N_,N_,N_,N_,N_,N_] rfl rfl (any_of HT_.out (by kernel_rfl)) (fun _ _ _ h => h) (Or.inl ⟨by rfl, tX⟩) tV ?_
          refine pure_ (i := 20) (N := some 89) #[Y_,Y_,Y_,Y_,Y_,Y_,Y_,Y_,Y_,Y_,Y_,Y_,Y_,Y_,Y_,Y_,Y_,Y_,Y_,Y_,Y_,N_,N_,N_,N_,N_,N_,N_,N_,N_,N_,N_,N_,N_,N_,N_,N_,N_,N_,N_,N_,N_,N_,N_,N_,N_] rfl rfl (any_of HT_.out (by kernel_rfl)) (fun _ _ _ h => h) (Or.inl ⟨by rfl, tX⟩) tV ?_
          refine pure_ (i := 21) (N := some 90) #[Y_,Y_,Y_,Y_,Y_,Y_,Y_,Y_,Y_,Y_,Y_,Y_,Y_,Y_,Y_,Y_,Y_,Y_,Y_,Y_,Y_,Y_,N_,N_,N_,N_,N_,N_,N_,N_,N_,N_,N_,N_,N_,N_,N_,N_,N_,N_,N_,N_,N_,N_,N_,N_] rfl rfl (any_of HT_.out (by kernel_rfl)) (fun _ _ _ h => h) (Or.inl ⟨by rfl, tX⟩) tV ?_
          refine pure_ (i := 22) (N := some 91) #[Y_,Y_,Y_,Y_,Y_,Y_,Y_,Y_,Y_,Y_,Y_,Y_,Y_,Y_,Y_,Y_,Y_,Y_,Y_,Y_,Y_,Y_,Y_,N_,N_,N_,N_,N_,N_,N_,N_,N_,N_,N_,N_,N_,N_,N_,N_,N_,N_,N_,N_,N_,N_,N_] rfl rfl (any_of HT_.out (by kernel_rfl)) (fun _ _ _ h => h) (Or.inl ⟨by rfl, tX⟩) tV ?_
          refine take_ (i := 23) (N := some 92) (v := ?_) (a' := ?_) #[Y_,Y_,Y_,Y_,Y_,Y_,Y_,Y_,Y_,Y_,Y_,Y_,Y_,Y_,Y_,Y_,Y_,Y_,Y_,Y_,Y_,Y_,Y_,Y_,N_,N_,N_,N_,N_,N_,N_,N_,N_,N_,N_,N_,N_,N_,N_,N_,N_,N_,N_,N_,N_,N_] rfl rfl (take_ofW HT_.out HW_.out (by kernel_rfl)) (fun _ _ _ h => h) (Or.inl ⟨by rfl, ?_⟩) hHeld ?_ ?_
          rotate_left
          ·rintro w' ⟨s0, s1, s2, s3, s4, s5, s6, s7, s8, s9, s10, s11, s12, s13, s14, s15, s16, s17⟩
           go_simp
           with_reducible rfl
          rotate_left
          ·simp only [Act.put, List.setIfInBounds_toArray, List.set_cons_zero, List.set_cons_succ, i64_w, i32_w]
           rfl
          refine pure_ (i := 24) (N := some 93) #[Y_,Y_,Y_,Y_,Y_,Y_,Y_,Y_,Y_,Y_,Y_,Y_,Y_,Y_,Y_,Y_,Y_,Y_,Y_,Y_,Y_,Y_,Y_,Y_,Y_,N_,N_,N_,N_,N_,N_,N_,N_,N_,N_,N_,N_,N_,N_,N_,N_,N_,N_,N_,N_,N_] rfl rfl (any_of HT_.out (by kernel_rfl)) (fun _ _ _ h => h) (Or.inl ⟨by rfl, tX⟩) tV ?_
          refine pure_ (i := 25) (N := some 94) #[Y_,Y_,Y_,Y_,Y_,Y_,Y_,Y_,Y_,Y_,Y_,Y_,Y_,Y_,Y_,Y_,Y_,Y_,Y_,Y_,Y_,Y_,Y_,Y_,Y_,Y_,N_,N_,N_,N_,N_,N_,N_,N_,N_,N_,N_,N_,N_,N_,N_,N_,N_,N_,N_,N_] rfl rfl (any_of HT_.out (by kernel_rfl)) (fun _ _ _ h => h) (Or.inl ⟨by rfl, tX⟩) tV ?_
          refine take_ (i := 26) (N := some 95) (v := ?_) (a' := ?_) #[Y_,Y_,Y_,Y_,Y_,Y_,Y_,Y_,Y_,Y_,Y_,Y_,Y_,Y_,Y_,Y_,Y_,Y_,Y_,Y_,Y_,Y_,Y_,Y_,Y_,Y_,Y_,N_,N_,N_,N_,N_,N_,N_,N_,N_,N_,N_,N_,N_,N_,N_,N_,N_,N_,N_] rfl rfl (take_ofW HT_.out HW_.out (by kernel_rfl)) (fun _ _ _ h => h) (Or.inl ⟨by rfl, ?_⟩) hHeld ?_ ?_
          rotate_left
          ·rintro w' ⟨s0, s1, s2, s3, s4, s5, s6, s7, s8, s9, s10, s11, s12, s13, s14, s15, s16, s17⟩
           go_simp
           with_reducible rfl
          rotate_left
          ·simp only [Act.put, List.setIfInBounds_toArray, List.set_cons_zero, List.set_cons_succ, i64_w, i32_w]
           rfl
          refine one_ (i := 27) (N := some 96) #[Y_,Y_,Y_,Y_,Y_,Y_,Y_,Y_,Y_,Y_,Y_,Y_,Y_,Y_,Y_,Y_,Y_,Y_,Y_,Y_,Y_,Y_,Y_,Y_,Y_,Y_,Y_,Y_,N_,N_,N_,N_,N_,N_,N_,N_,N_,N_,N_,N_,N_,N_,N_,N_,N_,N_] rfl rfl (one_of HT_.out (by kernel_rfl)) (by decide) (fun K hK => ?_)
          refine goes_ Try.func21 (by kernel_rfl) rfl #[.agg #[.int .i64 t207, .int .i64 t208, .int .i64 7, .int .i64 t210, .int .i64 t211, .int .i64 t212]] (by rfl) rfl rfl tL ?_
          with_reducible refine (impl_IsGrant.calls kj12 t207 t208 7 t210 t211 t212 false _ A83.out).mono ?_
          rintro e w108 ⟨rfl, hb⟩
          refine ⟨_, rfl, ?_⟩
          replace HO228 := Aside0.mk (Kd.R_below (tR HO228) hb)
          replace HO235 := Aside0.mk (Kd.R_below (tR HO235) hb)
          replace BK204 := bB BK204 hb
          replace BK214 := bB BK214 hb
          replace BK223 := bB BK223 hb
          replace BK225 := bB BK225 hb
          replace HB := bH HB hb
          (try clear hb)
          (try clear hb2)
          (try clear hk)
          (try clear hi)
          refine hK.out _ _ tH (fun hHeld => ?_)
          clear hK K
          refine norm_ (tV : Act.put _ (some 96) _ = _) ?_
          refine pure_ (i := 28) (N := some 97) #[Y_,Y_,Y_,Y_,Y_,Y_,Y_,Y_,Y_,Y_,Y_,Y_,Y_,Y_,Y_,Y_,Y_,Y_,Y_,Y_,Y_,Y_,Y_,Y_,Y_,Y_,Y_,Y_,Y_,N_,N_,N_,N_,N_,N_,N_,N_,N_,N_,N_,N_,N_,N_,N_,N_,N_] rfl rfl (any_of HT_.out (by kernel_rfl)) (fun _ _ _ h => h) (Or.inl ⟨by rfl, tX⟩) tV ?_
          refine pure_ (i := 29) (N := some 98) #[Y_,Y_,Y_,Y_,Y_,Y_,Y_,Y_,Y_,Y_,Y_,Y_,Y_,Y_,Y_,Y_,Y_,Y_,Y_,Y_,Y_,Y_,Y_,Y_,Y_,Y_,Y_,Y_,Y_,Y_,N_,N_,N_,N_,N_,N_,N_,N_,N_,N_,N_,N_,N_,N_,N_,N_] rfl rfl (any_of HT_.out (by kernel_rfl)) (fun _ _ _ h => h) (Or.inl ⟨by rfl, tX⟩) tV ?_
          refine pure_ (i := 30) (N := some 99) #[Y_,Y_,Y_,Y_,Y_,Y_,Y_,Y_,Y_,Y_,Y_,Y_,Y_,Y_,Y_,Y_,Y_,Y_,Y_,Y_,Y_,Y_,Y_,Y_,Y_,Y_,Y_,Y_,Y_,Y_,Y_,N_,N_,N_,N_,N_,N_,N_,N_,N_,N_,N_,N_,N_,N_,N_] rfl rfl (any_of HT_.out (by kernel_rfl)) (fun _ _ _ h => h) (Or.inl ⟨by rfl, tX⟩) tV ?_
          refine pure_ (i := 31) (N := some 100) #[Y_,Y_,Y_,Y_,Y_,Y_,Y_,Y_,Y_,Y_,Y_,Y_,Y_,Y_,Y_,Y_,Y_,Y_,Y_,Y_,Y_,Y_,Y_,Y_,Y_,Y_,Y_,Y_,Y_,Y_,Y_,Y_,N_,N_,N_,N_,N_,N_,N_,N_,N_,N_,N_,N_,N_,N_] rfl rfl (any_of HT_.out (by kernel_rfl)) (fun _ _ _ h => h) (Or.inl ⟨by rfl, tX⟩) tV ?_
          refine pure_ (i := 32) (N := some 101) #[Y_,Y_,Y_,Y_,Y_,Y_,Y_,Y_,Y_,Y_,Y_,Y_,Y_,Y_,Y_,Y_,Y_,Y_,Y_,Y_,Y_,Y_,Y_,Y_,Y_,Y_,Y_,Y_,Y_,Y_,Y_,Y_,Y_,N_,N_,N_,N_,N_,N_,N_,N_,N_,N_,N_,N_,N_] rfl rfl (any_of HT_.out (by kernel_rfl)) (fun _ _ _ h => h) (Or.inl ⟨by rfl, tX⟩) tV ?_
          refine pure_ (i := 34) (N := some 103) #[Y_,Y_,Y_,Y_,Y_,Y_,Y_,Y_,Y_,Y_,Y_,Y_,Y_,Y_,Y_,Y_,Y_,Y_,Y_,Y_,Y_,Y_,Y_,Y_,Y_,Y_,Y_,Y_,Y_,Y_,Y_,Y_,Y_,N_,Y_,N_,N_,N_,N_,N_,N_,N_,N_,N_,N_,N_] rfl rfl (any_of HT_.out (by kernel_rfl)) (fun _ _ _ h => h) (Or.inl ⟨by rfl, tX⟩) tV ?_
          refine pure_ (i := 35) (N := some 104) #[Y_,Y_,Y_,Y_,Y_,Y_,Y_,Y_,Y_,Y_,Y_,Y_,Y_,Y_,Y_,Y_,Y_,Y_,Y_,Y_,Y_,Y_,Y_,Y_,Y_,Y_,Y_,Y_,Y_,Y_,Y_,Y_,Y_,N_,Y_,Y_,N_,N_,N_,N_,N_,N_,N_,N_,N_,N_] rfl rfl (any_of HT_.out (by kernel_rfl)) (fun _ _ _ h => h) (Or.inl ⟨by rfl, tX⟩) tV ?_
          refine take_ (i := 33) (N := some 102) (v := ?_) (a' := ?_) #[Y_,Y_,Y_,Y_,Y_,Y_,Y_,Y_,Y_,Y_,Y_,Y_,Y_,Y_,Y_,Y_,Y_,Y_,Y_,Y_,Y_,Y_,Y_,Y_,Y_,Y_,Y_,Y_,Y_,Y_,Y_,Y_,Y_,Y_,Y_,Y_,N_,N_,N_,N_,N_,N_,N_,N_,N_,N_] rfl rfl (take_ofW HT_.out HW_.out (by kernel_rfl)) (fun _ _ _ h => h) (Or.inl ⟨by rfl, ?_⟩) hHeld ?_ ?_
          rotate_left
          ·rintro w' ⟨s0, s1, s2, s3, s4, s5, s6, s7, s8, s9, s10, s11, s12, s13, s14, s15, s16, s17⟩
           go_simp
           with_reducible rfl
          rotate_left
          ·simp only [Act.put, List.setIfInBounds_toArray, List.set_cons_zero, List.set_cons_succ, i64_w, i32_w]
           rfl
          refine pure_ (i := 36) (N := some 105) #[Y_,Y_,Y_,Y_,Y_,Y_,Y_,Y_,Y_,Y_,Y_,Y_,Y_,Y_,Y_,Y_,Y_,Y_,Y_,Y_,Y_,Y_,Y_,Y_,Y_,Y_,Y_,Y_,Y_,Y_,Y_,Y_,Y_,Y_,Y_,Y_,Y_,N_,N_,N_,N_,N_,N_,N_,N_,N_] rfl rfl (any_of HT_.out (by kernel_rfl)) (fun _ _ _ h => h) (Or.inl ⟨by rfl, tX⟩) tV ?_
          refine pure_ (i := 37) (N := some 106) #[Y_,Y_,Y_,Y_,Y_,Y_,Y_,Y_,Y_,Y_,Y_,Y_,Y_,Y_,Y_,Y_,Y_,Y_,Y_,Y_,Y_,Y_,Y_,Y_,Y_,Y_,Y_,Y_,Y_,Y_,Y_,Y_,Y_,Y_,Y_,Y_,Y_,Y_,N_,N_,N_,N_,N_,N_,N_,N_] rfl rfl (any_of HT_.out (by kernel_rfl)) (fun _ _ _ h => h) (Or.inl ⟨by rfl, tX⟩) tV ?_
          refine pure_ (i := 38) (N := some 107) #[Y_,Y_,Y_,Y_,Y_,Y_,Y_,Y_,Y_,Y_,Y_,Y_,Y_,Y_,Y_,Y_,Y_,Y_,Y_,Y_,Y_,Y_,Y_,Y_,Y_,Y_,Y_,Y_,Y_,Y_,Y_,Y_,Y_,Y_,Y_,Y_,Y_,Y_,Y_,N_,N_,N_,N_,N_,N_,N_] rfl rfl (any_of HT_.out (by kernel_rfl)) (fun _ _ _ h => h) (Or.inl ⟨by rfl, tX⟩) tV ?_
          refine take_ (i := 39) (N := some 108) (v := ?_) (a' := ?_) #[Y_,Y_,Y_,Y_,Y_,Y_,Y_,Y_,Y_,Y_,Y_,Y_,Y_,Y_,Y_,Y_,Y_,Y_,Y_,Y_,Y_,Y_,Y_,Y_,Y_,Y_,Y_,Y_,Y_,Y_,Y_,Y_,Y_,Y_,Y_,Y_,Y_,Y_,Y_,Y_,N_,N_,N_,N_,N_,N_] rfl rfl (take_ofW HT_.out HW_.out (by kernel_rfl)) (fun _ _ _ h => h) (Or.inl ⟨by rfl, ?_⟩) hHeld ?_ ?_
          rotate_left
          ·rintro w' ⟨s0, s1, s2, s3, s4, s5, s6, s7, s8, s9, s10, s11, s12, s13, s14, s15, s16, s17⟩
           go_simp
           with_reducible rfl
          rotate_left
          ·simp only [Act.put, List.setIfInBounds_toArray, List.set_cons_zero, List.set_cons_succ, i64_w, i32_w]
           rfl
          refine take_ (i := 41) (N := some 110) (v := ?_) (a' := ?_) #[Y_,Y_,Y_,Y_,Y_,Y_,Y_,Y_,Y_,Y_,Y_,Y_,Y_,Y_,Y_,Y_,Y_,Y_,Y_,Y_,Y_,Y_,Y_,Y_,Y_,Y_,Y_,Y_,Y_,Y_,Y_,Y_,Y_,Y_,Y_,Y_,Y_,Y_,Y_,Y_,N_,Y_,N_,N_,N_,N_] rfl rfl (take_ofW HT_.out HW_.out (by kernel_rfl)) (fun _ _ _ h => h) (Or.inl ⟨by rfl, ?_⟩) hHeld ?_ ?_
          rotate_left
          ·rintro w' ⟨s0, s1, s2, s3, s4, s5, s6, s7, s8, s9, s10, s11, s12, s13, s14, s15, s16, s17⟩
           go_simp
           with_reducible rfl
          rotate_left
          ·simp only [Act.put, List.setIfInBounds_toArray, List.set_cons_zero, List.set_cons_succ, i64_w, i32_w]
           rfl
          refine one_ (i := 40) (N := some 109) #[Y_,Y_,Y_,Y_,Y_,Y_,Y_,Y_,Y_,Y_,Y_,Y_,Y_,Y_,Y_,Y_,Y_,Y_,Y_,Y_,Y_,Y_,Y_,Y_,Y_,Y_,Y_,Y_,Y_,Y_,Y_,Y_,Y_,Y_,Y_,Y_,Y_,Y_,Y_,Y_,Y_,Y_,N_,N_,N_,N_] rfl rfl (one_of HT_.out (by kernel_rfl)) (by decide) (fun K hK => ?_)
          refine goes_ Try.func23 (by kernel_rfl) rfl #[.agg #[.int .i64 t207, .int .i64 t208, .int .i64 t209, .int .i64 t210, .int .i64 t211, .int .i64 t212]] (by rfl) rfl rfl tL ?_
          with_reducible refine (impl_GrantMessage.calls t207 t208 t209 t210 t211 t212 t247 _ A86.out).mono ?_
          rintro e w109 ⟨v248, rfl, ho0, hb⟩
          refine ⟨_, rfl, ?_⟩
          replace HO228 := Aside0.mk (Kd.R_below (tR HO228) hb)
          replace HO235 := Aside0.mk (Kd.R_below (tR HO235) hb)
          have HO249 := Aside0.mk (Kd.R_lower ho0 (below_size tB))
          replace BK204 := bB BK204 hb
          replace BK214 := bB BK214 hb
          replace BK223 := bB BK223 hb
          replace BK225 := bB BK225 hb
          replace HB := bH HB hb
          (try clear hb)
          (try clear hb2)
          (try clear hk)
          (try clear hi)
          (try clear ho0)
          refine hK.out _ _ tH (fun hHeld => ?_)
          clear hK K
          refine norm_ (tV : Act.put _ (some 109) _ = _) ?_
          refine one_ (i := 42) (N := some 111) #[Y_,Y_,Y_,Y_,Y_,Y_,Y_,Y_,Y_,Y_,Y_,Y_,Y_,Y_,Y_,Y_,Y_,Y_,Y_,Y_,Y_,Y_,Y_,Y_,Y_,Y_,Y_,Y_,Y_,Y_,Y_,Y_,Y_,Y_,Y_,Y_,Y_,Y_,Y_,Y_,Y_,Y_,Y_,N_,N_,N_] rfl rfl (one_of HT_.out (by kernel_rfl)) (by decide) (fun K hK => ?_)
          refine goes_ Try.func24 (by kernel_rfl) rfl #[.agg #[.int .i64 t207, .int .i64 t208, .int .i64 t209, .int .i64 t210, .int .i64 t211, .int .i64 t212]] (by rfl) rfl rfl tL ?_
          with_reducible refine (spec_GrantMessage.calls t207 t208 t209 t210 t211 t212 t250 _ A87.out).mono ?_
          rintro e w110 ⟨v251, rfl, ho0, hb⟩
          refine ⟨_, rfl, ?_⟩
          replace HO228 := Aside0.mk (Kd.R_below (tR HO228) hb)
          replace HO235 := Aside0.mk (Kd.R_below (tR HO235) hb)
          have HO252 := Aside0.mk (Kd.R_lower (Kd.R_new' ho0 (Kd.R_lt (tR HO249))) (below_size tB))
          replace HO249 := Aside0.mk (Kd.R_elder' (tR HO249) (Kd.R_base ho0) hb)
          replace BK204 := bB BK204 hb
          replace BK214 := bB BK214 hb
          replace BK223 := bB BK223 hb
          replace BK225 := bB BK225 hb
          replace HB := bH HB hb
          (try clear hb)
          (try clear hb2)
          (try clear hk)
          (try clear hi)
          (try clear ho0)
          obtain ⟨Ao111, co111, eo111⟩ := Kd.R_slice HO249.out
          (first | subst eo111 | (injection eo111 with f1_ f2_ f3_; have f4_ := f1_.symm; have f5_ := f3_.symm; clear f1_ f2_ f3_; subst f4_; subst f5_))
          obtain ⟨Ao112, co112, eo112⟩ := Kd.R_slice HO252.out
          (first | subst eo112 | (injection eo112 with f1_ f2_ f3_; have f4_ := f1_.symm; have f5_ := f3_.symm; clear f1_ f2_ f3_; subst f4_; subst f5_))
          refine hK.out _ _ tH (fun hHeld => ?_)
          clear hK K
          refine norm_ (tV : Act.put _ (some 111) _ = _) ?_
          refine one_ (i := 43) (N := some 112) #[Y_,Y_,Y_,Y_,Y_,Y_,Y_,Y_,Y_,Y_,Y_,Y_,Y_,Y_,Y_,Y_,Y_,Y_,Y_,Y_,Y_,Y_,Y_,Y_,Y_,Y_,Y_,Y_,Y_,Y_,Y_,Y_,Y_,Y_,Y_,Y_,Y_,Y_,Y_,Y_,Y_,Y_,Y_,Y_,N_,N_] rfl rfl (one_of HT_.out (by kernel_rfl)) (by decide) (fun K hK => ?_)
          refine goes_ Try.func22 (by kernel_rfl) rfl #[.slice Ao111 t247.length co111, .slice Ao112 t250.length co112] (by rfl) rfl rfl tL ?_
          with_reducible refine (laws_sameInts.calls kj12 _ _ t247 _ _ t250 t253 _ ?side1 ?side2 ?side3 ?side4 A88.out).mono ?_
          (case side1 => repeat (first | exact (Kd.R_reads' HO249.out).2.2 | (with_reducible refine Kd.C_alloc ?_ _) | (with_reducible refine Kd.C_drewN ?_ _) | (with_reducible refine Kd.C_drew ?_)))
          (case side2 => exact (Kd.R_reads' HO249.out).2.1)
          (case side3 => repeat (first | exact (Kd.R_reads' HO252.out).2.2 | (with_reducible refine Kd.C_alloc ?_ _) | (with_reducible refine Kd.C_drewN ?_ _) | (with_reducible refine Kd.C_drew ?_)))
          (case side4 => exact (Kd.R_reads' HO252.out).2.1)
          rintro e w' ⟨rfl, ⟨nd, rfl⟩⟩
          refine ⟨_, rfl, ?_⟩
          refine hK.out _ _ tH (fun hHeld => ?_)
          clear hK K
          refine norm_ (tV : Act.put _ (some 112) _ = _) ?_
          refine pure_ (i := 44) (N := some 113) #[Y_,Y_,Y_,Y_,Y_,Y_,Y_,Y_,Y_,Y_,Y_,Y_,Y_,Y_,Y_,Y_,Y_,Y_,Y_,Y_,Y_,Y_,Y_,Y_,Y_,Y_,Y_,Y_,Y_,Y_,Y_,Y_,Y_,Y_,Y_,Y_,Y_,Y_,Y_,Y_,Y_,Y_,Y_,Y_,Y_,N_] rfl rfl (any_of HT_.out (by kernel_rfl)) (fun _ _ _ h => h) (Or.inl ⟨by rfl, tX⟩) tV ?_
          refine pure_ (i := 45) (N := some 2) #[Y_,Y_,Y_,Y_,Y_,Y_,Y_,Y_,Y_,Y_,Y_,Y_,Y_,Y_,Y_,Y_,Y_,Y_,Y_,Y_,Y_,Y_,Y_,Y_,Y_,Y_,Y_,Y_,Y_,Y_,Y_,Y_,Y_,Y_,Y_,Y_,Y_,Y_,Y_,Y_,Y_,Y_,Y_,Y_,Y_,Y_] rfl rfl (any_of HT_.out (by kernel_rfl)) (fun _ _ _ h => h) (Or.inl ⟨by rfl, tX⟩) tV ?_
          refine done_ (done_of HT_.out (by kernel_rfl)) ?_
          try go_wp2
          go_ret
          exact ⟨tE, tB⟩
         intro hJ2_3_4_5_8_15_16_17
         refine join_ (σ := Value × Value) 29 #[Y_,Y_,Y_,Y_,Y_,Y_,Y_,Y_,Y_,Y_,Y_,Y_,Y_,Y_,Y_,Y_,Y_,N_,N_,N_,N_,N_,N_,N_,N_,N_,N_,N_,N_,N_,N_,N_,N_,N_,N_,N_,N_,N_,N_,N_,N_,N_,N_,N_,N_,N_] (fun s_ => [(71, s_.1), (72, .int .i64 t229), (73, .int .i64 t230), (74, .int .i64 t231), (77, .int .i64 t232), (84, s_.2), (85, .int .i64 t236), (78, .int .i64 (Int.tmod t232 8)), (79, .int .i64 (Go.bits .and .i64 (wrap64 (1 + (Int.tmod t195 7))) (Int.tmod t232 8))), (80, .bool true), (81, .bool true), (82, .agg #[.int .i64 t197, .int .i64 t198, .int .i64 t199, .int .i64 t200, .int .i64 t201, .int .i64 t202]), (83, .agg #[.int .i64 t207, .int .i64 t208, .int .i64 t209, .int .i64 t210, .int .i64 t211, .int .i64 t212])]) (fun s_ w' => (w'.cell? ⟨gb204, 0, none⟩ = some (.int .i64 t197) ∧ w'.cell? ⟨gb204, 1, none⟩ = some (.int .i64 t198) ∧ w'.cell? ⟨gb204, 2, none⟩ = some (.int .i64 t199) ∧ w'.cell? ⟨gb204, 3, none⟩ = some (.int .i64 t200) ∧ w'.cell? ⟨gb204, 4, none⟩ = some (.int .i64 t201) ∧ w'.cell? ⟨gb204, 5, none⟩ = some (.int .i64 t202) ∧ w'.cell? ⟨gb214, 0, none⟩ = some (.int .i64 t207) ∧ w'.cell? ⟨gb214, 1, none⟩ = some (.int .i64 t208) ∧ w'.cell? ⟨gb214, 2, none⟩ = some (.int .i64 t209) ∧ w'.cell? ⟨gb214, 3, none⟩ = some (.int .i64 t210) ∧ w'.cell? ⟨gb214, 4, none⟩ = some (.int .i64 t211) ∧ w'.cell? ⟨gb214, 5, none⟩ = some (.int .i64 t212) ∧ w'.cell? ⟨gb225, 0, none⟩ = some (.int .i64 t207) ∧ w'.cell? ⟨gb225, 1, none⟩ = some (.int .i64 t208) ∧ w'.cell? ⟨gb225, 2, none⟩ = some (.int .i64 7) ∧ w'.cell? ⟨gb225, 3, none⟩ = some (.int .i64 t210) ∧ w'.cell? ⟨gb225, 4, none⟩ = some (.int .i64 t211) ∧ w'.cell? ⟨gb225, 5, none⟩ = some (.int .i64 t212)) ∧ (Kd.R k26 26 w' w.heap.size (fun k_ => some k_ ≠ (s_.2 : Value).ownBlock ∧ k_ ≠ gb204 ∧ k_ ≠ gb214 ∧ k_ ≠ gb223 ∧ k_ ≠ gb225) s_.1 y226) ∧ (Kd.R k26 26 w' w.heap.size (fun k_ => some k_ ≠ (s_.1 : Value).ownBlock ∧ k_ ≠ gb204 ∧ k_ ≠ gb214 ∧ k_ ≠ gb223 ∧ k_ ≠ gb225) s_.2 y233) ∧ (w'.heap[gb204]? = some (.cells #[.int .i64 t197, .int .i64 t198, .int .i64 t199, .int .i64 t200, .int .i64 t201, .int .i64 t202] 26 (0, 0))) ∧ (w'.heap[gb214]? = some (.cells #[.int .i64 t207, .int .i64 t208, .int .i64 t209, .int .i64 t210, .int .i64 t211, .int .i64 t212] 26 (0, 0))) ∧ (w'.heap[gb223]? = some (.cells #[.int .i64 t216, .int .i64 t217, .int .i64 t218, .int .i64 t219, .int .i64 t220, .int .i64 t221] 26 (0, 0))) ∧ (w'.heap[gb225]? = some (.cells #[.int .i64 t207, .int .i64 t208, .int .i64 7, .int .i64 t210, .int .i64 t211, .int .i64 t212] 26 (0, 0))) ∧ (Below w.heap.size w w')) ?_ ?_
         ·rintro ⟨v227, v234⟩ w105 hS_
          dsimp only at hS_
          obtain ⟨hHeld, h0_, h1_, h2_, h3_, h4_, h5_, h6_⟩ := hS_
          have HO228 := Aside0.mk h0_
          have HO235 := Aside0.mk h1_
          replace BK204 := Aside0.mk h2_
          replace BK214 := Aside0.mk h3_
          replace BK223 := Aside0.mk h4_
          replace BK225 := Aside0.mk h5_
          replace HB := Aside0.mk h6_
          clear h0_ h1_ h2_ h3_ h4_ h5_ h6_
          refine norm_ tM ?_
          refine one_ (i := 17) (N := some 86) #[Y_,Y_,Y_,Y_,Y_,Y_,Y_,Y_,Y_,Y_,Y_,Y_,Y_,Y_,Y_,Y_,Y_,Y_,N_,N_,N_,N_,N_,N_,N_,N_,N_,N_,N_,N_,N_,N_,N_,N_,N_,N_,N_,N_,N_,N_,N_,N_,N_,N_,N_,N_] rfl rfl (one_of HT_.out (by kernel_rfl)) (by decide) (fun K hK => ?_)
          refine goes_ Try.func18 (by kernel_rfl) rfl #[.int .i64 13] (by rfl) rfl rfl tL ?_
          with_reducible refine (spec_PublicKey.calls 13 t237 _ A52.out).mono ?_
          rintro e w' ⟨rfl, ⟨nd, rfl⟩⟩
          refine ⟨_, rfl, ?_⟩
          refine hK.out _ _ tH (fun hHeld => ?_)
          clear hK K
          refine norm_ (tV : Act.put _ (some 86) _ = _) ?_
          exact norm_ tM (hJ2_3_4_5_8_15_16_17 (v227, v234) _ ⟨hHeld, tR HO228, tR HO235, tK BK204, tK BK214, tK BK223, tK BK225, tB⟩)
         intro hJ2_3_4_5_8_15_16
         refine join_ (σ := Value) 29 #[Y_,Y_,Y_,Y_,Y_,Y_,Y_,Y_,Y_,Y_,Y_,Y_,Y_,Y_,Y_,N_,Y_,Y_,N_,N_,N_,N_,N_,N_,N_,N_,N_,N_,N_,N_,N_,N_,N_,N_,N_,N_,N_,N_,N_,N_,N_,N_,N_,N_,N_,N_] (fun s_ => [(71, s_), (72, .int .i64 t229), (73, .int .i64 t230), (74, .int .i64 t231), (77, .int .i64 t232), (85, .int .i64 t236), (86, .int .i64 t237), (78, .int .i64 (Int.tmod t232 8)), (79, .int .i64 (Go.bits .and .i64 (wrap64 (1 + (Int.tmod t195 7))) (Int.tmod t232 8))), (80, .bool true), (81, .bool true), (82, .agg #[.int .i64 t197, .int .i64 t198, .int .i64 t199, .int .i64 t200, .int .i64 t201, .int .i64 t202]), (83, .agg #[.int .i64 t207, .int .i64 t208, .int .i64 t209, .int .i64 t210, .int .i64 t211, .int .i64 t212])]) (fun s_ w' => (w'.cell? ⟨gb204, 0, none⟩ = some (.int .i64 t197) ∧ w'.cell? ⟨gb204, 1, none⟩ = some (.int .i64 t198) ∧ w'.cell? ⟨gb204, 2, none⟩ = some (.int .i64 t199) ∧ w'.cell? ⟨gb204, 3, none⟩ = some (.int .i64 t200) ∧ w'.cell? ⟨gb204, 4, none⟩ = some (.int .i64 t201) ∧ w'.cell? ⟨gb204, 5, none⟩ = some (.int .i64 t202) ∧ w'.cell? ⟨gb214, 0, none⟩ = some (.int .i64 t207) ∧ w'.cell? ⟨gb214, 1, none⟩ = some (.int .i64 t208) ∧ w'.cell? ⟨gb214, 2, none⟩ = some (.int .i64 t209) ∧ w'.cell? ⟨gb214, 3, none⟩ = some (.int .i64 t210) ∧ w'.cell? ⟨gb214, 4, none⟩ = some (.int .i64 t211) ∧ w'.cell? ⟨gb214, 5, none⟩ = some (.int .i64 t212) ∧ w'.cell? ⟨gb225, 0, none⟩ = some (.int .i64 t207) ∧ w'.cell? ⟨gb225, 1, none⟩ = some (.int .i64 t208) ∧ w'.cell? ⟨gb225, 2, none⟩ = some (.int .i64 7) ∧ w'.cell? ⟨gb225, 3, none⟩ = some (.int .i64 t210) ∧ w'.cell? ⟨gb225, 4, none⟩ = some (.int .i64 t211) ∧ w'.cell? ⟨gb225, 5, none⟩ = some (.int .i64 t212)) ∧ (Kd.R k26 26 w' w.heap.size (fun k_ => k_ ≠ gb204 ∧ k_ ≠ gb214 ∧ k_ ≠ gb223 ∧ k_ ≠ gb225) s_ y226) ∧ (w'.heap[gb204]? = some (.cells #[.int .i64 t197, .int .i64 t198, .int .i64 t199, .int .i64 t200, .int .i64 t201, .int .i64 t202] 26 (0, 0))) ∧ (w'.heap[gb214]? = some (.cells #[.int .i64 t207, .int .i64 t208, .int .i64 t209, .int .i64 t210, .int .i64 t211, .int .i64 t212] 26 (0, 0))) ∧ (w'.heap[gb223]? = some (.cells #[.int .i64 t216, .int .i64 t217, .int .i64 t218, .int .i64 t219, .int .i64 t220, .int .i64 t221] 26 (0, 0))) ∧ (w'.heap[gb225]? = some (.cells #[.int .i64 t207, .int .i64 t208, .int .i64 7, .int .i64 t210, .int .i64 t211, .int .i64 t212] 26 (0, 0))) ∧ (Below w.heap.size w w')) ?_ ?_
         ·rintro v227 w103 ⟨hHeld, h0_, h1_, h2_, h3_, h4_, h5_⟩
          have HO228 := Aside0.mk h0_
          replace BK204 := Aside0.mk h1_
          replace BK214 := Aside0.mk h2_
          replace BK223 := Aside0.mk h3_
          replace BK225 := Aside0.mk h4_
          replace HB := Aside0.mk h5_
          clear h0_ h1_ h2_ h3_ h4_ h5_
          refine norm_ tM ?_
          refine one_ (i := 15) (N := some 84) #[Y_,Y_,Y_,Y_,Y_,Y_,Y_,Y_,Y_,Y_,Y_,Y_,Y_,Y_,Y_,Y_,Y_,Y_,N_,N_,N_,N_,N_,N_,N_,N_,N_,N_,N_,N_,N_,N_,N_,N_,N_,N_,N_,N_,N_,N_,N_,N_,N_,N_,N_,N_] rfl rfl (one_of HT_.out (by kernel_rfl)) (by decide) (fun K hK => ?_)
          refine Kd.R_lit_step k26 _ 26 ?hg (N := 84) ?hd (xs := ([(⟨t197, t198, t199, t200, t201, t202⟩ : S26), (⟨t207, t208, t209, t210, t211, t212⟩ : S26)] : List (S26))) (inner := [.int .i64 t197, .int .i64 t198, .int .i64 t199, .int .i64 t200, .int .i64 t201, .int .i64 t202, .int .i64 t207, .int .i64 t208, .int .i64 t209, .int .i64 t210, .int .i64 t211, .int .i64 t212]) (ok := fun _ => True) (okp := fun _ => True) ?hr ?hp (fun _ hk => hk) trivial (Below.refl _ _) (Nat.le_refl _) (by simp) ?_; (case hd => rfl); (case hg => rfl); (case hr => exact tG); (case hp => exact (Reps.c6 (show Kd.M k26 _ _ _ (⟨t197, t198, t199, t200, t201, t202⟩ : S26) [.int .i64 t197, .int .i64 t198, .int .i64 t199, .int .i64 t200, .int .i64 t201, .int .i64 t202] from (k26_mkM _ _ _ (⟨t197, t198, t199, t200, t201, t202⟩ : S26) )) (Reps.c6 (show Kd.M k26 _ _ _ (⟨t207, t208, t209, t210, t211, t212⟩ : S26) [.int .i64 t207, .int .i64 t208, .int .i64 t209, .int .i64 t210, .int .i64 t211, .int .i64 t212] from (k26_mkM _ _ _ (⟨t207, t208, t209, t210, t211, t212⟩ : S26) )) (Reps.none _ _))))
          intro v234 w104 ho105 hb hg_ hnew_
          clear hg_ hnew_
          (first | rw [← Ny233.out] at ho105 | (simp only [Int.reduceToNat] at ho105; rw [← Ny233.out] at ho105))
          have HO235 := Aside0.mk (Kd.R_lower (Kd.R_newB (Kd.R_newB (Kd.R_newB (Kd.R_newB (Kd.R_new' ho105 (Kd.R_lt (tR HO228))) (g := gb204) (o := .cells #[.int .i64 t197, .int .i64 t198, .int .i64 t199, .int .i64 t200, .int .i64 t201, .int .i64 t202] 26 (0, 0)) (tK BK204)) (g := gb214) (o := .cells #[.int .i64 t207, .int .i64 t208, .int .i64 t209, .int .i64 t210, .int .i64 t211, .int .i64 t212] 26 (0, 0)) (tK BK214)) (g := gb223) (o := .cells #[.int .i64 t216, .int .i64 t217, .int .i64 t218, .int .i64 t219, .int .i64 t220, .int .i64 t221] 26 (0, 0)) (tK BK223)) (g := gb225) (o := .cells #[.int .i64 t207, .int .i64 t208, .int .i64 7, .int .i64 t210, .int .i64 t211, .int .i64 t212] 26 (0, 0)) (tK BK225)) (below_size tB))
          replace HO228 := Aside0.mk (Kd.R_elder' (tR HO228) (Kd.R_base ho105) hb)
          replace BK204 := bB BK204 hb
          replace BK214 := bB BK214 hb
          replace BK223 := bB BK223 hb
          replace BK225 := bB BK225 hb
          replace HB := bH HB hb
          clear hb ho105
          refine hK.out _ _ tH (fun hHeld => ?_)
          clear hK K
          refine norm_ (tV : Act.put _ (some 84) _ = _) ?_
          exact norm_ tM (hJ2_3_4_5_8_15_16_17 (v227, v234) _ ⟨hHeld, (by (with_reducible repeat (first | apply Kd.R_alloc | apply Kd.R_drewN | apply Kd.R_drew)); exact Kd.R_mono HO228.out (fun _ hk => ⟨hk.2, ⟨hk.1.1, ⟨hk.1.2.1, ⟨hk.1.2.2.1, hk.1.2.2.2⟩⟩⟩⟩)), (by (with_reducible repeat (first | apply Kd.R_alloc | apply Kd.R_drewN | apply Kd.R_drew)); exact Kd.R_mono HO235.out (fun _ hk => ⟨hk.1.1.1.1.2, ⟨hk.1.1.1.2, ⟨hk.1.1.2, ⟨hk.1.2, hk.2⟩⟩⟩⟩)), tK BK204, tK BK214, tK BK223, tK BK225, tB⟩)
         intro hJ2_3_4_5_8_16_17
         refine join_ (σ := Value × Value) 30 #[Y_,Y_,Y_,Y_,Y_,Y_,Y_,Y_,Y_,Y_,Y_,Y_,Y_,Y_,Y_,Y_,N_,N_,N_,N_,N_,N_,N_,N_,N_,N_,N_,N_,N_,N_,N_,N_,N_,N_,N_,N_,N_,N_,N_,N_,N_,N_,N_,N_,N_,N_] (fun s_ => [(71, s_.1), (72, .int .i64 t229), (73, .int .i64 t230), (74, .int .i64 t231), (77, .int .i64 t232), (84, s_.2), (78, .int .i64 (Int.tmod t232 8)), (79, .int .i64 (Go.bits .and .i64 (wrap64 (1 + (Int.tmod t195 7))) (Int.tmod t232 8))), (80, .bool true), (81, .bool true), (82, .agg #[.int .i64 t197, .int .i64 t198, .int .i64 t199, .int .i64 t200, .int .i64 t201, .int .i64 t202]), (83, .agg #[.int .i64 t207, .int .i64 t208, .int .i64 t209, .int .i64 t210, .int .i64 t211, .int .i64 t212])]) (fun s_ w' => (w'.cell? ⟨gb204, 0, none⟩ = some (.int .i64 t197) ∧ w'.cell? ⟨gb204, 1, none⟩ = some (.int .i64 t198) ∧ w'.cell? ⟨gb204, 2, none⟩ = some (.int .i64 t199) ∧ w'.cell? ⟨gb204, 3, none⟩ = some (.int .i64 t200) ∧ w'.cell? ⟨gb204, 4, none⟩ = some (.int .i64 t201) ∧ w'.cell? ⟨gb204, 5, none⟩ = some (.int .i64 t202) ∧ w'.cell? ⟨gb214, 0, none⟩ = some (.int .i64 t207) ∧ w'.cell? ⟨gb214, 1, none⟩ = some (.int .i64 t208) ∧ w'.cell? ⟨gb214, 2, none⟩ = some (.int .i64 t209) ∧ w'.cell? ⟨gb214, 3, none⟩ = some (.int .i64 t210) ∧ w'.cell? ⟨gb214, 4, none⟩ = some (.int .i64 t211) ∧ w'.cell? ⟨gb214, 5, none⟩ = some (.int .i64 t212) ∧ w'.cell? ⟨gb225, 0, none⟩ = some (.int .i64 t207) ∧ w'.cell? ⟨gb225, 1, none⟩ = some (.int .i64 t208) ∧ w'.cell? ⟨gb225, 2, none⟩ = some (.int .i64 7) ∧ w'.cell? ⟨gb225, 3, none⟩ = some (.int .i64 t210) ∧ w'.cell? ⟨gb225, 4, none⟩ = some (.int .i64 t211) ∧ w'.cell? ⟨gb225, 5, none⟩ = some (.int .i64 t212)) ∧ (Kd.R k26 26 w' w.heap.size (fun k_ => some k_ ≠ (s_.2 : Value).ownBlock ∧ k_ ≠ gb204 ∧ k_ ≠ gb214 ∧ k_ ≠ gb223 ∧ k_ ≠ gb225) s_.1 y226) ∧ (Kd.R k26 26 w' w.heap.size (fun k_ => some k_ ≠ (s_.1 : Value).ownBlock ∧ k_ ≠ gb204 ∧ k_ ≠ gb214 ∧ k_ ≠ gb223 ∧ k_ ≠ gb225) s_.2 y233) ∧ (w'.heap[gb204]? = some (.cells #[.int .i64 t197, .int .i64 t198, .int .i64 t199, .int .i64 t200, .int .i64 t201, .int .i64 t202] 26 (0, 0))) ∧ (w'.heap[gb214]? = some (.cells #[.int .i64 t207, .int .i64 t208, .int .i64 t209, .int .i64 t210, .int .i64 t211, .int .i64 t212] 26 (0, 0))) ∧ (w'.heap[gb223]? = some (.cells #[.int .i64 t216, .int .i64 t217, .int .i64 t218, .int .i64 t219, .int .i64 t220, .int .i64 t221] 26 (0, 0))) ∧ (w'.heap[gb225]? = some (.cells #[.int .i64 t207, .int .i64 t208, .int .i64 7, .int .i64 t210, .int .i64 t211, .int .i64 t212] 26 (0, 0))) ∧ (Below w.heap.size w w')) ?_ ?_
         ·rintro ⟨v227, v234⟩ w105 hS_
          dsimp only at hS_
          obtain ⟨hHeld, h0_, h1_, h2_, h3_, h4_, h5_, h6_⟩ := hS_
          have HO228 := Aside0.mk h0_
          have HO235 := Aside0.mk h1_
          replace BK204 := Aside0.mk h2_
          replace BK214 := Aside0.mk h3_
          replace BK223 := Aside0.mk h4_
          replace BK225 := Aside0.mk h5_
          replace HB := Aside0.mk h6_
          clear h0_ h1_ h2_ h3_ h4_ h5_ h6_
          refine norm_ tM ?_
          refine one_ (i := 16) (N := some 85) #[Y_,Y_,Y_,Y_,Y_,Y_,Y_,Y_,Y_,Y_,Y_,Y_,Y_,Y_,Y_,Y_,Y_,N_,N_,N_,N_,N_,N_,N_,N_,N_,N_,N_,N_,N_,N_,N_,N_,N_,N_,N_,N_,N_,N_,N_,N_,N_,N_,N_,N_,N_] rfl rfl (one_of HT_.out (by kernel_rfl)) (by decide) (fun K hK => ?_)
          refine goes_ Try.func18 (by kernel_rfl) rfl #[.int .i64 11] (by rfl) rfl rfl tL ?_
          with_reducible refine (spec_PublicKey.calls 11 t236 _ A51.out).mono ?_
          rintro e w' ⟨rfl, ⟨nd, rfl⟩⟩
          refine ⟨_, rfl, ?_⟩
          refine hK.out _ _ tH (fun hHeld => ?_)
          clear hK K
          refine norm_ (tV : Act.put _ (some 85) _ = _) ?_
          exact norm_ tM (hJ2_3_4_5_8_15_16 (v227, v234) _ ⟨hHeld, tR HO228, tR HO235, tK BK204, tK BK214, tK BK223, tK BK225, tB⟩)
         intro hJ2_3_4_5_8_15
         refine join_ (σ := Value) 30 #[Y_,Y_,Y_,Y_,Y_,Y_,Y_,Y_,Y_,Y_,Y_,Y_,Y_,Y_,Y_,N_,Y_,N_,N_,N_,N_,N_,N_,N_,N_,N_,N_,N_,N_,N_,N_,N_,N_,N_,N_,N_,N_,N_,N_,N_,N_,N_,N_,N_,N_,N_] (fun s_ => [(71, s_), (72, .int .i64 t229), (73, .int .i64 t230), (74, .int .i64 t231), (77, .int .i64 t232), (85, .int .i64 t236), (78, .int .i64 (Int.tmod t232 8)), (79, .int .i64 (Go.bits .and .i64 (wrap64 (1 + (Int.tmod t195 7))) (Int.tmod t232 8))), (80, .bool true), (81, .bool true), (82, .agg #[.int .i64 t197, .int .i64 t198, .int .i64 t199, .int .i64 t200, .int .i64 t201, .int .i64 t202]), (83, .agg #[.int .i64 t207, .int .i64 t208, .int .i64 t209, .int .i64 t210, .int .i64 t211, .int .i64 t212])]) (fun s_ w' => (w'.cell? ⟨gb204, 0, none⟩ = some (.int .i64 t197) ∧ w'.cell? ⟨gb204, 1, none⟩ = some (.int .i64 t198) ∧ w'.cell? ⟨gb204, 2, none⟩ = some (.int .i64 t199) ∧ w'.cell? ⟨gb204, 3, none⟩ = some (.int .i64 t200) ∧ w'.cell? ⟨gb204, 4, none⟩ = some (.int .i64 t201) ∧ w'.cell? ⟨gb204, 5, none⟩ = some (.int .i64 t202) ∧ w'.cell? ⟨gb214, 0, none⟩ = some (.int .i64 t207) ∧ w'.cell? ⟨gb214, 1, none⟩ = some (.int .i64 t208) ∧ w'.cell? ⟨gb214, 2, none⟩ = some (.int .i64 t209) ∧ w'.cell? ⟨gb214, 3, none⟩ = some (.int .i64 t210) ∧ w'.cell? ⟨gb214, 4, none⟩ = some (.int .i64 t211) ∧ w'.cell? ⟨gb214, 5, none⟩ = some (.int .i64 t212) ∧ w'.cell? ⟨gb225, 0, none⟩ = some (.int .i64 t207) ∧ w'.cell? ⟨gb225, 1, none⟩ = some (.int .i64 t208) ∧ w'.cell? ⟨gb225, 2, none⟩ = some (.int .i64 7) ∧ w'.cell? ⟨gb225, 3, none⟩ = some (.int .i64 t210) ∧ w'.cell? ⟨gb225, 4, none⟩ = some (.int .i64 t211) ∧ w'.cell? ⟨gb225, 5, none⟩ = some (.int .i64 t212)) ∧ (Kd.R k26 26 w' w.heap.size (fun k_ => k_ ≠ gb204 ∧ k_ ≠ gb214 ∧ k_ ≠ gb223 ∧ k_ ≠ gb225) s_ y226) ∧ (w'.heap[gb204]? = some (.cells #[.int .i64 t197, .int .i64 t198, .int .i64 t199, .int .i64 t200, .int .i64 t201, .int .i64 t202] 26 (0, 0))) ∧ (w'.heap[gb214]? = some (.cells #[.int .i64 t207, .int .i64 t208, .int .i64 t209, .int .i64 t210, .int .i64 t211, .int .i64 t212] 26 (0, 0))) ∧ (w'.heap[gb223]? = some (.cells #[.int .i64 t216, .int .i64 t217, .int .i64 t218, .int .i64 t219, .int .i64 t220, .int .i64 t221] 26 (0, 0))) ∧ (w'.heap[gb225]? = some (.cells #[.int .i64 t207, .int .i64 t208, .int .i64 7, .int .i64 t210, .int .i64 t211, .int .i64 t212] 26 (0, 0))) ∧ (Below w.heap.size w w')) ?_ ?_
         ·rintro v227 w103 ⟨hHeld, h0_, h1_, h2_, h3_, h4_, h5_⟩
          have HO228 := Aside0.mk h0_
          replace BK204 := Aside0.mk h1_
          replace BK214 := Aside0.mk h2_
          replace BK223 := Aside0.mk h3_
          replace BK225 := Aside0.mk h4_
          replace HB := Aside0.mk h5_
          clear h0_ h1_ h2_ h3_ h4_ h5_
          refine norm_ tM ?_
          refine two_ (i := 15) (j := 17) (Ni := some 84) (Nj := some 86) #[Y_,Y_,Y_,Y_,Y_,Y_,Y_,Y_,Y_,Y_,Y_,Y_,Y_,Y_,Y_,Y_,Y_,N_,N_,N_,N_,N_,N_,N_,N_,N_,N_,N_,N_,N_,N_,N_,N_,N_,N_,N_,N_,N_,N_,N_,N_,N_,N_,N_,N_,N_] #[Y_,Y_,Y_,Y_,Y_,Y_,Y_,Y_,Y_,Y_,Y_,Y_,Y_,Y_,Y_,N_,Y_,Y_,N_,N_,N_,N_,N_,N_,N_,N_,N_,N_,N_,N_,N_,N_,N_,N_,N_,N_,N_,N_,N_,N_,N_,N_,N_,N_,N_,N_] rfl rfl rfl rfl (two_of HT_.out (by kernel_rfl)) (by decide) (by decide) (fun K hK => ?_) (fun K hK => ?_)
          ·refine Kd.R_lit_step k26 _ 26 ?hg (N := 84) ?hd (xs := ([(⟨t197, t198, t199, t200, t201, t202⟩ : S26), (⟨t207, t208, t209, t210, t211, t212⟩ : S26)] : List (S26))) (inner := [.int .i64 t197, .int .i64 t198, .int .i64 t199, .int .i64 t200, .int .i64 t201, .int .i64 t202, .int .i64 t207, .int .i64 t208, .int .i64 t209, .int .i64 t210, .int .i64 t211, .int .i64 t212]) (ok := fun _ => True) (okp := fun _ => True) ?hr ?hp (fun _ hk => hk) trivial (Below.refl _ _) (Nat.le_refl _) (by simp) ?_; (case hd => rfl); (case hg => rfl); (case hr => exact tG); (case hp => exact (Reps.c6 (show Kd.M k26 _ _ _ (⟨t197, t198, t199, t200, t201, t202⟩ : S26) [.int .i64 t197, .int .i64 t198, .int .i64 t199, .int .i64 t200, .int .i64 t201, .int .i64 t202] from (k26_mkM _ _ _ (⟨t197, t198, t199, t200, t201, t202⟩ : S26) )) (Reps.c6 (show Kd.M k26 _ _ _ (⟨t207, t208, t209, t210, t211, t212⟩ : S26) [.int .i64 t207, .int .i64 t208, .int .i64 t209, .int .i64 t210, .int .i64 t211, .int .i64 t212] from (k26_mkM _ _ _ (⟨t207, t208, t209, t210, t211, t212⟩ : S26) )) (Reps.none _ _))))
           intro v234 w104 ho105 hb hg_ hnew_
           clear hg_ hnew_
           (first | rw [← Ny233.out] at ho105 | (simp only [Int.reduceToNat] at ho105; rw [← Ny233.out] at ho105))
           have HO235 := Aside0.mk (Kd.R_lower (Kd.R_newB (Kd.R_newB (Kd.R_newB (Kd.R_newB (Kd.R_new' ho105 (Kd.R_lt (tR HO228))) (g := gb204) (o := .cells #[.int .i64 t197, .int .i64 t198, .int .i64 t199, .int .i64 t200, .int .i64 t201, .int .i64 t202] 26 (0, 0)) (tK BK204)) (g := gb214) (o := .cells #[.int .i64 t207, .int .i64 t208, .int .i64 t209, .int .i64 t210, .int .i64 t211, .int .i64 t212] 26 (0, 0)) (tK BK214)) (g := gb223) (o := .cells #[.int .i64 t216, .int .i64 t217, .int .i64 t218, .int .i64 t219, .int .i64 t220, .int .i64 t221] 26 (0, 0)) (tK BK223)) (g := gb225) (o := .cells #[.int .i64 t207, .int .i64 t208, .int .i64 7, .int .i64 t210, .int .i64 t211, .int .i64 t212] 26 (0, 0)) (tK BK225)) (below_size tB))
           replace HO228 := Aside0.mk (Kd.R_elder' (tR HO228) (Kd.R_base ho105) hb)
           replace BK204 := bB BK204 hb
           replace BK214 := bB BK214 hb
           replace BK223 := bB BK223 hb
           replace BK225 := bB BK225 hb
           replace HB := bH HB hb
           clear hb ho105
           refine hK.out _ _ tH (fun hHeld => ?_)
           clear hK K
           refine norm_ (tV : Act.put _ (some 84) _ = _) ?_
           exact norm_ tM (hJ2_3_4_5_8_15_16 (v227, v234) _ ⟨hHeld, (by (with_reducible repeat (first | apply Kd.R_alloc | apply Kd.R_drewN | apply Kd.R_drew)); exact Kd.R_mono HO228.out (fun _ hk => ⟨hk.2, ⟨hk.1.1, ⟨hk.1.2.1, ⟨hk.1.2.2.1, hk.1.2.2.2⟩⟩⟩⟩)), (by (with_reducible repeat (first | apply Kd.R_alloc | apply Kd.R_drewN | apply Kd.R_drew)); exact Kd.R_mono HO235.out (fun _ hk => ⟨hk.1.1.1.1.2, ⟨hk.1.1.1.2, ⟨hk.1.1.2, ⟨hk.1.2, hk.2⟩⟩⟩⟩)), tK BK204, tK BK214, tK BK223, tK BK225, tB⟩)
          refine goes_ Try.func18 (by kernel_rfl) rfl #[.int .i64 13] (by rfl) rfl rfl tL ?_
          with_reducible refine (spec_PublicKey.calls 13 t237 _ A52.out).mono ?_
          rintro e w' ⟨rfl, ⟨nd, rfl⟩⟩
          refine ⟨_, rfl, ?_⟩
          refine hK.out _ _ tH (fun hHeld => ?_)
          clear hK K
          refine norm_ (tV : Act.put _ (some 86) _ = _) ?_
          exact norm_ tM (hJ2_3_4_5_8_16_17 (v227) _ ⟨hHeld, tR HO228, tK BK204, tK BK214, tK BK223, tK BK225, tB⟩)
         intro hJ2_3_4_5_8_16
         refine join_ (σ := Value) 31 #[Y_,Y_,Y_,Y_,Y_,Y_,Y_,Y_,Y_,Y_,Y_,Y_,Y_,Y_,Y_,N_,N_,N_,N_,N_,N_,N_,N_,N_,N_,N_,N_,N_,N_,N_,N_,N_,N_,N_,N_,N_,N_,N_,N_,N_,N_,N_,N_,N_,N_,N_] (fun s_ => [(71, s_), (72, .int .i64 t229), (73, .int .i64 t230), (74, .int .i64 t231), (77, .int .i64 t232), (78, .int .i64 (Int.tmod t232 8)), (79, .int .i64 (Go.bits .and .i64 (wrap64 (1 + (Int.tmod t195 7))) (Int.tmod t232 8))), (80, .bool true), (81, .bool true), (82, .agg #[.int .i64 t197, .int .i64 t198, .int .i64 t199, .int .i64 t200, .int .i64 t201, .int .i64 t202]), (83, .agg #[.int .i64 t207, .int .i64 t208, .int .i64 t209, .int .i64 t210, .int .i64 t211, .int .i64 t212])]) (fun s_ w' => (w'.cell? ⟨gb204, 0, none⟩ = some (.int .i64 t197) ∧ w'.cell? ⟨gb204, 1, none⟩ = some (.int .i64 t198) ∧ w'.cell? ⟨gb204, 2, none⟩ = some (.int .i64 t199) ∧ w'.cell? ⟨gb204, 3, none⟩ = some (.int .i64 t200) ∧ w'.cell? ⟨gb204, 4, none⟩ = some (.int .i64 t201) ∧ w'.cell? ⟨gb204, 5, none⟩ = some (.int .i64 t202) ∧ w'.cell? ⟨gb214, 0, none⟩ = some (.int .i64 t207) ∧ w'.cell? ⟨gb214, 1, none⟩ = some (.int .i64 t208) ∧ w'.cell? ⟨gb214, 2, none⟩ = some (.int .i64 t209) ∧ w'.cell? ⟨gb214, 3, none⟩ = some (.int .i64 t210) ∧ w'.cell? ⟨gb214, 4, none⟩ = some (.int .i64 t211) ∧ w'.cell? ⟨gb214, 5, none⟩ = some (.int .i64 t212) ∧ w'.cell? ⟨gb225, 0, none⟩ = some (.int .i64 t207) ∧ w'.cell? ⟨gb225, 1, none⟩ = some (.int .i64 t208) ∧ w'.cell? ⟨gb225, 2, none⟩ = some (.int .i64 7) ∧ w'.cell? ⟨gb225, 3, none⟩ = some (.int .i64 t210) ∧ w'.cell? ⟨gb225, 4, none⟩ = some (.int .i64 t211) ∧ w'.cell? ⟨gb225, 5, none⟩ = some (.int .i64 t212)) ∧ (Kd.R k26 26 w' w.heap.size (fun k_ => k_ ≠ gb204 ∧ k_ ≠ gb214 ∧ k_ ≠ gb223 ∧ k_ ≠ gb225) s_ y226) ∧ (w'.heap[gb204]? = some (.cells #[.int .i64 t197, .int .i64 t198, .int .i64 t199, .int .i64 t200, .int .i64 t201, .int .i64 t202] 26 (0, 0))) ∧ (w'.heap[gb214]? = some (.cells #[.int .i64 t207, .int .i64 t208, .int .i64 t209, .int .i64 t210, .int .i64 t211, .int .i64 t212] 26 (0, 0))) ∧ (w'.heap[gb223]? = some (.cells #[.int .i64 t216, .int .i64 t217, .int .i64 t218, .int .i64 t219, .int .i64 t220, .int .i64 t221] 26 (0, 0))) ∧ (w'.heap[gb225]? = some (.cells #[.int .i64 t207, .int .i64 t208, .int .i64 7, .int .i64 t210, .int .i64 t211, .int .i64 t212] 26 (0, 0))) ∧ (Below w.heap.size w w')) ?_ ?_
         ·rintro v227 w103 ⟨hHeld, h0_, h1_, h2_, h3_, h4_, h5_⟩
          have HO228 := Aside0.mk h0_
          replace BK204 := Aside0.mk h1_
          replace BK214 := Aside0.mk h2_
          replace BK223 := Aside0.mk h3_
          replace BK225 := Aside0.mk h4_
          replace HB := Aside0.mk h5_
          clear h0_ h1_ h2_ h3_ h4_ h5_
          refine norm_ tM ?_
          refine two_ (i := 15) (j := 16) (Ni := some 84) (Nj := some 85) #[Y_,Y_,Y_,Y_,Y_,Y_,Y_,Y_,Y_,Y_,Y_,Y_,Y_,Y_,Y_,Y_,N_,N_,N_,N_,N_,N_,N_,N_,N_,N_,N_,N_,N_,N_,N_,N_,N_,N_,N_,N_,N_,N_,N_,N_,N_,N_,N_,N_,N_,N_] #[Y_,Y_,Y_,Y_,Y_,Y_,Y_,Y_,Y_,Y_,Y_,Y_,Y_,Y_,Y_,N_,Y_,N_,N_,N_,N_,N_,N_,N_,N_,N_,N_,N_,N_,N_,N_,N_,N_,N_,N_,N_,N_,N_,N_,N_,N_,N_,N_,N_,N_,N_] rfl rfl rfl rfl (two_of HT_.out (by kernel_rfl)) (by decide) (by decide) (fun K hK => ?_) (fun K hK => ?_)
          ·refine Kd.R_lit_step k26 _ 26 ?hg (N := 84) ?hd (xs := ([(⟨t197, t198, t199, t200, t201, t202⟩ : S26), (⟨t207, t208, t209, t210, t211, t212⟩ : S26)] : List (S26))) (inner := [.int .i64 t197, .int .i64 t198, .int .i64 t199, .int .i64 t200, .int .i64 t201, .int .i64 t202, .int .i64 t207, .int .i64 t208, .int .i64 t209, .int .i64 t210, .int .i64 t211, .int .i64 t212]) (ok := fun _ => True) (okp := fun _ => True) ?hr ?hp (fun _ hk => hk) trivial (Below.refl _ _) (Nat.le_refl _) (by simp) ?_; (case hd => rfl); (case hg => rfl); (case hr => exact tG); (case hp => exact (Reps.c6 (show Kd.M k26 _ _ _ (⟨t197, t198, t199, t200, t201, t202⟩ : S26) [.int .i64 t197, .int .i64 t198, .int .i64 t199, .int .i64 t200, .int .i64 t201, .int .i64 t202] from (k26_mkM _ _ _ (⟨t197, t198, t199, t200, t201, t202⟩ : S26) )) (Reps.c6 (show Kd.M k26 _ _ _ (⟨t207, t208, t209, t210, t211, t212⟩ : S26) [.int .i64 t207, .int .i64 t208, .int .i64 t209, .int .i64 t210, .int .i64 t211, .int .i64 t212] from (k26_mkM _ _ _ (⟨t207, t208, t209, t210, t211, t212⟩ : S26) )) (Reps.none _ _))))
           intro v234 w104 ho105 hb hg_ hnew_
           clear hg_ hnew_
           (first | rw [← Ny233.out] at ho105 | (simp only [Int.reduceToNat] at ho105; rw [← Ny233.out] at ho105))
           have HO235 := Aside0.mk (Kd.R_lower (Kd.R_newB (Kd.R_newB (Kd.R_newB (Kd.R_newB (Kd.R_new' ho105 (Kd.R_lt (tR HO228))) (g := gb204) (o := .cells #[.int .i64 t197, .int .i64 t198, .int .i64 t199, .int .i64 t200, .int .i64 t201, .int .i64 t202] 26 (0, 0)) (tK BK204)) (g := gb214) (o := .cells #[.int .i64 t207, .int .i64 t208, .int .i64 t209, .int .i64 t210, .int .i64 t211, .int .i64 t212] 26 (0, 0)) (tK BK214)) (g := gb223) (o := .cells #[.int .i64 t216, .int .i64 t217, .int .i64 t218, .int .i64 t219, .int .i64 t220, .int .i64 t221] 26 (0, 0)) (tK BK223)) (g := gb225) (o := .cells #[.int .i64 t207, .int .i64 t208, .int .i64 7, .int .i64 t210, .int .i64 t211, .int .i64 t212] 26 (0, 0)) (tK BK225)) (below_size tB))
           replace HO228 := Aside0.mk (Kd.R_elder' (tR HO228) (Kd.R_base ho105) hb)
           replace BK204 := bB BK204 hb
           replace BK214 := bB BK214 hb
           replace BK223 := bB BK223 hb
           replace BK225 := bB BK225 hb
           replace HB := bH HB hb
           clear hb ho105
           refine hK.out _ _ tH (fun hHeld => ?_)
           clear hK K
           refine norm_ (tV : Act.put _ (some 84) _ = _) ?_
           exact norm_ tM (hJ2_3_4_5_8_15 (v227, v234) _ ⟨hHeld, (by (with_reducible repeat (first | apply Kd.R_alloc | apply Kd.R_drewN | apply Kd.R_drew)); exact Kd.R_mono HO228.out (fun _ hk => ⟨hk.2, ⟨hk.1.1, ⟨hk.1.2.1, ⟨hk.1.2.2.1, hk.1.2.2.2⟩⟩⟩⟩)), (by (with_reducible repeat (first | apply Kd.R_alloc | apply Kd.R_drewN | apply Kd.R_drew)); exact Kd.R_mono HO235.out (fun _ hk => ⟨hk.1.1.1.1.2, ⟨hk.1.1.1.2, ⟨hk.1.1.2, ⟨hk.1.2, hk.2⟩⟩⟩⟩)), tK BK204, tK BK214, tK BK223, tK BK225, tB⟩)
          refine goes_ Try.func18 (by kernel_rfl) rfl #[.int .i64 11] (by rfl) rfl rfl tL ?_
          with_reducible refine (spec_PublicKey.calls 11 t236 _ A51.out).mono ?_
          rintro e w' ⟨rfl, ⟨nd, rfl⟩⟩
          refine ⟨_, rfl, ?_⟩
          refine hK.out _ _ tH (fun hHeld => ?_)
          clear hK K
          refine norm_ (tV : Act.put _ (some 85) _ = _) ?_
          exact norm_ tM (hJ2_3_4_5_8_16 (v227) _ ⟨hHeld, tR HO228, tK BK204, tK BK214, tK BK223, tK BK225, tB⟩)
         intro hJ2_3_4_5_8
         refine join_ (σ := Value) 38 #[Y_,Y_,Y_,Y_,Y_,Y_,Y_,Y_,N_,N_,N_,N_,N_,N_,N_,N_,N_,N_,N_,N_,N_,N_,N_,N_,N_,N_,N_,N_,N_,N_,N_,N_,N_,N_,N_,N_,N_,N_,N_,N_,N_,N_,N_,N_,N_,N_] (fun s_ => [(71, s_), (72, .int .i64 t229), (73, .int .i64 t230), (74, .int .i64 t231)]) (fun s_ w' => (w'.cell? ⟨gb204, 0, none⟩ = some (.int .i64 t197) ∧ w'.cell? ⟨gb204, 1, none⟩ = some (.int .i64 t198) ∧ w'.cell? ⟨gb204, 2, none⟩ = some (.int .i64 t199) ∧ w'.cell? ⟨gb204, 3, none⟩ = some (.int .i64 t200) ∧ w'.cell? ⟨gb204, 4, none⟩ = some (.int .i64 t201) ∧ w'.cell? ⟨gb204, 5, none⟩ = some (.int .i64 t202) ∧ w'.cell? ⟨gb214, 0, none⟩ = some (.int .i64 t207) ∧ w'.cell? ⟨gb214, 1, none⟩ = some (.int .i64 t208) ∧ w'.cell? ⟨gb214, 2, none⟩ = some (.int .i64 t209) ∧ w'.cell? ⟨gb214, 3, none⟩ = some (.int .i64 t210) ∧ w'.cell? ⟨gb214, 4, none⟩ = some (.int .i64 t211) ∧ w'.cell? ⟨gb214, 5, none⟩ = some (.int .i64 t212) ∧ w'.cell? ⟨gb225, 0, none⟩ = some (.int .i64 t207) ∧ w'.cell? ⟨gb225, 1, none⟩ = some (.int .i64 t208) ∧ w'.cell? ⟨gb225, 2, none⟩ = some (.int .i64 7) ∧ w'.cell? ⟨gb225, 3, none⟩ = some (.int .i64 t210) ∧ w'.cell? ⟨gb225, 4, none⟩ = some (.int .i64 t211) ∧ w'.cell? ⟨gb225, 5, none⟩ = some (.int .i64 t212)) ∧ (Kd.R k26 26 w' w.heap.size (fun k_ => k_ ≠ gb204 ∧ k_ ≠ gb214 ∧ k_ ≠ gb223 ∧ k_ ≠ gb225) s_ y226) ∧ (w'.heap[gb204]? = some (.cells #[.int .i64 t197, .int .i64 t198, .int .i64 t199, .int .i64 t200, .int .i64 t201, .int .i64 t202] 26 (0, 0))) ∧ (w'.heap[gb214]? = some (.cells #[.int .i64 t207, .int .i64 t208, .int .i64 t209, .int .i64 t210, .int .i64 t211, .int .i64 t212] 26 (0, 0))) ∧ (w'.heap[gb223]? = some (.cells #[.int .i64 t216, .int .i64 t217, .int .i64 t218, .int .i64 t219, .int .i64 t220, .int .i64 t221] 26 (0, 0))) ∧ (w'.heap[gb225]? = some (.cells #[.int .i64 t207, .int .i64 t208, .int .i64 7, .int .i64 t210, .int .i64 t211, .int .i64 t212] 26 (0, 0))) ∧ (Below w.heap.size w w')) ?_ ?_
         ·rintro v227 w103 ⟨hHeld, h0_, h1_, h2_, h3_, h4_, h5_⟩
          have HO228 := Aside0.mk h0_
          replace BK204 := Aside0.mk h1_
          replace BK214 := Aside0.mk h2_
          replace BK223 := Aside0.mk h3_
          replace BK225 := Aside0.mk h4_
          replace HB := Aside0.mk h5_
          clear h0_ h1_ h2_ h3_ h4_ h5_
          refine norm_ tM ?_
          refine one_ (i := 8) (N := some 77) #[Y_,Y_,Y_,Y_,Y_,Y_,Y_,Y_,Y_,N_,N_,N_,N_,N_,N_,N_,N_,N_,N_,N_,N_,N_,N_,N_,N_,N_,N_,N_,N_,N_,N_,N_,N_,N_,N_,N_,N_,N_,N_,N_,N_,N_,N_,N_,N_,N_] rfl rfl (one_of HT_.out (by kernel_rfl)) (by decide) (fun K hK => ?_)
          refine goes_ Try.func16 (by kernel_rfl) rfl #[.slice A0 l0.length c0, .int .i64 2] (by rfl) rfl rfl tL ?_
          with_reducible refine (laws_at.calls _ _ l0 2 t232 _ ?side1 ?side2 A49.out).mono ?_
          (case side1 => repeat (first | exact (Kd.C_below HR0.out HB.out) | (with_reducible refine Kd.C_alloc ?_ _) | (with_reducible refine Kd.C_drewN ?_ _) | (with_reducible refine Kd.C_drew ?_)))
          (case side2 => exact HC0.out)
          rintro e w' ⟨rfl, ⟨nd, rfl⟩⟩
          refine ⟨_, rfl, ?_⟩
          refine hK.out _ _ tH (fun hHeld => ?_)
          clear hK K
          refine norm_ (tV : Act.put _ (some 77) _ = _) ?_
          refine pure_ (i := 9) (N := some 78) #[Y_,Y_,Y_,Y_,Y_,Y_,Y_,Y_,Y_,Y_,N_,N_,N_,N_,N_,N_,N_,N_,N_,N_,N_,N_,N_,N_,N_,N_,N_,N_,N_,N_,N_,N_,N_,N_,N_,N_,N_,N_,N_,N_,N_,N_,N_,N_,N_,N_] rfl rfl (any_of HT_.out (by kernel_rfl)) (fun _ _ _ h => h) (Or.inl ⟨by rfl, tX⟩) tV ?_
          refine pure_ (i := 10) (N := some 79) #[Y_,Y_,Y_,Y_,Y_,Y_,Y_,Y_,Y_,Y_,Y_,N_,N_,N_,N_,N_,N_,N_,N_,N_,N_,N_,N_,N_,N_,N_,N_,N_,N_,N_,N_,N_,N_,N_,N_,N_,N_,N_,N_,N_,N_,N_,N_,N_,N_,N_] rfl rfl (any_of HT_.out (by kernel_rfl)) (fun _ _ _ h => h) (Or.inl ⟨by rfl, tX⟩) tV ?_
          refine pure_ (i := 11) (N := some 80) #[Y_,Y_,Y_,Y_,Y_,Y_,Y_,Y_,Y_,Y_,Y_,Y_,N_,N_,N_,N_,N_,N_,N_,N_,N_,N_,N_,N_,N_,N_,N_,N_,N_,N_,N_,N_,N_,N_,N_,N_,N_,N_,N_,N_,N_,N_,N_,N_,N_,N_] rfl rfl (any_of HT_.out (by kernel_rfl)) (fun _ _ _ h => h) (Or.inl ⟨by rfl, tX⟩) tV ?_
          refine pure_ (i := 12) (N := some 81) #[Y_,Y_,Y_,Y_,Y_,Y_,Y_,Y_,Y_,Y_,Y_,Y_,Y_,N_,N_,N_,N_,N_,N_,N_,N_,N_,N_,N_,N_,N_,N_,N_,N_,N_,N_,N_,N_,N_,N_,N_,N_,N_,N_,N_,N_,N_,N_,N_,N_,N_] rfl rfl (any_of HT_.out (by kernel_rfl)) (fun _ _ _ h => h) (Or.inl ⟨by rfl, tX⟩) tV ?_
          refine take_ (i := 13) (N := some 82) (v := ?_) (a' := ?_) #[Y_,Y_,Y_,Y_,Y_,Y_,Y_,Y_,Y_,Y_,Y_,Y_,Y_,Y_,N_,N_,N_,N_,N_,N_,N_,N_,N_,N_,N_,N_,N_,N_,N_,N_,N_,N_,N_,N_,N_,N_,N_,N_,N_,N_,N_,N_,N_,N_,N_,N_] rfl rfl (take_ofW HT_.out HW_.out (by kernel_rfl)) (fun _ _ _ h => h) (Or.inl ⟨by rfl, ?_⟩) hHeld ?_ ?_
          rotate_left
          ·rintro w' ⟨s0, s1, s2, s3, s4, s5, s6, s7, s8, s9, s10, s11, s12, s13, s14, s15, s16, s17⟩
           go_simp
           with_reducible rfl
          rotate_left
          ·simp only [Act.put, List.setIfInBounds_toArray, List.set_cons_zero, List.set_cons_succ, i64_w, i32_w]
           rfl
          refine take_ (i := 14) (N := some 83) (v := ?_) (a' := ?_) #[Y_,Y_,Y_,Y_,Y_,Y_,Y_,Y_,Y_,Y_,Y_,Y_,Y_,Y_,Y_,N_,N_,N_,N_,N_,N_,N_,N_,N_,N_,N_,N_,N_,N_,N_,N_,N_,N_,N_,N_,N_,N_,N_,N_,N_,N_,N_,N_,N_,N_,N_] rfl rfl (take_ofW HT_.out HW_.out (by kernel_rfl)) (fun _ _ _ h => h) (Or.inl ⟨by rfl, ?_⟩) hHeld ?_ ?_
          rotate_left
          ·rintro w' ⟨s0, s1, s2, s3, s4, s5, s6, s7, s8, s9, s10, s11, s12, s13, s14, s15, s16, s17⟩
           go_simp
           with_reducible rfl
          rotate_left
          ·simp only [Act.put, List.setIfInBounds_toArray, List.set_cons_zero, List.set_cons_succ, i64_w, i32_w]
           rfl
          exact norm_ tM (hJ2_3_4_5_8 (v227) _ ⟨hHeld, tR HO228, tK BK204, tK BK214, tK BK223, tK BK225, tB⟩)
         intro hJ2_3_4_5
         refine join_ (σ := Value) 39 #[Y_,Y_,Y_,Y_,Y_,N_,Y_,Y_,N_,N_,N_,N_,N_,N_,N_,N_,N_,N_,N_,N_,N_,N_,N_,N_,N_,N_,N_,N_,N_,N_,N_,N_,N_,N_,N_,N_,N_,N_,N_,N_,N_,N_,N_,N_,N_,N_] (fun s_ => [(71, s_), (72, .int .i64 t229), (73, .int .i64 t230)]) (fun s_ w' => (w'.cell? ⟨gb204, 0, none⟩ = some (.int .i64 t197) ∧ w'.cell? ⟨gb204, 1, none⟩ = some (.int .i64 t198) ∧ w'.cell? ⟨gb204, 2, none⟩ = some (.int .i64 t199) ∧ w'.cell? ⟨gb204, 3, none⟩ = some (.int .i64 t200) ∧ w'.cell? ⟨gb204, 4, none⟩ = some (.int .i64 t201) ∧ w'.cell? ⟨gb204, 5, none⟩ = some (.int .i64 t202) ∧ w'.cell? ⟨gb214, 0, none⟩ = some (.int .i64 t207) ∧ w'.cell? ⟨gb214, 1, none⟩ = some (.int .i64 t208) ∧ w'.cell? ⟨gb214, 2, none⟩ = some (.int .i64 t209) ∧ w'.cell? ⟨gb214, 3, none⟩ = some (.int .i64 t210) ∧ w'.cell? ⟨gb214, 4, none⟩ = some (.int .i64 t211) ∧ w'.cell? ⟨gb214, 5, none⟩ = some (.int .i64 t212) ∧ w'.cell? ⟨gb225, 0, none⟩ = some (.int .i64 t207) ∧ w'.cell? ⟨gb225, 1, none⟩ = some (.int .i64 t208) ∧ w'.cell? ⟨gb225, 2, none⟩ = some (.int .i64 7) ∧ w'.cell? ⟨gb225, 3, none⟩ = some (.int .i64 t210) ∧ w'.cell? ⟨gb225, 4, none⟩ = some (.int .i64 t211) ∧ w'.cell? ⟨gb225, 5, none⟩ = some (.int .i64 t212)) ∧ (Kd.R k26 26 w' w.heap.size (fun k_ => k_ ≠ gb204 ∧ k_ ≠ gb214 ∧ k_ ≠ gb223 ∧ k_ ≠ gb225) s_ y226) ∧ (w'.heap[gb204]? = some (.cells #[.int .i64 t197, .int .i64 t198, .int .i64 t199, .int .i64 t200, .int .i64 t201, .int .i64 t202] 26 (0, 0))) ∧ (w'.heap[gb214]? = some (.cells #[.int .i64 t207, .int .i64 t208, .int .i64 t209, .int .i64 t210, .int .i64 t211, .int .i64 t212] 26 (0, 0))) ∧ (w'.heap[gb223]? = some (.cells #[.int .i64 t216, .int .i64 t217, .int .i64 t218, .int .i64 t219, .int .i64 t220, .int .i64 t221] 26 (0, 0))) ∧ (w'.heap[gb225]? = some (.cells #[.int .i64 t207, .int .i64 t208, .int .i64 7, .int .i64 t210, .int .i64 t211, .int .i64 t212] 26 (0, 0))) ∧ (Below w.heap.size w w')) ?_ ?_
         ·rintro v227 w101 ⟨hHeld, h0_, h1_, h2_, h3_, h4_, h5_⟩
          have HO228 := Aside0.mk h0_
          replace BK204 := Aside0.mk h1_
          replace BK214 := Aside0.mk h2_
          replace BK223 := Aside0.mk h3_
          replace BK225 := Aside0.mk h4_
          replace HB := Aside0.mk h5_
          clear h0_ h1_ h2_ h3_ h4_ h5_
          obtain ⟨Ao102, co102, eo102⟩ := Kd.R_slice HO228.out
          (first | subst eo102 | (injection eo102 with f1_ f2_ f3_; have f4_ := f1_.symm; have f5_ := f3_.symm; clear f1_ f2_ f3_; subst f4_; subst f5_))
          refine norm_ tM ?_
          refine one_ (i := 5) (N := some 74) #[Y_,Y_,Y_,Y_,Y_,Y_,Y_,Y_,N_,N_,N_,N_,N_,N_,N_,N_,N_,N_,N_,N_,N_,N_,N_,N_,N_,N_,N_,N_,N_,N_,N_,N_,N_,N_,N_,N_,N_,N_,N_,N_,N_,N_,N_,N_,N_,N_] rfl rfl (one_of HT_.out (by kernel_rfl)) (by decide) (fun K hK => ?_)
          refine goes_ Try.func20 (by kernel_rfl) rfl #[.slice Ao102 y226.length co102, .int .i64 t229, .int .i64 t230, .int .i64 50] (by rfl) rfl rfl tL ?_
          with_reducible refine (impl_ChainScopes.calls kj12 _ _ y226 t229 t230 50 t231 _ ?side1 ?side2 A48.out).mono ?_
          (case side1 => repeat (first | exact (Kd.R_reads' HO228.out).2.2 | (with_reducible refine Kd.C_alloc ?_ _) | (with_reducible refine Kd.C_drewN ?_ _) | (with_reducible refine Kd.C_drew ?_)))
          (case side2 => exact (Kd.R_reads' HO228.out).2.1)
          rintro e w103 ⟨rfl, hb⟩
          refine ⟨_, rfl, ?_⟩
          replace HO228 := Aside0.mk (Kd.R_below (tR HO228) hb)
          replace BK204 := bB BK204 hb
          replace BK214 := bB BK214 hb
          replace BK223 := bB BK223 hb
          replace BK225 := bB BK225 hb
          replace HB := bH HB hb
          (try clear hb)
          (try clear hb2)
          (try clear hk)
          (try clear hi)
          refine hK.out _ _ tH (fun hHeld => ?_)
          clear hK K
          refine norm_ (tV : Act.put _ (some 74) _ = _) ?_
          exact norm_ tM (hJ2_3_4_5 (.slice Ao102 y226.length co102) _ ⟨hHeld, tR HO228, tK BK204, tK BK214, tK BK223, tK BK225, tB⟩)
         intro hJ2_3_4
         refine join_ (σ := Value) 40 #[Y_,Y_,Y_,Y_,N_,N_,Y_,Y_,N_,N_,N_,N_,N_,N_,N_,N_,N_,N_,N_,N_,N_,N_,N_,N_,N_,N_,N_,N_,N_,N_,N_,N_,N_,N_,N_,N_,N_,N_,N_,N_,N_,N_,N_,N_,N_,N_] (fun s_ => [(71, s_), (72, .int .i64 t229)]) (fun s_ w' => (w'.cell? ⟨gb204, 0, none⟩ = some (.int .i64 t197) ∧ w'.cell? ⟨gb204, 1, none⟩ = some (.int .i64 t198) ∧ w'.cell? ⟨gb204, 2, none⟩ = some (.int .i64 t199) ∧ w'.cell? ⟨gb204, 3, none⟩ = some (.int .i64 t200) ∧ w'.cell? ⟨gb204, 4, none⟩ = some (.int .i64 t201) ∧ w'.cell? ⟨gb204, 5, none⟩ = some (.int .i64 t202) ∧ w'.cell? ⟨gb214, 0, none⟩ = some (.int .i64 t207) ∧ w'.cell? ⟨gb214, 1, none⟩ = some (.int .i64 t208) ∧ w'.cell? ⟨gb214, 2, none⟩ = some (.int .i64 t209) ∧ w'.cell? ⟨gb214, 3, none⟩ = some (.int .i64 t210) ∧ w'.cell? ⟨gb214, 4, none⟩ = some (.int .i64 t211) ∧ w'.cell? ⟨gb214, 5, none⟩ = some (.int .i64 t212) ∧ w'.cell? ⟨gb225, 0, none⟩ = some (.int .i64 t207) ∧ w'.cell? ⟨gb225, 1, none⟩ = some (.int .i64 t208) ∧ w'.cell? ⟨gb225, 2, none⟩ = some (.int .i64 7) ∧ w'.cell? ⟨gb225, 3, none⟩ = some (.int .i64 t210) ∧ w'.cell? ⟨gb225, 4, none⟩ = some (.int .i64 t211) ∧ w'.cell? ⟨gb225, 5, none⟩ = some (.int .i64 t212)) ∧ (Kd.R k26 26 w' w.heap.size (fun k_ => k_ ≠ gb204 ∧ k_ ≠ gb214 ∧ k_ ≠ gb223 ∧ k_ ≠ gb225) s_ y226) ∧ (w'.heap[gb204]? = some (.cells #[.int .i64 t197, .int .i64 t198, .int .i64 t199, .int .i64 t200, .int .i64 t201, .int .i64 t202] 26 (0, 0))) ∧ (w'.heap[gb214]? = some (.cells #[.int .i64 t207, .int .i64 t208, .int .i64 t209, .int .i64 t210, .int .i64 t211, .int .i64 t212] 26 (0, 0))) ∧ (w'.heap[gb223]? = some (.cells #[.int .i64 t216, .int .i64 t217, .int .i64 t218, .int .i64 t219, .int .i64 t220, .int .i64 t221] 26 (0, 0))) ∧ (w'.heap[gb225]? = some (.cells #[.int .i64 t207, .int .i64 t208, .int .i64 7, .int .i64 t210, .int .i64 t211, .int .i64 t212] 26 (0, 0))) ∧ (Below w.heap.size w w')) ?_ ?_
         ·rintro v227 w101 ⟨hHeld, h0_, h1_, h2_, h3_, h4_, h5_⟩
          have HO228 := Aside0.mk h0_
          replace BK204 := Aside0.mk h1_
          replace BK214 := Aside0.mk h2_
          replace BK223 := Aside0.mk h3_
          replace BK225 := Aside0.mk h4_
          replace HB := Aside0.mk h5_
          clear h0_ h1_ h2_ h3_ h4_ h5_
          refine norm_ tM ?_
          refine one_ (i := 4) (N := some 73) #[Y_,Y_,Y_,Y_,Y_,N_,Y_,Y_,N_,N_,N_,N_,N_,N_,N_,N_,N_,N_,N_,N_,N_,N_,N_,N_,N_,N_,N_,N_,N_,N_,N_,N_,N_,N_,N_,N_,N_,N_,N_,N_,N_,N_,N_,N_,N_,N_] rfl rfl (one_of HT_.out (by kernel_rfl)) (by decide) (fun K hK => ?_)
          refine goes_ Try.func18 (by kernel_rfl) rfl #[.int .i64 13] (by rfl) rfl rfl tL ?_
          with_reducible refine (spec_PublicKey.calls 13 t230 _ A47.out).mono ?_
          rintro e w' ⟨rfl, ⟨nd, rfl⟩⟩
          refine ⟨_, rfl, ?_⟩
          refine hK.out _ _ tH (fun hHeld => ?_)
          clear hK K
          refine norm_ (tV : Act.put _ (some 73) _ = _) ?_
          exact norm_ tM (hJ2_3_4 (v227) _ ⟨hHeld, tR HO228, tK BK204, tK BK214, tK BK223, tK BK225, tB⟩)
         intro hJ2_3
         refine join_ (σ := Unit) 40 #[Y_,Y_,N_,Y_,Y_,N_,Y_,Y_,N_,N_,N_,N_,N_,N_,N_,N_,N_,N_,N_,N_,N_,N_,N_,N_,N_,N_,N_,N_,N_,N_,N_,N_,N_,N_,N_,N_,N_,N_,N_,N_,N_,N_,N_,N_,N_,N_] (fun s_ => [(72, .int .i64 t229), (73, .int .i64 t230)]) (fun s_ w' => (w'.cell? ⟨gb204, 0, none⟩ = some (.int .i64 t197) ∧ w'.cell? ⟨gb204, 1, none⟩ = some (.int .i64 t198) ∧ w'.cell? ⟨gb204, 2, none⟩ = some (.int .i64 t199) ∧ w'.cell? ⟨gb204, 3, none⟩ = some (.int .i64 t200) ∧ w'.cell? ⟨gb204, 4, none⟩ = some (.int .i64 t201) ∧ w'.cell? ⟨gb204, 5, none⟩ = some (.int .i64 t202) ∧ w'.cell? ⟨gb214, 0, none⟩ = some (.int .i64 t207) ∧ w'.cell? ⟨gb214, 1, none⟩ = some (.int .i64 t208) ∧ w'.cell? ⟨gb214, 2, none⟩ = some (.int .i64 t209) ∧ w'.cell? ⟨gb214, 3, none⟩ = some (.int .i64 t210) ∧ w'.cell? ⟨gb214, 4, none⟩ = some (.int .i64 t211) ∧ w'.cell? ⟨gb214, 5, none⟩ = some (.int .i64 t212) ∧ w'.cell? ⟨gb225, 0, none⟩ = some (.int .i64 t207) ∧ w'.cell? ⟨gb225, 1, none⟩ = some (.int .i64 t208) ∧ w'.cell? ⟨gb225, 2, none⟩ = some (.int .i64 7) ∧ w'.cell? ⟨gb225, 3, none⟩ = some (.int .i64 t210) ∧ w'.cell? ⟨gb225, 4, none⟩ = some (.int .i64 t211) ∧ w'.cell? ⟨gb225, 5, none⟩ = some (.int .i64 t212)) ∧ (w'.heap[gb204]? = some (.cells #[.int .i64 t197, .int .i64 t198, .int .i64 t199, .int .i64 t200, .int .i64 t201, .int .i64 t202] 26 (0, 0))) ∧ (w'.heap[gb214]? = some (.cells #[.int .i64 t207, .int .i64 t208, .int .i64 t209, .int .i64 t210, .int .i64 t211, .int .i64 t212] 26 (0, 0))) ∧ (w'.heap[gb223]? = some (.cells #[.int .i64 t216, .int .i64 t217, .int .i64 t218, .int .i64 t219, .int .i64 t220, .int .i64 t221] 26 (0, 0))) ∧ (w'.heap[gb225]? = some (.cells #[.int .i64 t207, .int .i64 t208, .int .i64 7, .int .i64 t210, .int .i64 t211, .int .i64 t212] 26 (0, 0))) ∧ (Below w.heap.size w w')) ?_ ?_
         ·rintro _ w99 ⟨hHeld, h0_, h1_, h2_, h3_, h4_⟩
          replace BK204 := Aside0.mk h0_
          replace BK214 := Aside0.mk h1_
          replace BK223 := Aside0.mk h2_
          replace BK225 := Aside0.mk h3_
          replace HB := Aside0.mk h4_
          clear h0_ h1_ h2_ h3_ h4_
          refine norm_ tM ?_
          refine one_ (i := 2) (N := some 71) #[Y_,Y_,Y_,Y_,Y_,N_,Y_,Y_,N_,N_,N_,N_,N_,N_,N_,N_,N_,N_,N_,N_,N_,N_,N_,N_,N_,N_,N_,N_,N_,N_,N_,N_,N_,N_,N_,N_,N_,N_,N_,N_,N_,N_,N_,N_,N_,N_] rfl rfl (one_of HT_.out (by kernel_rfl)) (by decide) (fun K hK => ?_)
          refine Kd.R_lit_step k26 _ 26 ?hg (N := 71) ?hd (xs := ([(⟨t197, t198, t199, t200, t201, t202⟩ : S26), (⟨t207, t208, t209, t210, t211, t212⟩ : S26)] : List (S26))) (inner := [.int .i64 t197, .int .i64 t198, .int .i64 t199, .int .i64 t200, .int .i64 t201, .int .i64 t202, .int .i64 t207, .int .i64 t208, .int .i64 t209, .int .i64 t210, .int .i64 t211, .int .i64 t212]) (ok := fun _ => True) (okp := fun _ => True) ?hr ?hp (fun _ hk => hk) trivial (Below.refl _ _) (Nat.le_refl _) (by simp) ?_; (case hd => rfl); (case hg => rfl); (case hr => exact tG); (case hp => exact (Reps.c6 (show Kd.M k26 _ _ _ (⟨t197, t198, t199, t200, t201, t202⟩ : S26) [.int .i64 t197, .int .i64 t198, .int .i64 t199, .int .i64 t200, .int .i64 t201, .int .i64 t202] from (k26_mkM _ _ _ (⟨t197, t198, t199, t200, t201, t202⟩ : S26) )) (Reps.c6 (show Kd.M k26 _ _ _ (⟨t207, t208, t209, t210, t211, t212⟩ : S26) [.int .i64 t207, .int .i64 t208, .int .i64 t209, .int .i64 t210, .int .i64 t211, .int .i64 t212] from (k26_mkM _ _ _ (⟨t207, t208, t209, t210, t211, t212⟩ : S26) )) (Reps.none _ _))))
          intro v227 w100 ho101 hb hg_ hnew_
          clear hg_ hnew_
          (first | rw [← Ny226.out] at ho101 | (simp only [Int.reduceToNat] at ho101; rw [← Ny226.out] at ho101))
          have HO228 := Aside0.mk (Kd.R_lower (Kd.R_newB (Kd.R_newB (Kd.R_newB (Kd.R_newB ho101 (g := gb204) (o := .cells #[.int .i64 t197, .int .i64 t198, .int .i64 t199, .int .i64 t200, .int .i64 t201, .int .i64 t202] 26 (0, 0)) (tK BK204)) (g := gb214) (o := .cells #[.int .i64 t207, .int .i64 t208, .int .i64 t209, .int .i64 t210, .int .i64 t211, .int .i64 t212] 26 (0, 0)) (tK BK214)) (g := gb223) (o := .cells #[.int .i64 t216, .int .i64 t217, .int .i64 t218, .int .i64 t219, .int .i64 t220, .int .i64 t221] 26 (0, 0)) (tK BK223)) (g := gb225) (o := .cells #[.int .i64 t207, .int .i64 t208, .int .i64 7, .int .i64 t210, .int .i64 t211, .int .i64 t212] 26 (0, 0)) (tK BK225)) (below_size tB))
          replace BK204 := bB BK204 hb
          replace BK214 := bB BK214 hb
          replace BK223 := bB BK223 hb
          replace BK225 := bB BK225 hb
          replace HB := bH HB hb
          clear hb ho101
          refine hK.out _ _ tH (fun hHeld => ?_)
          clear hK K
          refine norm_ (tV : Act.put _ (some 71) _ = _) ?_
          exact norm_ tM (hJ2_3_4 (v227) _ ⟨hHeld, (by (with_reducible repeat (first | apply Kd.R_alloc | apply Kd.R_drewN | apply Kd.R_drew)); exact Kd.R_mono HO228.out (fun _ hk => ⟨hk.1.1.1.2, ⟨hk.1.1.2, ⟨hk.1.2, hk.2⟩⟩⟩)), tK BK204, tK BK214, tK BK223, tK BK225, tB⟩)
         intro hJ3_4
         refine join_ (σ := Value) 41 #[Y_,Y_,Y_,N_,N_,N_,Y_,Y_,N_,N_,N_,N_,N_,N_,N_,N_,N_,N_,N_,N_,N_,N_,N_,N_,N_,N_,N_,N_,N_,N_,N_,N_,N_,N_,N_,N_,N_,N_,N_,N_,N_,N_,N_,N_,N_,N_] (fun s_ => [(71, s_)]) (fun s_ w' => (w'.cell? ⟨gb204, 0, none⟩ = some (.int .i64 t197) ∧ w'.cell? ⟨gb204, 1, none⟩ = some (.int .i64 t198) ∧ w'.cell? ⟨gb204, 2, none⟩ = some (.int .i64 t199) ∧ w'.cell? ⟨gb204, 3, none⟩ = some (.int .i64 t200) ∧ w'.cell? ⟨gb204, 4, none⟩ = some (.int .i64 t201) ∧ w'.cell? ⟨gb204, 5, none⟩ = some (.int .i64 t202) ∧ w'.cell? ⟨gb214, 0, none⟩ = some (.int .i64 t207) ∧ w'.cell? ⟨gb214, 1, none⟩ = some (.int .i64 t208) ∧ w'.cell? ⟨gb214, 2, none⟩ = some (.int .i64 t209) ∧ w'.cell? ⟨gb214, 3, none⟩ = some (.int .i64 t210) ∧ w'.cell? ⟨gb214, 4, none⟩ = some (.int .i64 t211) ∧ w'.cell? ⟨gb214, 5, none⟩ = some (.int .i64 t212) ∧ w'.cell? ⟨gb225, 0, none⟩ = some (.int .i64 t207) ∧ w'.cell? ⟨gb225, 1, none⟩ = some (.int .i64 t208) ∧ w'.cell? ⟨gb225, 2, none⟩ = some (.int .i64 7) ∧ w'.cell? ⟨gb225, 3, none⟩ = some (.int .i64 t210) ∧ w'.cell? ⟨gb225, 4, none⟩ = some (.int .i64 t211) ∧ w'.cell? ⟨gb225, 5, none⟩ = some (.int .i64 t212)) ∧ (Kd.R k26 26 w' w.heap.size (fun k_ => k_ ≠ gb204 ∧ k_ ≠ gb214 ∧ k_ ≠ gb223 ∧ k_ ≠ gb225) s_ y226) ∧ (w'.heap[gb204]? = some (.cells #[.int .i64 t197, .int .i64 t198, .int .i64 t199, .int .i64 t200, .int .i64 t201, .int .i64 t202] 26 (0, 0))) ∧ (w'.heap[gb214]? = some (.cells #[.int .i64 t207, .int .i64 t208, .int .i64 t209, .int .i64 t210, .int .i64 t211, .int .i64 t212] 26 (0, 0))) ∧ (w'.heap[gb223]? = some (.cells #[.int .i64 t216, .int .i64 t217, .int .i64 t218, .int .i64 t219, .int .i64 t220, .int .i64 t221] 26 (0, 0))) ∧ (w'.heap[gb225]? = some (.cells #[.int .i64 t207, .int .i64 t208, .int .i64 7, .int .i64 t210, .int .i64 t211, .int .i64 t212] 26 (0, 0))) ∧ (Below w.heap.size w w')) ?_ ?_
         ·rintro v227 w101 ⟨hHeld, h0_, h1_, h2_, h3_, h4_, h5_⟩
          have HO228 := Aside0.mk h0_
          replace BK204 := Aside0.mk h1_
          replace BK214 := Aside0.mk h2_
          replace BK223 := Aside0.mk h3_
          replace BK225 := Aside0.mk h4_
          replace HB := Aside0.mk h5_
          clear h0_ h1_ h2_ h3_ h4_ h5_
          refine norm_ tM ?_
          refine one_ (i := 3) (N := some 72) #[Y_,Y_,Y_,Y_,N_,N_,Y_,Y_,N_,N_,N_,N_,N_,N_,N_,N_,N_,N_,N_,N_,N_,N_,N_,N_,N_,N_,N_,N_,N_,N_,N_,N_,N_,N_,N_,N_,N_,N_,N_,N_,N_,N_,N_,N_,N_,N_] rfl rfl (one_of HT_.out (by kernel_rfl)) (by decide) (fun K hK => ?_)
          refine goes_ Try.func18 (by kernel_rfl) rfl #[.int .i64 11] (by rfl) rfl rfl tL ?_
          with_reducible refine (spec_PublicKey.calls 11 t229 _ A46.out).mono ?_
          rintro e w' ⟨rfl, ⟨nd, rfl⟩⟩
          refine ⟨_, rfl, ?_⟩
          refine hK.out _ _ tH (fun hHeld => ?_)
          clear hK K
          refine norm_ (tV : Act.put _ (some 72) _ = _) ?_
          exact norm_ tM (hJ2_3 (v227) _ ⟨hHeld, tR HO228, tK BK204, tK BK214, tK BK223, tK BK225, tB⟩)
         intro hJ2
         refine join_ (σ := Unit) 41 #[Y_,Y_,N_,Y_,N_,N_,Y_,Y_,N_,N_,N_,N_,N_,N_,N_,N_,N_,N_,N_,N_,N_,N_,N_,N_,N_,N_,N_,N_,N_,N_,N_,N_,N_,N_,N_,N_,N_,N_,N_,N_,N_,N_,N_,N_,N_,N_] (fun s_ => [(72, .int .i64 t229)]) (fun s_ w' => (w'.cell? ⟨gb204, 0, none⟩ = some (.int .i64 t197) ∧ w'.cell? ⟨gb204, 1, none⟩ = some (.int .i64 t198) ∧ w'.cell? ⟨gb204, 2, none⟩ = some (.int .i64 t199) ∧ w'.cell? ⟨gb204, 3, none⟩ = some (.int .i64 t200) ∧ w'.cell? ⟨gb204, 4, none⟩ = some (.int .i64 t201) ∧ w'.cell? ⟨gb204, 5, none⟩ = some (.int .i64 t202) ∧ w'.cell? ⟨gb214, 0, none⟩ = some (.int .i64 t207) ∧ w'.cell? ⟨gb214, 1, none⟩ = some (.int .i64 t208) ∧ w'.cell? ⟨gb214, 2, none⟩ = some (.int .i64 t209) ∧ w'.cell? ⟨gb214, 3, none⟩ = some (.int .i64 t210) ∧ w'.cell? ⟨gb214, 4, none⟩ = some (.int .i64 t211) ∧ w'.cell? ⟨gb214, 5, none⟩ = some (.int .i64 t212) ∧ w'.cell? ⟨gb225, 0, none⟩ = some (.int .i64 t207) ∧ w'.cell? ⟨gb225, 1, none⟩ = some (.int .i64 t208) ∧ w'.cell? ⟨gb225, 2, none⟩ = some (.int .i64 7) ∧ w'.cell? ⟨gb225, 3, none⟩ = some (.int .i64 t210) ∧ w'.cell? ⟨gb225, 4, none⟩ = some (.int .i64 t211) ∧ w'.cell? ⟨gb225, 5, none⟩ = some (.int .i64 t212)) ∧ (w'.heap[gb204]? = some (.cells #[.int .i64 t197, .int .i64 t198, .int .i64 t199, .int .i64 t200, .int .i64 t201, .int .i64 t202] 26 (0, 0))) ∧ (w'.heap[gb214]? = some (.cells #[.int .i64 t207, .int .i64 t208, .int .i64 t209, .int .i64 t210, .int .i64 t211, .int .i64 t212] 26 (0, 0))) ∧ (w'.heap[gb223]? = some (.cells #[.int .i64 t216, .int .i64 t217, .int .i64 t218, .int .i64 t219, .int .i64 t220, .int .i64 t221] 26 (0, 0))) ∧ (w'.heap[gb225]? = some (.cells #[.int .i64 t207, .int .i64 t208, .int .i64 7, .int .i64 t210, .int .i64 t211, .int .i64 t212] 26 (0, 0))) ∧ (Below w.heap.size w w')) ?_ ?_
         ·rintro _ w99 ⟨hHeld, h0_, h1_, h2_, h3_, h4_⟩
          replace BK204 := Aside0.mk h0_
          replace BK214 := Aside0.mk h1_
          replace BK223 := Aside0.mk h2_
          replace BK225 := Aside0.mk h3_
          replace HB := Aside0.mk h4_
          clear h0_ h1_ h2_ h3_ h4_
          refine norm_ tM ?_
          refine two_ (i := 2) (j := 4) (Ni := some 71) (Nj := some 73) #[Y_,Y_,Y_,Y_,N_,N_,Y_,Y_,N_,N_,N_,N_,N_,N_,N_,N_,N_,N_,N_,N_,N_,N_,N_,N_,N_,N_,N_,N_,N_,N_,N_,N_,N_,N_,N_,N_,N_,N_,N_,N_,N_,N_,N_,N_,N_,N_] #[Y_,Y_,N_,Y_,Y_,N_,Y_,Y_,N_,N_,N_,N_,N_,N_,N_,N_,N_,N_,N_,N_,N_,N_,N_,N_,N_,N_,N_,N_,N_,N_,N_,N_,N_,N_,N_,N_,N_,N_,N_,N_,N_,N_,N_,N_,N_,N_] rfl rfl rfl rfl (two_of HT_.out (by kernel_rfl)) (by decide) (by decide) (fun K hK => ?_) (fun K hK => ?_)
          ·refine Kd.R_lit_step k26 _ 26 ?hg (N := 71) ?hd (xs := ([(⟨t197, t198, t199, t200, t201, t202⟩ : S26), (⟨t207, t208, t209, t210, t211, t212⟩ : S26)] : List (S26))) (inner := [.int .i64 t197, .int .i64 t198, .int .i64 t199, .int .i64 t200, .int .i64 t201, .int .i64 t202, .int .i64 t207, .int .i64 t208, .int .i64 t209, .int .i64 t210, .int .i64 t211, .int .i64 t212]) (ok := fun _ => True) (okp := fun _ => True) ?hr ?hp (fun _ hk => hk) trivial (Below.refl _ _) (Nat.le_refl _) (by simp) ?_; (case hd => rfl); (case hg => rfl); (case hr => exact tG); (case hp => exact (Reps.c6 (show Kd.M k26 _ _ _ (⟨t197, t198, t199, t200, t201, t202⟩ : S26) [.int .i64 t197, .int .i64 t198, .int .i64 t199, .int .i64 t200, .int .i64 t201, .int .i64 t202] from (k26_mkM _ _ _ (⟨t197, t198, t199, t200, t201, t202⟩ : S26) )) (Reps.c6 (show Kd.M k26 _ _ _ (⟨t207, t208, t209, t210, t211, t212⟩ : S26) [.int .i64 t207, .int .i64 t208, .int .i64 t209, .int .i64 t210, .int .i64 t211, .int .i64 t212] from (k26_mkM _ _ _ (⟨t207, t208, t209, t210, t211, t212⟩ : S26) )) (Reps.none _ _))))
           intro v227 w100 ho101 hb hg_ hnew_
           clear hg_ hnew_
           (first | rw [← Ny226.out] at ho101 | (simp only [Int.reduceToNat] at ho101; rw [← Ny226.out] at ho101))
           have HO228 := Aside0.mk (Kd.R_lower (Kd.R_newB (Kd.R_newB (Kd.R_newB (Kd.R_newB ho101 (g := gb204) (o := .cells #[.int .i64 t197, .int .i64 t198, .int .i64 t199, .int .i64 t200, .int .i64 t201, .int .i64 t202] 26 (0, 0)) (tK BK204)) (g := gb214) (o := .cells #[.int .i64 t207, .int .i64 t208, .int .i64 t209, .int .i64 t210, .int .i64 t211, .int .i64 t212] 26 (0, 0)) (tK BK214)) (g := gb223) (o := .cells #[.int .i64 t216, .int .i64 t217, .int .i64 t218, .int .i64 t219, .int .i64 t220, .int .i64 t221] 26 (0, 0)) (tK BK223)) (g := gb225) (o := .cells #[.int .i64 t207, .int .i64 t208, .int .i64 7, .int .i64 t210, .int .i64 t211, .int .i64 t212] 26 (0, 0)) (tK BK225)) (below_size tB))
           replace BK204 := bB BK204 hb
           replace BK214 := bB BK214 hb
           replace BK223 := bB BK223 hb
           replace BK225 := bB BK225 hb
           replace HB := bH HB hb
           clear hb ho101
           refine hK.out _ _ tH (fun hHeld => ?_)
           clear hK K
           refine norm_ (tV : Act.put _ (some 71) _ = _) ?_
           exact norm_ tM (hJ2_3 (v227) _ ⟨hHeld, (by (with_reducible repeat (first | apply Kd.R_alloc | apply Kd.R_drewN | apply Kd.R_drew)); exact Kd.R_mono HO228.out (fun _ hk => ⟨hk.1.1.1.2, ⟨hk.1.1.2, ⟨hk.1.2, hk.2⟩⟩⟩)), tK BK204, tK BK214, tK BK223, tK BK225, tB⟩)
          refine goes_ Try.func18 (by kernel_rfl) rfl #[.int .i64 13] (by rfl) rfl rfl tL ?_
          with_reducible refine (spec_PublicKey.calls 13 t230 _ A47.out).mono ?_
          rintro e w' ⟨rfl, ⟨nd, rfl⟩⟩
          refine ⟨_, rfl, ?_⟩
          refine hK.out _ _ tH (fun hHeld => ?_)
          clear hK K
          refine norm_ (tV : Act.put _ (some 73) _ = _) ?_
          exact norm_ tM (hJ3_4 () _ ⟨hHeld, tK BK204, tK BK214, tK BK223, tK BK225, tB⟩)
         intro hJ3
         refine two_ (i := 2) (j := 3) (Ni := some 71) (Nj := some 72) #[Y_,Y_,Y_,N_,N_,N_,Y_,Y_,N_,N_,N_,N_,N_,N_,N_,N_,N_,N_,N_,N_,N_,N_,N_,N_,N_,N_,N_,N_,N_,N_,N_,N_,N_,N_,N_,N_,N_,N_,N_,N_,N_,N_,N_,N_,N_,N_] #[Y_,Y_,N_,Y_,N_,N_,Y_,Y_,N_,N_,N_,N_,N_,N_,N_,N_,N_,N_,N_,N_,N_,N_,N_,N_,N_,N_,N_,N_,N_,N_,N_,N_,N_,N_,N_,N_,N_,N_,N_,N_,N_,N_,N_,N_,N_,N_] rfl rfl rfl rfl (two_of HT_.out (by kernel_rfl)) (by decide) (by decide) (fun K hK => ?_) (fun K hK => ?_)
         ·refine Kd.R_lit_step k26 _ 26 ?hg (N := 71) ?hd (xs := ([(⟨t197, t198, t199, t200, t201, t202⟩ : S26), (⟨t207, t208, t209, t210, t211, t212⟩ : S26)] : List (S26))) (inner := [.int .i64 t197, .int .i64 t198, .int .i64 t199, .int .i64 t200, .int .i64 t201, .int .i64 t202, .int .i64 t207, .int .i64 t208, .int .i64 t209, .int .i64 t210, .int .i64 t211, .int .i64 t212]) (ok := fun _ => True) (okp := fun _ => True) ?hr ?hp (fun _ hk => hk) trivial (Below.refl _ _) (Nat.le_refl _) (by simp) ?_; (case hd => rfl); (case hg => rfl); (case hr => exact tG); (case hp => exact (Reps.c6 (show Kd.M k26 _ _ _ (⟨t197, t198, t199, t200, t201, t202⟩ : S26) [.int .i64 t197, .int .i64 t198, .int .i64 t199, .int .i64 t200, .int .i64 t201, .int .i64 t202] from (k26_mkM _ _ _ (⟨t197, t198, t199, t200, t201, t202⟩ : S26) )) (Reps.c6 (show Kd.M k26 _ _ _ (⟨t207, t208, t209, t210, t211, t212⟩ : S26) [.int .i64 t207, .int .i64 t208, .int .i64 t209, .int .i64 t210, .int .i64 t211, .int .i64 t212] from (k26_mkM _ _ _ (⟨t207, t208, t209, t210, t211, t212⟩ : S26) )) (Reps.none _ _))))
          intro v227 w99 ho100 hb hg_ hnew_
          clear hg_ hnew_
          (first | rw [← Ny226.out] at ho100 | (simp only [Int.reduceToNat] at ho100; rw [← Ny226.out] at ho100))
          have HO228 := Aside0.mk (Kd.R_lower (Kd.R_newB (Kd.R_newB (Kd.R_newB (Kd.R_newB ho100 (g := gb204) (o := .cells #[.int .i64 t197, .int .i64 t198, .int .i64 t199, .int .i64 t200, .int .i64 t201, .int .i64 t202] 26 (0, 0)) (tK BK204)) (g := gb214) (o := .cells #[.int .i64 t207, .int .i64 t208, .int .i64 t209, .int .i64 t210, .int .i64 t211, .int .i64 t212] 26 (0, 0)) (tK BK214)) (g := gb223) (o := .cells #[.int .i64 t216, .int .i64 t217, .int .i64 t218, .int .i64 t219, .int .i64 t220, .int .i64 t221] 26 (0, 0)) (tK BK223)) (g := gb225) (o := .cells #[.int .i64 t207, .int .i64 t208, .int .i64 7, .int .i64 t210, .int .i64 t211, .int .i64 t212] 26 (0, 0)) (tK BK225)) (below_size tB))
          replace BK204 := bB BK204 hb
          replace BK214 := bB BK214 hb
          replace BK223 := bB BK223 hb
          replace BK225 := bB BK225 hb
          replace HB := bH HB hb
          clear hb ho100
          refine hK.out _ _ tH (fun hHeld => ?_)
          clear hK K
          refine norm_ (tV : Act.put _ (some 71) _ = _) ?_
          exact norm_ tM (hJ2 (v227) _ ⟨hHeld, (by (with_reducible repeat (first | apply Kd.R_alloc | apply Kd.R_drewN | apply Kd.R_drew)); exact Kd.R_mono HO228.out (fun _ hk => ⟨hk.1.1.1.2, ⟨hk.1.1.2, ⟨hk.1.2, hk.2⟩⟩⟩)), tK BK204, tK BK214, tK BK223, tK BK225, tB⟩)
         refine goes_ Try.func18 (by kernel_rfl) rfl #[.int .i64 11] (by rfl) rfl rfl tL ?_
         with_reducible refine (spec_PublicKey.calls 11 t229 _ A46.out).mono ?_
         rintro e w' ⟨rfl, ⟨nd, rfl⟩⟩
         refine ⟨_, rfl, ?_⟩
         refine hK.out _ _ tH (fun hHeld => ?_)
         clear hK K
         refine norm_ (tV : Act.put _ (some 72) _ = _) ?_
         exact norm_ tM (hJ3 () _ ⟨hHeld, tK BK204, tK BK214, tK BK223, tK BK225, tB⟩)
        rw [if_neg c85] at H
        have c85b0 : (t211 == (wrap64 ((Int.tmod t194 6) - 1))) = false := beq_eq_false_iff_ne.mpr c85
        have c85b1 : (t211 != (wrap64 ((Int.tmod t194 6) - 1))) = true := bne_iff_ne.mpr c85
        exact absurd ((Option.some.inj H).trans hT_) (by decide)
       rw [if_neg c54] at H
       have c54b0 : (t238 == 0) = false := beq_eq_false_iff_ne.mpr c54
       have c54b1 : (t238 != 0) = true := bne_iff_ne.mpr c54
       exact absurd ((Option.some.inj H).trans hT_) (by decide)
      rw [if_neg c50] at H
      have c50b0 : (t231 == (Go.bits .and .i64 (wrap64 (1 + (Int.tmod t195 7))) (Int.tmod t232 8))) = false := beq_eq_false_iff_ne.mpr c50
      have c50b1 : (t231 != (Go.bits .and .i64 (wrap64 (1 + (Int.tmod t195 7))) (Int.tmod t232 8))) = true := bne_iff_ne.mpr c50
      exact absurd ((Option.some.inj H).trans hT_) (by decide)
     replace c45 := Bool.eq_false_iff.mpr c45
     subst c45
     have H1 : (some (t207 == 0 && (t208 == 0 && (t209 == 0 && (t210 == 0 && (t211 == 0 && (t212 == 0))))))) = some r := by rw [if_neg (show ¬ (false = true) by decide)] at H; exact H
     clear H
     have H := H1
     clear H1
     obtain rfl := Option.some.inj H
     have hnb113 := NB214_204.out
     have hnc113 := NB204_214.out
     have hnb114 := NB214_223.out
     have hnc114 := NB223_214.out
     obtain ⟨hcz115_0, hcz115_1, hcz115_2, hcz115_3, hcz115_4, hcz115_5, hfz115_0, hfz115_1, hfz115_2, hfz115_3, hfz115_4, hfz115_5⟩ := bc6 BK214.out
     go_wp2
     go_ret
     exact ⟨tE, tB⟩
  intro hCont
  refine two_ (i := 1) (j := 6) (Ni := some 39) (Nj := some 9) #[Y_,Y_,N_,N_,N_,N_,N_,N_,N_] #[Y_,N_,N_,N_,N_,N_,Y_,N_,N_] rfl rfl rfl rfl (two_of HT_.out (by kernel_rfl)) (by decide) (by decide) (fun K hK => ?_) (fun K hK => ?_)
  ·refine goes_ Try.func18 (by kernel_rfl) rfl #[.int .i64 13] (by rfl) rfl rfl tL ?_
   with_reducible refine (spec_PublicKey.calls 13 t215 _ A11.out).mono ?_
   rintro e w' ⟨rfl, ⟨nd, rfl⟩⟩
   refine ⟨_, rfl, ?_⟩
   refine hK.out _ _ tH (fun hHeld => ?_)
   clear hK K
   refine norm_ (tV : Act.put _ (some 39) _ = _) ?_
   refine two_ (i := 2) (j := 6) (Ni := some 40) (Nj := some 9) #[Y_,Y_,Y_,N_,N_,N_,N_,N_,N_] #[Y_,Y_,N_,N_,N_,N_,Y_,N_,N_] rfl rfl rfl rfl (two_of HT_.out (by kernel_rfl)) (by decide) (by decide) (fun K hK => ?_) (fun K hK => ?_)
   ·refine goes_ Try.func19 (by kernel_rfl) rfl #[.agg #[.int .i64 t197, .int .i64 t198, .int .i64 t199, .int .i64 t200, .int .i64 t201, .int .i64 t202], .int .i64 14, .int .i64 t215, .int .i64 7] (by rfl) rfl rfl tL ?_
    with_reducible refine (impl_NarrowGrant.calls k t197 t198 t199 t200 t201 t202 14 t215 7 t216 t217 t218 t219 t220 t221 t222 _ A12.out).mono ?_
    rintro e w30 ⟨rfl, hb⟩
    refine ⟨_, rfl, ?_⟩
    replace BK204 := bB BK204 hb
    replace BK214 := bB BK214 hb
    replace HB := bH HB hb
    (try clear hb)
    (try clear hb2)
    (try clear hk)
    (try clear hi)
    refine hK.out _ _ tH (fun hHeld => ?_)
    clear hK K
    refine norm_ (tV : Act.put _ (some 40) _ = _) ?_
    refine pure_ (i := 3) (N := some 37) #[Y_,Y_,Y_,Y_,N_,N_,N_,N_,N_] rfl rfl (any_of HT_.out (by kernel_rfl)) (fun _ _ _ h => h) (Or.inl ⟨by rfl, tX⟩) tV ?_
    refine pure_ (i := 4) (N := some 41) #[Y_,Y_,Y_,Y_,Y_,N_,N_,N_,N_] rfl rfl (any_of HT_.out (by kernel_rfl)) (fun _ _ _ h => h) (Or.inl ⟨by rfl, tX⟩) tV ?_
    refine pure_ (i := 5) (N := some 42) #[Y_,Y_,Y_,Y_,Y_,Y_,N_,N_,N_] rfl rfl (any_of HT_.out (by kernel_rfl)) (fun _ _ _ h => h) (Or.inl ⟨by rfl, tX⟩) tV ?_
    refine one_ (i := 6) (N := some 9) #[Y_,Y_,Y_,Y_,Y_,Y_,Y_,N_,N_] rfl rfl (one_of HT_.out (by kernel_rfl)) (by decide) (fun K hK => ?_)
    refine box_step ?hg (N := 9) ?hd (cs := #[.int .i64 0, .int .i64 0, .int .i64 0, .int .i64 0, .int .i64 0, .int .i64 0]) (t := 26) ?hr ?_; (case hd => rfl); (case hg => rfl); (case hr => exact tG)
    intro gb223 hg w31 hbox hb
    have BK223 := Aside0.mk (hbox)
    have GW223 := gW HB hg
    have GE223 := gW HB hg
    replace HB := bH HB hb
    have NB204_223 := nL BK204 hg
    have NB223_204 := nR BK204 hg
    replace BK204 := bB BK204 hb
    have NB214_223 := nL BK214 hg
    have NB223_214 := nR BK214 hg
    replace BK214 := bB BK214 hb
    clear hb hbox hg
    refine hK.out _ _ tH (fun hHeld => ?_)
    clear hK K
    refine norm_ (tV : Act.put _ (some 9) _ = _) ?_
    exact norm_ (by simp only [putAll, Act.put, List.setIfInBounds_toArray, List.set_cons_zero, List.set_cons_succ]) (hCont (gb223) _ ⟨hHeld, tK BK204, tK BK214, tK BK223, GW223.out, GE223.out, NB204_223.out, NB223_204.out, NB214_223.out, NB223_214.out, tB⟩)
   refine box_step ?hg (N := 9) ?hd (cs := #[.int .i64 0, .int .i64 0, .int .i64 0, .int .i64 0, .int .i64 0, .int .i64 0]) (t := 26) ?hr ?_; (case hd => rfl); (case hg => rfl); (case hr => exact tG)
   intro gb223 hg w30 hbox hb
   have BK223 := Aside0.mk (hbox)
   have GW223 := gW HB hg
   have GE223 := gW HB hg
   replace HB := bH HB hb
   have NB204_223 := nL BK204 hg
   have NB223_204 := nR BK204 hg
   replace BK204 := bB BK204 hb
   have NB214_223 := nL BK214 hg
   have NB223_214 := nR BK214 hg
   replace BK214 := bB BK214 hb
   clear hb hbox hg
   refine hK.out _ _ tH (fun hHeld => ?_)
   clear hK K
   refine norm_ (tV : Act.put _ (some 9) _ = _) ?_
   refine one_ (i := 2) (N := some 40) #[Y_,Y_,Y_,N_,N_,N_,Y_,N_,N_] rfl rfl (one_of HT_.out (by kernel_rfl)) (by decide) (fun K hK => ?_)
   refine goes_ Try.func19 (by kernel_rfl) rfl #[.agg #[.int .i64 t197, .int .i64 t198, .int .i64 t199, .int .i64 t200, .int .i64 t201, .int .i64 t202], .int .i64 14, .int .i64 t215, .int .i64 7] (by rfl) rfl rfl tL ?_
   with_reducible refine (impl_NarrowGrant.calls k t197 t198 t199 t200 t201 t202 14 t215 7 t216 t217 t218 t219 t220 t221 t222 _ A12.out).mono ?_
   rintro e w31 ⟨rfl, hb⟩
   refine ⟨_, rfl, ?_⟩
   replace BK204 := bB BK204 hb
   replace BK214 := bB BK214 hb
   replace BK223 := bB BK223 hb
   replace HB := bH HB hb
   (try clear hb)
   (try clear hb2)
   (try clear hk)
   (try clear hi)
   refine hK.out _ _ tH (fun hHeld => ?_)
   clear hK K
   refine norm_ (tV : Act.put _ (some 40) _ = _) ?_
   refine pure_ (i := 3) (N := some 37) #[Y_,Y_,Y_,Y_,N_,N_,Y_,N_,N_] rfl rfl (any_of HT_.out (by kernel_rfl)) (fun _ _ _ h => h) (Or.inl ⟨by rfl, tX⟩) tV ?_
   refine pure_ (i := 4) (N := some 41) #[Y_,Y_,Y_,Y_,Y_,N_,Y_,N_,N_] rfl rfl (any_of HT_.out (by kernel_rfl)) (fun _ _ _ h => h) (Or.inl ⟨by rfl, tX⟩) tV ?_
   refine pure_ (i := 5) (N := some 42) #[Y_,Y_,Y_,Y_,Y_,Y_,Y_,N_,N_] rfl rfl (any_of HT_.out (by kernel_rfl)) (fun _ _ _ h => h) (Or.inl ⟨by rfl, tX⟩) tV ?_
   exact norm_ (by simp only [putAll, Act.put, List.setIfInBounds_toArray, List.set_cons_zero, List.set_cons_succ]) (hCont (gb223) _ ⟨hHeld, tK BK204, tK BK214, tK BK223, GW223.out, GE223.out, NB204_223.out, NB223_204.out, NB214_223.out, NB223_214.out, tB⟩)
  refine box_step ?hg (N := 9) ?hd (cs := #[.int .i64 0, .int .i64 0, .int .i64 0, .int .i64 0, .int .i64 0, .int .i64 0]) (t := 26) ?hr ?_; (case hd => rfl); (case hg => rfl); (case hr => exact tG)
  intro gb223 hg w30 hbox hb
  have BK223 := Aside0.mk (hbox)
  have GW223 := gW HB hg
  have GE223 := gW HB hg
  replace HB := bH HB hb
  have NB204_223 := nL BK204 hg
  have NB223_204 := nR BK204 hg
  replace BK204 := bB BK204 hb
  have NB214_223 := nL BK214 hg
  have NB223_214 := nR BK214 hg
  replace BK214 := bB BK214 hb
  clear hb hbox hg
  refine hK.out _ _ tH (fun hHeld => ?_)
  clear hK K
  refine norm_ (tV : Act.put _ (some 9) _ = _) ?_
  refine one_ (i := 1) (N := some 39) #[Y_,Y_,N_,N_,N_,N_,Y_,N_,N_] rfl rfl (one_of HT_.out (by kernel_rfl)) (by decide) (fun K hK => ?_)
  refine goes_ Try.func18 (by kernel_rfl) rfl #[.int .i64 13] (by rfl) rfl rfl tL ?_
  with_reducible refine (spec_PublicKey.calls 13 t215 _ A11.out).mono ?_
  rintro e w' ⟨rfl, ⟨nd, rfl⟩⟩
  refine ⟨_, rfl, ?_⟩
  refine hK.out _ _ tH (fun hHeld => ?_)
  clear hK K
  refine norm_ (tV : Act.put _ (some 39) _ = _) ?_
  refine one_ (i := 2) (N := some 40) #[Y_,Y_,Y_,N_,N_,N_,Y_,N_,N_] rfl rfl (one_of HT_.out (by kernel_rfl)) (by decide) (fun K hK => ?_)
  refine goes_ Try.func19 (by kernel_rfl) rfl #[.agg #[.int .i64 t197, .int .i64 t198, .int .i64 t199, .int .i64 t200, .int .i64 t201, .int .i64 t202], .int .i64 14, .int .i64 t215, .int .i64 7] (by rfl) rfl rfl tL ?_
  with_reducible refine (impl_NarrowGrant.calls k t197 t198 t199 t200 t201 t202 14 t215 7 t216 t217 t218 t219 t220 t221 t222 _ A12.out).mono ?_
  rintro e w31 ⟨rfl, hb⟩
  refine ⟨_, rfl, ?_⟩
  replace BK204 := bB BK204 hb
  replace BK214 := bB BK214 hb
  replace BK223 := bB BK223 hb
  replace HB := bH HB hb
  (try clear hb)
  (try clear hb2)
  (try clear hk)
  (try clear hi)
  refine hK.out _ _ tH (fun hHeld => ?_)
  clear hK K
  refine norm_ (tV : Act.put _ (some 40) _ = _) ?_
  refine pure_ (i := 3) (N := some 37) #[Y_,Y_,Y_,Y_,N_,N_,Y_,N_,N_] rfl rfl (any_of HT_.out (by kernel_rfl)) (fun _ _ _ h => h) (Or.inl ⟨by rfl, tX⟩) tV ?_
  refine pure_ (i := 4) (N := some 41) #[Y_,Y_,Y_,Y_,Y_,N_,Y_,N_,N_] rfl rfl (any_of HT_.out (by kernel_rfl)) (fun _ _ _ h => h) (Or.inl ⟨by rfl, tX⟩) tV ?_
  refine pure_ (i := 5) (N := some 42) #[Y_,Y_,Y_,Y_,Y_,Y_,Y_,N_,N_] rfl rfl (any_of HT_.out (by kernel_rfl)) (fun _ _ _ h => h) (Or.inl ⟨by rfl, tX⟩) tV ?_
  exact norm_ (by simp only [putAll, Act.put, List.setIfInBounds_toArray, List.set_cons_zero, List.set_cons_succ]) (hCont (gb223) _ ⟨hHeld, tK BK204, tK BK214, tK BK223, GW223.out, GE223.out, NB204_223.out, NB223_204.out, NB214_223.out, NB223_214.out, tB⟩)
 intro hCont
 refine two_ (i := 1) (j := 9) (Ni := some 30) (Nj := some 7) #[Y_,Y_,Y_,N_,N_,N_,N_,N_,N_,N_,N_,N_] #[Y_,N_,Y_,N_,N_,N_,N_,N_,N_,Y_,N_,N_] rfl rfl rfl rfl (two_of HT_.out (by kernel_rfl)) (by decide) (by decide) (fun K hK => ?_) (fun K hK => ?_)
 ·refine goes_ Try.func18 (by kernel_rfl) rfl #[.int .i64 13] (by rfl) rfl rfl tL ?_
  with_reducible refine (spec_PublicKey.calls 13 t205 _ A8.out).mono ?_
  rintro e w' ⟨rfl, ⟨nd, rfl⟩⟩
  refine ⟨_, rfl, ?_⟩
  refine hK.out _ _ tH (fun hHeld => ?_)
  clear hK K
  refine norm_ (tV : Act.put _ (some 30) _ = _) ?_
  refine two_ (i := 3) (j := 9) (Ni := some 32) (Nj := some 7) #[Y_,Y_,Y_,Y_,N_,N_,N_,N_,N_,N_,N_,N_] #[Y_,Y_,Y_,N_,N_,N_,N_,N_,N_,Y_,N_,N_] rfl rfl rfl rfl (two_of HT_.out (by kernel_rfl)) (by decide) (by decide) (fun K hK => ?_) (fun K hK => ?_)
  ·refine goes_ Try.func16 (by kernel_rfl) rfl #[.slice A0 l0.length c0, .int .i64 2] (by rfl) rfl rfl tL ?_
   with_reducible refine (laws_at.calls _ _ l0 2 t206 _ ?side1 ?side2 A9.out).mono ?_
   (case side1 => repeat (first | exact (Kd.C_below HR0.out tB) | (with_reducible refine Kd.C_alloc ?_ _) | (with_reducible refine Kd.C_drewN ?_ _) | (with_reducible refine Kd.C_drew ?_)))
   (case side2 => exact HC0.out)
   rintro e w' ⟨rfl, ⟨nd, rfl⟩⟩
   refine ⟨_, rfl, ?_⟩
   refine hK.out _ _ tH (fun hHeld => ?_)
   clear hK K
   refine norm_ (tV : Act.put _ (some 32) _ = _) ?_
   refine pure_ (i := 4) (N := some 33) #[Y_,Y_,Y_,Y_,Y_,N_,N_,N_,N_,N_,N_,N_] rfl rfl (any_of HT_.out (by kernel_rfl)) (fun _ _ _ h => h) (Or.inl ⟨by rfl, tX⟩) tV ?_
   refine two_ (i := 5) (j := 9) (Ni := some 34) (Nj := some 7) #[Y_,Y_,Y_,Y_,Y_,Y_,N_,N_,N_,N_,N_,N_] #[Y_,Y_,Y_,Y_,Y_,N_,N_,N_,N_,Y_,N_,N_] rfl rfl rfl rfl (two_of HT_.out (by kernel_rfl)) (by decide) (by decide) (fun K hK => ?_) (fun K hK => ?_)
   ·refine goes_ Try.func19 (by kernel_rfl) rfl #[.agg #[.int .i64 t197, .int .i64 t198, .int .i64 t199, .int .i64 t200, .int .i64 t201, .int .i64 t202], .int .i64 12, .int .i64 t205, .int .i64 (Int.tmod t206 8)] (by rfl) rfl rfl tL ?_
    with_reducible refine (impl_NarrowGrant.calls k t197 t198 t199 t200 t201 t202 12 t205 (Int.tmod t206 8) t207 t208 t209 t210 t211 t212 t213 _ A10.out).mono ?_
    rintro e w19 ⟨rfl, hb⟩
    refine ⟨_, rfl, ?_⟩
    replace BK204 := bB BK204 hb
    replace HB := bH HB hb
    (try clear hb)
    (try clear hb2)
    (try clear hk)
    (try clear hi)
    refine hK.out _ _ tH (fun hHeld => ?_)
    clear hK K
    refine norm_ (tV : Act.put _ (some 34) _ = _) ?_
    refine pure_ (i := 6) (N := some 28) #[Y_,Y_,Y_,Y_,Y_,Y_,Y_,N_,N_,N_,N_,N_] rfl rfl (any_of HT_.out (by kernel_rfl)) (fun _ _ _ h => h) (Or.inl ⟨by rfl, tX⟩) tV ?_
    refine pure_ (i := 7) (N := some 35) #[Y_,Y_,Y_,Y_,Y_,Y_,Y_,Y_,N_,N_,N_,N_] rfl rfl (any_of HT_.out (by kernel_rfl)) (fun _ _ _ h => h) (Or.inl ⟨by rfl, tX⟩) tV ?_
    refine pure_ (i := 8) (N := some 36) #[Y_,Y_,Y_,Y_,Y_,Y_,Y_,Y_,Y_,N_,N_,N_] rfl rfl (any_of HT_.out (by kernel_rfl)) (fun _ _ _ h => h) (Or.inl ⟨by rfl, tX⟩) tV ?_
    refine one_ (i := 9) (N := some 7) #[Y_,Y_,Y_,Y_,Y_,Y_,Y_,Y_,Y_,Y_,N_,N_] rfl rfl (one_of HT_.out (by kernel_rfl)) (by decide) (fun K hK => ?_)
    refine box_step ?hg (N := 7) ?hd (cs := #[.int .i64 0, .int .i64 0, .int .i64 0, .int .i64 0, .int .i64 0, .int .i64 0]) (t := 26) ?hr ?_; (case hd => rfl); (case hg => rfl); (case hr => exact tG)
    intro gb214 hg w20 hbox hb
    have BK214 := Aside0.mk (hbox)
    have GW214 := gW HB hg
    have GE214 := gW HB hg
    replace HB := bH HB hb
    have NB204_214 := nL BK204 hg
    have NB214_204 := nR BK204 hg
    replace BK204 := bB BK204 hb
    clear hb hbox hg
    refine hK.out _ _ tH (fun hHeld => ?_)
    clear hK K
    refine norm_ (tV : Act.put _ (some 7) _ = _) ?_
    exact norm_ (by simp only [putAll, Act.put, List.setIfInBounds_toArray, List.set_cons_zero, List.set_cons_succ]) (hCont (gb214) _ ⟨hHeld, tK BK204, tK BK214, GW214.out, GE214.out, NB204_214.out, NB214_204.out, tB⟩)
   refine box_step ?hg (N := 7) ?hd (cs := #[.int .i64 0, .int .i64 0, .int .i64 0, .int .i64 0, .int .i64 0, .int .i64 0]) (t := 26) ?hr ?_; (case hd => rfl); (case hg => rfl); (case hr => exact tG)
   intro gb214 hg w19 hbox hb
   have BK214 := Aside0.mk (hbox)
   have GW214 := gW HB hg
   have GE214 := gW HB hg
   replace HB := bH HB hb
   have NB204_214 := nL BK204 hg
   have NB214_204 := nR BK204 hg
   replace BK204 := bB BK204 hb
   clear hb hbox hg
   refine hK.out _ _ tH (fun hHeld => ?_)
   clear hK K
   refine norm_ (tV : Act.put _ (some 7) _ = _) ?_
   refine one_ (i := 5) (N := some 34) #[Y_,Y_,Y_,Y_,Y_,Y_,N_,N_,N_,Y_,N_,N_] rfl rfl (one_of HT_.out (by kernel_rfl)) (by decide) (fun K hK => ?_)
   refine goes_ Try.func19 (by kernel_rfl) rfl #[.agg #[.int .i64 t197, .int .i64 t198, .int .i64 t199, .int .i64 t200, .int .i64 t201, .int .i64 t202], .int .i64 12, .int .i64 t205, .int .i64 (Int.tmod t206 8)] (by rfl) rfl rfl tL ?_
   with_reducible refine (impl_NarrowGrant.calls k t197 t198 t199 t200 t201 t202 12 t205 (Int.tmod t206 8) t207 t208 t209 t210 t211 t212 t213 _ A10.out).mono ?_
   rintro e w20 ⟨rfl, hb⟩
   refine ⟨_, rfl, ?_⟩
   replace BK204 := bB BK204 hb
   replace BK214 := bB BK214 hb
   replace HB := bH HB hb
   (try clear hb)
   (try clear hb2)
   (try clear hk)
   (try clear hi)
   refine hK.out _ _ tH (fun hHeld => ?_)
   clear hK K
   refine norm_ (tV : Act.put _ (some 34) _ = _) ?_
   refine pure_ (i := 6) (N := some 28) #[Y_,Y_,Y_,Y_,Y_,Y_,Y_,N_,N_,Y_,N_,N_] rfl rfl (any_of HT_.out (by kernel_rfl)) (fun _ _ _ h => h) (Or.inl ⟨by rfl, tX⟩) tV ?_
   refine pure_ (i := 7) (N := some 35) #[Y_,Y_,Y_,Y_,Y_,Y_,Y_,Y_,N_,Y_,N_,N_] rfl rfl (any_of HT_.out (by kernel_rfl)) (fun _ _ _ h => h) (Or.inl ⟨by rfl, tX⟩) tV ?_
   refine pure_ (i := 8) (N := some 36) #[Y_,Y_,Y_,Y_,Y_,Y_,Y_,Y_,Y_,Y_,N_,N_] rfl rfl (any_of HT_.out (by kernel_rfl)) (fun _ _ _ h => h) (Or.inl ⟨by rfl, tX⟩) tV ?_
   exact norm_ (by simp only [putAll, Act.put, List.setIfInBounds_toArray, List.set_cons_zero, List.set_cons_succ]) (hCont (gb214) _ ⟨hHeld, tK BK204, tK BK214, GW214.out, GE214.out, NB204_214.out, NB214_204.out, tB⟩)
  refine box_step ?hg (N := 7) ?hd (cs := #[.int .i64 0, .int .i64 0, .int .i64 0, .int .i64 0, .int .i64 0, .int .i64 0]) (t := 26) ?hr ?_; (case hd => rfl); (case hg => rfl); (case hr => exact tG)
  intro gb214 hg w19 hbox hb
  have BK214 := Aside0.mk (hbox)
  have GW214 := gW HB hg
  have GE214 := gW HB hg
  replace HB := bH HB hb
  have NB204_214 := nL BK204 hg
  have NB214_204 := nR BK204 hg
  replace BK204 := bB BK204 hb
  clear hb hbox hg
  refine hK.out _ _ tH (fun hHeld => ?_)
  clear hK K
  refine norm_ (tV : Act.put _ (some 7) _ = _) ?_
  refine one_ (i := 3) (N := some 32) #[Y_,Y_,Y_,Y_,N_,N_,N_,N_,N_,Y_,N_,N_] rfl rfl (one_of HT_.out (by kernel_rfl)) (by decide) (fun K hK => ?_)
  refine goes_ Try.func16 (by kernel_rfl) rfl #[.slice A0 l0.length c0, .int .i64 2] (by rfl) rfl rfl tL ?_
  with_reducible refine (laws_at.calls _ _ l0 2 t206 _ ?side1 ?side2 A9.out).mono ?_
  (case side1 => repeat (first | exact (Kd.C_below HR0.out HB.out) | (with_reducible refine Kd.C_alloc ?_ _) | (with_reducible refine Kd.C_drewN ?_ _) | (with_reducible refine Kd.C_drew ?_)))
  (case side2 => exact HC0.out)
  rintro e w' ⟨rfl, ⟨nd, rfl⟩⟩
  refine ⟨_, rfl, ?_⟩
  refine hK.out _ _ tH (fun hHeld => ?_)
  clear hK K
  refine norm_ (tV : Act.put _ (some 32) _ = _) ?_
  refine pure_ (i := 4) (N := some 33) #[Y_,Y_,Y_,Y_,Y_,N_,N_,N_,N_,Y_,N_,N_] rfl rfl (any_of HT_.out (by kernel_rfl)) (fun _ _ _ h => h) (Or.inl ⟨by rfl, tX⟩) tV ?_
  refine one_ (i := 5) (N := some 34) #[Y_,Y_,Y_,Y_,Y_,Y_,N_,N_,N_,Y_,N_,N_] rfl rfl (one_of HT_.out (by kernel_rfl)) (by decide) (fun K hK => ?_)
  refine goes_ Try.func19 (by kernel_rfl) rfl #[.agg #[.int .i64 t197, .int .i64 t198, .int .i64 t199, .int .i64 t200, .int .i64 t201, .int .i64 t202], .int .i64 12, .int .i64 t205, .int .i64 (Int.tmod t206 8)] (by rfl) rfl rfl tL ?_
  with_reducible refine (impl_NarrowGrant.calls k t197 t198 t199 t200 t201 t202 12 t205 (Int.tmod t206 8) t207 t208 t209 t210 t211 t212 t213 _ A10.out).mono ?_
  rintro e w20 ⟨rfl, hb⟩
  refine ⟨_, rfl, ?_⟩
  replace BK204 := bB BK204 hb
  replace BK214 := bB BK214 hb
  replace HB := bH HB hb
  (try clear hb)
  (try clear hb2)
  (try clear hk)
  (try clear hi)
  refine hK.out _ _ tH (fun hHeld => ?_)
  clear hK K
  refine norm_ (tV : Act.put _ (some 34) _ = _) ?_
  refine pure_ (i := 6) (N := some 28) #[Y_,Y_,Y_,Y_,Y_,Y_,Y_,N_,N_,Y_,N_,N_] rfl rfl (any_of HT_.out (by kernel_rfl)) (fun _ _ _ h => h) (Or.inl ⟨by rfl, tX⟩) tV ?_
  refine pure_ (i := 7) (N := some 35) #[Y_,Y_,Y_,Y_,Y_,Y_,Y_,Y_,N_,Y_,N_,N_] rfl rfl (any_of HT_.out (by kernel_rfl)) (fun _ _ _ h => h) (Or.inl ⟨by rfl, tX⟩) tV ?_
  refine pure_ (i := 8) (N := some 36) #[Y_,Y_,Y_,Y_,Y_,Y_,Y_,Y_,Y_,Y_,N_,N_] rfl rfl (any_of HT_.out (by kernel_rfl)) (fun _ _ _ h => h) (Or.inl ⟨by rfl, tX⟩) tV ?_
  exact norm_ (by simp only [putAll, Act.put, List.setIfInBounds_toArray, List.set_cons_zero, List.set_cons_succ]) (hCont (gb214) _ ⟨hHeld, tK BK204, tK BK214, GW214.out, GE214.out, NB204_214.out, NB214_204.out, tB⟩)
 refine box_step ?hg (N := 7) ?hd (cs := #[.int .i64 0, .int .i64 0, .int .i64 0, .int .i64 0, .int .i64 0, .int .i64 0]) (t := 26) ?hr ?_; (case hd => rfl); (case hg => rfl); (case hr => exact tG)
 intro gb214 hg w19 hbox hb
 have BK214 := Aside0.mk (hbox)
 have GW214 := gW HB hg
 have GE214 := gW HB hg
 replace HB := bH HB hb
 have NB204_214 := nL BK204 hg
 have NB214_204 := nR BK204 hg
 replace BK204 := bB BK204 hb
 clear hb hbox hg
 refine hK.out _ _ tH (fun hHeld => ?_)
 clear hK K
 refine norm_ (tV : Act.put _ (some 7) _ = _) ?_
 refine one_ (i := 1) (N := some 30) #[Y_,Y_,Y_,N_,N_,N_,N_,N_,N_,Y_,N_,N_] rfl rfl (one_of HT_.out (by kernel_rfl)) (by decide) (fun K hK => ?_)
 refine goes_ Try.func18 (by kernel_rfl) rfl #[.int .i64 13] (by rfl) rfl rfl tL ?_
 with_reducible refine (spec_PublicKey.calls 13 t205 _ A8.out).mono ?_
 rintro e w' ⟨rfl, ⟨nd, rfl⟩⟩
 refine ⟨_, rfl, ?_⟩
 refine hK.out _ _ tH (fun hHeld => ?_)
 clear hK K
 refine norm_ (tV : Act.put _ (some 30) _ = _) ?_
 refine one_ (i := 3) (N := some 32) #[Y_,Y_,Y_,Y_,N_,N_,N_,N_,N_,Y_,N_,N_] rfl rfl (one_of HT_.out (by kernel_rfl)) (by decide) (fun K hK => ?_)
 refine goes_ Try.func16 (by kernel_rfl) rfl #[.slice A0 l0.length c0, .int .i64 2] (by rfl) rfl rfl tL ?_
 with_reducible refine (laws_at.calls _ _ l0 2 t206 _ ?side1 ?side2 A9.out).mono ?_
 (case side1 => repeat (first | exact (Kd.C_below HR0.out tB) | (with_reducible refine Kd.C_alloc ?_ _) | (with_reducible refine Kd.C_drewN ?_ _) | (with_reducible refine Kd.C_drew ?_)))
 (case side2 => exact HC0.out)
 rintro e w' ⟨rfl, ⟨nd, rfl⟩⟩
 refine ⟨_, rfl, ?_⟩
 refine hK.out _ _ tH (fun hHeld => ?_)
 clear hK K
 refine norm_ (tV : Act.put _ (some 32) _ = _) ?_
 refine pure_ (i := 4) (N := some 33) #[Y_,Y_,Y_,Y_,Y_,N_,N_,N_,N_,Y_,N_,N_] rfl rfl (any_of HT_.out (by kernel_rfl)) (fun _ _ _ h => h) (Or.inl ⟨by rfl, tX⟩) tV ?_
 refine one_ (i := 5) (N := some 34) #[Y_,Y_,Y_,Y_,Y_,Y_,N_,N_,N_,Y_,N_,N_] rfl rfl (one_of HT_.out (by kernel_rfl)) (by decide) (fun K hK => ?_)
 refine goes_ Try.func19 (by kernel_rfl) rfl #[.agg #[.int .i64 t197, .int .i64 t198, .int .i64 t199, .int .i64 t200, .int .i64 t201, .int .i64 t202], .int .i64 12, .int .i64 t205, .int .i64 (Int.tmod t206 8)] (by rfl) rfl rfl tL ?_
 with_reducible refine (impl_NarrowGrant.calls k t197 t198 t199 t200 t201 t202 12 t205 (Int.tmod t206 8) t207 t208 t209 t210 t211 t212 t213 _ A10.out).mono ?_
 rintro e w20 ⟨rfl, hb⟩
 refine ⟨_, rfl, ?_⟩
 replace BK204 := bB BK204 hb
 replace BK214 := bB BK214 hb
 replace HB := bH HB hb
 (try clear hb)
 (try clear hb2)
 (try clear hk)
 (try clear hi)
 refine hK.out _ _ tH (fun hHeld => ?_)
 clear hK K
 refine norm_ (tV : Act.put _ (some 34) _ = _) ?_
 refine pure_ (i := 6) (N := some 28) #[Y_,Y_,Y_,Y_,Y_,Y_,Y_,N_,N_,Y_,N_,N_] rfl rfl (any_of HT_.out (by kernel_rfl)) (fun _ _ _ h => h) (Or.inl ⟨by rfl, tX⟩) tV ?_
 refine pure_ (i := 7) (N := some 35) #[Y_,Y_,Y_,Y_,Y_,Y_,Y_,Y_,N_,Y_,N_,N_] rfl rfl (any_of HT_.out (by kernel_rfl)) (fun _ _ _ h => h) (Or.inl ⟨by rfl, tX⟩) tV ?_
 refine pure_ (i := 8) (N := some 36) #[Y_,Y_,Y_,Y_,Y_,Y_,Y_,Y_,Y_,Y_,N_,N_] rfl rfl (any_of HT_.out (by kernel_rfl)) (fun _ _ _ h => h) (Or.inl ⟨by rfl, tX⟩) tV ?_
 exact norm_ (by simp only [putAll, Act.put, List.setIfInBounds_toArray, List.set_cons_zero, List.set_cons_succ]) (hCont (gb214) _ ⟨hHeld, tK BK204, tK BK214, GW214.out, GE214.out, NB204_214.out, NB214_204.out, tB⟩)

end Go.Proofs.Ytanoaneoanpkkaa.ZFnNarrowing
