/- The machine side: for each Go function a Lean function and the contract that the Go code answers as it does; printed by program (wip/tmpl/pprint.sh). -/
import Derived.Test.YtjggdakbphjomaaZFnExactSplitAccountx0
import Derived.Test.YtjggdakbphjomaaZFnExactSplitAccountx6
import Derived.Test.YtjggdakbphjomaaZFnExactSplitAccountx7
import Derived.Test.YtjggdakbphjomaaZFnExactSplitAccountx8
namespace Go.Proofs.Ytjggdakbphjomaa.ZFnExactSplitAccount
open Go.RowKit Go.Proofs.YtjggdakbphjomaaW.PrintWords Go.Proofs.YtjggdakbphjomaaW.PrintLast Go.Proofs.YtjggdakbphjomaaW.PrintMore
attribute [local go_sem] max2_int min2_int max_two min_two max_three min_three max_four min_four   -- for this text's walks alone
set_option linter.unusedVariables false
set_option linter.unusedSimpArgs false

/-! ### impl_SplitAccount: function 61 -/
mutual
def impl_SplitAccount.j0 : Nat → List Int → Int → Bool → Int → Int → List (S123) → Option (Int × Int × (List (S123)) × Int × Int × (List (S123)) × Bool)
 | 0, _, _, _, _, _, _ => none
 | k + 1, x1, x2, x28, x282000, x282001, x282002 => if x28 = true then ((impl_copyAccount.f x282000 x282001 x282002).bind fun bt286 => (some (bt286.1, bt286.2.1, bt286.2.2, 0, 0, ([] : List (S123)), false))) else (impl_SplitAccount.l0 k x1 x2 x1 (x1.length : Int) 0 x282000 x282001 x282002)
def impl_SplitAccount.l0 : Nat → List Int → Int → List Int → Int → Int → Int → Int → List (S123) → Option (Int × Int × (List (S123)) × Int × Int × (List (S123)) × Bool)
 | 0, _, _, _, _, _, _, _, _ => none
 | k + 1, x1, x2, x32, x33, x34, x282000, x282001, x282002 => if x34 < x33 then (if 0 ≤ x34 then (if x34 < (x32.length : Int) then ((impl_FindCredential.f k x282000 x282001 x282002 (rd x32 x34)).bind fun t292 => (if t292 < 0 then ((impl_copyAccount.f x282000 x282001 x282002).bind fun bt293 => (some (bt293.1, bt293.2.1, bt293.2.2, 0, 0, ([] : List (S123)), false))) else (if x34 ≤ (x1.length : Int) then ((impl_has.f k (x1.take (x34 : Int).toNat) (rd x32 x34)).bind fun t299 => (if t299 = true then ((impl_copyAccount.f x282000 x282001 x282002).bind fun bt300 => (some (bt300.1, bt300.2.1, bt300.2.2, 0, 0, ([] : List (S123)), false))) else (impl_SplitAccount.l0 k x1 x2 x32 x33 (wrap64 (x34 + 1)) x282000 x282001 x282002))) else (none)))) else (none)) else (none)) else (impl_SplitAccount.l1 k x1 x282002 (x282002.length : Int) 0 x282000 x282001 x282002 x282000 x282001 ([] : List (S123)) x2 x282001 ([] : List (S123)))
def impl_SplitAccount.l1 : Nat → List Int → List (S123) → Int → Int → Int → Int → List (S123) → Int → Int → List (S123) → Int → Int → List (S123) → Option (Int × Int × (List (S123)) × Int × Int × (List (S123)) × Bool)
 | 0, _, _, _, _, _, _, _, _, _, _, _, _, _ => none
 | k + 1, x1, x64, x65, x66, x282000, x282001, x282002, x306000, x306001, x306002, x307000, x307001, x307002 => if x66 < x65 then (if 0 ≤ x66 then (if x66 < (x64.length : Int) then ((impl_has.f k x1 ((rd_T123 x64 x66).f0)).bind fun t309 => (if t309 = true then (if x307002.length < 4398046511104 then (impl_SplitAccount.l1 k x1 x64 x65 (wrap64 (x66 + 1)) x282000 x282001 x282002 x306000 x306001 x306002 x307000 x307001 (x307002 ++ [(⟨(rd_T123 x64 x66).f0, (rd_T123 x64 x66).f1, (rd_T123 x64 x66).f2, (rd_T123 x64 x66).f3⟩ : S123)])) else (none)) else (if x306002.length < 4398046511104 then (impl_SplitAccount.l1 k x1 x64 x65 (wrap64 (x66 + 1)) x282000 x282001 x282002 x306000 x306001 (x306002 ++ [(⟨(rd_T123 x64 x66).f0, (rd_T123 x64 x66).f1, (rd_T123 x64 x66).f2, (rd_T123 x64 x66).f3⟩ : S123)]) x307000 x307001 x307002) else (none)))) else (none)) else (none)) else ((impl_live.f k x306000 x306001 x306002).bind fun t316 => (if t316 = true then ((impl_live.f k x307000 x307001 x307002).bind fun t317 => (if t317 = true then (some (x306000, x306001, x306002, x307000, x307001, x307002, true)) else ((impl_copyAccount.f x282000 x282001 x282002).bind fun bt318 => (some (bt318.1, bt318.2.1, bt318.2.2, 0, 0, ([] : List (S123)), false))))) else ((impl_copyAccount.f x282000 x282001 x282002).bind fun bt323 => (some (bt323.1, bt323.2.1, bt323.2.2, 0, 0, ([] : List (S123)), false)))))
end
def impl_SplitAccount.f (k : Nat) (a0_0 : Int) (a0_1 : Int) (l0_2 : List (S123)) (l1 : List Int) (a2 : Int) : Option (Int × Int × (List (S123)) × Int × Int × (List (S123)) × Bool) := (impl_IsValidAccount.f k a0_0 a0_1 l0_2).bind fun t284 => (if t284 = true then ((impl_InRange.f a2 0 1000000).bind fun t285 => (if t285 = true then (impl_SplitAccount.j0 k l1 a2 (a2 == a0_0) a0_0 a0_1 l0_2) else (impl_SplitAccount.j0 k l1 a2 true a0_0 a0_1 l0_2))) else (impl_SplitAccount.j0 k l1 a2 true a0_0 a0_1 l0_2))
theorem impl_SplitAccount.mono_l : ∀ k, (∀ y0 y1 y2 y3 y4 y5, LeO (impl_SplitAccount.j0 k y0 y1 y2 y3 y4 y5) (impl_SplitAccount.j0 (k + 1) y0 y1 y2 y3 y4 y5)) ∧ (∀ y0 y1 y2 y3 y4 y5 y6 y7, LeO (impl_SplitAccount.l0 k y0 y1 y2 y3 y4 y5 y6 y7) (impl_SplitAccount.l0 (k + 1) y0 y1 y2 y3 y4 y5 y6 y7)) ∧ (∀ y0 y1 y2 y3 y4 y5 y6 y7 y8 y9 y10 y11 y12, LeO (impl_SplitAccount.l1 k y0 y1 y2 y3 y4 y5 y6 y7 y8 y9 y10 y11 y12) (impl_SplitAccount.l1 (k + 1) y0 y1 y2 y3 y4 y5 y6 y7 y8 y9 y10 y11 y12))
 | 0 => ⟨fun _ _ _ _ _ _ r h => by simp [impl_SplitAccount.j0] at h, fun _ _ _ _ _ _ _ _ r h => by simp [impl_SplitAccount.l0] at h, fun _ _ _ _ _ _ _ _ _ _ _ _ _ r h => by simp [impl_SplitAccount.l1] at h⟩
 | k + 1 => by
  obtain ⟨ih0, ih1, ih2⟩ := impl_SplitAccount.mono_l k
  refine ⟨?_, ?_, ?_⟩
  ·intro y0 y1 y2 y3 y4 y5
   unfold impl_SplitAccount.j0
   repeat' first
   | (with_reducible exact ih0 _ _ _ _ _ _)
   | (with_reducible exact ih1 _ _ _ _ _ _ _ _)
   | (with_reducible exact ih2 _ _ _ _ _ _ _ _ _ _ _ _ _)
   | (with_reducible exact impl_FindCredential.mono _ _ _ _ _)
   | (with_reducible exact impl_IsValidAccount.mono _ _ _ _)
   | (with_reducible exact impl_has.mono _ _ _)
   | (with_reducible exact impl_live.mono _ _ _ _)
   | (with_reducible exact LeO.refl _)
   | (with_reducible exact LeO.none _)
   | (with_reducible refine LeO.ite ?_ ?_)
   | (with_reducible refine LeO.bind ?_ (fun _ => ?_))
   | exact ih0 _ _ _ _ _ _
   | exact ih1 _ _ _ _ _ _ _ _
   | exact ih2 _ _ _ _ _ _ _ _ _ _ _ _ _
   | exact impl_FindCredential.mono _ _ _ _ _
   | exact impl_IsValidAccount.mono _ _ _ _
   | exact impl_has.mono _ _ _
   | exact impl_live.mono _ _ _ _
   | exact LeO.none _
   | refine LeO.ite ?_ ?_
   | refine LeO.bind ?_ (fun _ => ?_)
  ·intro y0 y1 y2 y3 y4 y5 y6 y7
   unfold impl_SplitAccount.l0
   repeat' first
   | (with_reducible exact ih0 _ _ _ _ _ _)
   | (with_reducible exact ih1 _ _ _ _ _ _ _ _)
   | (with_reducible exact ih2 _ _ _ _ _ _ _ _ _ _ _ _ _)
   | (with_reducible exact impl_FindCredential.mono _ _ _ _ _)
   | (with_reducible exact impl_IsValidAccount.mono _ _ _ _)
   | (with_reducible exact impl_has.mono _ _ _)
   | (with_reducible exact impl_live.mono _ _ _ _)
   | (with_reducible exact LeO.refl _)
   | (with_reducible exact LeO.none _)
   | (with_reducible refine LeO.ite ?_ ?_)
   | (with_reducible refine LeO.bind ?_ (fun _ => ?_))
   | exact ih0 _ _ _ _ _ _
   | exact ih1 _ _ _ _ _ _ _ _
   | exact ih2 _ _ _ _ _ _ _ _ _ _ _ _ _
   | exact impl_FindCredential.mono _ _ _ _ _
   | exact impl_IsValidAccount.mono _ _ _ _
   | exact impl_has.mono _ _ _
   | exact impl_live.mono _ _ _ _
   | exact LeO.none _
   | refine LeO.ite ?_ ?_
   | refine LeO.bind ?_ (fun _ => ?_)
  ·intro y0 y1 y2 y3 y4 y5 y6 y7 y8 y9 y10 y11 y12
   unfold impl_SplitAccount.l1
   repeat' first
   | (with_reducible exact ih0 _ _ _ _ _ _)
   | (with_reducible exact ih1 _ _ _ _ _ _ _ _)
   | (with_reducible exact ih2 _ _ _ _ _ _ _ _ _ _ _ _ _)
   | (with_reducible exact impl_FindCredential.mono _ _ _ _ _)
   | (with_reducible exact impl_IsValidAccount.mono _ _ _ _)
   | (with_reducible exact impl_has.mono _ _ _)
   | (with_reducible exact impl_live.mono _ _ _ _)
   | (with_reducible exact LeO.refl _)
   | (with_reducible exact LeO.none _)
   | (with_reducible refine LeO.ite ?_ ?_)
   | (with_reducible refine LeO.bind ?_ (fun _ => ?_))
   | exact ih0 _ _ _ _ _ _
   | exact ih1 _ _ _ _ _ _ _ _
   | exact ih2 _ _ _ _ _ _ _ _ _ _ _ _ _
   | exact impl_FindCredential.mono _ _ _ _ _
   | exact impl_IsValidAccount.mono _ _ _ _
   | exact impl_has.mono _ _ _
   | exact impl_live.mono _ _ _ _
   | exact LeO.none _
   | refine LeO.ite ?_ ?_
   | refine LeO.bind ?_ (fun _ => ?_)
theorem impl_SplitAccount.mono : ∀ a0 a1 a2 a3 a4 k, LeO (impl_SplitAccount.f k a0 a1 a2 a3 a4) (impl_SplitAccount.f (k + 1) a0 a1 a2 a3 a4) := by
 intro a0 a1 a2 a3 a4 k
 obtain ⟨ih0, ih1, ih2⟩ := impl_SplitAccount.mono_l k
 unfold impl_SplitAccount.f
 repeat' first
   | (with_reducible exact ih0 _ _ _ _ _ _)
   | (with_reducible exact ih1 _ _ _ _ _ _ _ _)
   | (with_reducible exact ih2 _ _ _ _ _ _ _ _ _ _ _ _ _)
   | (with_reducible exact impl_FindCredential.mono _ _ _ _ _)
   | (with_reducible exact impl_IsValidAccount.mono _ _ _ _)
   | (with_reducible exact impl_has.mono _ _ _)
   | (with_reducible exact impl_live.mono _ _ _ _)
   | (with_reducible exact LeO.refl _)
   | (with_reducible exact LeO.none _)
   | (with_reducible refine LeO.ite ?_ ?_)
   | (with_reducible refine LeO.bind ?_ (fun _ => ?_))
   | exact ih0 _ _ _ _ _ _
   | exact ih1 _ _ _ _ _ _ _ _
   | exact ih2 _ _ _ _ _ _ _ _ _ _ _ _ _
   | exact impl_FindCredential.mono _ _ _ _ _
   | exact impl_IsValidAccount.mono _ _ _ _
   | exact impl_has.mono _ _ _
   | exact impl_live.mono _ _ _ _
   | exact LeO.none _
   | refine LeO.ite ?_ ?_
   | refine LeO.bind ?_ (fun _ => ?_)
set_option maxHeartbeats 8000000 in
set_option maxRecDepth 100000 in
theorem impl_SplitAccount.calls (k : Nat) (a0_0 : Int) (a0_1 : Int) (A0_2 : Option Addr) (c0_2 : Nat) (l0_2 : List (S123)) (A1 : Option Addr) (c1 : Nat) (l1 : List Int) (a2 : Int) (r1 : Int) (r2 : Int) (r3 : List (S123)) (r4 : Int) (r5 : Int) (r6 : List (S123)) (r7 : Bool) (w : World) (hr0_2 : Kd.C k123 w A0_2 l0_2.length l0_2) (hc0_2 : l0_2.length ≤ c0_2) (hr1 : Kd.C (Kd.int .i64) w A1 l1.length l1) (hc1 : l1.length ≤ c1) (h : impl_SplitAccount.f k a0_0 a0_1 l0_2 l1 a2 = some (r1, r2, r3, r4, r5, r6, r7)) :
  Calls Try.prog 61 #[.agg #[.int .i64 a0_0, .int .i64 a0_1, .slice A0_2 l0_2.length c0_2], .slice A1 l1.length c1, .int .i64 a2] w fun e w' => ∃ v2_ v5_ : Value, e = .returned (.tuple #[.agg #[.int .i64 r1, .int .i64 r2, v2_], .agg #[.int .i64 r4, .int .i64 r5, v5_], .bool r7]) ∧ Kd.R k123 123 w' w.heap.size (fun k_ => some k_ ≠ (v5_ : Value).ownBlock) v2_ r3 ∧ Kd.R k123 123 w' w.heap.size (fun k_ => some k_ ≠ (v2_ : Value).ownBlock) v5_ r6 ∧ Below w.heap.size w w' := by
 have hu76 := Try.underlying76
 have hu123 := Try.underlying123
 have HR0_2 := Aside0.mk hr0_2
 have HC0_2 := Aside0.mk hc0_2
 clear hr0_2 hc0_2
 have HR1 := Aside0.mk hr1
 have HC1 := Aside0.mk hc1
 clear hr1 hc1
 have HB := Aside0.mk (Below.refl w.heap.size w)
 have H : ((impl_IsValidAccount.f k a0_0 a0_1 l0_2).bind fun t284 => (if t284 = true then ((impl_InRange.f a2 0 1000000).bind fun t285 => (if t285 = true then (impl_SplitAccount.j0 k l1 a2 (a2 == a0_0) a0_0 a0_1 l0_2) else (impl_SplitAccount.j0 k l1 a2 true a0_0 a0_1 l0_2))) else (impl_SplitAccount.j0 k l1 a2 true a0_0 a0_1 l0_2))) = some (r1, r2, r3, r4, r5, r6, r7) := h
 clear h
 have HC4 := Aside0.mk H
 clear H
 go_enter Try.func61, Try.ntmps61
 go_upto_region 1 with (first | ((with_reducible refine gate_dst (N := 3) rfl ?_); refine box_event ?hg (N := 3) ?hd (cs := #[.int .i64 a0_0, .int .i64 a0_1, .slice A0_2 l0_2.length c0_2]) (t := 76) ?hr ?_; (case hd => rfl); (case hg => rfl); (case hr => exact tG); intro gb281 hg w5 hbox hb; have n0_ := Aside0.mk (below_step tB hb); have n1_ := Aside0.mk (hbox); have n2_ := Aside0.mk ((by rw [hg]; exact (below_size tB) : w.heap.size ≤ gb281)); have n3_ := Aside0.mk ((by rw [hg]; exact (below_size tB) : w.heap.size ≤ gb281)); clear HB; have HB := n0_; have BK281 := n1_; have GW281 := n2_; have GE281 := n3_; clear n0_ n1_ n2_ n3_; clear hb hbox hg) | ((with_reducible refine gate_dst (N := 6) rfl ?_); refine box_event ?hg (N := 6) ?hd (cs := #[.int .i64 0, .int .i64 0, .slice none 0 0]) (t := 76) ?hr ?_; (case hd => rfl); (case hg => rfl); (case hr => exact tG); intro gb282 hg w6 hbox hb; have n0_ := Aside0.mk (blk_below (g := gb281) (o := .cells #[.int .i64 a0_0, .int .i64 a0_1, .slice A0_2 l0_2.length c0_2] 76 (0, 0)) (tK BK281) hb); have n1_ := Aside0.mk (below_step tB hb); have n2_ := Aside0.mk (hbox); have n3_ := Aside0.mk ((by rw [hg]; exact (below_size tB) : w.heap.size ≤ gb282)); have n4_ := Aside0.mk ((by rw [hg]; exact (below_size tB) : w.heap.size ≤ gb282)); have n5_ := Aside0.mk ((by rw [hg]; exact Nat.ne_of_lt (blk_lt (g := gb281) (o := .cells #[.int .i64 a0_0, .int .i64 a0_1, .slice A0_2 l0_2.length c0_2] 76 (0, 0)) (tK BK281)) : gb281 ≠ gb282)); have n6_ := Aside0.mk ((by rw [hg]; exact Nat.ne_of_gt (blk_lt (g := gb281) (o := .cells #[.int .i64 a0_0, .int .i64 a0_1, .slice A0_2 l0_2.length c0_2] 76 (0, 0)) (tK BK281)) : gb282 ≠ gb281)); clear BK281; clear HB; have BK281 := n0_; have HB := n1_; have BK282 := n2_; have GW282 := n3_; have GE282 := n4_; have NB281_282 := n5_; have NB282_281 := n6_; clear n0_ n1_ n2_ n3_ n4_ n5_ n6_; clear hb hbox hg) | ((with_reducible refine gate_dst (N := 7) rfl ?_); refine box_event ?hg (N := 7) ?hd (cs := #[.int .i64 0, .int .i64 0, .slice none 0 0]) (t := 76) ?hr ?_; (case hd => rfl); (case hg => rfl); (case hr => exact tG); intro gb283 hg w7 hbox hb; have n0_ := Aside0.mk (blk_below (g := gb281) (o := .cells #[.int .i64 a0_0, .int .i64 a0_1, .slice A0_2 l0_2.length c0_2] 76 (0, 0)) (tK BK281) hb); have n1_ := Aside0.mk (blk_below (g := gb282) (o := .cells #[.int .i64 0, .int .i64 0, .slice none 0 0] 76 (0, 0)) (tK BK282) hb); have n2_ := Aside0.mk (below_step tB hb); have n3_ := Aside0.mk (hbox); have n4_ := Aside0.mk ((by rw [hg]; exact (below_size tB) : w.heap.size ≤ gb283)); have n5_ := Aside0.mk ((by rw [hg]; exact (below_size tB) : w.heap.size ≤ gb283)); have n6_ := Aside0.mk ((by rw [hg]; exact Nat.ne_of_lt (blk_lt (g := gb281) (o := .cells #[.int .i64 a0_0, .int .i64 a0_1, .slice A0_2 l0_2.length c0_2] 76 (0, 0)) (tK BK281)) : gb281 ≠ gb283)); have n7_ := Aside0.mk ((by rw [hg]; exact Nat.ne_of_gt (blk_lt (g := gb281) (o := .cells #[.int .i64 a0_0, .int .i64 a0_1, .slice A0_2 l0_2.length c0_2] 76 (0, 0)) (tK BK281)) : gb283 ≠ gb281)); have n8_ := Aside0.mk ((by rw [hg]; exact Nat.ne_of_lt (blk_lt (g := gb282) (o := .cells #[.int .i64 0, .int .i64 0, .slice none 0 0] 76 (0, 0)) (tK BK282)) : gb282 ≠ gb283)); have n9_ := Aside0.mk ((by rw [hg]; exact Nat.ne_of_gt (blk_lt (g := gb282) (o := .cells #[.int .i64 0, .int .i64 0, .slice none 0 0] 76 (0, 0)) (tK BK282)) : gb283 ≠ gb282)); clear BK281; clear BK282; clear HB; have BK281 := n0_; have BK282 := n1_; have HB := n2_; have BK283 := n3_; have GW283 := n4_; have GE283 := n5_; have NB281_283 := n6_; have NB283_281 := n7_; have NB282_283 := n8_; have NB283_282 := n9_; clear n0_ n1_ n2_ n3_ n4_ n5_ n6_ n7_ n8_ n9_; clear hb hbox hg))
 (try simp only [Act.put, List.setIfInBounds_toArray, List.set_cons_zero, List.set_cons_succ])
 go_cut [28] (fun v28 wc => ∃ (kq : Nat) (x28_3 : Bool), v28 = .bool x28_3 ∧ Aside0 (impl_SplitAccount.j0 kq l1 a2 x28_3 a0_0 a0_1 l0_2 = some (r1, r2, r3, r4, r5, r6, r7)) ∧ Aside0 (kq ≤ k) ∧ Aside0 (wc.heap[gb281]? = some (.cells #[.int .i64 a0_0, .int .i64 a0_1, (.slice A0_2 l0_2.length c0_2)] 76 (0, 0))) ∧ Aside0 (wc.heap[gb282]? = some (.cells #[.int .i64 0, .int .i64 0, (.slice none 0 0)] 76 (0, 0))) ∧ Aside0 (wc.heap[gb283]? = some (.cells #[.int .i64 0, .int .i64 0, (.slice none 0 0)] 76 (0, 0))) ∧ Aside0 (Below w.heap.size w wc))
 case first =>
  have H := HC4.out
  clear HC4
  replace H := Option.bind_eq_some_iff.mp H
  obtain ⟨t284, A80, H⟩ := H
  replace H : (if t284 = true then ((impl_InRange.f a2 0 1000000).bind fun t285 => (if t285 = true then (impl_SplitAccount.j0 k l1 a2 (a2 == a0_0) a0_0 a0_1 l0_2) else (impl_SplitAccount.j0 k l1 a2 true a0_0 a0_1 l0_2))) else (impl_SplitAccount.j0 k l1 a2 true a0_0 a0_1 l0_2)) = some (r1, r2, r3, r4, r5, r6, r7) := H
  have A8 := Aside0.mk A80
  clear A80
  by_cases c9 : t284 = true
  ·subst c9
   have H1 : ((impl_InRange.f a2 0 1000000).bind fun t285 => (if t285 = true then (impl_SplitAccount.j0 k l1 a2 (a2 == a0_0) a0_0 a0_1 l0_2) else (impl_SplitAccount.j0 k l1 a2 true a0_0 a0_1 l0_2))) = some (r1, r2, r3, r4, r5, r6, r7) := by rw [if_pos rfl] at H; exact H
   clear H
   have H := H1
   clear H1
   replace H := Option.bind_eq_some_iff.mp H
   obtain ⟨t285, A100, H⟩ := H
   replace H : (if t285 = true then (impl_SplitAccount.j0 k l1 a2 (a2 == a0_0) a0_0 a0_1 l0_2) else (impl_SplitAccount.j0 k l1 a2 true a0_0 a0_1 l0_2)) = some (r1, r2, r3, r4, r5, r6, r7) := H
   have A10 := Aside0.mk A100
   clear A100
   by_cases c11 : t285 = true
   ·subst c11
    have H1 : (impl_SplitAccount.j0 k l1 a2 (a2 == a0_0) a0_0 a0_1 l0_2) = some (r1, r2, r3, r4, r5, r6, r7) := by rw [if_pos rfl] at H; exact H
    clear H
    have H := H1
    clear H1
    have H' := Aside0.mk H
    clear H
    have hnb12 := NB281_282.out
    have hnc12 := NB282_281.out
    have hnb13 := NB281_283.out
    have hnc13 := NB283_281.out
    obtain ⟨hcz14_0, hcz14_1, hcz14_2, hfz14_0, hfz14_1, hfz14_2⟩ := bc3 BK281.out
    go_wp2_with (first | ((with_reducible refine gate_callee (f := 105) rfl ?_); refine goesL_ (some 16) rfl rfl Try.func105 (by kernel_rfl) rfl #[.agg #[.int .i64 a0_0, .int .i64 a0_1, .slice A0_2 l0_2.length c0_2]] rfl tL ?_; (with_reducible refine (impl_IsValidAccount.calls k a0_0 a0_1 _ _ l0_2 true _ ?side1 ?side2 A8.out).mono ?_); (case side1 => repeat (first | exact (Kd.C_below HR0_2.out HB.out) | (with_reducible refine Kd.C_alloc ?_ _) | (with_reducible refine Kd.C_drewN ?_ _) | (with_reducible refine Kd.C_drew ?_))); (case side2 => exact HC0_2.out); rintro e w15 ⟨rfl, hb⟩; refine ⟨_, rfl, ?_⟩; have n0_ := Aside0.mk (blk_below (g := gb281) (o := .cells #[.int .i64 a0_0, .int .i64 a0_1, .slice A0_2 l0_2.length c0_2] 76 (0, 0)) (tK BK281) hb); have n1_ := Aside0.mk (blk_below (g := gb282) (o := .cells #[.int .i64 0, .int .i64 0, .slice none 0 0] 76 (0, 0)) (tK BK282) hb); have n2_ := Aside0.mk (blk_below (g := gb283) (o := .cells #[.int .i64 0, .int .i64 0, .slice none 0 0] 76 (0, 0)) (tK BK283) hb); have n3_ := Aside0.mk (below_step tB hb); clear BK281; clear BK282; clear BK283; clear HB; have BK281 := n0_; have BK282 := n1_; have BK283 := n2_; have HB := n3_; clear n0_ n1_ n2_ n3_; (try clear hb); (try clear hb2); (try clear hk); (try clear hi)) | (go_at_call 82; (with_reducible refine (impl_InRange.calls a2 0 1000000 true _ A10.out).mono ?_); rintro e w' ⟨rfl, ⟨nd, rfl⟩⟩; obtain ⟨hcz16_0, hcz16_1, hcz16_2, hfz16_0, hfz16_1, hfz16_2⟩ := bc3 BK281.out))
    go_meet
    case rel => exact ⟨_, ((a2 == a0_0)), tS, H', ⟨by first | omega | exact Nat.le_refl _⟩, ⟨tK BK281⟩, ⟨tK BK282⟩, ⟨tK BK283⟩, ⟨tB⟩⟩
   ·replace c11 := Bool.eq_false_iff.mpr c11
    subst c11
    have H1 : (impl_SplitAccount.j0 k l1 a2 true a0_0 a0_1 l0_2) = some (r1, r2, r3, r4, r5, r6, r7) := by rw [if_neg (show ¬ (false = true) by decide)] at H; exact H
    clear H
    have H := H1
    clear H1
    have H' := Aside0.mk H
    clear H
    have hnb17 := NB281_282.out
    have hnc17 := NB282_281.out
    have hnb18 := NB281_283.out
    have hnc18 := NB283_281.out
    obtain ⟨hcz19_0, hcz19_1, hcz19_2, hfz19_0, hfz19_1, hfz19_2⟩ := bc3 BK281.out
    go_wp2_with (first | ((with_reducible refine gate_callee (f := 105) rfl ?_); refine goesL_ (some 16) rfl rfl Try.func105 (by kernel_rfl) rfl #[.agg #[.int .i64 a0_0, .int .i64 a0_1, .slice A0_2 l0_2.length c0_2]] rfl tL ?_; (with_reducible refine (impl_IsValidAccount.calls k a0_0 a0_1 _ _ l0_2 true _ ?side1 ?side2 A8.out).mono ?_); (case side1 => repeat (first | exact (Kd.C_below HR0_2.out HB.out) | (with_reducible refine Kd.C_alloc ?_ _) | (with_reducible refine Kd.C_drewN ?_ _) | (with_reducible refine Kd.C_drew ?_))); (case side2 => exact HC0_2.out); rintro e w20 ⟨rfl, hb⟩; refine ⟨_, rfl, ?_⟩; have n0_ := Aside0.mk (blk_below (g := gb281) (o := .cells #[.int .i64 a0_0, .int .i64 a0_1, .slice A0_2 l0_2.length c0_2] 76 (0, 0)) (tK BK281) hb); have n1_ := Aside0.mk (blk_below (g := gb282) (o := .cells #[.int .i64 0, .int .i64 0, .slice none 0 0] 76 (0, 0)) (tK BK282) hb); have n2_ := Aside0.mk (blk_below (g := gb283) (o := .cells #[.int .i64 0, .int .i64 0, .slice none 0 0] 76 (0, 0)) (tK BK283) hb); have n3_ := Aside0.mk (below_step tB hb); clear BK281; clear BK282; clear BK283; clear HB; have BK281 := n0_; have BK282 := n1_; have BK283 := n2_; have HB := n3_; clear n0_ n1_ n2_ n3_; (try clear hb); (try clear hb2); (try clear hk); (try clear hi)) | (go_at_call 82; (with_reducible refine (impl_InRange.calls a2 0 1000000 false _ A10.out).mono ?_); rintro e w' ⟨rfl, ⟨nd, rfl⟩⟩))
    go_meet
    case rel => exact ⟨_, (true), tS, H', ⟨by first | omega | exact Nat.le_refl _⟩, ⟨tK BK281⟩, ⟨tK BK282⟩, ⟨tK BK283⟩, ⟨tB⟩⟩
  ·replace c9 := Bool.eq_false_iff.mpr c9
   subst c9
   have H1 : (impl_SplitAccount.j0 k l1 a2 true a0_0 a0_1 l0_2) = some (r1, r2, r3, r4, r5, r6, r7) := by rw [if_neg (show ¬ (false = true) by decide)] at H; exact H
   clear H
   have H := H1
   clear H1
   have H' := Aside0.mk H
   clear H
   have hnb21 := NB281_282.out
   have hnc21 := NB282_281.out
   have hnb22 := NB281_283.out
   have hnc22 := NB283_281.out
   obtain ⟨hcz23_0, hcz23_1, hcz23_2, hfz23_0, hfz23_1, hfz23_2⟩ := bc3 BK281.out
   go_wp2_with (first | ((with_reducible refine gate_callee (f := 105) rfl ?_); refine goesL_ (some 16) rfl rfl Try.func105 (by kernel_rfl) rfl #[.agg #[.int .i64 a0_0, .int .i64 a0_1, .slice A0_2 l0_2.length c0_2]] rfl tL ?_; (with_reducible refine (impl_IsValidAccount.calls k a0_0 a0_1 _ _ l0_2 false _ ?side1 ?side2 A8.out).mono ?_); (case side1 => repeat (first | exact (Kd.C_below HR0_2.out HB.out) | (with_reducible refine Kd.C_alloc ?_ _) | (with_reducible refine Kd.C_drewN ?_ _) | (with_reducible refine Kd.C_drew ?_))); (case side2 => exact HC0_2.out); rintro e w24 ⟨rfl, hb⟩; refine ⟨_, rfl, ?_⟩; have n0_ := Aside0.mk (blk_below (g := gb281) (o := .cells #[.int .i64 a0_0, .int .i64 a0_1, .slice A0_2 l0_2.length c0_2] 76 (0, 0)) (tK BK281) hb); have n1_ := Aside0.mk (blk_below (g := gb282) (o := .cells #[.int .i64 0, .int .i64 0, .slice none 0 0] 76 (0, 0)) (tK BK282) hb); have n2_ := Aside0.mk (blk_below (g := gb283) (o := .cells #[.int .i64 0, .int .i64 0, .slice none 0 0] 76 (0, 0)) (tK BK283) hb); have n3_ := Aside0.mk (below_step tB hb); clear BK281; clear BK282; clear BK283; clear HB; have BK281 := n0_; have BK282 := n1_; have BK283 := n2_; have HB := n3_; clear n0_ n1_ n2_ n3_; (try clear hb); (try clear hb2); (try clear hk); (try clear hi)))
   go_meet
   case rel => exact ⟨_, (true), tS, H', ⟨by first | omega | exact Nat.le_refl _⟩, ⟨tK BK281⟩, ⟨tK BK282⟩, ⟨tK BK283⟩, ⟨tB⟩⟩
 case rest =>
  clear HC4
  try clear c1
  try clear c2
  try clear p2
  try clear c6
  try clear c9
  try clear c10
  try clear c11
  try clear c12
  try clear c13
  try clear c17
  try clear c18
  try clear c21
  try clear c22
  try clear hcz14_0
  try clear hcz14_1
  try clear hcz14_2
  try clear hcz16_0
  try clear hcz16_1
  try clear hcz16_2
  try clear hcz19_0
  try clear hcz19_1
  try clear hcz19_2
  try clear hcz23_0
  try clear hcz23_1
  try clear hcz23_2
  try clear hfz14_0
  try clear hfz14_1
  try clear hfz14_2
  try clear hfz16_0
  try clear hfz16_1
  try clear hfz16_2
  try clear hfz19_0
  try clear hfz19_1
  try clear hfz19_2
  try clear hfz23_0
  try clear hfz23_1
  try clear hfz23_2
  obtain ⟨kq, x28_3, rfl, HA, HJ3, BK281, BK282, BK283, HB⟩ := hcut
  cases kq with
  | zero => exact absurd HA.out (by simp [impl_SplitAccount.j0])
  | succ kj3 =>
   have H := HA.out
   clear HA
   simp only [impl_SplitAccount.j0] at H
   by_cases c25 : x28_3 = true
   ·subst c25
    have H1 : ((impl_copyAccount.f a0_0 a0_1 l0_2).bind fun bt286 => (some (bt286.1, bt286.2.1, bt286.2.2, 0, 0, ([] : List (S123)), false))) = some (r1, r2, r3, r4, r5, r6, r7) := by rw [if_pos rfl] at H; exact H
    clear H
    have H := H1
    clear H1
    replace H := Option.bind_eq_some_iff.mp H
    obtain ⟨⟨t286, t287, t288⟩, A260, H⟩ := H
    replace H : (some (t286, t287, t288, 0, 0, ([] : List (S123)), false)) = some (r1, r2, r3, r4, r5, r6, r7) := H
    have A26 := Aside0.mk A260
    clear A260
    simp only [Option.some.injEq, Prod.mk.injEq] at H
    obtain ⟨rfl, rfl, rfl, rfl, rfl, rfl, rfl⟩ := H
    have hnb27 := NB281_282.out
    have hnc27 := NB282_281.out
    have hnb28 := NB281_283.out
    have hnc28 := NB283_281.out
    obtain ⟨hcz29_0, hcz29_1, hcz29_2, hfz29_0, hfz29_1, hfz29_2⟩ := bc3 BK281.out
    go_wp2_with (first | ((with_reducible refine gate_callee (f := 106) rfl ?_); refine goesL_ (some 30) rfl rfl Try.func106 (by kernel_rfl) rfl #[.agg #[.int .i64 a0_0, .int .i64 a0_1, .slice A0_2 l0_2.length c0_2]] rfl tL ?_; (with_reducible refine (impl_copyAccount.calls a0_0 a0_1 _ _ l0_2 t286 t287 t288 _ ?side1 ?side2 A26.out).mono ?_); (case side1 => repeat (first | exact (Kd.C_below HR0_2.out HB.out) | (with_reducible refine Kd.C_alloc ?_ _) | (with_reducible refine Kd.C_drewN ?_ _) | (with_reducible refine Kd.C_drew ?_))); (case side2 => exact HC0_2.out); rintro e w30 ⟨v289, rfl, ho0, hb⟩; refine ⟨_, rfl, ?_⟩; have n0_ := Aside0.mk (Kd.R_lower ho0 (below_size tB)); have n1_ := Aside0.mk (blk_below (g := gb281) (o := .cells #[.int .i64 a0_0, .int .i64 a0_1, .slice A0_2 l0_2.length c0_2] 76 (0, 0)) (tK BK281) hb); have n2_ := Aside0.mk (blk_below (g := gb282) (o := .cells #[.int .i64 0, .int .i64 0, .slice none 0 0] 76 (0, 0)) (tK BK282) hb); have n3_ := Aside0.mk (blk_below (g := gb283) (o := .cells #[.int .i64 0, .int .i64 0, .slice none 0 0] 76 (0, 0)) (tK BK283) hb); have n4_ := Aside0.mk (below_step tB hb); clear BK281; clear BK282; clear BK283; clear HB; have HO290 := n0_; have BK281 := n1_; have BK282 := n2_; have BK283 := n3_; have HB := n4_; clear n0_ n1_ n2_ n3_ n4_; (try clear hb); (try clear hb2); (try clear hk); (try clear hi); (try clear ho0); have hnb31 := NB282_283.out; have hnc31 := NB283_282.out; obtain ⟨hcz32_0, hcz32_1, hcz32_2, hfz32_0, hfz32_1, hfz32_2⟩ := bc3 BK282.out; obtain ⟨Ao33, co33, eo33⟩ := Kd.R_slice HO290.out; subst eo33; obtain ⟨hcz34_0, hcz34_1, hcz34_2, hfz34_0, hfz34_1, hfz34_2⟩ := bc3 BK283.out))
    refine bodyPost_ret (results_list (rs := [.cell 6 76, .cell 7 76, .tmp 8]) rfl (by simp) (.cell gb282 76 #[.int .i64 t286, .int .i64 t287, .slice Ao33 t288.length co33] (0, 0) _ rfl (by (with_reducible repeat (first | refine blk_drewN ?_ _ | refine blk_drew ?_ | refine blk_alloc ?_ _)); refine blk_far ?_ NB282_283.out _; (with_reducible repeat (first | refine blk_drewN ?_ _ | refine blk_drew ?_ | refine blk_alloc ?_ _)); refine blk_far ?_ NB282_283.out _; (with_reducible repeat (first | refine blk_drewN ?_ _ | refine blk_drew ?_ | refine blk_alloc ?_ _)); refine blk_far ?_ NB282_283.out _; (with_reducible repeat (first | refine blk_drewN ?_ _ | refine blk_drew ?_ | refine blk_alloc ?_ _)); refine blk_put (cs := #[.int .i64 t286, .int .i64 t287, .slice none 0 0]) ?_ 2 _ rfl; (with_reducible repeat (first | refine blk_drewN ?_ _ | refine blk_drew ?_ | refine blk_alloc ?_ _)); refine blk_put (cs := #[.int .i64 t286, .int .i64 0, .slice none 0 0]) ?_ 1 _ rfl; (with_reducible repeat (first | refine blk_drewN ?_ _ | refine blk_drew ?_ | refine blk_alloc ?_ _)); refine blk_put (cs := #[.int .i64 0, .int .i64 0, .slice none 0 0]) ?_ 0 _ rfl; (with_reducible repeat (first | refine blk_drewN ?_ _ | refine blk_drew ?_ | refine blk_alloc ?_ _)); exact BK282.out) Try.underlying76 rfl (by kernel_rfl) (.cell gb283 76 #[.int .i64 0, .int .i64 0, .slice none 0 0] (0, 0) _ rfl (by (with_reducible repeat (first | refine blk_drewN ?_ _ | refine blk_drew ?_ | refine blk_alloc ?_ _)); refine blk_put (cs := #[.int .i64 0, .int .i64 0, .slice none 0 0]) ?_ 2 _ rfl; (with_reducible repeat (first | refine blk_drewN ?_ _ | refine blk_drew ?_ | refine blk_alloc ?_ _)); refine blk_put (cs := #[.int .i64 0, .int .i64 0, .slice none 0 0]) ?_ 1 _ rfl; (with_reducible repeat (first | refine blk_drewN ?_ _ | refine blk_drew ?_ | refine blk_alloc ?_ _)); refine blk_put (cs := #[.int .i64 0, .int .i64 0, .slice none 0 0]) ?_ 0 _ rfl; (with_reducible repeat (first | refine blk_drewN ?_ _ | refine blk_drew ?_ | refine blk_alloc ?_ _)); refine blk_far ?_ NB283_282.out _; (with_reducible repeat (first | refine blk_drewN ?_ _ | refine blk_drew ?_ | refine blk_alloc ?_ _)); refine blk_far ?_ NB283_282.out _; (with_reducible repeat (first | refine blk_drewN ?_ _ | refine blk_drew ?_ | refine blk_alloc ?_ _)); refine blk_far ?_ NB283_282.out _; (with_reducible repeat (first | refine blk_drewN ?_ _ | refine blk_drew ?_ | refine blk_alloc ?_ _)); exact BK283.out) Try.underlying76 rfl (by kernel_rfl) (.tmp .nil)))) rfl ?_
    exact ⟨_, _, tE, by (with_reducible repeat (first | apply Kd.R_alloc | apply Kd.R_drewN | apply Kd.R_drew)); exact Kd.R_mono (Kd.R_far (p := ⟨gb283, 2, none⟩) (Kd.R_far (p := ⟨gb283, 1, none⟩) (Kd.R_far (p := ⟨gb283, 0, none⟩) (Kd.R_far (p := ⟨gb282, 2, none⟩) (Kd.R_far (p := ⟨gb282, 1, none⟩) (Kd.R_far (p := ⟨gb282, 0, none⟩) (Kd.R_types (Kd.R_types HO290.out BK282.out (by decide)) BK283.out (by decide)) (fun _ hk => hk.1.2) (.int .i64 t286)) (fun _ hk => hk.1.2) (.int .i64 t287)) (fun _ hk => hk.1.2) (.slice Ao33 t288.length co33)) (fun _ hk => hk.2) (.int .i64 0)) (fun _ hk => hk.2) (.int .i64 0)) (fun _ hk => hk.2) (.slice none 0 0)) (fun _ hk => (by simp [Value.ownBlock])), by first | exact Kd.R_nil _ _ _ _ _ | exact Kd.N_nil _ _ _ _ _ | exact Kd.V_nil _ _ _ _ _ | exact Kd.Q_nil _ _ _ _ _ | exact Kd.S_nil _ _ _ _ _, tB⟩
   ·replace c25 := Bool.eq_false_iff.mpr c25
    subst c25
    have H1 : (impl_SplitAccount.l0 kj3 l1 a2 l1 (l1.length : Int) 0 a0_0 a0_1 l0_2) = some (r1, r2, r3, r4, r5, r6, r7) := by rw [if_neg (show ¬ (false = true) by decide)] at H; exact H
    clear H
    have H := H1
    clear H1
    have H' := Aside0.mk H
    clear H
    go_wp2
    go_loopg [34] kj3 (fun kq v34 w' => ∃ (x34_2 : Int) (x283000_2 : Int) (x283001_2 : Int) (x284000_2 : Int) (x284001_2 : Int), v34 = .int .i64 x34_2 ∧ Aside0 (impl_SplitAccount.l0 kq l1 a2 l1 (l1.length : Int) x34_2 a0_0 a0_1 l0_2 = some (r1, r2, r3, r4, r5, r6, r7)) ∧ Aside0 (kq ≤ kj3) ∧ Aside0 (w'.heap[gb281]? = some (.cells #[.int .i64 a0_0, .int .i64 a0_1, (.slice A0_2 l0_2.length c0_2)] 76 (0, 0))) ∧ Aside0 (w'.heap[gb282]? = some (.cells #[.int .i64 x283000_2, .int .i64 x283001_2, (.slice none 0 0)] 76 (0, 0))) ∧ Aside0 (w'.heap[gb283]? = some (.cells #[.int .i64 x284000_2, .int .i64 x284001_2, (.slice none 0 0)] 76 (0, 0))) ∧ Aside0 (Below w.heap.size w w'))
    case atStart => exact ⟨(0), (0), (0), (0), (0), tS, H', ⟨Nat.le_refl _⟩, ⟨tK BK281⟩, ⟨tK BK282⟩, ⟨tK BK283⟩, ⟨tB⟩⟩
    case round =>
     clear H'
     try clear c1
     try clear c2
     try clear p2
     try clear c3
     try clear c6
     try clear c9
     try clear c10
     try clear c11
     try clear c12
     try clear c13
     try clear c17
     try clear c18
     try clear c21
     try clear c22
     try clear c25
     try clear c27
     try clear c28
     try clear c31
     try clear hcz14_0
     try clear hcz14_1
     try clear hcz14_2
     try clear hcz16_0
     try clear hcz16_1
     try clear hcz16_2
     try clear hcz19_0
     try clear hcz19_1
     try clear hcz19_2
     try clear hcz23_0
     try clear hcz23_1
     try clear hcz23_2
     try clear hcz29_0
     try clear hcz29_1
     try clear hcz29_2
     try clear hcz32_0
     try clear hcz32_1
     try clear hcz32_2
     try clear hcz34_0
     try clear hcz34_1
     try clear hcz34_2
     try clear hfz14_0
     try clear hfz14_1
     try clear hfz14_2
     try clear hfz16_0
     try clear hfz16_1
     try clear hfz16_2
     try clear hfz19_0
     try clear hfz19_1
     try clear hfz19_2
     try clear hfz23_0
     try clear hfz23_1
     try clear hfz23_2
     try clear hfz29_0
     try clear hfz29_1
     try clear hfz29_2
     try clear hfz32_0
     try clear hfz32_1
     try clear hfz32_2
     try clear hfz34_0
     try clear hfz34_1
     try clear hfz34_2
     try clear p2
     obtain ⟨x34_2, x283000_2, x283001_2, x284000_2, x284001_2, rfl, HA, HK2, BK281, BK282, BK283, HB⟩ := hrel
     cases gk with
     | zero => exact absurd HA.out (by simp [impl_SplitAccount.l0])
     | succ k2 =>
      have H := HA.out
      clear HA
      simp only [impl_SplitAccount.l0] at H
      by_cases c35 : x34_2 < (l1.length : Int)
      ·rw [if_pos c35] at H
       have c35b0 : decide (x34_2 < (l1.length : Int)) = true := decide_eq_true c35
       clear c35
       by_cases c36 : 0 ≤ x34_2
       ·rw [if_pos c36] at H
        have c36b0 : decide (0 ≤ x34_2) = true := decide_eq_true c36
        clear c36
        by_cases c37 : x34_2 < (l1.length : Int)
        ·rw [if_pos c37] at H
         have c37b0 : decide (x34_2 < (l1.length : Int)) = true := decide_eq_true c37
         clear c37
         replace H := Option.bind_eq_some_iff.mp H
         obtain ⟨t292, A380, H⟩ := H
         replace H : (if t292 < 0 then ((impl_copyAccount.f a0_0 a0_1 l0_2).bind fun bt293 => (some (bt293.1, bt293.2.1, bt293.2.2, 0, 0, ([] : List (S123)), false))) else (if x34_2 ≤ (l1.length : Int) then ((impl_has.f k2 (l1.take (x34_2 : Int).toNat) (rd l1 x34_2)).bind fun t299 => (if t299 = true then ((impl_copyAccount.f a0_0 a0_1 l0_2).bind fun bt300 => (some (bt300.1, bt300.2.1, bt300.2.2, 0, 0, ([] : List (S123)), false))) else (impl_SplitAccount.l0 k2 l1 a2 l1 (l1.length : Int) (wrap64 (x34_2 + 1)) a0_0 a0_1 l0_2))) else (none))) = some (r1, r2, r3, r4, r5, r6, r7) := H
         have A38 := Aside0.mk A380
         clear A380
         by_cases c39 : t292 < 0
         ·rw [if_pos c39] at H
          have c39b0 : decide (t292 < 0) = true := decide_eq_true c39
          clear c39
          replace H := Option.bind_eq_some_iff.mp H
          obtain ⟨⟨t293, t294, t295⟩, A400, H⟩ := H
          replace H : (some (t293, t294, t295, 0, 0, ([] : List (S123)), false)) = some (r1, r2, r3, r4, r5, r6, r7) := H
          have A40 := Aside0.mk A400
          clear A400
          simp only [Option.some.injEq, Prod.mk.injEq] at H
          obtain ⟨rfl, rfl, rfl, rfl, rfl, rfl, rfl⟩ := H
          have p291 : 0 ≤ (x34_2 : Int) := of_decide_eq_true tA
          have q291 : x34_2 < (l1.length : Int) := of_decide_eq_true tA
          obtain ⟨ad291, e291, hx291_0⟩ := Kd.at_int HR1.out x34_2 p291 q291
          cases e291
          replace hx291_0 := hbc HB hx291_0
          replace p291 := eq_true p291
          replace q291 := eq_true q291
          have hnb41 := NB281_282.out
          have hnc41 := NB282_281.out
          have hnb42 := NB281_283.out
          have hnc42 := NB283_281.out
          obtain ⟨hcz43_0, hcz43_1, hcz43_2, hfz43_0, hfz43_1, hfz43_2⟩ := bc3 BK281.out
          go_wp2_with (first | ((with_reducible refine gate_callee (f := 116) rfl ?_); refine goesL_ (some 41) rfl rfl Try.func116 (by kernel_rfl) rfl #[.agg #[.int .i64 a0_0, .int .i64 a0_1, .slice A0_2 l0_2.length c0_2], .int .i64 (rd l1 x34_2)] rfl tL ?_; (with_reducible refine (impl_FindCredential.calls k2 a0_0 a0_1 _ _ l0_2 (rd l1 x34_2) t292 _ ?side1 ?side2 A38.out).mono ?_); (case side1 => repeat (first | exact (Kd.C_below HR0_2.out HB.out) | (with_reducible refine Kd.C_alloc ?_ _) | (with_reducible refine Kd.C_drewN ?_ _) | (with_reducible refine Kd.C_drew ?_))); (case side2 => exact HC0_2.out); rintro e w44 ⟨rfl, hb⟩; refine ⟨_, rfl, ?_⟩; have n0_ := Aside0.mk (blk_below (g := gb281) (o := .cells #[.int .i64 a0_0, .int .i64 a0_1, .slice A0_2 l0_2.length c0_2] 76 (0, 0)) (tK BK281) hb); have n1_ := Aside0.mk (blk_below (g := gb282) (o := .cells #[.int .i64 x283000_2, .int .i64 x283001_2, .slice none 0 0] 76 (0, 0)) (tK BK282) hb); have n2_ := Aside0.mk (blk_below (g := gb283) (o := .cells #[.int .i64 x284000_2, .int .i64 x284001_2, .slice none 0 0] 76 (0, 0)) (tK BK283) hb); have n3_ := Aside0.mk (below_step tB hb); clear BK281; clear BK282; clear BK283; clear HB; have BK281 := n0_; have BK282 := n1_; have BK283 := n2_; have HB := n3_; clear n0_ n1_ n2_ n3_; (try clear hb); (try clear hb2); (try clear hk); (try clear hi); obtain ⟨hcz45_0, hcz45_1, hcz45_2, hfz45_0, hfz45_1, hfz45_2⟩ := bc3 BK281.out) | ((with_reducible refine gate_callee (f := 106) rfl ?_); refine goesL_ (some 51) rfl rfl Try.func106 (by kernel_rfl) rfl #[.agg #[.int .i64 a0_0, .int .i64 a0_1, .slice A0_2 l0_2.length c0_2]] rfl tL ?_; (with_reducible refine (impl_copyAccount.calls a0_0 a0_1 _ _ l0_2 t293 t294 t295 _ ?side1 ?side2 A40.out).mono ?_); (case side1 => repeat (first | exact (Kd.C_below HR0_2.out HB.out) | (with_reducible refine Kd.C_alloc ?_ _) | (with_reducible refine Kd.C_drewN ?_ _) | (with_reducible refine Kd.C_drew ?_))); (case side2 => exact HC0_2.out); rintro e w46 ⟨v296, rfl, ho0, hb⟩; refine ⟨_, rfl, ?_⟩; have n0_ := Aside0.mk (Kd.R_lower ho0 (below_size tB)); have n1_ := Aside0.mk (blk_below (g := gb281) (o := .cells #[.int .i64 a0_0, .int .i64 a0_1, .slice A0_2 l0_2.length c0_2] 76 (0, 0)) (tK BK281) hb); have n2_ := Aside0.mk (blk_below (g := gb282) (o := .cells #[.int .i64 x283000_2, .int .i64 x283001_2, .slice none 0 0] 76 (0, 0)) (tK BK282) hb); have n3_ := Aside0.mk (blk_below (g := gb283) (o := .cells #[.int .i64 x284000_2, .int .i64 x284001_2, .slice none 0 0] 76 (0, 0)) (tK BK283) hb); have n4_ := Aside0.mk (below_step tB hb); clear BK281; clear BK282; clear BK283; clear HB; have HO297 := n0_; have BK281 := n1_; have BK282 := n2_; have BK283 := n3_; have HB := n4_; clear n0_ n1_ n2_ n3_ n4_; (try clear hb); (try clear hb2); (try clear hk); (try clear hi); (try clear ho0); have hnb47 := NB282_283.out; have hnc47 := NB283_282.out; obtain ⟨hcz48_0, hcz48_1, hcz48_2, hfz48_0, hfz48_1, hfz48_2⟩ := bc3 BK282.out; obtain ⟨Ao49, co49, eo49⟩ := Kd.R_slice HO297.out; subst eo49; obtain ⟨hcz50_0, hcz50_1, hcz50_2, hfz50_0, hfz50_1, hfz50_2⟩ := bc3 BK283.out))
          refine bodyPost_ret (results_list (rs := [.cell 6 76, .cell 7 76, .tmp 8]) rfl (by simp) (.cell gb282 76 #[.int .i64 t293, .int .i64 t294, .slice Ao49 t295.length co49] (0, 0) _ rfl (by (with_reducible repeat (first | refine blk_drewN ?_ _ | refine blk_drew ?_ | refine blk_alloc ?_ _)); refine blk_far ?_ NB282_283.out _; (with_reducible repeat (first | refine blk_drewN ?_ _ | refine blk_drew ?_ | refine blk_alloc ?_ _)); refine blk_far ?_ NB282_283.out _; (with_reducible repeat (first | refine blk_drewN ?_ _ | refine blk_drew ?_ | refine blk_alloc ?_ _)); refine blk_far ?_ NB282_283.out _; (with_reducible repeat (first | refine blk_drewN ?_ _ | refine blk_drew ?_ | refine blk_alloc ?_ _)); refine blk_put (cs := #[.int .i64 t293, .int .i64 t294, .slice none 0 0]) ?_ 2 _ rfl; (with_reducible repeat (first | refine blk_drewN ?_ _ | refine blk_drew ?_ | refine blk_alloc ?_ _)); refine blk_put (cs := #[.int .i64 t293, .int .i64 x283001_2, .slice none 0 0]) ?_ 1 _ rfl; (with_reducible repeat (first | refine blk_drewN ?_ _ | refine blk_drew ?_ | refine blk_alloc ?_ _)); refine blk_put (cs := #[.int .i64 x283000_2, .int .i64 x283001_2, .slice none 0 0]) ?_ 0 _ rfl; (with_reducible repeat (first | refine blk_drewN ?_ _ | refine blk_drew ?_ | refine blk_alloc ?_ _)); exact BK282.out) Try.underlying76 rfl (by kernel_rfl) (.cell gb283 76 #[.int .i64 0, .int .i64 0, .slice none 0 0] (0, 0) _ rfl (by (with_reducible repeat (first | refine blk_drewN ?_ _ | refine blk_drew ?_ | refine blk_alloc ?_ _)); refine blk_put (cs := #[.int .i64 0, .int .i64 0, .slice none 0 0]) ?_ 2 _ rfl; (with_reducible repeat (first | refine blk_drewN ?_ _ | refine blk_drew ?_ | refine blk_alloc ?_ _)); refine blk_put (cs := #[.int .i64 0, .int .i64 x284001_2, .slice none 0 0]) ?_ 1 _ rfl; (with_reducible repeat (first | refine blk_drewN ?_ _ | refine blk_drew ?_ | refine blk_alloc ?_ _)); refine blk_put (cs := #[.int .i64 x284000_2, .int .i64 x284001_2, .slice none 0 0]) ?_ 0 _ rfl; (with_reducible repeat (first | refine blk_drewN ?_ _ | refine blk_drew ?_ | refine blk_alloc ?_ _)); refine blk_far ?_ NB283_282.out _; (with_reducible repeat (first | refine blk_drewN ?_ _ | refine blk_drew ?_ | refine blk_alloc ?_ _)); refine blk_far ?_ NB283_282.out _; (with_reducible repeat (first | refine blk_drewN ?_ _ | refine blk_drew ?_ | refine blk_alloc ?_ _)); refine blk_far ?_ NB283_282.out _; (with_reducible repeat (first | refine blk_drewN ?_ _ | refine blk_drew ?_ | refine blk_alloc ?_ _)); exact BK283.out) Try.underlying76 rfl (by kernel_rfl) (.tmp .nil)))) rfl ?_
          exact ⟨_, _, tE, by (with_reducible repeat (first | apply Kd.R_alloc | apply Kd.R_drewN | apply Kd.R_drew)); exact Kd.R_mono (Kd.R_far (p := ⟨gb283, 2, none⟩) (Kd.R_far (p := ⟨gb283, 1, none⟩) (Kd.R_far (p := ⟨gb283, 0, none⟩) (Kd.R_far (p := ⟨gb282, 2, none⟩) (Kd.R_far (p := ⟨gb282, 1, none⟩) (Kd.R_far (p := ⟨gb282, 0, none⟩) (Kd.R_types (Kd.R_types HO297.out BK282.out (by decide)) BK283.out (by decide)) (fun _ hk => hk.1.2) (.int .i64 t293)) (fun _ hk => hk.1.2) (.int .i64 t294)) (fun _ hk => hk.1.2) (.slice Ao49 t295.length co49)) (fun _ hk => hk.2) (.int .i64 0)) (fun _ hk => hk.2) (.int .i64 0)) (fun _ hk => hk.2) (.slice none 0 0)) (fun _ hk => (by simp [Value.ownBlock])), by first | exact Kd.R_nil _ _ _ _ _ | exact Kd.N_nil _ _ _ _ _ | exact Kd.V_nil _ _ _ _ _ | exact Kd.Q_nil _ _ _ _ _ | exact Kd.S_nil _ _ _ _ _, tB⟩
         ·rw [if_neg c39] at H
          have c39b0 : decide (t292 < 0) = false := decide_eq_false c39
          clear c39
          have c51b0 := eq_true (of_decide_eq_true tA : 0 ≤ x34_2)
          by_cases c52 : x34_2 ≤ (l1.length : Int)
          ·rw [if_pos c52] at H
           have c52b0 := eq_true c52
           have c52b1 : decide (x34_2 ≤ (l1.length : Int)) = true := decide_eq_true c52
           clear c52
           replace H := Option.bind_eq_some_iff.mp H
           obtain ⟨t299, A530, H⟩ := H
           replace H : (if t299 = true then ((impl_copyAccount.f a0_0 a0_1 l0_2).bind fun bt300 => (some (bt300.1, bt300.2.1, bt300.2.2, 0, 0, ([] : List (S123)), false))) else (impl_SplitAccount.l0 k2 l1 a2 l1 (l1.length : Int) (wrap64 (x34_2 + 1)) a0_0 a0_1 l0_2)) = some (r1, r2, r3, r4, r5, r6, r7) := H
           have A53 := Aside0.mk A530
           clear A530
           by_cases c54 : t299 = true
           ·subst c54
            have H1 : ((impl_copyAccount.f a0_0 a0_1 l0_2).bind fun bt300 => (some (bt300.1, bt300.2.1, bt300.2.2, 0, 0, ([] : List (S123)), false))) = some (r1, r2, r3, r4, r5, r6, r7) := by rw [if_pos rfl] at H; exact H
            clear H
            have H := H1
            clear H1
            replace H := Option.bind_eq_some_iff.mp H
            obtain ⟨⟨t300, t301, t302⟩, A550, H⟩ := H
            replace H : (some (t300, t301, t302, 0, 0, ([] : List (S123)), false)) = some (r1, r2, r3, r4, r5, r6, r7) := H
            have A55 := Aside0.mk A550
            clear A550
            simp only [Option.some.injEq, Prod.mk.injEq] at H
            obtain ⟨rfl, rfl, rfl, rfl, rfl, rfl, rfl⟩ := H
            have p291 : 0 ≤ (x34_2 : Int) := of_decide_eq_true tA
            have q291 : x34_2 < (l1.length : Int) := of_decide_eq_true tA
            obtain ⟨ad291, e291, hx291_0⟩ := Kd.at_int HR1.out x34_2 p291 q291
            cases e291
            replace hx291_0 := hbc HB hx291_0
            replace p291 := eq_true p291
            replace q291 := eq_true q291
            have hnb56 := NB281_282.out
            have hnc56 := NB282_281.out
            have hnb57 := NB281_283.out
            have hnc57 := NB283_281.out
            obtain ⟨hcz58_0, hcz58_1, hcz58_2, hfz58_0, hfz58_1, hfz58_2⟩ := bc3 BK281.out
            go_wp2_with (first | ((with_reducible refine gate_callee (f := 116) rfl ?_); refine goesL_ (some 41) rfl rfl Try.func116 (by kernel_rfl) rfl #[.agg #[.int .i64 a0_0, .int .i64 a0_1, .slice A0_2 l0_2.length c0_2], .int .i64 (rd l1 x34_2)] rfl tL ?_; (with_reducible refine (impl_FindCredential.calls k2 a0_0 a0_1 _ _ l0_2 (rd l1 x34_2) t292 _ ?side1 ?side2 A38.out).mono ?_); (case side1 => repeat (first | exact (Kd.C_below HR0_2.out HB.out) | (with_reducible refine Kd.C_alloc ?_ _) | (with_reducible refine Kd.C_drewN ?_ _) | (with_reducible refine Kd.C_drew ?_))); (case side2 => exact HC0_2.out); rintro e w59 ⟨rfl, hb⟩; refine ⟨_, rfl, ?_⟩; have n0_ := Aside0.mk (blk_below (g := gb281) (o := .cells #[.int .i64 a0_0, .int .i64 a0_1, .slice A0_2 l0_2.length c0_2] 76 (0, 0)) (tK BK281) hb); have n1_ := Aside0.mk (blk_below (g := gb282) (o := .cells #[.int .i64 x283000_2, .int .i64 x283001_2, .slice none 0 0] 76 (0, 0)) (tK BK282) hb); have n2_ := Aside0.mk (blk_below (g := gb283) (o := .cells #[.int .i64 x284000_2, .int .i64 x284001_2, .slice none 0 0] 76 (0, 0)) (tK BK283) hb); have n3_ := Aside0.mk (below_step tB hb); clear BK281; clear BK282; clear BK283; clear HB; have BK281 := n0_; have BK282 := n1_; have BK283 := n2_; have HB := n3_; clear n0_ n1_ n2_ n3_; (try clear hb); (try clear hb2); (try clear hk); (try clear hi); obtain ⟨i060, hi060, _, hsz60, _⟩ := info_parts info3; obtain ⟨hcut60, hA60, hC60⟩ := print_take_of (P := Try.prog) (Value.int .i64) 0 46 3 .i64 Try.underlying46 hi060 hsz60 (some ad291) c1 l1 x34_2 (of_decide_eq_true tA) (of_decide_eq_true tA) HC1.out; have HR298 := Aside0.mk (Kd.C_of_reads (h1 := fun _ => rfl) (hA60 _ (Kd.reads_of_C HR1.out))); have HC298 := Aside0.mk hC60; clear hA60 hC60 hi060 hsz60) | (go_at_call 90; (try (have e_ : (x34_2 : Int).toNat = (l1.take (x34_2 : Int).toNat).length := (by have h_ : x34_2 ≤ (l1.length : Int) := of_decide_eq_true tA; rw [List.length_take]; omega); rw [e_]; clear e_)); (with_reducible refine (impl_has.calls k2 _ _ (l1.take (x34_2 : Int).toNat) (rd l1 x34_2) true _ ?side1 ?side2 A53.out).mono ?_); (case side1 => repeat (first | exact (Kd.C_below HR298.out HB.out) | (with_reducible refine Kd.C_alloc ?_ _) | (with_reducible refine Kd.C_drewN ?_ _) | (with_reducible refine Kd.C_drew ?_))); (case side2 => exact HC298.out); rintro e w' ⟨rfl, ⟨nd, rfl⟩⟩; (try (rw [drewN_self w59]; generalize hq_ : World.drewN w59 _ = w59; have n0_ : Aside0 (w59.heap[gb281]? = some (.cells #[.int .i64 a0_0, .int .i64 a0_1, .slice A0_2 l0_2.length c0_2] 76 (0, 0))) := ⟨by rw [← hq_]; exact (tK BK281)⟩; have n1_ : Aside0 (w59.heap[gb282]? = some (.cells #[.int .i64 x283000_2, .int .i64 x283001_2, .slice none 0 0] 76 (0, 0))) := ⟨by rw [← hq_]; exact (tK BK282)⟩; have n2_ : Aside0 (w59.heap[gb283]? = some (.cells #[.int .i64 x284000_2, .int .i64 x284001_2, .slice none 0 0] 76 (0, 0))) := ⟨by rw [← hq_]; exact (tK BK283)⟩; have n3_ : Aside0 (Below w.heap.size w w59) := ⟨by rw [← hq_]; exact tB⟩; clear BK281 BK282 BK283 HB hq_; have BK281 := n0_; have BK282 := n1_; have BK283 := n2_; have HB := n3_; clear n0_ n1_ n2_ n3_)); obtain ⟨hcz61_0, hcz61_1, hcz61_2, hfz61_0, hfz61_1, hfz61_2⟩ := bc3 BK281.out) | ((with_reducible refine gate_callee (f := 106) rfl ?_); refine goesL_ (some 51) rfl rfl Try.func106 (by kernel_rfl) rfl #[.agg #[.int .i64 a0_0, .int .i64 a0_1, .slice A0_2 l0_2.length c0_2]] rfl tL ?_; (with_reducible refine (impl_copyAccount.calls a0_0 a0_1 _ _ l0_2 t300 t301 t302 _ ?side1 ?side2 A55.out).mono ?_); (case side1 => repeat (first | exact (Kd.C_below HR0_2.out HB.out) | (with_reducible refine Kd.C_alloc ?_ _) | (with_reducible refine Kd.C_drewN ?_ _) | (with_reducible refine Kd.C_drew ?_))); (case side2 => exact HC0_2.out); rintro e w62 ⟨v303, rfl, ho0, hb⟩; refine ⟨_, rfl, ?_⟩; have n0_ := Aside0.mk (Kd.R_lower ho0 (below_size tB)); have n1_ := Aside0.mk (blk_below (g := gb281) (o := .cells #[.int .i64 a0_0, .int .i64 a0_1, .slice A0_2 l0_2.length c0_2] 76 (0, 0)) (tK BK281) hb); have n2_ := Aside0.mk (blk_below (g := gb282) (o := .cells #[.int .i64 x283000_2, .int .i64 x283001_2, .slice none 0 0] 76 (0, 0)) (tK BK282) hb); have n3_ := Aside0.mk (blk_below (g := gb283) (o := .cells #[.int .i64 x284000_2, .int .i64 x284001_2, .slice none 0 0] 76 (0, 0)) (tK BK283) hb); have n4_ := Aside0.mk (below_step tB hb); clear BK281; clear BK282; clear BK283; clear HB; have HO304 := n0_; have BK281 := n1_; have BK282 := n2_; have BK283 := n3_; have HB := n4_; clear n0_ n1_ n2_ n3_ n4_; (try clear hb); (try clear hb2); (try clear hk); (try clear hi); (try clear ho0); have hnb63 := NB282_283.out; have hnc63 := NB283_282.out; obtain ⟨hcz64_0, hcz64_1, hcz64_2, hfz64_0, hfz64_1, hfz64_2⟩ := bc3 BK282.out; obtain ⟨Ao65, co65, eo65⟩ := Kd.R_slice HO304.out; subst eo65; obtain ⟨hcz66_0, hcz66_1, hcz66_2, hfz66_0, hfz66_1, hfz66_2⟩ := bc3 BK283.out))
            refine bodyPost_ret (results_list (rs := [.cell 6 76, .cell 7 76, .tmp 8]) rfl (by simp) (.cell gb282 76 #[.int .i64 t300, .int .i64 t301, .slice Ao65 t302.length co65] (0, 0) _ rfl (by (with_reducible repeat (first | refine blk_drewN ?_ _ | refine blk_drew ?_ | refine blk_alloc ?_ _)); refine blk_far ?_ NB282_283.out _; (with_reducible repeat (first | refine blk_drewN ?_ _ | refine blk_drew ?_ | refine blk_alloc ?_ _)); refine blk_far ?_ NB282_283.out _; (with_reducible repeat (first | refine blk_drewN ?_ _ | refine blk_drew ?_ | refine blk_alloc ?_ _)); refine blk_far ?_ NB282_283.out _; (with_reducible repeat (first | refine blk_drewN ?_ _ | refine blk_drew ?_ | refine blk_alloc ?_ _)); refine blk_put (cs := #[.int .i64 t300, .int .i64 t301, .slice none 0 0]) ?_ 2 _ rfl; (with_reducible repeat (first | refine blk_drewN ?_ _ | refine blk_drew ?_ | refine blk_alloc ?_ _)); refine blk_put (cs := #[.int .i64 t300, .int .i64 x283001_2, .slice none 0 0]) ?_ 1 _ rfl; (with_reducible repeat (first | refine blk_drewN ?_ _ | refine blk_drew ?_ | refine blk_alloc ?_ _)); refine blk_put (cs := #[.int .i64 x283000_2, .int .i64 x283001_2, .slice none 0 0]) ?_ 0 _ rfl; (with_reducible repeat (first | refine blk_drewN ?_ _ | refine blk_drew ?_ | refine blk_alloc ?_ _)); exact BK282.out) Try.underlying76 rfl (by kernel_rfl) (.cell gb283 76 #[.int .i64 0, .int .i64 0, .slice none 0 0] (0, 0) _ rfl (by (with_reducible repeat (first | refine blk_drewN ?_ _ | refine blk_drew ?_ | refine blk_alloc ?_ _)); refine blk_put (cs := #[.int .i64 0, .int .i64 0, .slice none 0 0]) ?_ 2 _ rfl; (with_reducible repeat (first | refine blk_drewN ?_ _ | refine blk_drew ?_ | refine blk_alloc ?_ _)); refine blk_put (cs := #[.int .i64 0, .int .i64 x284001_2, .slice none 0 0]) ?_ 1 _ rfl; (with_reducible repeat (first | refine blk_drewN ?_ _ | refine blk_drew ?_ | refine blk_alloc ?_ _)); refine blk_put (cs := #[.int .i64 x284000_2, .int .i64 x284001_2, .slice none 0 0]) ?_ 0 _ rfl; (with_reducible repeat (first | refine blk_drewN ?_ _ | refine blk_drew ?_ | refine blk_alloc ?_ _)); refine blk_far ?_ NB283_282.out _; (with_reducible repeat (first | refine blk_drewN ?_ _ | refine blk_drew ?_ | refine blk_alloc ?_ _)); refine blk_far ?_ NB283_282.out _; (with_reducible repeat (first | refine blk_drewN ?_ _ | refine blk_drew ?_ | refine blk_alloc ?_ _)); refine blk_far ?_ NB283_282.out _; (with_reducible repeat (first | refine blk_drewN ?_ _ | refine blk_drew ?_ | refine blk_alloc ?_ _)); exact BK283.out) Try.underlying76 rfl (by kernel_rfl) (.tmp .nil)))) rfl ?_
            exact ⟨_, _, tE, by (with_reducible repeat (first | apply Kd.R_alloc | apply Kd.R_drewN | apply Kd.R_drew)); exact Kd.R_mono (Kd.R_far (p := ⟨gb283, 2, none⟩) (Kd.R_far (p := ⟨gb283, 1, none⟩) (Kd.R_far (p := ⟨gb283, 0, none⟩) (Kd.R_far (p := ⟨gb282, 2, none⟩) (Kd.R_far (p := ⟨gb282, 1, none⟩) (Kd.R_far (p := ⟨gb282, 0, none⟩) (Kd.R_types (Kd.R_types HO304.out BK282.out (by decide)) BK283.out (by decide)) (fun _ hk => hk.1.2) (.int .i64 t300)) (fun _ hk => hk.1.2) (.int .i64 t301)) (fun _ hk => hk.1.2) (.slice Ao65 t302.length co65)) (fun _ hk => hk.2) (.int .i64 0)) (fun _ hk => hk.2) (.int .i64 0)) (fun _ hk => hk.2) (.slice none 0 0)) (fun _ hk => (by simp [Value.ownBlock])), by first | exact Kd.R_nil _ _ _ _ _ | exact Kd.N_nil _ _ _ _ _ | exact Kd.V_nil _ _ _ _ _ | exact Kd.Q_nil _ _ _ _ _ | exact Kd.S_nil _ _ _ _ _, tB⟩
           ·replace c54 := Bool.eq_false_iff.mpr c54
            subst c54
            have H1 : (impl_SplitAccount.l0 k2 l1 a2 l1 (l1.length : Int) (wrap64 (x34_2 + 1)) a0_0 a0_1 l0_2) = some (r1, r2, r3, r4, r5, r6, r7) := by rw [if_neg (show ¬ (false = true) by decide)] at H; exact H
            clear H
            have H := H1
            clear H1
            have H' := Aside0.mk H
            clear H
            have p291 : 0 ≤ (x34_2 : Int) := of_decide_eq_true tA
            have q291 : x34_2 < (l1.length : Int) := of_decide_eq_true tA
            obtain ⟨ad291, e291, hx291_0⟩ := Kd.at_int HR1.out x34_2 p291 q291
            cases e291
            replace hx291_0 := hbc HB hx291_0
            replace p291 := eq_true p291
            replace q291 := eq_true q291
            have hnb67 := NB281_282.out
            have hnc67 := NB282_281.out
            have hnb68 := NB281_283.out
            have hnc68 := NB283_281.out
            obtain ⟨hcz69_0, hcz69_1, hcz69_2, hfz69_0, hfz69_1, hfz69_2⟩ := bc3 BK281.out
            go_wp2_with (first | ((with_reducible refine gate_callee (f := 116) rfl ?_); refine goesL_ (some 41) rfl rfl Try.func116 (by kernel_rfl) rfl #[.agg #[.int .i64 a0_0, .int .i64 a0_1, .slice A0_2 l0_2.length c0_2], .int .i64 (rd l1 x34_2)] rfl tL ?_; (with_reducible refine (impl_FindCredential.calls k2 a0_0 a0_1 _ _ l0_2 (rd l1 x34_2) t292 _ ?side1 ?side2 A38.out).mono ?_); (case side1 => repeat (first | exact (Kd.C_below HR0_2.out HB.out) | (with_reducible refine Kd.C_alloc ?_ _) | (with_reducible refine Kd.C_drewN ?_ _) | (with_reducible refine Kd.C_drew ?_))); (case side2 => exact HC0_2.out); rintro e w70 ⟨rfl, hb⟩; refine ⟨_, rfl, ?_⟩; have n0_ := Aside0.mk (blk_below (g := gb281) (o := .cells #[.int .i64 a0_0, .int .i64 a0_1, .slice A0_2 l0_2.length c0_2] 76 (0, 0)) (tK BK281) hb); have n1_ := Aside0.mk (blk_below (g := gb282) (o := .cells #[.int .i64 x283000_2, .int .i64 x283001_2, .slice none 0 0] 76 (0, 0)) (tK BK282) hb); have n2_ := Aside0.mk (blk_below (g := gb283) (o := .cells #[.int .i64 x284000_2, .int .i64 x284001_2, .slice none 0 0] 76 (0, 0)) (tK BK283) hb); have n3_ := Aside0.mk (below_step tB hb); clear BK281; clear BK282; clear BK283; clear HB; have BK281 := n0_; have BK282 := n1_; have BK283 := n2_; have HB := n3_; clear n0_ n1_ n2_ n3_; (try clear hb); (try clear hb2); (try clear hk); (try clear hi); obtain ⟨i071, hi071, _, hsz71, _⟩ := info_parts info3; obtain ⟨hcut71, hA71, hC71⟩ := print_take_of (P := Try.prog) (Value.int .i64) 0 46 3 .i64 Try.underlying46 hi071 hsz71 (some ad291) c1 l1 x34_2 (of_decide_eq_true tA) (of_decide_eq_true tA) HC1.out; have HR298 := Aside0.mk (Kd.C_of_reads (h1 := fun _ => rfl) (hA71 _ (Kd.reads_of_C HR1.out))); have HC298 := Aside0.mk hC71; clear hA71 hC71 hi071 hsz71) | (go_at_call 90; (try (have e_ : (x34_2 : Int).toNat = (l1.take (x34_2 : Int).toNat).length := (by have h_ : x34_2 ≤ (l1.length : Int) := of_decide_eq_true tA; rw [List.length_take]; omega); rw [e_]; clear e_)); (with_reducible refine (impl_has.calls k2 _ _ (l1.take (x34_2 : Int).toNat) (rd l1 x34_2) false _ ?side1 ?side2 A53.out).mono ?_); (case side1 => repeat (first | exact (Kd.C_below HR298.out HB.out) | (with_reducible refine Kd.C_alloc ?_ _) | (with_reducible refine Kd.C_drewN ?_ _) | (with_reducible refine Kd.C_drew ?_))); (case side2 => exact HC298.out); rintro e w' ⟨rfl, ⟨nd, rfl⟩⟩))
            go_roundg k2
            case measure => have := HJ3.out; have := HK2.out; omega
            case rel => exact ⟨(wrap64 (x34_2 + 1)), (x283000_2), (x283001_2), (x284000_2), (x284001_2), tS, H', ⟨by have := HJ3.out; have := HK2.out; omega⟩, ⟨tK BK281⟩, ⟨tK BK282⟩, ⟨tK BK283⟩, ⟨tB⟩⟩
          ·rw [if_neg c52] at H
           exact absurd H (by simp)
        ·rw [if_neg c37] at H
         exact absurd H (by simp)
       ·rw [if_neg c36] at H
        exact absurd H (by simp)
      ·rw [if_neg c35] at H
       have c35b0 : decide (x34_2 < (l1.length : Int)) = false := decide_eq_false c35
       clear c35
       have H' := Aside0.mk H
       clear H
       have hnb72 := NB281_282.out
       have hnc72 := NB282_281.out
       have hnb73 := NB281_283.out
       have hnc73 := NB283_281.out
       obtain ⟨hcz74_0, hcz74_1, hcz74_2, hfz74_0, hfz74_1, hfz74_2⟩ := bc3 BK281.out
       go_wp2_with (first | ((with_reducible refine gate_dst (N := 11) rfl ?_); refine box_event ?hg (N := 11) ?hd (cs := #[.int .i64 0, .int .i64 0, .slice none 0 0]) (t := 76) ?hr ?_; (case hd => rfl); (case hg => rfl); (case hr => exact tG); intro gb305 hg w75 hbox hb; have n0_ := Aside0.mk (blk_below (g := gb281) (o := .cells #[.int .i64 a0_0, .int .i64 a0_1, .slice A0_2 l0_2.length c0_2] 76 (0, 0)) (tK BK281) hb); have n1_ := Aside0.mk (blk_below (g := gb282) (o := .cells #[.int .i64 x283000_2, .int .i64 x283001_2, .slice none 0 0] 76 (0, 0)) (tK BK282) hb); have n2_ := Aside0.mk (blk_below (g := gb283) (o := .cells #[.int .i64 x284000_2, .int .i64 x284001_2, .slice none 0 0] 76 (0, 0)) (tK BK283) hb); have n3_ := Aside0.mk (below_step tB hb); have n4_ := Aside0.mk (hbox); have n5_ := Aside0.mk ((by rw [hg]; exact (below_size tB) : w.heap.size ≤ gb305)); have n6_ := Aside0.mk ((by rw [hg]; exact (below_size tB) : w.heap.size ≤ gb305)); have n7_ := Aside0.mk ((by rw [hg]; exact Nat.ne_of_lt (blk_lt (g := gb281) (o := .cells #[.int .i64 a0_0, .int .i64 a0_1, .slice A0_2 l0_2.length c0_2] 76 (0, 0)) (tK BK281)) : gb281 ≠ gb305)); have n8_ := Aside0.mk ((by rw [hg]; exact Nat.ne_of_gt (blk_lt (g := gb281) (o := .cells #[.int .i64 a0_0, .int .i64 a0_1, .slice A0_2 l0_2.length c0_2] 76 (0, 0)) (tK BK281)) : gb305 ≠ gb281)); have n9_ := Aside0.mk ((by rw [hg]; exact Nat.ne_of_lt (blk_lt (g := gb282) (o := .cells #[.int .i64 x283000_2, .int .i64 x283001_2, .slice none 0 0] 76 (0, 0)) (tK BK282)) : gb282 ≠ gb305)); have n10_ := Aside0.mk ((by rw [hg]; exact Nat.ne_of_gt (blk_lt (g := gb282) (o := .cells #[.int .i64 x283000_2, .int .i64 x283001_2, .slice none 0 0] 76 (0, 0)) (tK BK282)) : gb305 ≠ gb282)); have n11_ := Aside0.mk ((by rw [hg]; exact Nat.ne_of_lt (blk_lt (g := gb283) (o := .cells #[.int .i64 x284000_2, .int .i64 x284001_2, .slice none 0 0] 76 (0, 0)) (tK BK283)) : gb283 ≠ gb305)); have n12_ := Aside0.mk ((by rw [hg]; exact Nat.ne_of_gt (blk_lt (g := gb283) (o := .cells #[.int .i64 x284000_2, .int .i64 x284001_2, .slice none 0 0] 76 (0, 0)) (tK BK283)) : gb305 ≠ gb283)); clear BK281; clear BK282; clear BK283; clear HB; have BK281 := n0_; have BK282 := n1_; have BK283 := n2_; have HB := n3_; have BK305 := n4_; have GW305 := n5_; have GE305 := n6_; have NB281_305 := n7_; have NB305_281 := n8_; have NB282_305 := n9_; have NB305_282 := n10_; have NB283_305 := n11_; have NB305_283 := n12_; clear n0_ n1_ n2_ n3_ n4_ n5_ n6_ n7_ n8_ n9_ n10_ n11_ n12_; clear hb hbox hg; have hnb76 := NB305_281.out; have hnc76 := NB281_305.out; have hnb77 := NB305_282.out; have hnc77 := NB282_305.out; have hnb78 := NB305_283.out; have hnc78 := NB283_305.out; obtain ⟨hcz79_0, hcz79_1, hcz79_2, hfz79_0, hfz79_1, hfz79_2⟩ := bc3 BK305.out; obtain ⟨hcz80_0, hcz80_1, hcz80_2, hfz80_0, hfz80_1, hfz80_2⟩ := bc3 BK281.out) | ((with_reducible refine gate_dst (N := 12) rfl ?_); refine box_event ?hg (N := 12) ?hd (cs := #[.int .i64 0, .int .i64 0, .slice none 0 0]) (t := 76) ?hr ?_; (case hd => rfl); (case hg => rfl); (case hr => exact tG); intro gb306 hg w81 hbox hb; have n0_ := Aside0.mk (blk_below (g := gb281) (o := .cells #[.int .i64 a0_0, .int .i64 a0_1, .slice A0_2 l0_2.length c0_2] 76 (0, 0)) (by (with_reducible repeat (first | refine blk_drewN ?_ _ | refine blk_drew ?_ | refine blk_alloc ?_ _)); refine blk_far ?_ NB281_305.out _; (with_reducible repeat (first | refine blk_drewN ?_ _ | refine blk_drew ?_ | refine blk_alloc ?_ _)); refine blk_far ?_ NB281_305.out _; (with_reducible repeat (first | refine blk_drewN ?_ _ | refine blk_drew ?_ | refine blk_alloc ?_ _)); refine blk_far ?_ NB281_305.out _; (with_reducible repeat (first | refine blk_drewN ?_ _ | refine blk_drew ?_ | refine blk_alloc ?_ _)); exact BK281.out) hb); have n1_ := Aside0.mk (blk_below (g := gb282) (o := .cells #[.int .i64 x283000_2, .int .i64 x283001_2, .slice none 0 0] 76 (0, 0)) (by (with_reducible repeat (first | refine blk_drewN ?_ _ | refine blk_drew ?_ | refine blk_alloc ?_ _)); refine blk_far ?_ NB282_305.out _; (with_reducible repeat (first | refine blk_drewN ?_ _ | refine blk_drew ?_ | refine blk_alloc ?_ _)); refine blk_far ?_ NB282_305.out _; (with_reducible repeat (first | refine blk_drewN ?_ _ | refine blk_drew ?_ | refine blk_alloc ?_ _)); refine blk_far ?_ NB282_305.out _; (with_reducible repeat (first | refine blk_drewN ?_ _ | refine blk_drew ?_ | refine blk_alloc ?_ _)); exact BK282.out) hb); have n2_ := Aside0.mk (blk_below (g := gb283) (o := .cells #[.int .i64 x284000_2, .int .i64 x284001_2, .slice none 0 0] 76 (0, 0)) (by (with_reducible repeat (first | refine blk_drewN ?_ _ | refine blk_drew ?_ | refine blk_alloc ?_ _)); refine blk_far ?_ NB283_305.out _; (with_reducible repeat (first | refine blk_drewN ?_ _ | refine blk_drew ?_ | refine blk_alloc ?_ _)); refine blk_far ?_ NB283_305.out _; (with_reducible repeat (first | refine blk_drewN ?_ _ | refine blk_drew ?_ | refine blk_alloc ?_ _)); refine blk_far ?_ NB283_305.out _; (with_reducible repeat (first | refine blk_drewN ?_ _ | refine blk_drew ?_ | refine blk_alloc ?_ _)); exact BK283.out) hb); have n3_ := Aside0.mk (blk_below (g := gb305) (o := .cells #[.int .i64 a0_0, .int .i64 a0_1, .slice none 0 0] 76 (0, 0)) (by (with_reducible repeat (first | refine blk_drewN ?_ _ | refine blk_drew ?_ | refine blk_alloc ?_ _)); refine blk_put (cs := #[.int .i64 a0_0, .int .i64 a0_1, .slice none 0 0]) ?_ 2 _ rfl; (with_reducible repeat (first | refine blk_drewN ?_ _ | refine blk_drew ?_ | refine blk_alloc ?_ _)); refine blk_put (cs := #[.int .i64 a0_0, .int .i64 0, .slice none 0 0]) ?_ 1 _ rfl; (with_reducible repeat (first | refine blk_drewN ?_ _ | refine blk_drew ?_ | refine blk_alloc ?_ _)); refine blk_put (cs := #[.int .i64 0, .int .i64 0, .slice none 0 0]) ?_ 0 _ rfl; (with_reducible repeat (first | refine blk_drewN ?_ _ | refine blk_drew ?_ | refine blk_alloc ?_ _)); exact BK305.out) hb); have n4_ := Aside0.mk (below_step tB hb); have n5_ := Aside0.mk (hbox); have n6_ := Aside0.mk ((by rw [hg]; exact (below_size tB) : w.heap.size ≤ gb306)); have n7_ := Aside0.mk ((by rw [hg]; exact (below_size tB) : w.heap.size ≤ gb306)); have n8_ := Aside0.mk ((by rw [hg]; exact Nat.ne_of_lt (blk_lt (g := gb281) (o := .cells #[.int .i64 a0_0, .int .i64 a0_1, .slice A0_2 l0_2.length c0_2] 76 (0, 0)) (by (with_reducible repeat (first | refine blk_drewN ?_ _ | refine blk_drew ?_ | refine blk_alloc ?_ _)); refine blk_far ?_ NB281_305.out _; (with_reducible repeat (first | refine blk_drewN ?_ _ | refine blk_drew ?_ | refine blk_alloc ?_ _)); refine blk_far ?_ NB281_305.out _; (with_reducible repeat (first | refine blk_drewN ?_ _ | refine blk_drew ?_ | refine blk_alloc ?_ _)); refine blk_far ?_ NB281_305.out _; (with_reducible repeat (first | refine blk_drewN ?_ _ | refine blk_drew ?_ | refine blk_alloc ?_ _)); exact BK281.out)) : gb281 ≠ gb306)); have n9_ := Aside0.mk ((by rw [hg]; exact Nat.ne_of_gt (blk_lt (g := gb281) (o := .cells #[.int .i64 a0_0, .int .i64 a0_1, .slice A0_2 l0_2.length c0_2] 76 (0, 0)) (by (with_reducible repeat (first | refine blk_drewN ?_ _ | refine blk_drew ?_ | refine blk_alloc ?_ _)); refine blk_far ?_ NB281_305.out _; (with_reducible repeat (first | refine blk_drewN ?_ _ | refine blk_drew ?_ | refine blk_alloc ?_ _)); refine blk_far ?_ NB281_305.out _; (with_reducible repeat (first | refine blk_drewN ?_ _ | refine blk_drew ?_ | refine blk_alloc ?_ _)); refine blk_far ?_ NB281_305.out _; (with_reducible repeat (first | refine blk_drewN ?_ _ | refine blk_drew ?_ | refine blk_alloc ?_ _)); exact BK281.out)) : gb306 ≠ gb281)); have n10_ := Aside0.mk ((by rw [hg]; exact Nat.ne_of_lt (blk_lt (g := gb282) (o := .cells #[.int .i64 x283000_2, .int .i64 x283001_2, .slice none 0 0] 76 (0, 0)) (by (with_reducible repeat (first | refine blk_drewN ?_ _ | refine blk_drew ?_ | refine blk_alloc ?_ _)); refine blk_far ?_ NB282_305.out _; (with_reducible repeat (first | refine blk_drewN ?_ _ | refine blk_drew ?_ | refine blk_alloc ?_ _)); refine blk_far ?_ NB282_305.out _; (with_reducible repeat (first | refine blk_drewN ?_ _ | refine blk_drew ?_ | refine blk_alloc ?_ _)); refine blk_far ?_ NB282_305.out _; (with_reducible repeat (first | refine blk_drewN ?_ _ | refine blk_drew ?_ | refine blk_alloc ?_ _)); exact BK282.out)) : gb282 ≠ gb306)); have n11_ := Aside0.mk ((by rw [hg]; exact Nat.ne_of_gt (blk_lt (g := gb282) (o := .cells #[.int .i64 x283000_2, .int .i64 x283001_2, .slice none 0 0] 76 (0, 0)) (by (with_reducible repeat (first | refine blk_drewN ?_ _ | refine blk_drew ?_ | refine blk_alloc ?_ _)); refine blk_far ?_ NB282_305.out _; (with_reducible repeat (first | refine blk_drewN ?_ _ | refine blk_drew ?_ | refine blk_alloc ?_ _)); refine blk_far ?_ NB282_305.out _; (with_reducible repeat (first | refine blk_drewN ?_ _ | refine blk_drew ?_ | refine blk_alloc ?_ _)); refine blk_far ?_ NB282_305.out _; (with_reducible repeat (first | refine blk_drewN ?_ _ | refine blk_drew ?_ | refine blk_alloc ?_ _)); exact BK282.out)) : gb306 ≠ gb282)); have n12_ := Aside0.mk ((by rw [hg]; exact Nat.ne_of_lt (blk_lt (g := gb283) (o := .cells #[.int .i64 x284000_2, .int .i64 x284001_2, .slice none 0 0] 76 (0, 0)) (by (with_reducible repeat (first | refine blk_drewN ?_ _ | refine blk_drew ?_ | refine blk_alloc ?_ _)); refine blk_far ?_ NB283_305.out _; (with_reducible repeat (first | refine blk_drewN ?_ _ | refine blk_drew ?_ | refine blk_alloc ?_ _)); refine blk_far ?_ NB283_305.out _; (with_reducible repeat (first | refine blk_drewN ?_ _ | refine blk_drew ?_ | refine blk_alloc ?_ _)); refine blk_far ?_ NB283_305.out _; (with_reducible repeat (first | refine blk_drewN ?_ _ | refine blk_drew ?_ | refine blk_alloc ?_ _)); exact BK283.out)) : gb283 ≠ gb306)); have n13_ := Aside0.mk ((by rw [hg]; exact Nat.ne_of_gt (blk_lt (g := gb283) (o := .cells #[.int .i64 x284000_2, .int .i64 x284001_2, .slice none 0 0] 76 (0, 0)) (by (with_reducible repeat (first | refine blk_drewN ?_ _ | refine blk_drew ?_ | refine blk_alloc ?_ _)); refine blk_far ?_ NB283_305.out _; (with_reducible repeat (first | refine blk_drewN ?_ _ | refine blk_drew ?_ | refine blk_alloc ?_ _)); refine blk_far ?_ NB283_305.out _; (with_reducible repeat (first | refine blk_drewN ?_ _ | refine blk_drew ?_ | refine blk_alloc ?_ _)); refine blk_far ?_ NB283_305.out _; (with_reducible repeat (first | refine blk_drewN ?_ _ | refine blk_drew ?_ | refine blk_alloc ?_ _)); exact BK283.out)) : gb306 ≠ gb283)); have n14_ := Aside0.mk ((by rw [hg]; exact Nat.ne_of_lt (blk_lt (g := gb305) (o := .cells #[.int .i64 a0_0, .int .i64 a0_1, .slice none 0 0] 76 (0, 0)) (by (with_reducible repeat (first | refine blk_drewN ?_ _ | refine blk_drew ?_ | refine blk_alloc ?_ _)); refine blk_put (cs := #[.int .i64 a0_0, .int .i64 a0_1, .slice none 0 0]) ?_ 2 _ rfl; (with_reducible repeat (first | refine blk_drewN ?_ _ | refine blk_drew ?_ | refine blk_alloc ?_ _)); refine blk_put (cs := #[.int .i64 a0_0, .int .i64 0, .slice none 0 0]) ?_ 1 _ rfl; (with_reducible repeat (first | refine blk_drewN ?_ _ | refine blk_drew ?_ | refine blk_alloc ?_ _)); refine blk_put (cs := #[.int .i64 0, .int .i64 0, .slice none 0 0]) ?_ 0 _ rfl; (with_reducible repeat (first | refine blk_drewN ?_ _ | refine blk_drew ?_ | refine blk_alloc ?_ _)); exact BK305.out)) : gb305 ≠ gb306)); have n15_ := Aside0.mk ((by rw [hg]; exact Nat.ne_of_gt (blk_lt (g := gb305) (o := .cells #[.int .i64 a0_0, .int .i64 a0_1, .slice none 0 0] 76 (0, 0)) (by (with_reducible repeat (first | refine blk_drewN ?_ _ | refine blk_drew ?_ | refine blk_alloc ?_ _)); refine blk_put (cs := #[.int .i64 a0_0, .int .i64 a0_1, .slice none 0 0]) ?_ 2 _ rfl; (with_reducible repeat (first | refine blk_drewN ?_ _ | refine blk_drew ?_ | refine blk_alloc ?_ _)); refine blk_put (cs := #[.int .i64 a0_0, .int .i64 0, .slice none 0 0]) ?_ 1 _ rfl; (with_reducible repeat (first | refine blk_drewN ?_ _ | refine blk_drew ?_ | refine blk_alloc ?_ _)); refine blk_put (cs := #[.int .i64 0, .int .i64 0, .slice none 0 0]) ?_ 0 _ rfl; (with_reducible repeat (first | refine blk_drewN ?_ _ | refine blk_drew ?_ | refine blk_alloc ?_ _)); exact BK305.out)) : gb306 ≠ gb305)); clear BK281; clear BK282; clear BK283; clear BK305; clear HB; have BK281 := n0_; have BK282 := n1_; have BK283 := n2_; have BK305 := n3_; have HB := n4_; have BK306 := n5_; have GW306 := n6_; have GE306 := n7_; have NB281_306 := n8_; have NB306_281 := n9_; have NB282_306 := n10_; have NB306_282 := n11_; have NB283_306 := n12_; have NB306_283 := n13_; have NB305_306 := n14_; have NB306_305 := n15_; clear n0_ n1_ n2_ n3_ n4_ n5_ n6_ n7_ n8_ n9_ n10_ n11_ n12_ n13_ n14_ n15_; clear hb hbox hg; have hnb82 := NB306_281.out; have hnc82 := NB281_306.out; have hnb83 := NB306_282.out; have hnc83 := NB282_306.out; have hnb84 := NB306_283.out; have hnc84 := NB283_306.out; have hnb85 := NB306_305.out; have hnc85 := NB305_306.out; obtain ⟨hcz86_0, hcz86_1, hcz86_2, hfz86_0, hfz86_1, hfz86_2⟩ := bc3 BK306.out; obtain ⟨hcz87_0, hcz87_1, hcz87_2, hfz87_0, hfz87_1, hfz87_2⟩ := bc3 BK281.out))
       go_loopg [66] k2 (fun kq v66 w' => ∃ (x66_3 : Int) (x306002_3 : List (S123)) (x307002_3 : List (S123)) (u306002 : Value) (u307002 : Value), v66 = .int .i64 x66_3 ∧ Aside0 (impl_SplitAccount.l1 kq l1 l0_2 (l0_2.length : Int) x66_3 a0_0 a0_1 l0_2 a0_0 a0_1 x306002_3 a2 a0_1 x307002_3 = some (r1, r2, r3, r4, r5, r6, r7)) ∧ Aside0 (kq ≤ k2) ∧ Aside0 (Kd.R k123 123 w' w.heap.size (fun k_ => some k_ ≠ (u307002 : Value).ownBlock) u306002 x306002_3) ∧ Aside0 (Kd.R k123 123 w' w.heap.size (fun k_ => some k_ ≠ (u306002 : Value).ownBlock) u307002 x307002_3) ∧ Aside0 (w'.heap[gb281]? = some (.cells #[.int .i64 a0_0, .int .i64 a0_1, (.slice A0_2 l0_2.length c0_2)] 76 (0, 0))) ∧ Aside0 (w'.heap[gb282]? = some (.cells #[.int .i64 x283000_2, .int .i64 x283001_2, (.slice none 0 0)] 76 (0, 0))) ∧ Aside0 (w'.heap[gb283]? = some (.cells #[.int .i64 x284000_2, .int .i64 x284001_2, (.slice none 0 0)] 76 (0, 0))) ∧ Aside0 (w'.heap[gb305]? = some (.cells #[.int .i64 a0_0, .int .i64 a0_1, u306002] 76 (0, 0))) ∧ Aside0 (w'.heap[gb306]? = some (.cells #[.int .i64 a2, .int .i64 a0_1, u307002] 76 (0, 0))) ∧ Aside0 (Below w.heap.size w w'))
       case atStart => exact ⟨(0), (([] : List (S123))), (([] : List (S123))), (.slice none 0 0), (.slice none 0 0), tS, H', ⟨Nat.le_refl _⟩, ⟨by first | exact Kd.R_nil _ _ _ _ _ | exact Kd.N_nil _ _ _ _ _ | exact Kd.V_nil _ _ _ _ _ | exact Kd.Q_nil _ _ _ _ _ | exact Kd.S_nil _ _ _ _ _⟩, ⟨by first | exact Kd.R_nil _ _ _ _ _ | exact Kd.N_nil _ _ _ _ _ | exact Kd.V_nil _ _ _ _ _ | exact Kd.Q_nil _ _ _ _ _ | exact Kd.S_nil _ _ _ _ _⟩, ⟨by (with_reducible repeat (first | refine blk_drewN ?_ _ | refine blk_drew ?_ | refine blk_alloc ?_ _)); refine blk_far ?_ NB281_306.out _; (with_reducible repeat (first | refine blk_drewN ?_ _ | refine blk_drew ?_ | refine blk_alloc ?_ _)); refine blk_far ?_ NB281_306.out _; (with_reducible repeat (first | refine blk_drewN ?_ _ | refine blk_drew ?_ | refine blk_alloc ?_ _)); refine blk_far ?_ NB281_306.out _; (with_reducible repeat (first | refine blk_drewN ?_ _ | refine blk_drew ?_ | refine blk_alloc ?_ _)); exact BK281.out⟩, ⟨by (with_reducible repeat (first | refine blk_drewN ?_ _ | refine blk_drew ?_ | refine blk_alloc ?_ _)); refine blk_far ?_ NB282_306.out _; (with_reducible repeat (first | refine blk_drewN ?_ _ | refine blk_drew ?_ | refine blk_alloc ?_ _)); refine blk_far ?_ NB282_306.out _; (with_reducible repeat (first | refine blk_drewN ?_ _ | refine blk_drew ?_ | refine blk_alloc ?_ _)); refine blk_far ?_ NB282_306.out _; (with_reducible repeat (first | refine blk_drewN ?_ _ | refine blk_drew ?_ | refine blk_alloc ?_ _)); exact BK282.out⟩, ⟨by (with_reducible repeat (first | refine blk_drewN ?_ _ | refine blk_drew ?_ | refine blk_alloc ?_ _)); refine blk_far ?_ NB283_306.out _; (with_reducible repeat (first | refine blk_drewN ?_ _ | refine blk_drew ?_ | refine blk_alloc ?_ _)); refine blk_far ?_ NB283_306.out _; (with_reducible repeat (first | refine blk_drewN ?_ _ | refine blk_drew ?_ | refine blk_alloc ?_ _)); refine blk_far ?_ NB283_306.out _; (with_reducible repeat (first | refine blk_drewN ?_ _ | refine blk_drew ?_ | refine blk_alloc ?_ _)); exact BK283.out⟩, ⟨by (with_reducible repeat (first | refine blk_drewN ?_ _ | refine blk_drew ?_ | refine blk_alloc ?_ _)); refine blk_far ?_ NB305_306.out _; (with_reducible repeat (first | refine blk_drewN ?_ _ | refine blk_drew ?_ | refine blk_alloc ?_ _)); refine blk_far ?_ NB305_306.out _; (with_reducible repeat (first | refine blk_drewN ?_ _ | refine blk_drew ?_ | refine blk_alloc ?_ _)); refine blk_far ?_ NB305_306.out _; (with_reducible repeat (first | refine blk_drewN ?_ _ | refine blk_drew ?_ | refine blk_alloc ?_ _)); exact BK305.out⟩, ⟨by (with_reducible repeat (first | refine blk_drewN ?_ _ | refine blk_drew ?_ | refine blk_alloc ?_ _)); refine blk_put (cs := #[.int .i64 a2, .int .i64 a0_1, .slice none 0 0]) ?_ 2 _ rfl; (with_reducible repeat (first | refine blk_drewN ?_ _ | refine blk_drew ?_ | refine blk_alloc ?_ _)); refine blk_put (cs := #[.int .i64 a2, .int .i64 0, .slice none 0 0]) ?_ 1 _ rfl; (with_reducible repeat (first | refine blk_drewN ?_ _ | refine blk_drew ?_ | refine blk_alloc ?_ _)); refine blk_put (cs := #[.int .i64 0, .int .i64 0, .slice none 0 0]) ?_ 0 _ rfl; (with_reducible repeat (first | refine blk_drewN ?_ _ | refine blk_drew ?_ | refine blk_alloc ?_ _)); exact BK306.out⟩, ⟨tB⟩⟩
       case round =>
        clear H'
        try clear c1
        try clear c2
        try clear p2
        try clear q2
        try clear hx2
        try clear c3
        try clear c4
        try clear c5
        try clear c6
        try clear p6
        try clear c7
        try clear c8
        try clear c9
        try clear c10
        try clear c11
        try clear c12
        try clear c13
        try clear c17
        try clear c18
        try clear c21
        try clear c22
        try clear c25
        try clear c27
        try clear c28
        try clear p29
        try clear q29
        try clear hx29
        try clear c31
        try clear c35
        try clear c35b0
        try clear c36
        try clear c36b0
        try clear c37
        try clear c37b0
        try clear c39
        try clear c39b0
        try clear c41
        try clear c42
        try clear c47
        try clear c51
        try clear c51b0
        try clear c52
        try clear c52b0
        try clear c52b1
        try clear c54
        try clear c56
        try clear c57
        try clear c61
        try clear c63
        try clear p64
        try clear c67
        try clear c68
        try clear c72
        try clear c73
        try clear c76
        try clear c77
        try clear c78
        try clear c82
        try clear c83
        try clear c84
        try clear c85
        try clear hcz14_0
        try clear hcz14_1
        try clear hcz14_2
        try clear hcz16_0
        try clear hcz16_1
        try clear hcz16_2
        try clear hcz19_0
        try clear hcz19_1
        try clear hcz19_2
        try clear hcz23_0
        try clear hcz23_1
        try clear hcz23_2
        try clear hcz29_0
        try clear hcz29_1
        try clear hcz29_2
        try clear hcz32_0
        try clear hcz32_1
        try clear hcz32_2
        try clear hcz34_0
        try clear hcz34_1
        try clear hcz34_2
        try clear hcz43_0
        try clear hcz43_1
        try clear hcz43_2
        try clear hcz45_0
        try clear hcz45_1
        try clear hcz45_2
        try clear hcz48_0
        try clear hcz48_1
        try clear hcz48_2
        try clear hcz50_0
        try clear hcz50_1
        try clear hcz50_2
        try clear hcz58_0
        try clear hcz58_1
        try clear hcz58_2
        try clear hcz61_0
        try clear hcz61_1
        try clear hcz61_2
        try clear hcz64_0
        try clear hcz64_1
        try clear hcz64_2
        try clear hcz66_0
        try clear hcz66_1
        try clear hcz66_2
        try clear hcz69_0
        try clear hcz69_1
        try clear hcz69_2
        try clear hcz74_0
        try clear hcz74_1
        try clear hcz74_2
        try clear hcz79_0
        try clear hcz79_1
        try clear hcz79_2
        try clear hcz80_0
        try clear hcz80_1
        try clear hcz80_2
        try clear hcz86_0
        try clear hcz86_1
        try clear hcz86_2
        try clear hcz87_0
        try clear hcz87_1
        try clear hcz87_2
        try clear hfz14_0
        try clear hfz14_1
        try clear hfz14_2
        try clear hfz16_0
        try clear hfz16_1
        try clear hfz16_2
        try clear hfz19_0
        try clear hfz19_1
        try clear hfz19_2
        try clear hfz23_0
        try clear hfz23_1
        try clear hfz23_2
        try clear hfz29_0
        try clear hfz29_1
        try clear hfz29_2
        try clear hfz32_0
        try clear hfz32_1
        try clear hfz32_2
        try clear hfz34_0
        try clear hfz34_1
        try clear hfz34_2
        try clear hfz43_0
        try clear hfz43_1
        try clear hfz43_2
        try clear hfz45_0
        try clear hfz45_1
        try clear hfz45_2
        try clear hfz48_0
        try clear hfz48_1
        try clear hfz48_2
        try clear hfz50_0
        try clear hfz50_1
        try clear hfz50_2
        try clear hfz58_0
        try clear hfz58_1
        try clear hfz58_2
        try clear hfz61_0
        try clear hfz61_1
        try clear hfz61_2
        try clear hfz64_0
        try clear hfz64_1
        try clear hfz64_2
        try clear hfz66_0
        try clear hfz66_1
        try clear hfz66_2
        try clear hfz69_0
        try clear hfz69_1
        try clear hfz69_2
        try clear hfz74_0
        try clear hfz74_1
        try clear hfz74_2
        try clear hfz79_0
        try clear hfz79_1
        try clear hfz79_2
        try clear hfz80_0
        try clear hfz80_1
        try clear hfz80_2
        try clear hfz86_0
        try clear hfz86_1
        try clear hfz86_2
        try clear hfz87_0
        try clear hfz87_1
        try clear hfz87_2
        try clear hx291_0
        try clear p2
        try clear p291
        try clear q291
        obtain ⟨x66_3, x306002_3, x307002_3, u306002, u307002, rfl, HA, HK3, HO_306002, HO_307002, BK281, BK282, BK283, BK305, BK306, HB⟩ := hrel
        cases gk with
        | zero => exact absurd HA.out (by simp [impl_SplitAccount.l1])
        | succ k3 =>
         have H := HA.out
         clear HA
         simp only [impl_SplitAccount.l1] at H
         by_cases c88 : x66_3 < (l0_2.length : Int)
         ·rw [if_pos c88] at H
          have c88b0 : decide (x66_3 < (l0_2.length : Int)) = true := decide_eq_true c88
          clear c88
          by_cases c89 : 0 ≤ x66_3
          ·rw [if_pos c89] at H
           have c89b0 : decide (0 ≤ x66_3) = true := decide_eq_true c89
           clear c89
           by_cases c90 : x66_3 < (l0_2.length : Int)
           ·rw [if_pos c90] at H
            have c90b0 : decide (x66_3 < (l0_2.length : Int)) = true := decide_eq_true c90
            clear c90
            replace H := Option.bind_eq_some_iff.mp H
            obtain ⟨t309, A910, H⟩ := H
            replace H : (if t309 = true then (if x307002_3.length < 4398046511104 then (impl_SplitAccount.l1 k3 l1 l0_2 (l0_2.length : Int) (wrap64 (x66_3 + 1)) a0_0 a0_1 l0_2 a0_0 a0_1 x306002_3 a2 a0_1 (x307002_3 ++ [(⟨(rd_T123 l0_2 x66_3).f0, (rd_T123 l0_2 x66_3).f1, (rd_T123 l0_2 x66_3).f2, (rd_T123 l0_2 x66_3).f3⟩ : S123)])) else (none)) else (if x306002_3.length < 4398046511104 then (impl_SplitAccount.l1 k3 l1 l0_2 (l0_2.length : Int) (wrap64 (x66_3 + 1)) a0_0 a0_1 l0_2 a0_0 a0_1 (x306002_3 ++ [(⟨(rd_T123 l0_2 x66_3).f0, (rd_T123 l0_2 x66_3).f1, (rd_T123 l0_2 x66_3).f2, (rd_T123 l0_2 x66_3).f3⟩ : S123)]) a2 a0_1 x307002_3) else (none))) = some (r1, r2, r3, r4, r5, r6, r7) := H
            have A91 := Aside0.mk A910
            clear A910
            by_cases c92 : t309 = true
            ·subst c92
             have H1 : (if x307002_3.length < 4398046511104 then (impl_SplitAccount.l1 k3 l1 l0_2 (l0_2.length : Int) (wrap64 (x66_3 + 1)) a0_0 a0_1 l0_2 a0_0 a0_1 x306002_3 a2 a0_1 (x307002_3 ++ [(⟨(rd_T123 l0_2 x66_3).f0, (rd_T123 l0_2 x66_3).f1, (rd_T123 l0_2 x66_3).f2, (rd_T123 l0_2 x66_3).f3⟩ : S123)])) else (none)) = some (r1, r2, r3, r4, r5, r6, r7) := by rw [if_pos rfl] at H; exact H
             clear H
             have H := H1
             clear H1
             by_cases c93 : x307002_3.length < 4398046511104
             ·rw [if_pos c93] at H
              have LMc93 := Aside0.mk c93
              clear c93
              obtain ⟨y310, hy310⟩ : ∃ y_ : List (S123), y_ = (x307002_3 ++ [(⟨(rd_T123 l0_2 x66_3).f0, (rd_T123 l0_2 x66_3).f1, (rd_T123 l0_2 x66_3).f2, (rd_T123 l0_2 x66_3).f3⟩ : S123)]) := ⟨_, rfl⟩
              replace H : (impl_SplitAccount.l1 k3 l1 l0_2 (l0_2.length : Int) (wrap64 (x66_3 + 1)) a0_0 a0_1 l0_2 a0_0 a0_1 x306002_3 a2 a0_1 y310) = some (r1, r2, r3, r4, r5, r6, r7) := by first | (rw [hy310]; with_reducible exact H) | (have H2_ := (Option.bind_some _ _).symm.trans H; rw [hy310]; with_reducible exact H2_) | (have H2_ := (Option.bind_some _ _).symm.trans H; with_reducible exact H2_) | with_reducible exact H | (rw [hy310]; exact H) | exact H
              have Ny310 := Aside0.mk hy310
              clear hy310
              have H' := Aside0.mk H
              clear H
              have p307 : 0 ≤ (x66_3 : Int) := of_decide_eq_true tA
              have q307 : x66_3 < (l0_2.length : Int) := of_decide_eq_true tA
              obtain ⟨ad307, e307, hx307_0, hx307_1, hx307_2, hx307_3⟩ := at_T123 HR0_2.out x66_3 p307 q307
              cases e307
              replace hx307_0 := hbc HB hx307_0
              replace hx307_1 := hbc HB hx307_1
              replace hx307_2 := hbc HB hx307_2
              replace hx307_3 := hbc HB hx307_3
              replace p307 := eq_true p307
              replace q307 := eq_true q307
              go_wp2_with (first | ((with_reducible refine gate_dst (N := 14) rfl ?_); refine box_event ?hg (N := 14) ?hd (cs := #[.int .i64 0, .int .i64 0, .int .i64 0, .bool false]) (t := 123) ?hr ?_; (case hd => rfl); (case hg => rfl); (case hr => exact tG); intro gb308 hg w94 hbox hb; have n0_ := Aside0.mk (Kd.R_below (Kd.R_elderB (tR HO_306002) gb308 (Nat.le_of_eq hg.symm)) hb); have n1_ := Aside0.mk (Kd.R_below (Kd.R_elderB (tR HO_307002) gb308 (Nat.le_of_eq hg.symm)) hb); have n2_ := Aside0.mk (blk_below (g := gb281) (o := .cells #[.int .i64 a0_0, .int .i64 a0_1, .slice (some ad307) l0_2.length c0_2] 76 (0, 0)) (tK BK281) hb); have n3_ := Aside0.mk (blk_below (g := gb282) (o := .cells #[.int .i64 x283000_2, .int .i64 x283001_2, .slice none 0 0] 76 (0, 0)) (tK BK282) hb); have n4_ := Aside0.mk (blk_below (g := gb283) (o := .cells #[.int .i64 x284000_2, .int .i64 x284001_2, .slice none 0 0] 76 (0, 0)) (tK BK283) hb); have n5_ := Aside0.mk (blk_below (g := gb305) (o := .cells #[.int .i64 a0_0, .int .i64 a0_1, u306002] 76 (0, 0)) (tK BK305) hb); have n6_ := Aside0.mk (blk_below (g := gb306) (o := .cells #[.int .i64 a2, .int .i64 a0_1, u307002] 76 (0, 0)) (tK BK306) hb); have n7_ := Aside0.mk (below_step tB hb); have n8_ := Aside0.mk (hbox); have n9_ := Aside0.mk ((by rw [hg]; exact (below_size tB) : w.heap.size ≤ gb308)); have n10_ := Aside0.mk ((by rw [hg]; exact (below_size tB) : w.heap.size ≤ gb308)); have n11_ := Aside0.mk ((by rw [hg]; exact Nat.ne_of_lt (blk_lt (g := gb281) (o := .cells #[.int .i64 a0_0, .int .i64 a0_1, .slice (some ad307) l0_2.length c0_2] 76 (0, 0)) (tK BK281)) : gb281 ≠ gb308)); have n12_ := Aside0.mk ((by rw [hg]; exact Nat.ne_of_gt (blk_lt (g := gb281) (o := .cells #[.int .i64 a0_0, .int .i64 a0_1, .slice (some ad307) l0_2.length c0_2] 76 (0, 0)) (tK BK281)) : gb308 ≠ gb281)); have n13_ := Aside0.mk ((by rw [hg]; exact Nat.ne_of_lt (blk_lt (g := gb282) (o := .cells #[.int .i64 x283000_2, .int .i64 x283001_2, .slice none 0 0] 76 (0, 0)) (tK BK282)) : gb282 ≠ gb308)); have n14_ := Aside0.mk ((by rw [hg]; exact Nat.ne_of_gt (blk_lt (g := gb282) (o := .cells #[.int .i64 x283000_2, .int .i64 x283001_2, .slice none 0 0] 76 (0, 0)) (tK BK282)) : gb308 ≠ gb282)); have n15_ := Aside0.mk ((by rw [hg]; exact Nat.ne_of_lt (blk_lt (g := gb283) (o := .cells #[.int .i64 x284000_2, .int .i64 x284001_2, .slice none 0 0] 76 (0, 0)) (tK BK283)) : gb283 ≠ gb308)); have n16_ := Aside0.mk ((by rw [hg]; exact Nat.ne_of_gt (blk_lt (g := gb283) (o := .cells #[.int .i64 x284000_2, .int .i64 x284001_2, .slice none 0 0] 76 (0, 0)) (tK BK283)) : gb308 ≠ gb283)); have n17_ := Aside0.mk ((by rw [hg]; exact Nat.ne_of_lt (blk_lt (g := gb305) (o := .cells #[.int .i64 a0_0, .int .i64 a0_1, u306002] 76 (0, 0)) (tK BK305)) : gb305 ≠ gb308)); have n18_ := Aside0.mk ((by rw [hg]; exact Nat.ne_of_gt (blk_lt (g := gb305) (o := .cells #[.int .i64 a0_0, .int .i64 a0_1, u306002] 76 (0, 0)) (tK BK305)) : gb308 ≠ gb305)); have n19_ := Aside0.mk ((by rw [hg]; exact Nat.ne_of_lt (blk_lt (g := gb306) (o := .cells #[.int .i64 a2, .int .i64 a0_1, u307002] 76 (0, 0)) (tK BK306)) : gb306 ≠ gb308)); have n20_ := Aside0.mk ((by rw [hg]; exact Nat.ne_of_gt (blk_lt (g := gb306) (o := .cells #[.int .i64 a2, .int .i64 a0_1, u307002] 76 (0, 0)) (tK BK306)) : gb308 ≠ gb306)); clear HO_306002; clear HO_307002; clear BK281; clear BK282; clear BK283; clear BK305; clear BK306; clear HB; have HO_306002 := n0_; have HO_307002 := n1_; have BK281 := n2_; have BK282 := n3_; have BK283 := n4_; have BK305 := n5_; have BK306 := n6_; have HB := n7_; have BK308 := n8_; have GW308 := n9_; have GE308 := n10_; have NB281_308 := n11_; have NB308_281 := n12_; have NB282_308 := n13_; have NB308_282 := n14_; have NB283_308 := n15_; have NB308_283 := n16_; have NB305_308 := n17_; have NB308_305 := n18_; have NB306_308 := n19_; have NB308_306 := n20_; clear n0_ n1_ n2_ n3_ n4_ n5_ n6_ n7_ n8_ n9_ n10_ n11_ n12_ n13_ n14_ n15_ n16_ n17_ n18_ n19_ n20_; clear hb hbox hg; have hnb95 := NB308_281.out; have hnc95 := NB281_308.out; have hnb96 := NB308_282.out; have hnc96 := NB282_308.out; have hnb97 := NB308_283.out; have hnc97 := NB283_308.out; have hnb98 := NB308_305.out; have hnc98 := NB305_308.out; have hnb99 := NB308_306.out; have hnc99 := NB306_308.out; obtain ⟨hcz100_0, hcz100_1, hcz100_2, hcz100_3, hfz100_0, hfz100_1, hfz100_2, hfz100_3⟩ := bc4 BK308.out) | ((with_reducible refine gate_callee (f := 90) rfl ?_); refine goesL_ (some 73) rfl rfl Try.func90 (by kernel_rfl) rfl #[.slice A1 l1.length c1, .int .i64 ((rd_T123 l0_2 x66_3).f0)] rfl tL ?_; (with_reducible refine (impl_has.calls k3 _ _ l1 ((rd_T123 l0_2 x66_3).f0) true _ ?side1 ?side2 A91.out).mono ?_); (case side1 => exact Kd.C_below HR1.out tB); (case side2 => exact HC1.out); rintro e w' ⟨rfl, ⟨nd, rfl⟩⟩; refine ⟨_, rfl, ?_⟩; have hnb101 := NB306_281.out; have hnc101 := NB281_306.out; have hnb102 := NB306_282.out; have hnc102 := NB282_306.out; have hnb103 := NB306_283.out; have hnc103 := NB283_306.out; have hnb104 := NB306_305.out; have hnc104 := NB305_306.out; obtain ⟨hcz105_0, hcz105_1, hcz105_2, hfz105_0, hfz105_1, hfz105_2⟩ := bc3 BK306.out) | ((with_reducible refine gate_builtin (b := .append) (xs := #[.tmp 75, .tmp 77]) rfl ?_); at_builtin; refine Kd.R_append k123 (w0 := w) w.heap.size rfl (.tmp 75) (.tmp 77) 74 123 (.agg #[(.int .i64 0), (.int .i64 0), (.int .i64 0), (.bool false)]) 32 rfl Try.underlying74 info123 rfl (by decide) (by omega) u307002 x307002_3 (⟨(rd_T123 l0_2 x66_3).f0, (rd_T123 l0_2 x66_3).f1, (rd_T123 l0_2 x66_3).f2, (rd_T123 l0_2 x66_3).f3⟩ : S123) [.int .i64 ((rd_T123 l0_2 x66_3).f0), .int .i64 ((rd_T123 l0_2 x66_3).f1), .int .i64 ((rd_T123 l0_2 x66_3).f2), .bool ((rd_T123 l0_2 x66_3).f3)] (fun k_ => some k_ ≠ (u306002 : Value).ownBlock ∧ k_ ≠ gb308) (fun _ => False) rfl (by first | (go_simp; done) | (go_simp; rfl)) ?aP (fun _ hk => hk.elim) ?aF ?aO ?aB ?aS ?aL ?_; (case aP => exact k123_mkM _ _ _ (⟨(rd_T123 l0_2 x66_3).f0, (rd_T123 l0_2 x66_3).f1, (rd_T123 l0_2 x66_3).f2, (rd_T123 l0_2 x66_3).f3⟩ : S123)); (case aB => exact tB); (case aF => exact (fun k_ hk => ⟨Kd.fresh' (Kd.R_lt (by (with_reducible repeat (first | apply Kd.R_alloc | apply Kd.R_drewN | apply Kd.R_drew)); exact (Kd.R_mono (Kd.R_far (p := ⟨gb308, 3, none⟩) (Kd.R_far (p := ⟨gb308, 2, none⟩) (Kd.R_far (p := ⟨gb308, 1, none⟩) (Kd.R_far (p := ⟨gb308, 0, none⟩) (Kd.R_mono HO_306002.out (fun k_ hk => (⟨hk, hk.2⟩ : _ ∧ k_ ≠ gb308))) (fun _ hk => hk.2) (.int .i64 ((rd_T123 l0_2 x66_3).f0))) (fun _ hk => hk.2) (.int .i64 ((rd_T123 l0_2 x66_3).f1))) (fun _ hk => hk.2) (.int .i64 ((rd_T123 l0_2 x66_3).f2))) (fun _ hk => hk.2) (.bool ((rd_T123 l0_2 x66_3).f3))) (fun _ h_ => h_.1)))) k_ hk, Kd.freshB (g := gb308) (o := .cells #[.int .i64 ((rd_T123 l0_2 x66_3).f0), .int .i64 ((rd_T123 l0_2 x66_3).f1), .int .i64 ((rd_T123 l0_2 x66_3).f2), .bool ((rd_T123 l0_2 x66_3).f3)] 123 (0, 0)) (by (with_reducible repeat (first | refine blk_drewN ?_ _ | refine blk_drew ?_ | refine blk_alloc ?_ _)); refine blk_put (cs := #[.int .i64 ((rd_T123 l0_2 x66_3).f0), .int .i64 ((rd_T123 l0_2 x66_3).f1), .int .i64 ((rd_T123 l0_2 x66_3).f2), .bool false]) ?_ 3 _ rfl; (with_reducible repeat (first | refine blk_drewN ?_ _ | refine blk_drew ?_ | refine blk_alloc ?_ _)); refine blk_put (cs := #[.int .i64 ((rd_T123 l0_2 x66_3).f0), .int .i64 ((rd_T123 l0_2 x66_3).f1), .int .i64 0, .bool false]) ?_ 2 _ rfl; (with_reducible repeat (first | refine blk_drewN ?_ _ | refine blk_drew ?_ | refine blk_alloc ?_ _)); refine blk_put (cs := #[.int .i64 ((rd_T123 l0_2 x66_3).f0), .int .i64 0, .int .i64 0, .bool false]) ?_ 1 _ rfl; (with_reducible repeat (first | refine blk_drewN ?_ _ | refine blk_drew ?_ | refine blk_alloc ?_ _)); refine blk_put (cs := #[.int .i64 0, .int .i64 0, .int .i64 0, .bool false]) ?_ 0 _ rfl; (with_reducible repeat (first | refine blk_drewN ?_ _ | refine blk_drew ?_ | refine blk_alloc ?_ _)); exact BK308.out) k_ hk⟩)); (case aO => exact (by (with_reducible repeat (first | apply Kd.R_alloc | apply Kd.R_drewN | apply Kd.R_drew)); exact Kd.R_mono (Kd.R_far (p := ⟨gb308, 3, none⟩) (Kd.R_far (p := ⟨gb308, 2, none⟩) (Kd.R_far (p := ⟨gb308, 1, none⟩) (Kd.R_far (p := ⟨gb308, 0, none⟩) (Kd.R_mono HO_307002.out (fun k_ hk => (⟨hk, hk.2⟩ : _ ∧ k_ ≠ gb308))) (fun _ hk => hk.2) (.int .i64 ((rd_T123 l0_2 x66_3).f0))) (fun _ hk => hk.2) (.int .i64 ((rd_T123 l0_2 x66_3).f1))) (fun _ hk => hk.2) (.int .i64 ((rd_T123 l0_2 x66_3).f2))) (fun _ hk => hk.2) (.bool ((rd_T123 l0_2 x66_3).f3))) (fun _ hk => ⟨hk.1.1, hk.1.2⟩))); (case aS => exact (below_size tB)); (case aL => have := LMc93.out; omega); intro v311 w106 ho hb hg hat; rw [← Ny310.out] at ho; have n0_ := Aside0.mk (Kd.R_after (ok := (fun k_ => k_ ≠ gb308)) (by (with_reducible repeat (first | apply Kd.R_alloc | apply Kd.R_drewN | apply Kd.R_drew)); exact Kd.R_mono (Kd.R_far (p := ⟨gb308, 3, none⟩) (Kd.R_far (p := ⟨gb308, 2, none⟩) (Kd.R_far (p := ⟨gb308, 1, none⟩) (Kd.R_far (p := ⟨gb308, 0, none⟩) (Kd.R_mono HO_306002.out (fun k_ hk => (⟨hk, hk.2⟩ : _ ∧ k_ ≠ gb308))) (fun _ hk => hk.2) (.int .i64 ((rd_T123 l0_2 x66_3).f0))) (fun _ hk => hk.2) (.int .i64 ((rd_T123 l0_2 x66_3).f1))) (fun _ hk => hk.2) (.int .i64 ((rd_T123 l0_2 x66_3).f2))) (fun _ hk => hk.2) (.bool ((rd_T123 l0_2 x66_3).f3))) (fun _ hk => ⟨hk.1.2, hk.1.1⟩)) hg hat); have n1_ := Aside0.mk (blk_grown (g := gb281) (o := .cells #[.int .i64 a0_0, .int .i64 a0_1, .slice (some ad307) l0_2.length c0_2] 76 (0, 0)) (by (with_reducible repeat (first | refine blk_drewN ?_ _ | refine blk_drew ?_ | refine blk_alloc ?_ _)); refine blk_far ?_ NB281_308.out _; (with_reducible repeat (first | refine blk_drewN ?_ _ | refine blk_drew ?_ | refine blk_alloc ?_ _)); refine blk_far ?_ NB281_308.out _; (with_reducible repeat (first | refine blk_drewN ?_ _ | refine blk_drew ?_ | refine blk_alloc ?_ _)); refine blk_far ?_ NB281_308.out _; (with_reducible repeat (first | refine blk_drewN ?_ _ | refine blk_drew ?_ | refine blk_alloc ?_ _)); refine blk_far ?_ NB281_308.out _; (with_reducible repeat (first | refine blk_drewN ?_ _ | refine blk_drew ?_ | refine blk_alloc ?_ _)); exact BK281.out) hg (Kd.R_ne HO_307002.out BK281.out (by decide))); have n2_ := Aside0.mk (blk_grown (g := gb282) (o := .cells #[.int .i64 x283000_2, .int .i64 x283001_2, .slice none 0 0] 76 (0, 0)) (by (with_reducible repeat (first | refine blk_drewN ?_ _ | refine blk_drew ?_ | refine blk_alloc ?_ _)); refine blk_far ?_ NB282_308.out _; (with_reducible repeat (first | refine blk_drewN ?_ _ | refine blk_drew ?_ | refine blk_alloc ?_ _)); refine blk_far ?_ NB282_308.out _; (with_reducible repeat (first | refine blk_drewN ?_ _ | refine blk_drew ?_ | refine blk_alloc ?_ _)); refine blk_far ?_ NB282_308.out _; (with_reducible repeat (first | refine blk_drewN ?_ _ | refine blk_drew ?_ | refine blk_alloc ?_ _)); refine blk_far ?_ NB282_308.out _; (with_reducible repeat (first | refine blk_drewN ?_ _ | refine blk_drew ?_ | refine blk_alloc ?_ _)); exact BK282.out) hg (Kd.R_ne HO_307002.out BK282.out (by decide))); have n3_ := Aside0.mk (blk_grown (g := gb283) (o := .cells #[.int .i64 x284000_2, .int .i64 x284001_2, .slice none 0 0] 76 (0, 0)) (by (with_reducible repeat (first | refine blk_drewN ?_ _ | refine blk_drew ?_ | refine blk_alloc ?_ _)); refine blk_far ?_ NB283_308.out _; (with_reducible repeat (first | refine blk_drewN ?_ _ | refine blk_drew ?_ | refine blk_alloc ?_ _)); refine blk_far ?_ NB283_308.out _; (with_reducible repeat (first | refine blk_drewN ?_ _ | refine blk_drew ?_ | refine blk_alloc ?_ _)); refine blk_far ?_ NB283_308.out _; (with_reducible repeat (first | refine blk_drewN ?_ _ | refine blk_drew ?_ | refine blk_alloc ?_ _)); refine blk_far ?_ NB283_308.out _; (with_reducible repeat (first | refine blk_drewN ?_ _ | refine blk_drew ?_ | refine blk_alloc ?_ _)); exact BK283.out) hg (Kd.R_ne HO_307002.out BK283.out (by decide))); have n4_ := Aside0.mk (blk_grown (g := gb305) (o := .cells #[.int .i64 a0_0, .int .i64 a0_1, u306002] 76 (0, 0)) (by (with_reducible repeat (first | refine blk_drewN ?_ _ | refine blk_drew ?_ | refine blk_alloc ?_ _)); refine blk_far ?_ NB305_308.out _; (with_reducible repeat (first | refine blk_drewN ?_ _ | refine blk_drew ?_ | refine blk_alloc ?_ _)); refine blk_far ?_ NB305_308.out _; (with_reducible repeat (first | refine blk_drewN ?_ _ | refine blk_drew ?_ | refine blk_alloc ?_ _)); refine blk_far ?_ NB305_308.out _; (with_reducible repeat (first | refine blk_drewN ?_ _ | refine blk_drew ?_ | refine blk_alloc ?_ _)); refine blk_far ?_ NB305_308.out _; (with_reducible repeat (first | refine blk_drewN ?_ _ | refine blk_drew ?_ | refine blk_alloc ?_ _)); exact BK305.out) hg (Kd.R_ne HO_307002.out BK305.out (by decide))); have n5_ := Aside0.mk (blk_grown (g := gb306) (o := .cells #[.int .i64 a2, .int .i64 a0_1, u307002] 76 (0, 0)) (by (with_reducible repeat (first | refine blk_drewN ?_ _ | refine blk_drew ?_ | refine blk_alloc ?_ _)); refine blk_far ?_ NB306_308.out _; (with_reducible repeat (first | refine blk_drewN ?_ _ | refine blk_drew ?_ | refine blk_alloc ?_ _)); refine blk_far ?_ NB306_308.out _; (with_reducible repeat (first | refine blk_drewN ?_ _ | refine blk_drew ?_ | refine blk_alloc ?_ _)); refine blk_far ?_ NB306_308.out _; (with_reducible repeat (first | refine blk_drewN ?_ _ | refine blk_drew ?_ | refine blk_alloc ?_ _)); refine blk_far ?_ NB306_308.out _; (with_reducible repeat (first | refine blk_drewN ?_ _ | refine blk_drew ?_ | refine blk_alloc ?_ _)); exact BK306.out) hg (Kd.R_ne HO_307002.out BK306.out (by decide))); have n6_ := Aside0.mk (blk_grown (g := gb308) (o := .cells #[.int .i64 ((rd_T123 l0_2 x66_3).f0), .int .i64 ((rd_T123 l0_2 x66_3).f1), .int .i64 ((rd_T123 l0_2 x66_3).f2), .bool ((rd_T123 l0_2 x66_3).f3)] 123 (0, 0)) (by (with_reducible repeat (first | refine blk_drewN ?_ _ | refine blk_drew ?_ | refine blk_alloc ?_ _)); refine blk_put (cs := #[.int .i64 ((rd_T123 l0_2 x66_3).f0), .int .i64 ((rd_T123 l0_2 x66_3).f1), .int .i64 ((rd_T123 l0_2 x66_3).f2), .bool false]) ?_ 3 _ rfl; (with_reducible repeat (first | refine blk_drewN ?_ _ | refine blk_drew ?_ | refine blk_alloc ?_ _)); refine blk_put (cs := #[.int .i64 ((rd_T123 l0_2 x66_3).f0), .int .i64 ((rd_T123 l0_2 x66_3).f1), .int .i64 0, .bool false]) ?_ 2 _ rfl; (with_reducible repeat (first | refine blk_drewN ?_ _ | refine blk_drew ?_ | refine blk_alloc ?_ _)); refine blk_put (cs := #[.int .i64 ((rd_T123 l0_2 x66_3).f0), .int .i64 0, .int .i64 0, .bool false]) ?_ 1 _ rfl; (with_reducible repeat (first | refine blk_drewN ?_ _ | refine blk_drew ?_ | refine blk_alloc ?_ _)); refine blk_put (cs := #[.int .i64 0, .int .i64 0, .int .i64 0, .bool false]) ?_ 0 _ rfl; (with_reducible repeat (first | refine blk_drewN ?_ _ | refine blk_drew ?_ | refine blk_alloc ?_ _)); exact BK308.out) hg (Kd.R_away HO_307002.out (fun _ hk => hk.2))); have n7_ := Aside0.mk (hb); have n8_ := Aside0.mk (ho); clear HO_306002; clear BK281; clear BK282; clear BK283; clear BK305; clear BK306; clear BK308; clear HB; clear HO_307002; have HO_306002 := n0_; have BK281 := n1_; have BK282 := n2_; have BK283 := n3_; have BK305 := n4_; have BK306 := n5_; have BK308 := n6_; have HB := n7_; have HO312 := n8_; clear n0_ n1_ n2_ n3_ n4_ n5_ n6_ n7_ n8_; clear ho hb hg hat; obtain ⟨Ao107, co107, eo107⟩ := Kd.R_slice HO312.out; subst eo107; obtain ⟨hcz108_0, hcz108_1, hcz108_2, hfz108_0, hfz108_1, hfz108_2⟩ := bc3 BK306.out))
              go_roundg k3
              case measure => have := HJ3.out; have := HK2.out; have := HK3.out; omega
              case rel => exact ⟨(wrap64 (x66_3 + 1)), (x306002_3), (y310), (u306002), (.slice Ao107 y310.length co107), tS, H', ⟨by have := HJ3.out; have := HK2.out; have := HK3.out; omega⟩, ⟨by (with_reducible repeat (first | apply Kd.R_alloc | apply Kd.R_drewN | apply Kd.R_drew)); exact Kd.R_mono (Kd.R_far (p := ⟨gb306, 2, none⟩) (Kd.R_types HO_306002.out BK306.out (by decide)) (fun _ hk => hk.2) (.slice Ao107 y310.length co107)) (fun _ hk => hk.1.2)⟩, ⟨by (with_reducible repeat (first | apply Kd.R_alloc | apply Kd.R_drewN | apply Kd.R_drew)); exact Kd.R_mono (Kd.R_far (p := ⟨gb306, 2, none⟩) (Kd.R_types HO312.out BK306.out (by decide)) (fun _ hk => hk.2) (.slice Ao107 y310.length co107)) (fun _ hk => hk.1.1)⟩, ⟨by (with_reducible repeat (first | refine blk_drewN ?_ _ | refine blk_drew ?_ | refine blk_alloc ?_ _)); refine blk_far ?_ NB281_306.out _; (with_reducible repeat (first | refine blk_drewN ?_ _ | refine blk_drew ?_ | refine blk_alloc ?_ _)); exact BK281.out⟩, ⟨by (with_reducible repeat (first | refine blk_drewN ?_ _ | refine blk_drew ?_ | refine blk_alloc ?_ _)); refine blk_far ?_ NB282_306.out _; (with_reducible repeat (first | refine blk_drewN ?_ _ | refine blk_drew ?_ | refine blk_alloc ?_ _)); exact BK282.out⟩, ⟨by (with_reducible repeat (first | refine blk_drewN ?_ _ | refine blk_drew ?_ | refine blk_alloc ?_ _)); refine blk_far ?_ NB283_306.out _; (with_reducible repeat (first | refine blk_drewN ?_ _ | refine blk_drew ?_ | refine blk_alloc ?_ _)); exact BK283.out⟩, ⟨by (with_reducible repeat (first | refine blk_drewN ?_ _ | refine blk_drew ?_ | refine blk_alloc ?_ _)); refine blk_far ?_ NB305_306.out _; (with_reducible repeat (first | refine blk_drewN ?_ _ | refine blk_drew ?_ | refine blk_alloc ?_ _)); exact BK305.out⟩, ⟨by (with_reducible repeat (first | refine blk_drewN ?_ _ | refine blk_drew ?_ | refine blk_alloc ?_ _)); refine blk_put (cs := #[.int .i64 a2, .int .i64 a0_1, u307002]) ?_ 2 _ rfl; (with_reducible repeat (first | refine blk_drewN ?_ _ | refine blk_drew ?_ | refine blk_alloc ?_ _)); exact BK306.out⟩, ⟨tB⟩⟩
             ·rw [if_neg c93] at H
              exact absurd H (by simp)
            ·replace c92 := Bool.eq_false_iff.mpr c92
             subst c92
             have H1 : (if x306002_3.length < 4398046511104 then (impl_SplitAccount.l1 k3 l1 l0_2 (l0_2.length : Int) (wrap64 (x66_3 + 1)) a0_0 a0_1 l0_2 a0_0 a0_1 (x306002_3 ++ [(⟨(rd_T123 l0_2 x66_3).f0, (rd_T123 l0_2 x66_3).f1, (rd_T123 l0_2 x66_3).f2, (rd_T123 l0_2 x66_3).f3⟩ : S123)]) a2 a0_1 x307002_3) else (none)) = some (r1, r2, r3, r4, r5, r6, r7) := by rw [if_neg (show ¬ (false = true) by decide)] at H; exact H
             clear H
             have H := H1
             clear H1
             by_cases c109 : x306002_3.length < 4398046511104
             ·rw [if_pos c109] at H
              have LMc109 := Aside0.mk c109
              clear c109
              obtain ⟨y313, hy313⟩ : ∃ y_ : List (S123), y_ = (x306002_3 ++ [(⟨(rd_T123 l0_2 x66_3).f0, (rd_T123 l0_2 x66_3).f1, (rd_T123 l0_2 x66_3).f2, (rd_T123 l0_2 x66_3).f3⟩ : S123)]) := ⟨_, rfl⟩
              replace H : (impl_SplitAccount.l1 k3 l1 l0_2 (l0_2.length : Int) (wrap64 (x66_3 + 1)) a0_0 a0_1 l0_2 a0_0 a0_1 y313 a2 a0_1 x307002_3) = some (r1, r2, r3, r4, r5, r6, r7) := by first | (rw [hy313]; with_reducible exact H) | (have H2_ := (Option.bind_some _ _).symm.trans H; rw [hy313]; with_reducible exact H2_) | (have H2_ := (Option.bind_some _ _).symm.trans H; with_reducible exact H2_) | with_reducible exact H | (rw [hy313]; exact H) | exact H
              have Ny313 := Aside0.mk hy313
              clear hy313
              have H' := Aside0.mk H
              clear H
              have p307 : 0 ≤ (x66_3 : Int) := of_decide_eq_true tA
              have q307 : x66_3 < (l0_2.length : Int) := of_decide_eq_true tA
              obtain ⟨ad307, e307, hx307_0, hx307_1, hx307_2, hx307_3⟩ := at_T123 HR0_2.out x66_3 p307 q307
              cases e307
              replace hx307_0 := hbc HB hx307_0
              replace hx307_1 := hbc HB hx307_1
              replace hx307_2 := hbc HB hx307_2
              replace hx307_3 := hbc HB hx307_3
              replace p307 := eq_true p307
              replace q307 := eq_true q307
              go_wp2_with (first | ((with_reducible refine gate_dst (N := 14) rfl ?_); refine box_event ?hg (N := 14) ?hd (cs := #[.int .i64 0, .int .i64 0, .int .i64 0, .bool false]) (t := 123) ?hr ?_; (case hd => rfl); (case hg => rfl); (case hr => exact tG); intro gb308 hg w110 hbox hb; have n0_ := Aside0.mk (Kd.R_below (Kd.R_elderB (tR HO_306002) gb308 (Nat.le_of_eq hg.symm)) hb); have n1_ := Aside0.mk (Kd.R_below (Kd.R_elderB (tR HO_307002) gb308 (Nat.le_of_eq hg.symm)) hb); have n2_ := Aside0.mk (blk_below (g := gb281) (o := .cells #[.int .i64 a0_0, .int .i64 a0_1, .slice (some ad307) l0_2.length c0_2] 76 (0, 0)) (tK BK281) hb); have n3_ := Aside0.mk (blk_below (g := gb282) (o := .cells #[.int .i64 x283000_2, .int .i64 x283001_2, .slice none 0 0] 76 (0, 0)) (tK BK282) hb); have n4_ := Aside0.mk (blk_below (g := gb283) (o := .cells #[.int .i64 x284000_2, .int .i64 x284001_2, .slice none 0 0] 76 (0, 0)) (tK BK283) hb); have n5_ := Aside0.mk (blk_below (g := gb305) (o := .cells #[.int .i64 a0_0, .int .i64 a0_1, u306002] 76 (0, 0)) (tK BK305) hb); have n6_ := Aside0.mk (blk_below (g := gb306) (o := .cells #[.int .i64 a2, .int .i64 a0_1, u307002] 76 (0, 0)) (tK BK306) hb); have n7_ := Aside0.mk (below_step tB hb); have n8_ := Aside0.mk (hbox); have n9_ := Aside0.mk ((by rw [hg]; exact (below_size tB) : w.heap.size ≤ gb308)); have n10_ := Aside0.mk ((by rw [hg]; exact (below_size tB) : w.heap.size ≤ gb308)); have n11_ := Aside0.mk ((by rw [hg]; exact Nat.ne_of_lt (blk_lt (g := gb281) (o := .cells #[.int .i64 a0_0, .int .i64 a0_1, .slice (some ad307) l0_2.length c0_2] 76 (0, 0)) (tK BK281)) : gb281 ≠ gb308)); have n12_ := Aside0.mk ((by rw [hg]; exact Nat.ne_of_gt (blk_lt (g := gb281) (o := .cells #[.int .i64 a0_0, .int .i64 a0_1, .slice (some ad307) l0_2.length c0_2] 76 (0, 0)) (tK BK281)) : gb308 ≠ gb281)); have n13_ := Aside0.mk ((by rw [hg]; exact Nat.ne_of_lt (blk_lt (g := gb282) (o := .cells #[.int .i64 x283000_2, .int .i64 x283001_2, .slice none 0 0] 76 (0, 0)) (tK BK282)) : gb282 ≠ gb308)); have n14_ := Aside0.mk ((by rw [hg]; exact Nat.ne_of_gt (blk_lt (g := gb282) (o := .cells #[.int .i64 x283000_2, .int .i64 x283001_2, .slice none 0 0] 76 (0, 0)) (tK BK282)) : gb308 ≠ gb282)); have n15_ := Aside0.mk ((by rw [hg]; exact Nat.ne_of_lt (blk_lt (g := gb283) (o := .cells #[.int .i64 x284000_2, .int .i64 x284001_2, .slice none 0 0] 76 (0, 0)) (tK BK283)) : gb283 ≠ gb308)); have n16_ := Aside0.mk ((by rw [hg]; exact Nat.ne_of_gt (blk_lt (g := gb283) (o := .cells #[.int .i64 x284000_2, .int .i64 x284001_2, .slice none 0 0] 76 (0, 0)) (tK BK283)) : gb308 ≠ gb283)); have n17_ := Aside0.mk ((by rw [hg]; exact Nat.ne_of_lt (blk_lt (g := gb305) (o := .cells #[.int .i64 a0_0, .int .i64 a0_1, u306002] 76 (0, 0)) (tK BK305)) : gb305 ≠ gb308)); have n18_ := Aside0.mk ((by rw [hg]; exact Nat.ne_of_gt (blk_lt (g := gb305) (o := .cells #[.int .i64 a0_0, .int .i64 a0_1, u306002] 76 (0, 0)) (tK BK305)) : gb308 ≠ gb305)); have n19_ := Aside0.mk ((by rw [hg]; exact Nat.ne_of_lt (blk_lt (g := gb306) (o := .cells #[.int .i64 a2, .int .i64 a0_1, u307002] 76 (0, 0)) (tK BK306)) : gb306 ≠ gb308)); have n20_ := Aside0.mk ((by rw [hg]; exact Nat.ne_of_gt (blk_lt (g := gb306) (o := .cells #[.int .i64 a2, .int .i64 a0_1, u307002] 76 (0, 0)) (tK BK306)) : gb308 ≠ gb306)); clear HO_306002; clear HO_307002; clear BK281; clear BK282; clear BK283; clear BK305; clear BK306; clear HB; have HO_306002 := n0_; have HO_307002 := n1_; have BK281 := n2_; have BK282 := n3_; have BK283 := n4_; have BK305 := n5_; have BK306 := n6_; have HB := n7_; have BK308 := n8_; have GW308 := n9_; have GE308 := n10_; have NB281_308 := n11_; have NB308_281 := n12_; have NB282_308 := n13_; have NB308_282 := n14_; have NB283_308 := n15_; have NB308_283 := n16_; have NB305_308 := n17_; have NB308_305 := n18_; have NB306_308 := n19_; have NB308_306 := n20_; clear n0_ n1_ n2_ n3_ n4_ n5_ n6_ n7_ n8_ n9_ n10_ n11_ n12_ n13_ n14_ n15_ n16_ n17_ n18_ n19_ n20_; clear hb hbox hg; have hnb111 := NB308_281.out; have hnc111 := NB281_308.out; have hnb112 := NB308_282.out; have hnc112 := NB282_308.out; have hnb113 := NB308_283.out; have hnc113 := NB283_308.out; have hnb114 := NB308_305.out; have hnc114 := NB305_308.out; have hnb115 := NB308_306.out; have hnc115 := NB306_308.out; obtain ⟨hcz116_0, hcz116_1, hcz116_2, hcz116_3, hfz116_0, hfz116_1, hfz116_2, hfz116_3⟩ := bc4 BK308.out) | ((with_reducible refine gate_callee (f := 90) rfl ?_); refine goesL_ (some 73) rfl rfl Try.func90 (by kernel_rfl) rfl #[.slice A1 l1.length c1, .int .i64 ((rd_T123 l0_2 x66_3).f0)] rfl tL ?_; (with_reducible refine (impl_has.calls k3 _ _ l1 ((rd_T123 l0_2 x66_3).f0) false _ ?side1 ?side2 A91.out).mono ?_); (case side1 => exact Kd.C_below HR1.out tB); (case side2 => exact HC1.out); rintro e w' ⟨rfl, ⟨nd, rfl⟩⟩; refine ⟨_, rfl, ?_⟩; have hnb117 := NB305_281.out; have hnc117 := NB281_305.out; have hnb118 := NB305_282.out; have hnc118 := NB282_305.out; have hnb119 := NB305_283.out; have hnc119 := NB283_305.out; have hnb120 := NB305_306.out; have hnc120 := NB306_305.out; obtain ⟨hcz121_0, hcz121_1, hcz121_2, hfz121_0, hfz121_1, hfz121_2⟩ := bc3 BK305.out) | ((with_reducible refine gate_builtin (b := .append) (xs := #[.tmp 81, .tmp 83]) rfl ?_); at_builtin; refine Kd.R_append k123 (w0 := w) w.heap.size rfl (.tmp 81) (.tmp 83) 74 123 (.agg #[(.int .i64 0), (.int .i64 0), (.int .i64 0), (.bool false)]) 32 rfl Try.underlying74 info123 rfl (by decide) (by omega) u306002 x306002_3 (⟨(rd_T123 l0_2 x66_3).f0, (rd_T123 l0_2 x66_3).f1, (rd_T123 l0_2 x66_3).f2, (rd_T123 l0_2 x66_3).f3⟩ : S123) [.int .i64 ((rd_T123 l0_2 x66_3).f0), .int .i64 ((rd_T123 l0_2 x66_3).f1), .int .i64 ((rd_T123 l0_2 x66_3).f2), .bool ((rd_T123 l0_2 x66_3).f3)] (fun k_ => some k_ ≠ (u307002 : Value).ownBlock ∧ k_ ≠ gb308) (fun _ => False) rfl (by first | (go_simp; done) | (go_simp; rfl)) ?aP (fun _ hk => hk.elim) ?aF ?aO ?aB ?aS ?aL ?_; (case aP => exact k123_mkM _ _ _ (⟨(rd_T123 l0_2 x66_3).f0, (rd_T123 l0_2 x66_3).f1, (rd_T123 l0_2 x66_3).f2, (rd_T123 l0_2 x66_3).f3⟩ : S123)); (case aB => exact tB); (case aF => exact (fun k_ hk => ⟨Kd.fresh' (Kd.R_lt (by (with_reducible repeat (first | apply Kd.R_alloc | apply Kd.R_drewN | apply Kd.R_drew)); exact (Kd.R_mono (Kd.R_far (p := ⟨gb308, 3, none⟩) (Kd.R_far (p := ⟨gb308, 2, none⟩) (Kd.R_far (p := ⟨gb308, 1, none⟩) (Kd.R_far (p := ⟨gb308, 0, none⟩) (Kd.R_mono HO_307002.out (fun k_ hk => (⟨hk, hk.2⟩ : _ ∧ k_ ≠ gb308))) (fun _ hk => hk.2) (.int .i64 ((rd_T123 l0_2 x66_3).f0))) (fun _ hk => hk.2) (.int .i64 ((rd_T123 l0_2 x66_3).f1))) (fun _ hk => hk.2) (.int .i64 ((rd_T123 l0_2 x66_3).f2))) (fun _ hk => hk.2) (.bool ((rd_T123 l0_2 x66_3).f3))) (fun _ h_ => h_.1)))) k_ hk, Kd.freshB (g := gb308) (o := .cells #[.int .i64 ((rd_T123 l0_2 x66_3).f0), .int .i64 ((rd_T123 l0_2 x66_3).f1), .int .i64 ((rd_T123 l0_2 x66_3).f2), .bool ((rd_T123 l0_2 x66_3).f3)] 123 (0, 0)) (by (with_reducible repeat (first | refine blk_drewN ?_ _ | refine blk_drew ?_ | refine blk_alloc ?_ _)); refine blk_put (cs := #[.int .i64 ((rd_T123 l0_2 x66_3).f0), .int .i64 ((rd_T123 l0_2 x66_3).f1), .int .i64 ((rd_T123 l0_2 x66_3).f2), .bool false]) ?_ 3 _ rfl; (with_reducible repeat (first | refine blk_drewN ?_ _ | refine blk_drew ?_ | refine blk_alloc ?_ _)); refine blk_put (cs := #[.int .i64 ((rd_T123 l0_2 x66_3).f0), .int .i64 ((rd_T123 l0_2 x66_3).f1), .int .i64 0, .bool false]) ?_ 2 _ rfl; (with_reducible repeat (first | refine blk_drewN ?_ _ | refine blk_drew ?_ | refine blk_alloc ?_ _)); refine blk_put (cs := #[.int .i64 ((rd_T123 l0_2 x66_3).f0), .int .i64 0, .int .i64 0, .bool false]) ?_ 1 _ rfl; (with_reducible repeat (first | refine blk_drewN ?_ _ | refine blk_drew ?_ | refine blk_alloc ?_ _)); refine blk_put (cs := #[.int .i64 0, .int .i64 0, .int .i64 0, .bool false]) ?_ 0 _ rfl; (with_reducible repeat (first | refine blk_drewN ?_ _ | refine blk_drew ?_ | refine blk_alloc ?_ _)); exact BK308.out) k_ hk⟩)); (case aO => exact (by (with_reducible repeat (first | apply Kd.R_alloc | apply Kd.R_drewN | apply Kd.R_drew)); exact Kd.R_mono (Kd.R_far (p := ⟨gb308, 3, none⟩) (Kd.R_far (p := ⟨gb308, 2, none⟩) (Kd.R_far (p := ⟨gb308, 1, none⟩) (Kd.R_far (p := ⟨gb308, 0, none⟩) (Kd.R_mono HO_306002.out (fun k_ hk => (⟨hk, hk.2⟩ : _ ∧ k_ ≠ gb308))) (fun _ hk => hk.2) (.int .i64 ((rd_T123 l0_2 x66_3).f0))) (fun _ hk => hk.2) (.int .i64 ((rd_T123 l0_2 x66_3).f1))) (fun _ hk => hk.2) (.int .i64 ((rd_T123 l0_2 x66_3).f2))) (fun _ hk => hk.2) (.bool ((rd_T123 l0_2 x66_3).f3))) (fun _ hk => ⟨hk.1.1, hk.1.2⟩))); (case aS => exact (below_size tB)); (case aL => have := LMc109.out; omega); intro v314 w122 ho hb hg hat; rw [← Ny313.out] at ho; have n0_ := Aside0.mk (Kd.R_after (ok := (fun k_ => k_ ≠ gb308)) (by (with_reducible repeat (first | apply Kd.R_alloc | apply Kd.R_drewN | apply Kd.R_drew)); exact Kd.R_mono (Kd.R_far (p := ⟨gb308, 3, none⟩) (Kd.R_far (p := ⟨gb308, 2, none⟩) (Kd.R_far (p := ⟨gb308, 1, none⟩) (Kd.R_far (p := ⟨gb308, 0, none⟩) (Kd.R_mono HO_307002.out (fun k_ hk => (⟨hk, hk.2⟩ : _ ∧ k_ ≠ gb308))) (fun _ hk => hk.2) (.int .i64 ((rd_T123 l0_2 x66_3).f0))) (fun _ hk => hk.2) (.int .i64 ((rd_T123 l0_2 x66_3).f1))) (fun _ hk => hk.2) (.int .i64 ((rd_T123 l0_2 x66_3).f2))) (fun _ hk => hk.2) (.bool ((rd_T123 l0_2 x66_3).f3))) (fun _ hk => ⟨hk.1.2, hk.1.1⟩)) hg hat); have n1_ := Aside0.mk (blk_grown (g := gb281) (o := .cells #[.int .i64 a0_0, .int .i64 a0_1, .slice (some ad307) l0_2.length c0_2] 76 (0, 0)) (by (with_reducible repeat (first | refine blk_drewN ?_ _ | refine blk_drew ?_ | refine blk_alloc ?_ _)); refine blk_far ?_ NB281_308.out _; (with_reducible repeat (first | refine blk_drewN ?_ _ | refine blk_drew ?_ | refine blk_alloc ?_ _)); refine blk_far ?_ NB281_308.out _; (with_reducible repeat (first | refine blk_drewN ?_ _ | refine blk_drew ?_ | refine blk_alloc ?_ _)); refine blk_far ?_ NB281_308.out _; (with_reducible repeat (first | refine blk_drewN ?_ _ | refine blk_drew ?_ | refine blk_alloc ?_ _)); refine blk_far ?_ NB281_308.out _; (with_reducible repeat (first | refine blk_drewN ?_ _ | refine blk_drew ?_ | refine blk_alloc ?_ _)); exact BK281.out) hg (Kd.R_ne HO_306002.out BK281.out (by decide))); have n2_ := Aside0.mk (blk_grown (g := gb282) (o := .cells #[.int .i64 x283000_2, .int .i64 x283001_2, .slice none 0 0] 76 (0, 0)) (by (with_reducible repeat (first | refine blk_drewN ?_ _ | refine blk_drew ?_ | refine blk_alloc ?_ _)); refine blk_far ?_ NB282_308.out _; (with_reducible repeat (first | refine blk_drewN ?_ _ | refine blk_drew ?_ | refine blk_alloc ?_ _)); refine blk_far ?_ NB282_308.out _; (with_reducible repeat (first | refine blk_drewN ?_ _ | refine blk_drew ?_ | refine blk_alloc ?_ _)); refine blk_far ?_ NB282_308.out _; (with_reducible repeat (first | refine blk_drewN ?_ _ | refine blk_drew ?_ | refine blk_alloc ?_ _)); refine blk_far ?_ NB282_308.out _; (with_reducible repeat (first | refine blk_drewN ?_ _ | refine blk_drew ?_ | refine blk_alloc ?_ _)); exact BK282.out) hg (Kd.R_ne HO_306002.out BK282.out (by decide))); have n3_ := Aside0.mk (blk_grown (g := gb283) (o := .cells #[.int .i64 x284000_2, .int .i64 x284001_2, .slice none 0 0] 76 (0, 0)) (by (with_reducible repeat (first | refine blk_drewN ?_ _ | refine blk_drew ?_ | refine blk_alloc ?_ _)); refine blk_far ?_ NB283_308.out _; (with_reducible repeat (first | refine blk_drewN ?_ _ | refine blk_drew ?_ | refine blk_alloc ?_ _)); refine blk_far ?_ NB283_308.out _; (with_reducible repeat (first | refine blk_drewN ?_ _ | refine blk_drew ?_ | refine blk_alloc ?_ _)); refine blk_far ?_ NB283_308.out _; (with_reducible repeat (first | refine blk_drewN ?_ _ | refine blk_drew ?_ | refine blk_alloc ?_ _)); refine blk_far ?_ NB283_308.out _; (with_reducible repeat (first | refine blk_drewN ?_ _ | refine blk_drew ?_ | refine blk_alloc ?_ _)); exact BK283.out) hg (Kd.R_ne HO_306002.out BK283.out (by decide))); have n4_ := Aside0.mk (blk_grown (g := gb305) (o := .cells #[.int .i64 a0_0, .int .i64 a0_1, u306002] 76 (0, 0)) (by (with_reducible repeat (first | refine blk_drewN ?_ _ | refine blk_drew ?_ | refine blk_alloc ?_ _)); refine blk_far ?_ NB305_308.out _; (with_reducible repeat (first | refine blk_drewN ?_ _ | refine blk_drew ?_ | refine blk_alloc ?_ _)); refine blk_far ?_ NB305_308.out _; (with_reducible repeat (first | refine blk_drewN ?_ _ | refine blk_drew ?_ | refine blk_alloc ?_ _)); refine blk_far ?_ NB305_308.out _; (with_reducible repeat (first | refine blk_drewN ?_ _ | refine blk_drew ?_ | refine blk_alloc ?_ _)); refine blk_far ?_ NB305_308.out _; (with_reducible repeat (first | refine blk_drewN ?_ _ | refine blk_drew ?_ | refine blk_alloc ?_ _)); exact BK305.out) hg (Kd.R_ne HO_306002.out BK305.out (by decide))); have n5_ := Aside0.mk (blk_grown (g := gb306) (o := .cells #[.int .i64 a2, .int .i64 a0_1, u307002] 76 (0, 0)) (by (with_reducible repeat (first | refine blk_drewN ?_ _ | refine blk_drew ?_ | refine blk_alloc ?_ _)); refine blk_far ?_ NB306_308.out _; (with_reducible repeat (first | refine blk_drewN ?_ _ | refine blk_drew ?_ | refine blk_alloc ?_ _)); refine blk_far ?_ NB306_308.out _; (with_reducible repeat (first | refine blk_drewN ?_ _ | refine blk_drew ?_ | refine blk_alloc ?_ _)); refine blk_far ?_ NB306_308.out _; (with_reducible repeat (first | refine blk_drewN ?_ _ | refine blk_drew ?_ | refine blk_alloc ?_ _)); refine blk_far ?_ NB306_308.out _; (with_reducible repeat (first | refine blk_drewN ?_ _ | refine blk_drew ?_ | refine blk_alloc ?_ _)); exact BK306.out) hg (Kd.R_ne HO_306002.out BK306.out (by decide))); have n6_ := Aside0.mk (blk_grown (g := gb308) (o := .cells #[.int .i64 ((rd_T123 l0_2 x66_3).f0), .int .i64 ((rd_T123 l0_2 x66_3).f1), .int .i64 ((rd_T123 l0_2 x66_3).f2), .bool ((rd_T123 l0_2 x66_3).f3)] 123 (0, 0)) (by (with_reducible repeat (first | refine blk_drewN ?_ _ | refine blk_drew ?_ | refine blk_alloc ?_ _)); refine blk_put (cs := #[.int .i64 ((rd_T123 l0_2 x66_3).f0), .int .i64 ((rd_T123 l0_2 x66_3).f1), .int .i64 ((rd_T123 l0_2 x66_3).f2), .bool false]) ?_ 3 _ rfl; (with_reducible repeat (first | refine blk_drewN ?_ _ | refine blk_drew ?_ | refine blk_alloc ?_ _)); refine blk_put (cs := #[.int .i64 ((rd_T123 l0_2 x66_3).f0), .int .i64 ((rd_T123 l0_2 x66_3).f1), .int .i64 0, .bool false]) ?_ 2 _ rfl; (with_reducible repeat (first | refine blk_drewN ?_ _ | refine blk_drew ?_ | refine blk_alloc ?_ _)); refine blk_put (cs := #[.int .i64 ((rd_T123 l0_2 x66_3).f0), .int .i64 0, .int .i64 0, .bool false]) ?_ 1 _ rfl; (with_reducible repeat (first | refine blk_drewN ?_ _ | refine blk_drew ?_ | refine blk_alloc ?_ _)); refine blk_put (cs := #[.int .i64 0, .int .i64 0, .int .i64 0, .bool false]) ?_ 0 _ rfl; (with_reducible repeat (first | refine blk_drewN ?_ _ | refine blk_drew ?_ | refine blk_alloc ?_ _)); exact BK308.out) hg (Kd.R_away HO_306002.out (fun _ hk => hk.2))); have n7_ := Aside0.mk (hb); have n8_ := Aside0.mk (ho); clear HO_307002; clear BK281; clear BK282; clear BK283; clear BK305; clear BK306; clear BK308; clear HB; clear HO_306002; have HO_307002 := n0_; have BK281 := n1_; have BK282 := n2_; have BK283 := n3_; have BK305 := n4_; have BK306 := n5_; have BK308 := n6_; have HB := n7_; have HO315 := n8_; clear n0_ n1_ n2_ n3_ n4_ n5_ n6_ n7_ n8_; clear ho hb hg hat; obtain ⟨Ao123, co123, eo123⟩ := Kd.R_slice HO315.out; subst eo123; obtain ⟨hcz124_0, hcz124_1, hcz124_2, hfz124_0, hfz124_1, hfz124_2⟩ := bc3 BK305.out))
              go_roundg k3
              case measure => have := HJ3.out; have := HK2.out; have := HK3.out; omega
              case rel => exact ⟨(wrap64 (x66_3 + 1)), (y313), (x307002_3), (.slice Ao123 y313.length co123), (u307002), tS, H', ⟨by have := HJ3.out; have := HK2.out; have := HK3.out; omega⟩, ⟨by (with_reducible repeat (first | apply Kd.R_alloc | apply Kd.R_drewN | apply Kd.R_drew)); exact Kd.R_mono (Kd.R_far (p := ⟨gb305, 2, none⟩) (Kd.R_types HO315.out BK305.out (by decide)) (fun _ hk => hk.2) (.slice Ao123 y313.length co123)) (fun _ hk => hk.1.1)⟩, ⟨by (with_reducible repeat (first | apply Kd.R_alloc | apply Kd.R_drewN | apply Kd.R_drew)); exact Kd.R_mono (Kd.R_far (p := ⟨gb305, 2, none⟩) (Kd.R_types HO_307002.out BK305.out (by decide)) (fun _ hk => hk.2) (.slice Ao123 y313.length co123)) (fun _ hk => hk.1.2)⟩, ⟨by (with_reducible repeat (first | refine blk_drewN ?_ _ | refine blk_drew ?_ | refine blk_alloc ?_ _)); refine blk_far ?_ NB281_305.out _; (with_reducible repeat (first | refine blk_drewN ?_ _ | refine blk_drew ?_ | refine blk_alloc ?_ _)); exact BK281.out⟩, ⟨by (with_reducible repeat (first | refine blk_drewN ?_ _ | refine blk_drew ?_ | refine blk_alloc ?_ _)); refine blk_far ?_ NB282_305.out _; (with_reducible repeat (first | refine blk_drewN ?_ _ | refine blk_drew ?_ | refine blk_alloc ?_ _)); exact BK282.out⟩, ⟨by (with_reducible repeat (first | refine blk_drewN ?_ _ | refine blk_drew ?_ | refine blk_alloc ?_ _)); refine blk_far ?_ NB283_305.out _; (with_reducible repeat (first | refine blk_drewN ?_ _ | refine blk_drew ?_ | refine blk_alloc ?_ _)); exact BK283.out⟩, ⟨by (with_reducible repeat (first | refine blk_drewN ?_ _ | refine blk_drew ?_ | refine blk_alloc ?_ _)); refine blk_put (cs := #[.int .i64 a0_0, .int .i64 a0_1, u306002]) ?_ 2 _ rfl; (with_reducible repeat (first | refine blk_drewN ?_ _ | refine blk_drew ?_ | refine blk_alloc ?_ _)); exact BK305.out⟩, ⟨by (with_reducible repeat (first | refine blk_drewN ?_ _ | refine blk_drew ?_ | refine blk_alloc ?_ _)); refine blk_far ?_ NB306_305.out _; (with_reducible repeat (first | refine blk_drewN ?_ _ | refine blk_drew ?_ | refine blk_alloc ?_ _)); exact BK306.out⟩, ⟨tB⟩⟩
             ·rw [if_neg c109] at H
              exact absurd H (by simp)
           ·rw [if_neg c90] at H
            exact absurd H (by simp)
          ·rw [if_neg c89] at H
           exact absurd H (by simp)
         ·rw [if_neg c88] at H
          have c88b0 : decide (x66_3 < (l0_2.length : Int)) = false := decide_eq_false c88
          clear c88
          replace H := Option.bind_eq_some_iff.mp H
          obtain ⟨t316, A1250, H⟩ := H
          replace H : (if t316 = true then ((impl_live.f k3 a2 a0_1 x307002_3).bind fun t317 => (if t317 = true then (some (a0_0, a0_1, x306002_3, a2, a0_1, x307002_3, true)) else ((impl_copyAccount.f a0_0 a0_1 l0_2).bind fun bt318 => (some (bt318.1, bt318.2.1, bt318.2.2, 0, 0, ([] : List (S123)), false))))) else ((impl_copyAccount.f a0_0 a0_1 l0_2).bind fun bt323 => (some (bt323.1, bt323.2.1, bt323.2.2, 0, 0, ([] : List (S123)), false)))) = some (r1, r2, r3, r4, r5, r6, r7) := H
          have A125 := Aside0.mk A1250
          clear A1250
          by_cases c126 : t316 = true
          ·subst c126
           have H1 : ((impl_live.f k3 a2 a0_1 x307002_3).bind fun t317 => (if t317 = true then (some (a0_0, a0_1, x306002_3, a2, a0_1, x307002_3, true)) else ((impl_copyAccount.f a0_0 a0_1 l0_2).bind fun bt318 => (some (bt318.1, bt318.2.1, bt318.2.2, 0, 0, ([] : List (S123)), false))))) = some (r1, r2, r3, r4, r5, r6, r7) := by rw [if_pos rfl] at H; exact H
           clear H
           have H := H1
           clear H1
           replace H := Option.bind_eq_some_iff.mp H
           obtain ⟨t317, A1270, H⟩ := H
           replace H : (if t317 = true then (some (a0_0, a0_1, x306002_3, a2, a0_1, x307002_3, true)) else ((impl_copyAccount.f a0_0 a0_1 l0_2).bind fun bt318 => (some (bt318.1, bt318.2.1, bt318.2.2, 0, 0, ([] : List (S123)), false)))) = some (r1, r2, r3, r4, r5, r6, r7) := H
           have A127 := Aside0.mk A1270
           clear A1270
           by_cases c128 : t317 = true
           ·subst c128
            have H1 : (some (a0_0, a0_1, x306002_3, a2, a0_1, x307002_3, true)) = some (r1, r2, r3, r4, r5, r6, r7) := by rw [if_pos rfl] at H; exact H
            clear H
            have H := H1
            clear H1
            simp only [Option.some.injEq, Prod.mk.injEq] at H
            obtain ⟨rfl, rfl, rfl, rfl, rfl, rfl, rfl⟩ := H
            have hnb129 := NB305_281.out
            have hnc129 := NB281_305.out
            have hnb130 := NB305_282.out
            have hnc130 := NB282_305.out
            have hnb131 := NB305_283.out
            have hnc131 := NB283_305.out
            have hnb132 := NB305_306.out
            have hnc132 := NB306_305.out
            obtain ⟨hcz133_0, hcz133_1, hcz133_2, hfz133_0, hfz133_1, hfz133_2⟩ := bc3 BK305.out
            obtain ⟨Ao134, co134, eo134⟩ := Kd.R_slice HO_306002.out
            subst eo134
            try go_wp2_with (first | ((with_reducible refine gate_callee (f := 117) rfl ?_); refine goesL_ (some 88) rfl rfl Try.func117 (by kernel_rfl) rfl #[.agg #[.int .i64 a0_0, .int .i64 a0_1, .slice Ao134 x306002_3.length co134]] rfl tL ?_; (with_reducible refine (impl_live.calls k3 a0_0 a0_1 _ _ x306002_3 true _ ?side1 ?side2 A125.out).mono ?_); (case side1 => repeat (first | exact (Kd.R_reads' HO_306002.out).2.2 | (with_reducible refine Kd.C_alloc ?_ _) | (with_reducible refine Kd.C_drewN ?_ _) | (with_reducible refine Kd.C_drew ?_))); (case side2 => exact (Kd.R_reads' HO_306002.out).2.1); rintro e w135 ⟨rfl, hb⟩; refine ⟨_, rfl, ?_⟩; have n0_ := Aside0.mk (Kd.R_below (tR HO_306002) hb); have n1_ := Aside0.mk (Kd.R_below (tR HO_307002) hb); have n2_ := Aside0.mk (blk_below (g := gb281) (o := .cells #[.int .i64 a0_0, .int .i64 a0_1, .slice A0_2 l0_2.length c0_2] 76 (0, 0)) (tK BK281) hb); have n3_ := Aside0.mk (blk_below (g := gb282) (o := .cells #[.int .i64 x283000_2, .int .i64 x283001_2, .slice none 0 0] 76 (0, 0)) (tK BK282) hb); have n4_ := Aside0.mk (blk_below (g := gb283) (o := .cells #[.int .i64 x284000_2, .int .i64 x284001_2, .slice none 0 0] 76 (0, 0)) (tK BK283) hb); have n5_ := Aside0.mk (blk_below (g := gb305) (o := .cells #[.int .i64 a0_0, .int .i64 a0_1, .slice Ao134 x306002_3.length co134] 76 (0, 0)) (tK BK305) hb); have n6_ := Aside0.mk (blk_below (g := gb306) (o := .cells #[.int .i64 a2, .int .i64 a0_1, u307002] 76 (0, 0)) (tK BK306) hb); have n7_ := Aside0.mk (below_step tB hb); clear HO_306002; clear HO_307002; clear BK281; clear BK282; clear BK283; clear BK305; clear BK306; clear HB; have HO_306002 := n0_; have HO_307002 := n1_; have BK281 := n2_; have BK282 := n3_; have BK283 := n4_; have BK305 := n5_; have BK306 := n6_; have HB := n7_; clear n0_ n1_ n2_ n3_ n4_ n5_ n6_ n7_; (try clear hb); (try clear hb2); (try clear hk); (try clear hi); have hnb136 := NB306_281.out; have hnc136 := NB281_306.out; have hnb137 := NB306_282.out; have hnc137 := NB282_306.out; have hnb138 := NB306_283.out; have hnc138 := NB283_306.out; obtain ⟨hcz139_0, hcz139_1, hcz139_2, hfz139_0, hfz139_1, hfz139_2⟩ := bc3 BK306.out; obtain ⟨Ao140, co140, eo140⟩ := Kd.R_slice HO_307002.out; subst eo140) | (go_at_call 117; (with_reducible refine (impl_live.calls k3 a2 a0_1 _ _ x307002_3 true _ ?side1 ?side2 A127.out).mono ?_); (case side1 => repeat (first | exact (Kd.R_reads' HO_307002.out).2.2 | (with_reducible refine Kd.C_alloc ?_ _) | (with_reducible refine Kd.C_drewN ?_ _) | (with_reducible refine Kd.C_drew ?_))); (case side2 => exact (Kd.R_reads' HO_307002.out).2.1); rintro e w141 ⟨rfl, hb⟩; have n0_ := Aside0.mk (Kd.R_below (tR HO_306002) hb); have n1_ := Aside0.mk (Kd.R_below (tR HO_307002) hb); have n2_ := Aside0.mk (blk_below (g := gb281) (o := .cells #[.int .i64 a0_0, .int .i64 a0_1, .slice A0_2 l0_2.length c0_2] 76 (0, 0)) (tK BK281) hb); have n3_ := Aside0.mk (blk_below (g := gb282) (o := .cells #[.int .i64 x283000_2, .int .i64 x283001_2, .slice none 0 0] 76 (0, 0)) (tK BK282) hb); have n4_ := Aside0.mk (blk_below (g := gb283) (o := .cells #[.int .i64 x284000_2, .int .i64 x284001_2, .slice none 0 0] 76 (0, 0)) (tK BK283) hb); have n5_ := Aside0.mk (blk_below (g := gb305) (o := .cells #[.int .i64 a0_0, .int .i64 a0_1, .slice Ao134 x306002_3.length co134] 76 (0, 0)) (tK BK305) hb); have n6_ := Aside0.mk (blk_below (g := gb306) (o := .cells #[.int .i64 a2, .int .i64 a0_1, .slice Ao140 x307002_3.length co140] 76 (0, 0)) (tK BK306) hb); have n7_ := Aside0.mk (below_step tB hb); clear HO_306002; clear HO_307002; clear BK281; clear BK282; clear BK283; clear BK305; clear BK306; clear HB; have HO_306002 := n0_; have HO_307002 := n1_; have BK281 := n2_; have BK282 := n3_; have BK283 := n4_; have BK305 := n5_; have BK306 := n6_; have HB := n7_; clear n0_ n1_ n2_ n3_ n4_ n5_ n6_ n7_; (try clear hb); (try clear hb2); (try clear hk); (try clear hi)))
            have n0_ := Aside0.mk (Kd.R_drew HO_306002.out)
            have n1_ := Aside0.mk (Kd.R_drew HO_307002.out)
            have n2_ := Aside0.mk (blk_drew BK281.out)
            have n3_ := Aside0.mk (blk_drew BK282.out)
            have n4_ := Aside0.mk (blk_drew BK283.out)
            have n5_ := Aside0.mk (blk_drew BK305.out)
            have n6_ := Aside0.mk (blk_drew BK306.out)
            have n7_ := Aside0.mk (below_drew1 HB.out)
            clear HO_306002
            clear HO_307002
            clear BK281
            clear BK282
            clear BK283
            clear BK305
            clear BK306
            clear HB
            have HO_306002 := n0_
            have HO_307002 := n1_
            have BK281 := n2_
            have BK282 := n3_
            have BK283 := n4_
            have BK305 := n5_
            have BK306 := n6_
            have HB := n7_
            clear n0_ n1_ n2_ n3_ n4_ n5_ n6_ n7_
            refine start_ (n := 5) (S := fun w' => w'.cell? ⟨gb305, 0, none⟩ = some (.int .i64 a0_0) ∧ w'.cell? ⟨gb305, 1, none⟩ = some (.int .i64 a0_1) ∧ w'.cell? ⟨gb305, 2, none⟩ = some (.slice Ao134 x306002_3.length co134) ∧ w'.cell? ⟨gb306, 0, none⟩ = some (.int .i64 a2) ∧ w'.cell? ⟨gb306, 1, none⟩ = some (.int .i64 a0_1) ∧ w'.cell? ⟨gb306, 2, none⟩ = some (.slice Ao140 x307002_3.length co140)) (ds := []) #[false, false, false, false, false] (by kernel_rfl) rfl rfl ⟨(blk_cell BK305.out 0).trans rfl, (blk_cell BK305.out 1).trans rfl, (blk_cell BK305.out 2).trans rfl, (blk_cell BK306.out 0).trans rfl, (blk_cell BK306.out 1).trans rfl, (blk_cell BK306.out 2).trans rfl⟩ (fun hHeld => ?_)
            generalize w141.drew = w142 at HO_306002 HO_307002 BK281 BK282 BK283 BK305 BK306 HB hHeld ⊢
            refine take_ (i := 0) (N := some 98) (v := ?_) (a' := ?_) #[true, false, false, false, false] rfl rfl (by kernel_rfl) (fun _ _ _ h => h) (Or.inl ⟨by rfl, ?_⟩) hHeld ?_ ?_
            rotate_left
            ·rintro w' ⟨s0, s1, s2, s3, s4, s5⟩
             go_simp
             with_reducible rfl
            rotate_left
            ·simp only [Act.put, List.setIfInBounds_toArray, List.set_cons_zero, List.set_cons_succ, i64_w, i32_w]
             rfl
            refine take_ (i := 1) (N := some 99) (v := ?_) (a' := ?_) #[true, true, false, false, false] rfl rfl (by kernel_rfl) (fun _ _ _ h => h) (Or.inl ⟨by rfl, ?_⟩) hHeld ?_ ?_
            rotate_left
            ·rintro w' ⟨s0, s1, s2, s3, s4, s5⟩
             go_simp
             with_reducible rfl
            rotate_left
            ·simp only [Act.put, List.setIfInBounds_toArray, List.set_cons_zero, List.set_cons_succ, i64_w, i32_w]
             rfl
            refine one_ (i := 2) (N := none) #[true, true, true, false, false] rfl rfl (by kernel_rfl) (by decide) (fun K hK => ?_)
            have hs143 : w142.cell? ⟨gb282, 0, none⟩ = some (.int .i64 x283000_2) := (blk_cell BK282.out 0).trans rfl
            have hfs143 := blk_frozen BK282.out 0
            have hns143_0 := NB281_282.out
            have hns143_2 := NB283_282.out
            have hns143_3 := NB305_282.out
            have hns143_4 := NB306_282.out
            have hms143_0 := NB282_281.out
            have hms143_2 := NB282_283.out
            have hms143_3 := NB282_305.out
            have hms143_4 := NB282_306.out
            have hs144 : w142.cell? ⟨gb282, 1, none⟩ = some (.int .i64 x283001_2) := (blk_cell BK282.out 1).trans rfl
            have hfs144 := blk_frozen BK282.out 1
            have hns144_0 := NB281_282.out
            have hns144_2 := NB283_282.out
            have hns144_3 := NB305_282.out
            have hns144_4 := NB306_282.out
            have hms144_0 := NB282_281.out
            have hms144_2 := NB282_283.out
            have hms144_3 := NB282_305.out
            have hms144_4 := NB282_306.out
            have hs145 : w142.cell? ⟨gb282, 2, none⟩ = some (.slice none 0 0) := (blk_cell BK282.out 2).trans rfl
            have hfs145 := blk_frozen BK282.out 2
            have hns145_0 := NB281_282.out
            have hns145_2 := NB283_282.out
            have hns145_3 := NB305_282.out
            have hns145_4 := NB306_282.out
            have hms145_0 := NB282_281.out
            have hms145_2 := NB282_283.out
            have hms145_3 := NB282_305.out
            have hms145_4 := NB282_306.out
            refine skip_ (w1 := ?_) (by rfl) rfl ?_ ?_
            rotate_left
            ·go_simp
             rfl
            refine hK.out _ _ ⟨((cell_far (p := ⟨gb282, _, none⟩) NB305_282.out _).trans (((cell_far (p := ⟨gb282, _, none⟩) NB305_282.out _).trans (((cell_far (p := ⟨gb282, _, none⟩) NB305_282.out _).trans (hHeld.1)))))), ((cell_far (p := ⟨gb282, _, none⟩) NB305_282.out _).trans (((cell_far (p := ⟨gb282, _, none⟩) NB305_282.out _).trans (((cell_far (p := ⟨gb282, _, none⟩) NB305_282.out _).trans (hHeld.2.1)))))), ((cell_far (p := ⟨gb282, _, none⟩) NB305_282.out _).trans (((cell_far (p := ⟨gb282, _, none⟩) NB305_282.out _).trans (((cell_far (p := ⟨gb282, _, none⟩) NB305_282.out _).trans (hHeld.2.2.1)))))), ((cell_far (p := ⟨gb282, _, none⟩) NB306_282.out _).trans (((cell_far (p := ⟨gb282, _, none⟩) NB306_282.out _).trans (((cell_far (p := ⟨gb282, _, none⟩) NB306_282.out _).trans (hHeld.2.2.2.1)))))), ((cell_far (p := ⟨gb282, _, none⟩) NB306_282.out _).trans (((cell_far (p := ⟨gb282, _, none⟩) NB306_282.out _).trans (((cell_far (p := ⟨gb282, _, none⟩) NB306_282.out _).trans (hHeld.2.2.2.2.1)))))), ((cell_far (p := ⟨gb282, _, none⟩) NB306_282.out _).trans (((cell_far (p := ⟨gb282, _, none⟩) NB306_282.out _).trans (((cell_far (p := ⟨gb282, _, none⟩) NB306_282.out _).trans (hHeld.2.2.2.2.2))))))⟩ (fun hHeld => ?_)
            clear hK K
            refine one_ (i := 3) (N := none) #[true, true, true, true, false] rfl rfl (by kernel_rfl) (by decide) (fun K hK => ?_)
            have hs146 : w142.cell? ⟨gb283, 0, none⟩ = some (.int .i64 x284000_2) := (blk_cell BK283.out 0).trans rfl
            have hfs146 := blk_frozen BK283.out 0
            have hns146_0 := NB281_283.out
            have hns146_1 := NB282_283.out
            have hns146_3 := NB305_283.out
            have hns146_4 := NB306_283.out
            have hms146_0 := NB283_281.out
            have hms146_1 := NB283_282.out
            have hms146_3 := NB283_305.out
            have hms146_4 := NB283_306.out
            have hs147 : w142.cell? ⟨gb283, 1, none⟩ = some (.int .i64 x284001_2) := (blk_cell BK283.out 1).trans rfl
            have hfs147 := blk_frozen BK283.out 1
            have hns147_0 := NB281_283.out
            have hns147_1 := NB282_283.out
            have hns147_3 := NB305_283.out
            have hns147_4 := NB306_283.out
            have hms147_0 := NB283_281.out
            have hms147_1 := NB283_282.out
            have hms147_3 := NB283_305.out
            have hms147_4 := NB283_306.out
            have hs148 : w142.cell? ⟨gb283, 2, none⟩ = some (.slice none 0 0) := (blk_cell BK283.out 2).trans rfl
            have hfs148 := blk_frozen BK283.out 2
            have hns148_0 := NB281_283.out
            have hns148_1 := NB282_283.out
            have hns148_3 := NB305_283.out
            have hns148_4 := NB306_283.out
            have hms148_0 := NB283_281.out
            have hms148_1 := NB283_282.out
            have hms148_3 := NB283_305.out
            have hms148_4 := NB283_306.out
            refine skip_ (w1 := ?_) (by rfl) rfl ?_ ?_
            rotate_left
            ·go_simp
             rfl
            refine hK.out _ _ ⟨((cell_far (p := ⟨gb283, _, none⟩) NB305_283.out _).trans (((cell_far (p := ⟨gb283, _, none⟩) NB305_283.out _).trans (((cell_far (p := ⟨gb283, _, none⟩) NB305_283.out _).trans (hHeld.1)))))), ((cell_far (p := ⟨gb283, _, none⟩) NB305_283.out _).trans (((cell_far (p := ⟨gb283, _, none⟩) NB305_283.out _).trans (((cell_far (p := ⟨gb283, _, none⟩) NB305_283.out _).trans (hHeld.2.1)))))), ((cell_far (p := ⟨gb283, _, none⟩) NB305_283.out _).trans (((cell_far (p := ⟨gb283, _, none⟩) NB305_283.out _).trans (((cell_far (p := ⟨gb283, _, none⟩) NB305_283.out _).trans (hHeld.2.2.1)))))), ((cell_far (p := ⟨gb283, _, none⟩) NB306_283.out _).trans (((cell_far (p := ⟨gb283, _, none⟩) NB306_283.out _).trans (((cell_far (p := ⟨gb283, _, none⟩) NB306_283.out _).trans (hHeld.2.2.2.1)))))), ((cell_far (p := ⟨gb283, _, none⟩) NB306_283.out _).trans (((cell_far (p := ⟨gb283, _, none⟩) NB306_283.out _).trans (((cell_far (p := ⟨gb283, _, none⟩) NB306_283.out _).trans (hHeld.2.2.2.2.1)))))), ((cell_far (p := ⟨gb283, _, none⟩) NB306_283.out _).trans (((cell_far (p := ⟨gb283, _, none⟩) NB306_283.out _).trans (((cell_far (p := ⟨gb283, _, none⟩) NB306_283.out _).trans (hHeld.2.2.2.2.2))))))⟩ (fun hHeld => ?_)
            clear hK K
            refine pure_ (i := 4) (N := some 8) (v := ?_) (a' := ?_) #[true, true, true, true, true] rfl rfl (by kernel_rfl) (fun _ _ _ h => h) (Or.inl ⟨by rfl, ?_⟩) ?_ ?_
            rotate_left
            ·intro w'
             go_simp
             with_reducible rfl
            rotate_left
            ·simp only [Act.put, List.setIfInBounds_toArray, List.set_cons_zero, List.set_cons_succ, i64_w, i32_w]
             rfl
            refine done_ (by kernel_rfl) ?_
            try go_wp2
            refine bodyPost_ret (results_list (rs := [.cell 6 76, .cell 7 76, .tmp 8]) rfl (by simp) (.cell gb282 76 #[.int .i64 a0_0, .int .i64 a0_1, .slice Ao134 x306002_3.length co134] (0, 0) _ rfl (by (with_reducible repeat (first | refine blk_drewN ?_ _ | refine blk_drew ?_ | refine blk_alloc ?_ _)); refine blk_far ?_ NB282_283.out _; (with_reducible repeat (first | refine blk_drewN ?_ _ | refine blk_drew ?_ | refine blk_alloc ?_ _)); refine blk_far ?_ NB282_283.out _; (with_reducible repeat (first | refine blk_drewN ?_ _ | refine blk_drew ?_ | refine blk_alloc ?_ _)); refine blk_far ?_ NB282_283.out _; (with_reducible repeat (first | refine blk_drewN ?_ _ | refine blk_drew ?_ | refine blk_alloc ?_ _)); refine blk_put (cs := #[.int .i64 a0_0, .int .i64 a0_1, .slice none 0 0]) ?_ 2 _ rfl; (with_reducible repeat (first | refine blk_drewN ?_ _ | refine blk_drew ?_ | refine blk_alloc ?_ _)); refine blk_put (cs := #[.int .i64 a0_0, .int .i64 x283001_2, .slice none 0 0]) ?_ 1 _ rfl; (with_reducible repeat (first | refine blk_drewN ?_ _ | refine blk_drew ?_ | refine blk_alloc ?_ _)); refine blk_put (cs := #[.int .i64 x283000_2, .int .i64 x283001_2, .slice none 0 0]) ?_ 0 _ rfl; (with_reducible repeat (first | refine blk_drewN ?_ _ | refine blk_drew ?_ | refine blk_alloc ?_ _)); exact BK282.out) Try.underlying76 rfl (by kernel_rfl) (.cell gb283 76 #[.int .i64 a2, .int .i64 a0_1, .slice Ao140 x307002_3.length co140] (0, 0) _ rfl (by (with_reducible repeat (first | refine blk_drewN ?_ _ | refine blk_drew ?_ | refine blk_alloc ?_ _)); refine blk_put (cs := #[.int .i64 a2, .int .i64 a0_1, .slice none 0 0]) ?_ 2 _ rfl; (with_reducible repeat (first | refine blk_drewN ?_ _ | refine blk_drew ?_ | refine blk_alloc ?_ _)); refine blk_put (cs := #[.int .i64 a2, .int .i64 x284001_2, .slice none 0 0]) ?_ 1 _ rfl; (with_reducible repeat (first | refine blk_drewN ?_ _ | refine blk_drew ?_ | refine blk_alloc ?_ _)); refine blk_put (cs := #[.int .i64 x284000_2, .int .i64 x284001_2, .slice none 0 0]) ?_ 0 _ rfl; (with_reducible repeat (first | refine blk_drewN ?_ _ | refine blk_drew ?_ | refine blk_alloc ?_ _)); refine blk_far ?_ NB283_282.out _; (with_reducible repeat (first | refine blk_drewN ?_ _ | refine blk_drew ?_ | refine blk_alloc ?_ _)); refine blk_far ?_ NB283_282.out _; (with_reducible repeat (first | refine blk_drewN ?_ _ | refine blk_drew ?_ | refine blk_alloc ?_ _)); refine blk_far ?_ NB283_282.out _; (with_reducible repeat (first | refine blk_drewN ?_ _ | refine blk_drew ?_ | refine blk_alloc ?_ _)); exact BK283.out) Try.underlying76 rfl (by kernel_rfl) (.tmp .nil)))) rfl ?_
            exact ⟨_, _, tE, by (with_reducible repeat (first | apply Kd.R_alloc | apply Kd.R_drewN | apply Kd.R_drew)); exact Kd.R_mono (Kd.R_far (p := ⟨gb283, 2, none⟩) (Kd.R_far (p := ⟨gb283, 1, none⟩) (Kd.R_far (p := ⟨gb283, 0, none⟩) (Kd.R_far (p := ⟨gb282, 2, none⟩) (Kd.R_far (p := ⟨gb282, 1, none⟩) (Kd.R_far (p := ⟨gb282, 0, none⟩) (Kd.R_types (Kd.R_types HO_306002.out BK282.out (by decide)) BK283.out (by decide)) (fun _ hk => hk.1.2) (.int .i64 a0_0)) (fun _ hk => hk.1.2) (.int .i64 a0_1)) (fun _ hk => hk.1.2) (.slice Ao134 x306002_3.length co134)) (fun _ hk => hk.2) (.int .i64 a2)) (fun _ hk => hk.2) (.int .i64 a0_1)) (fun _ hk => hk.2) (.slice Ao140 x307002_3.length co140)) (fun _ hk => hk.1.1), by (with_reducible repeat (first | apply Kd.R_alloc | apply Kd.R_drewN | apply Kd.R_drew)); exact Kd.R_mono (Kd.R_far (p := ⟨gb283, 2, none⟩) (Kd.R_far (p := ⟨gb283, 1, none⟩) (Kd.R_far (p := ⟨gb283, 0, none⟩) (Kd.R_far (p := ⟨gb282, 2, none⟩) (Kd.R_far (p := ⟨gb282, 1, none⟩) (Kd.R_far (p := ⟨gb282, 0, none⟩) (Kd.R_types (Kd.R_types HO_307002.out BK282.out (by decide)) BK283.out (by decide)) (fun _ hk => hk.1.2) (.int .i64 a0_0)) (fun _ hk => hk.1.2) (.int .i64 a0_1)) (fun _ hk => hk.1.2) (.slice Ao134 x306002_3.length co134)) (fun _ hk => hk.2) (.int .i64 a2)) (fun _ hk => hk.2) (.int .i64 a0_1)) (fun _ hk => hk.2) (.slice Ao140 x307002_3.length co140)) (fun _ hk => hk.1.1), tB⟩
           ·replace c128 := Bool.eq_false_iff.mpr c128
            subst c128
            have H1 : ((impl_copyAccount.f a0_0 a0_1 l0_2).bind fun bt318 => (some (bt318.1, bt318.2.1, bt318.2.2, 0, 0, ([] : List (S123)), false))) = some (r1, r2, r3, r4, r5, r6, r7) := by rw [if_neg (show ¬ (false = true) by decide)] at H; exact H
            clear H
            have H := H1
            clear H1
            replace H := Option.bind_eq_some_iff.mp H
            obtain ⟨⟨t318, t319, t320⟩, A1490, H⟩ := H
            replace H : (some (t318, t319, t320, 0, 0, ([] : List (S123)), false)) = some (r1, r2, r3, r4, r5, r6, r7) := H
            have A149 := Aside0.mk A1490
            clear A1490
            simp only [Option.some.injEq, Prod.mk.injEq] at H
            obtain ⟨rfl, rfl, rfl, rfl, rfl, rfl, rfl⟩ := H
            have hnb150 := NB305_281.out
            have hnc150 := NB281_305.out
            have hnb151 := NB305_282.out
            have hnc151 := NB282_305.out
            have hnb152 := NB305_283.out
            have hnc152 := NB283_305.out
            have hnb153 := NB305_306.out
            have hnc153 := NB306_305.out
            obtain ⟨hcz154_0, hcz154_1, hcz154_2, hfz154_0, hfz154_1, hfz154_2⟩ := bc3 BK305.out
            obtain ⟨Ao155, co155, eo155⟩ := Kd.R_slice HO_306002.out
            subst eo155
            go_wp2_with (first | ((with_reducible refine gate_callee (f := 117) rfl ?_); refine goesL_ (some 88) rfl rfl Try.func117 (by kernel_rfl) rfl #[.agg #[.int .i64 a0_0, .int .i64 a0_1, .slice Ao155 x306002_3.length co155]] rfl tL ?_; (with_reducible refine (impl_live.calls k3 a0_0 a0_1 _ _ x306002_3 true _ ?side1 ?side2 A125.out).mono ?_); (case side1 => repeat (first | exact (Kd.R_reads' HO_306002.out).2.2 | (with_reducible refine Kd.C_alloc ?_ _) | (with_reducible refine Kd.C_drewN ?_ _) | (with_reducible refine Kd.C_drew ?_))); (case side2 => exact (Kd.R_reads' HO_306002.out).2.1); rintro e w156 ⟨rfl, hb⟩; refine ⟨_, rfl, ?_⟩; have n0_ := Aside0.mk (Kd.R_below (tR HO_306002) hb); have n1_ := Aside0.mk (Kd.R_below (tR HO_307002) hb); have n2_ := Aside0.mk (blk_below (g := gb281) (o := .cells #[.int .i64 a0_0, .int .i64 a0_1, .slice A0_2 l0_2.length c0_2] 76 (0, 0)) (tK BK281) hb); have n3_ := Aside0.mk (blk_below (g := gb282) (o := .cells #[.int .i64 x283000_2, .int .i64 x283001_2, .slice none 0 0] 76 (0, 0)) (tK BK282) hb); have n4_ := Aside0.mk (blk_below (g := gb283) (o := .cells #[.int .i64 x284000_2, .int .i64 x284001_2, .slice none 0 0] 76 (0, 0)) (tK BK283) hb); have n5_ := Aside0.mk (blk_below (g := gb305) (o := .cells #[.int .i64 a0_0, .int .i64 a0_1, .slice Ao155 x306002_3.length co155] 76 (0, 0)) (tK BK305) hb); have n6_ := Aside0.mk (blk_below (g := gb306) (o := .cells #[.int .i64 a2, .int .i64 a0_1, u307002] 76 (0, 0)) (tK BK306) hb); have n7_ := Aside0.mk (below_step tB hb); clear HO_306002; clear HO_307002; clear BK281; clear BK282; clear BK283; clear BK305; clear BK306; clear HB; have HO_306002 := n0_; have HO_307002 := n1_; have BK281 := n2_; have BK282 := n3_; have BK283 := n4_; have BK305 := n5_; have BK306 := n6_; have HB := n7_; clear n0_ n1_ n2_ n3_ n4_ n5_ n6_ n7_; (try clear hb); (try clear hb2); (try clear hk); (try clear hi); have hnb157 := NB306_281.out; have hnc157 := NB281_306.out; have hnb158 := NB306_282.out; have hnc158 := NB282_306.out; have hnb159 := NB306_283.out; have hnc159 := NB283_306.out; obtain ⟨hcz160_0, hcz160_1, hcz160_2, hfz160_0, hfz160_1, hfz160_2⟩ := bc3 BK306.out; obtain ⟨Ao161, co161, eo161⟩ := Kd.R_slice HO_307002.out; subst eo161) | (go_at_call 117; (with_reducible refine (impl_live.calls k3 a2 a0_1 _ _ x307002_3 false _ ?side1 ?side2 A127.out).mono ?_); (case side1 => repeat (first | exact (Kd.R_reads' HO_307002.out).2.2 | (with_reducible refine Kd.C_alloc ?_ _) | (with_reducible refine Kd.C_drewN ?_ _) | (with_reducible refine Kd.C_drew ?_))); (case side2 => exact (Kd.R_reads' HO_307002.out).2.1); rintro e w162 ⟨rfl, hb⟩; have n0_ := Aside0.mk (Kd.R_below (tR HO_306002) hb); have n1_ := Aside0.mk (Kd.R_below (tR HO_307002) hb); have n2_ := Aside0.mk (blk_below (g := gb281) (o := .cells #[.int .i64 a0_0, .int .i64 a0_1, .slice A0_2 l0_2.length c0_2] 76 (0, 0)) (tK BK281) hb); have n3_ := Aside0.mk (blk_below (g := gb282) (o := .cells #[.int .i64 x283000_2, .int .i64 x283001_2, .slice none 0 0] 76 (0, 0)) (tK BK282) hb); have n4_ := Aside0.mk (blk_below (g := gb283) (o := .cells #[.int .i64 x284000_2, .int .i64 x284001_2, .slice none 0 0] 76 (0, 0)) (tK BK283) hb); have n5_ := Aside0.mk (blk_below (g := gb305) (o := .cells #[.int .i64 a0_0, .int .i64 a0_1, .slice Ao155 x306002_3.length co155] 76 (0, 0)) (tK BK305) hb); have n6_ := Aside0.mk (blk_below (g := gb306) (o := .cells #[.int .i64 a2, .int .i64 a0_1, .slice Ao161 x307002_3.length co161] 76 (0, 0)) (tK BK306) hb); have n7_ := Aside0.mk (below_step tB hb); clear HO_306002; clear HO_307002; clear BK281; clear BK282; clear BK283; clear BK305; clear BK306; clear HB; have HO_306002 := n0_; have HO_307002 := n1_; have BK281 := n2_; have BK282 := n3_; have BK283 := n4_; have BK305 := n5_; have BK306 := n6_; have HB := n7_; clear n0_ n1_ n2_ n3_ n4_ n5_ n6_ n7_; (try clear hb); (try clear hb2); (try clear hk); (try clear hi); have hnb163 := NB281_282.out; have hnc163 := NB282_281.out; have hnb164 := NB281_283.out; have hnc164 := NB283_281.out; obtain ⟨hcz165_0, hcz165_1, hcz165_2, hfz165_0, hfz165_1, hfz165_2⟩ := bc3 BK281.out) | ((with_reducible refine gate_callee (f := 106) rfl ?_); refine goesL_ (some 96) rfl rfl Try.func106 (by kernel_rfl) rfl #[.agg #[.int .i64 a0_0, .int .i64 a0_1, .slice A0_2 l0_2.length c0_2]] rfl tL ?_; (with_reducible refine (impl_copyAccount.calls a0_0 a0_1 _ _ l0_2 t318 t319 t320 _ ?side1 ?side2 A149.out).mono ?_); (case side1 => repeat (first | exact (Kd.C_below HR0_2.out HB.out) | (with_reducible refine Kd.C_alloc ?_ _) | (with_reducible refine Kd.C_drewN ?_ _) | (with_reducible refine Kd.C_drew ?_))); (case side2 => exact HC0_2.out); rintro e w166 ⟨v321, rfl, ho0, hb⟩; refine ⟨_, rfl, ?_⟩; have n0_ := Aside0.mk (Kd.R_elder' (tR HO_306002) (Kd.R_base ho0) hb); have n1_ := Aside0.mk (Kd.R_elder' (tR HO_307002) (Kd.R_base ho0) hb); have n2_ := Aside0.mk (Kd.R_lower (Kd.R_new' (Kd.R_new' ho0 (Kd.R_lt (tR HO_306002))) (Kd.R_lt (tR HO_307002))) (below_size tB)); have n3_ := Aside0.mk (blk_below (g := gb281) (o := .cells #[.int .i64 a0_0, .int .i64 a0_1, .slice A0_2 l0_2.length c0_2] 76 (0, 0)) (tK BK281) hb); have n4_ := Aside0.mk (blk_below (g := gb282) (o := .cells #[.int .i64 x283000_2, .int .i64 x283001_2, .slice none 0 0] 76 (0, 0)) (tK BK282) hb); have n5_ := Aside0.mk (blk_below (g := gb283) (o := .cells #[.int .i64 x284000_2, .int .i64 x284001_2, .slice none 0 0] 76 (0, 0)) (tK BK283) hb); have n6_ := Aside0.mk (blk_below (g := gb305) (o := .cells #[.int .i64 a0_0, .int .i64 a0_1, .slice Ao155 x306002_3.length co155] 76 (0, 0)) (tK BK305) hb); have n7_ := Aside0.mk (blk_below (g := gb306) (o := .cells #[.int .i64 a2, .int .i64 a0_1, .slice Ao161 x307002_3.length co161] 76 (0, 0)) (tK BK306) hb); have n8_ := Aside0.mk (below_step tB hb); clear HO_306002; clear HO_307002; clear BK281; clear BK282; clear BK283; clear BK305; clear BK306; clear HB; have HO_306002 := n0_; have HO_307002 := n1_; have HO322 := n2_; have BK281 := n3_; have BK282 := n4_; have BK283 := n5_; have BK305 := n6_; have BK306 := n7_; have HB := n8_; clear n0_ n1_ n2_ n3_ n4_ n5_ n6_ n7_ n8_; (try clear hb); (try clear hb2); (try clear hk); (try clear hi); (try clear ho0); have hnb167 := NB282_283.out; have hnc167 := NB283_282.out; obtain ⟨hcz168_0, hcz168_1, hcz168_2, hfz168_0, hfz168_1, hfz168_2⟩ := bc3 BK282.out; obtain ⟨Ao169, co169, eo169⟩ := Kd.R_slice HO322.out; subst eo169; obtain ⟨hcz170_0, hcz170_1, hcz170_2, hfz170_0, hfz170_1, hfz170_2⟩ := bc3 BK283.out))
            refine bodyPost_ret (results_list (rs := [.cell 6 76, .cell 7 76, .tmp 8]) rfl (by simp) (.cell gb282 76 #[.int .i64 t318, .int .i64 t319, .slice Ao169 t320.length co169] (0, 0) _ rfl (by (with_reducible repeat (first | refine blk_drewN ?_ _ | refine blk_drew ?_ | refine blk_alloc ?_ _)); refine blk_far ?_ NB282_283.out _; (with_reducible repeat (first | refine blk_drewN ?_ _ | refine blk_drew ?_ | refine blk_alloc ?_ _)); refine blk_far ?_ NB282_283.out _; (with_reducible repeat (first | refine blk_drewN ?_ _ | refine blk_drew ?_ | refine blk_alloc ?_ _)); refine blk_far ?_ NB282_283.out _; (with_reducible repeat (first | refine blk_drewN ?_ _ | refine blk_drew ?_ | refine blk_alloc ?_ _)); refine blk_put (cs := #[.int .i64 t318, .int .i64 t319, .slice none 0 0]) ?_ 2 _ rfl; (with_reducible repeat (first | refine blk_drewN ?_ _ | refine blk_drew ?_ | refine blk_alloc ?_ _)); refine blk_put (cs := #[.int .i64 t318, .int .i64 x283001_2, .slice none 0 0]) ?_ 1 _ rfl; (with_reducible repeat (first | refine blk_drewN ?_ _ | refine blk_drew ?_ | refine blk_alloc ?_ _)); refine blk_put (cs := #[.int .i64 x283000_2, .int .i64 x283001_2, .slice none 0 0]) ?_ 0 _ rfl; (with_reducible repeat (first | refine blk_drewN ?_ _ | refine blk_drew ?_ | refine blk_alloc ?_ _)); exact BK282.out) Try.underlying76 rfl (by kernel_rfl) (.cell gb283 76 #[.int .i64 0, .int .i64 0, .slice none 0 0] (0, 0) _ rfl (by (with_reducible repeat (first | refine blk_drewN ?_ _ | refine blk_drew ?_ | refine blk_alloc ?_ _)); refine blk_put (cs := #[.int .i64 0, .int .i64 0, .slice none 0 0]) ?_ 2 _ rfl; (with_reducible repeat (first | refine blk_drewN ?_ _ | refine blk_drew ?_ | refine blk_alloc ?_ _)); refine blk_put (cs := #[.int .i64 0, .int .i64 x284001_2, .slice none 0 0]) ?_ 1 _ rfl; (with_reducible repeat (first | refine blk_drewN ?_ _ | refine blk_drew ?_ | refine blk_alloc ?_ _)); refine blk_put (cs := #[.int .i64 x284000_2, .int .i64 x284001_2, .slice none 0 0]) ?_ 0 _ rfl; (with_reducible repeat (first | refine blk_drewN ?_ _ | refine blk_drew ?_ | refine blk_alloc ?_ _)); refine blk_far ?_ NB283_282.out _; (with_reducible repeat (first | refine blk_drewN ?_ _ | refine blk_drew ?_ | refine blk_alloc ?_ _)); refine blk_far ?_ NB283_282.out _; (with_reducible repeat (first | refine blk_drewN ?_ _ | refine blk_drew ?_ | refine blk_alloc ?_ _)); refine blk_far ?_ NB283_282.out _; (with_reducible repeat (first | refine blk_drewN ?_ _ | refine blk_drew ?_ | refine blk_alloc ?_ _)); exact BK283.out) Try.underlying76 rfl (by kernel_rfl) (.tmp .nil)))) rfl ?_
            exact ⟨_, _, tE, by (with_reducible repeat (first | apply Kd.R_alloc | apply Kd.R_drewN | apply Kd.R_drew)); exact Kd.R_mono (Kd.R_far (p := ⟨gb283, 2, none⟩) (Kd.R_far (p := ⟨gb283, 1, none⟩) (Kd.R_far (p := ⟨gb283, 0, none⟩) (Kd.R_far (p := ⟨gb282, 2, none⟩) (Kd.R_far (p := ⟨gb282, 1, none⟩) (Kd.R_far (p := ⟨gb282, 0, none⟩) (Kd.R_types (Kd.R_types HO322.out BK282.out (by decide)) BK283.out (by decide)) (fun _ hk => hk.1.2) (.int .i64 t318)) (fun _ hk => hk.1.2) (.int .i64 t319)) (fun _ hk => hk.1.2) (.slice Ao169 t320.length co169)) (fun _ hk => hk.2) (.int .i64 0)) (fun _ hk => hk.2) (.int .i64 0)) (fun _ hk => hk.2) (.slice none 0 0)) (fun _ hk => (by simp [Value.ownBlock])), by first | exact Kd.R_nil _ _ _ _ _ | exact Kd.N_nil _ _ _ _ _ | exact Kd.V_nil _ _ _ _ _ | exact Kd.Q_nil _ _ _ _ _ | exact Kd.S_nil _ _ _ _ _, tB⟩
          ·replace c126 := Bool.eq_false_iff.mpr c126
           subst c126
           have H1 : ((impl_copyAccount.f a0_0 a0_1 l0_2).bind fun bt323 => (some (bt323.1, bt323.2.1, bt323.2.2, 0, 0, ([] : List (S123)), false))) = some (r1, r2, r3, r4, r5, r6, r7) := by rw [if_neg (show ¬ (false = true) by decide)] at H; exact H
           clear H
           have H := H1
           clear H1
           replace H := Option.bind_eq_some_iff.mp H
           obtain ⟨⟨t323, t324, t325⟩, A1710, H⟩ := H
           replace H : (some (t323, t324, t325, 0, 0, ([] : List (S123)), false)) = some (r1, r2, r3, r4, r5, r6, r7) := H
           have A171 := Aside0.mk A1710
           clear A1710
           simp only [Option.some.injEq, Prod.mk.injEq] at H
           obtain ⟨rfl, rfl, rfl, rfl, rfl, rfl, rfl⟩ := H
           have hnb172 := NB305_281.out
           have hnc172 := NB281_305.out
           have hnb173 := NB305_282.out
           have hnc173 := NB282_305.out
           have hnb174 := NB305_283.out
           have hnc174 := NB283_305.out
           have hnb175 := NB305_306.out
           have hnc175 := NB306_305.out
           obtain ⟨hcz176_0, hcz176_1, hcz176_2, hfz176_0, hfz176_1, hfz176_2⟩ := bc3 BK305.out
           obtain ⟨Ao177, co177, eo177⟩ := Kd.R_slice HO_306002.out
           subst eo177
           go_wp2_with (first | ((with_reducible refine gate_callee (f := 117) rfl ?_); refine goesL_ (some 88) rfl rfl Try.func117 (by kernel_rfl) rfl #[.agg #[.int .i64 a0_0, .int .i64 a0_1, .slice Ao177 x306002_3.length co177]] rfl tL ?_; (with_reducible refine (impl_live.calls k3 a0_0 a0_1 _ _ x306002_3 false _ ?side1 ?side2 A125.out).mono ?_); (case side1 => repeat (first | exact (Kd.R_reads' HO_306002.out).2.2 | (with_reducible refine Kd.C_alloc ?_ _) | (with_reducible refine Kd.C_drewN ?_ _) | (with_reducible refine Kd.C_drew ?_))); (case side2 => exact (Kd.R_reads' HO_306002.out).2.1); rintro e w178 ⟨rfl, hb⟩; refine ⟨_, rfl, ?_⟩; have n0_ := Aside0.mk (Kd.R_below (tR HO_306002) hb); have n1_ := Aside0.mk (Kd.R_below (tR HO_307002) hb); have n2_ := Aside0.mk (blk_below (g := gb281) (o := .cells #[.int .i64 a0_0, .int .i64 a0_1, .slice A0_2 l0_2.length c0_2] 76 (0, 0)) (tK BK281) hb); have n3_ := Aside0.mk (blk_below (g := gb282) (o := .cells #[.int .i64 x283000_2, .int .i64 x283001_2, .slice none 0 0] 76 (0, 0)) (tK BK282) hb); have n4_ := Aside0.mk (blk_below (g := gb283) (o := .cells #[.int .i64 x284000_2, .int .i64 x284001_2, .slice none 0 0] 76 (0, 0)) (tK BK283) hb); have n5_ := Aside0.mk (blk_below (g := gb305) (o := .cells #[.int .i64 a0_0, .int .i64 a0_1, .slice Ao177 x306002_3.length co177] 76 (0, 0)) (tK BK305) hb); have n6_ := Aside0.mk (blk_below (g := gb306) (o := .cells #[.int .i64 a2, .int .i64 a0_1, u307002] 76 (0, 0)) (tK BK306) hb); have n7_ := Aside0.mk (below_step tB hb); clear HO_306002; clear HO_307002; clear BK281; clear BK282; clear BK283; clear BK305; clear BK306; clear HB; have HO_306002 := n0_; have HO_307002 := n1_; have BK281 := n2_; have BK282 := n3_; have BK283 := n4_; have BK305 := n5_; have BK306 := n6_; have HB := n7_; clear n0_ n1_ n2_ n3_ n4_ n5_ n6_ n7_; (try clear hb); (try clear hb2); (try clear hk); (try clear hi); have hnb179 := NB281_282.out; have hnc179 := NB282_281.out; have hnb180 := NB281_283.out; have hnc180 := NB283_281.out; have hnb181 := NB281_306.out; have hnc181 := NB306_281.out; obtain ⟨hcz182_0, hcz182_1, hcz182_2, hfz182_0, hfz182_1, hfz182_2⟩ := bc3 BK281.out) | ((with_reducible refine gate_callee (f := 106) rfl ?_); refine goesL_ (some 96) rfl rfl Try.func106 (by kernel_rfl) rfl #[.agg #[.int .i64 a0_0, .int .i64 a0_1, .slice A0_2 l0_2.length c0_2]] rfl tL ?_; (with_reducible refine (impl_copyAccount.calls a0_0 a0_1 _ _ l0_2 t323 t324 t325 _ ?side1 ?side2 A171.out).mono ?_); (case side1 => repeat (first | exact (Kd.C_below HR0_2.out HB.out) | (with_reducible refine Kd.C_alloc ?_ _) | (with_reducible refine Kd.C_drewN ?_ _) | (with_reducible refine Kd.C_drew ?_))); (case side2 => exact HC0_2.out); rintro e w183 ⟨v326, rfl, ho0, hb⟩; refine ⟨_, rfl, ?_⟩; have n0_ := Aside0.mk (Kd.R_elder' (tR HO_306002) (Kd.R_base ho0) hb); have n1_ := Aside0.mk (Kd.R_elder' (tR HO_307002) (Kd.R_base ho0) hb); have n2_ := Aside0.mk (Kd.R_lower (Kd.R_new' (Kd.R_new' ho0 (Kd.R_lt (tR HO_306002))) (Kd.R_lt (tR HO_307002))) (below_size tB)); have n3_ := Aside0.mk (blk_below (g := gb281) (o := .cells #[.int .i64 a0_0, .int .i64 a0_1, .slice A0_2 l0_2.length c0_2] 76 (0, 0)) (tK BK281) hb); have n4_ := Aside0.mk (blk_below (g := gb282) (o := .cells #[.int .i64 x283000_2, .int .i64 x283001_2, .slice none 0 0] 76 (0, 0)) (tK BK282) hb); have n5_ := Aside0.mk (blk_below (g := gb283) (o := .cells #[.int .i64 x284000_2, .int .i64 x284001_2, .slice none 0 0] 76 (0, 0)) (tK BK283) hb); have n6_ := Aside0.mk (blk_below (g := gb305) (o := .cells #[.int .i64 a0_0, .int .i64 a0_1, .slice Ao177 x306002_3.length co177] 76 (0, 0)) (tK BK305) hb); have n7_ := Aside0.mk (blk_below (g := gb306) (o := .cells #[.int .i64 a2, .int .i64 a0_1, u307002] 76 (0, 0)) (tK BK306) hb); have n8_ := Aside0.mk (below_step tB hb); clear HO_306002; clear HO_307002; clear BK281; clear BK282; clear BK283; clear BK305; clear BK306; clear HB; have HO_306002 := n0_; have HO_307002 := n1_; have HO327 := n2_; have BK281 := n3_; have BK282 := n4_; have BK283 := n5_; have BK305 := n6_; have BK306 := n7_; have HB := n8_; clear n0_ n1_ n2_ n3_ n4_ n5_ n6_ n7_ n8_; (try clear hb); (try clear hb2); (try clear hk); (try clear hi); (try clear ho0); have hnb184 := NB282_283.out; have hnc184 := NB283_282.out; have hnb185 := NB282_306.out; have hnc185 := NB306_282.out; obtain ⟨hcz186_0, hcz186_1, hcz186_2, hfz186_0, hfz186_1, hfz186_2⟩ := bc3 BK282.out; obtain ⟨Ao187, co187, eo187⟩ := Kd.R_slice HO327.out; subst eo187; have hnb188 := NB283_306.out; have hnc188 := NB306_283.out; obtain ⟨hcz189_0, hcz189_1, hcz189_2, hfz189_0, hfz189_1, hfz189_2⟩ := bc3 BK283.out))
           refine bodyPost_ret (results_list (rs := [.cell 6 76, .cell 7 76, .tmp 8]) rfl (by simp) (.cell gb282 76 #[.int .i64 t323, .int .i64 t324, .slice Ao187 t325.length co187] (0, 0) _ rfl (by (with_reducible repeat (first | refine blk_drewN ?_ _ | refine blk_drew ?_ | refine blk_alloc ?_ _)); refine blk_far ?_ NB282_283.out _; (with_reducible repeat (first | refine blk_drewN ?_ _ | refine blk_drew ?_ | refine blk_alloc ?_ _)); refine blk_far ?_ NB282_283.out _; (with_reducible repeat (first | refine blk_drewN ?_ _ | refine blk_drew ?_ | refine blk_alloc ?_ _)); refine blk_far ?_ NB282_283.out _; (with_reducible repeat (first | refine blk_drewN ?_ _ | refine blk_drew ?_ | refine blk_alloc ?_ _)); refine blk_put (cs := #[.int .i64 t323, .int .i64 t324, .slice none 0 0]) ?_ 2 _ rfl; (with_reducible repeat (first | refine blk_drewN ?_ _ | refine blk_drew ?_ | refine blk_alloc ?_ _)); refine blk_put (cs := #[.int .i64 t323, .int .i64 x283001_2, .slice none 0 0]) ?_ 1 _ rfl; (with_reducible repeat (first | refine blk_drewN ?_ _ | refine blk_drew ?_ | refine blk_alloc ?_ _)); refine blk_put (cs := #[.int .i64 x283000_2, .int .i64 x283001_2, .slice none 0 0]) ?_ 0 _ rfl; (with_reducible repeat (first | refine blk_drewN ?_ _ | refine blk_drew ?_ | refine blk_alloc ?_ _)); exact BK282.out) Try.underlying76 rfl (by kernel_rfl) (.cell gb283 76 #[.int .i64 0, .int .i64 0, .slice none 0 0] (0, 0) _ rfl (by (with_reducible repeat (first | refine blk_drewN ?_ _ | refine blk_drew ?_ | refine blk_alloc ?_ _)); refine blk_put (cs := #[.int .i64 0, .int .i64 0, .slice none 0 0]) ?_ 2 _ rfl; (with_reducible repeat (first | refine blk_drewN ?_ _ | refine blk_drew ?_ | refine blk_alloc ?_ _)); refine blk_put (cs := #[.int .i64 0, .int .i64 x284001_2, .slice none 0 0]) ?_ 1 _ rfl; (with_reducible repeat (first | refine blk_drewN ?_ _ | refine blk_drew ?_ | refine blk_alloc ?_ _)); refine blk_put (cs := #[.int .i64 x284000_2, .int .i64 x284001_2, .slice none 0 0]) ?_ 0 _ rfl; (with_reducible repeat (first | refine blk_drewN ?_ _ | refine blk_drew ?_ | refine blk_alloc ?_ _)); refine blk_far ?_ NB283_282.out _; (with_reducible repeat (first | refine blk_drewN ?_ _ | refine blk_drew ?_ | refine blk_alloc ?_ _)); refine blk_far ?_ NB283_282.out _; (with_reducible repeat (first | refine blk_drewN ?_ _ | refine blk_drew ?_ | refine blk_alloc ?_ _)); refine blk_far ?_ NB283_282.out _; (with_reducible repeat (first | refine blk_drewN ?_ _ | refine blk_drew ?_ | refine blk_alloc ?_ _)); exact BK283.out) Try.underlying76 rfl (by kernel_rfl) (.tmp .nil)))) rfl ?_
           exact ⟨_, _, tE, by (with_reducible repeat (first | apply Kd.R_alloc | apply Kd.R_drewN | apply Kd.R_drew)); exact Kd.R_mono (Kd.R_far (p := ⟨gb283, 2, none⟩) (Kd.R_far (p := ⟨gb283, 1, none⟩) (Kd.R_far (p := ⟨gb283, 0, none⟩) (Kd.R_far (p := ⟨gb282, 2, none⟩) (Kd.R_far (p := ⟨gb282, 1, none⟩) (Kd.R_far (p := ⟨gb282, 0, none⟩) (Kd.R_types (Kd.R_types HO327.out BK282.out (by decide)) BK283.out (by decide)) (fun _ hk => hk.1.2) (.int .i64 t323)) (fun _ hk => hk.1.2) (.int .i64 t324)) (fun _ hk => hk.1.2) (.slice Ao187 t325.length co187)) (fun _ hk => hk.2) (.int .i64 0)) (fun _ hk => hk.2) (.int .i64 0)) (fun _ hk => hk.2) (.slice none 0 0)) (fun _ hk => (by simp [Value.ownBlock])), by first | exact Kd.R_nil _ _ _ _ _ | exact Kd.N_nil _ _ _ _ _ | exact Kd.V_nil _ _ _ _ _ | exact Kd.Q_nil _ _ _ _ _ | exact Kd.S_nil _ _ _ _ _, tB⟩

end Go.Proofs.Ytjggdakbphjomaa.ZFnExactSplitAccount
