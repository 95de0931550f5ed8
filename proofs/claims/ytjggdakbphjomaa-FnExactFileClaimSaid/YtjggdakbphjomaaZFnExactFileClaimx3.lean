/- The machine side: for each Go function a Lean function and the contract that the Go code answers as it does; printed by program (wip/tmpl/pprint.sh). -/
import Derived.Test.YtjggdakbphjomaaZFnExactFileClaimx0
namespace Go.Proofs.Ytjggdakbphjomaa.ZFnExactFileClaim
open Go.RowKit Go.Proofs.YtjggdakbphjomaaW.PrintWords Go.Proofs.YtjggdakbphjomaaW.PrintLast Go.Proofs.YtjggdakbphjomaaW.PrintMore
attribute [local go_sem] max2_int min2_int max_two min_two max_three min_three max_four min_four   -- for this text's walks alone
set_option linter.unusedVariables false
set_option linter.unusedSimpArgs false

/-! ### spec_l28Copy: function 72 -/
def spec_l28Copy.f (a0_0 : Int) (l0_1 : List (S104)) : Option (Int × (List (S104))) := (some (([] : List (S104)) : List (S104))).bind fun y155 => (if y155.length + l0_1.length < 2932031007402 then (some (a0_0, (y155 ++ l0_1))) else (none))
def spec_l28Copy.T1 : Bool × List (List Nat × List Nat) := (true, [([], []), ([0], [0]), ([], []), ([], []), ([3], [3]), ([2, 4], [2, 4]), ([1, 5], [1, 5]), ([6, 5, 0, 1, 2, 3, 4, 5, 6], [6])])
def spec_l28Copy.B1 : List Nat := [0, 1, 0, 0, 8, 28, 63, 127]
theorem spec_l28Copy.tab1 : rtab .any (opsOf Try.f72 1) = spec_l28Copy.T1 := by kernel_rfl
theorem spec_l28Copy.bits1 : waitsOk spec_l28Copy.T1.2 spec_l28Copy.B1 = true := by kernel_rfl
set_option maxHeartbeats 8000000 in
set_option maxRecDepth 100000 in
theorem spec_l28Copy.calls (a0_0 : Int) (A0_1 : Option Addr) (c0_1 : Nat) (l0_1 : List (S104)) (r1 : Int) (r2 : List (S104)) (w : World) (hr0_1 : Kd.C k104 w A0_1 l0_1.length l0_1) (hc0_1 : l0_1.length ≤ c0_1) (h : spec_l28Copy.f a0_0 l0_1 = some (r1, r2)) :
  Calls Try.prog 72 #[.agg #[.int .i64 a0_0, .slice A0_1 l0_1.length c0_1]] w fun e w' => ∃ v1_ : Value, e = .returned (.agg #[.int .i64 r1, v1_]) ∧ Kd.R k104 104 w' w.heap.size (fun _ => True) v1_ r2 ∧ Below w.heap.size w w' := by
 have hu35 := Try.underlying35
 have HR0_1 := Aside0.mk hr0_1
 have HC0_1 := Aside0.mk hc0_1
 clear hr0_1 hc0_1
 have HB := Aside0.mk (Below.refl w.heap.size w)
 have H : ((some (([] : List (S104)) : List (S104))).bind fun y155 => (if y155.length + l0_1.length < 2932031007402 then (some (a0_0, (y155 ++ l0_1))) else (none))) = some (r1, r2) := h
 clear h
 obtain ⟨y155, hy155⟩ : ∃ y_ : List (S104), y_ = (([] : List (S104))) := ⟨_, rfl⟩
 replace H : (if y155.length + l0_1.length < 2932031007402 then (some (a0_0, (y155 ++ l0_1))) else (none)) = some (r1, r2) := by first | (rw [hy155]; with_reducible exact H) | (have H2_ := (Option.bind_some _ _).symm.trans H; rw [hy155]; with_reducible exact H2_) | (have H2_ := (Option.bind_some _ _).symm.trans H; with_reducible exact H2_) | with_reducible exact H | (rw [hy155]; exact H) | exact H
 have Ny155 := Aside0.mk hy155
 clear hy155
 by_cases c2 : y155.length + l0_1.length < 2932031007402
 ·rw [if_pos c2] at H
  have LMc2 := Aside0.mk c2
  clear c2
  obtain ⟨y158, hy158⟩ : ∃ y_ : List (S104), y_ = (y155 ++ l0_1) := ⟨_, rfl⟩
  replace H : (some (a0_0, y158)) = some (r1, r2) := by first | (rw [hy158]; with_reducible exact H) | (have H2_ := (Option.bind_some _ _).symm.trans H; rw [hy158]; with_reducible exact H2_) | (have H2_ := (Option.bind_some _ _).symm.trans H; with_reducible exact H2_) | with_reducible exact H | (rw [hy158]; exact H) | exact H
  have Ny158 := Aside0.mk hy158
  clear hy158
  simp only [Option.some.injEq, Prod.mk.injEq] at H
  obtain ⟨rfl, rfl⟩ := H
  go_enter Try.func72, Try.ntmps72
  try go_wp2_with (first | ((with_reducible refine gate_dst (N := 1) rfl ?_); refine box_event ?hg (N := 1) ?hd (cs := #[.int .i64 a0_0, .slice A0_1 l0_1.length c0_1]) (t := 35) ?hr ?_; (case hd => rfl); (case hg => rfl); (case hr => exact tG); intro gb153 hg w3 hbox hb; have n0_ := Aside0.mk (below_step tB hb); have n1_ := Aside0.mk (hbox); have n2_ := Aside0.mk ((by rw [hg]; exact (below_size tB) : w.heap.size ≤ gb153)); have n3_ := Aside0.mk ((by rw [hg]; exact (below_size tB) : w.heap.size ≤ gb153)); clear HB; have HB := n0_; have BK153 := n1_; have GW153 := n2_; have GE153 := n3_; clear n0_ n1_ n2_ n3_; clear hb hbox hg) | ((with_reducible refine gate_dst (N := 2) rfl ?_); refine box_event ?hg (N := 2) ?hd (cs := #[.int .i64 0, .slice none 0 0]) (t := 35) ?hr ?_; (case hd => rfl); (case hg => rfl); (case hr => exact tG); intro gb154 hg w4 hbox hb; have n0_ := Aside0.mk (blk_below (g := gb153) (o := .cells #[.int .i64 a0_0, .slice A0_1 l0_1.length c0_1] 35 (0, 0)) (tK BK153) hb); have n1_ := Aside0.mk (below_step tB hb); have n2_ := Aside0.mk (hbox); have n3_ := Aside0.mk ((by rw [hg]; exact (below_size tB) : w.heap.size ≤ gb154)); have n4_ := Aside0.mk ((by rw [hg]; exact (below_size tB) : w.heap.size ≤ gb154)); have n5_ := Aside0.mk ((by rw [hg]; exact Nat.ne_of_lt (blk_lt (g := gb153) (o := .cells #[.int .i64 a0_0, .slice A0_1 l0_1.length c0_1] 35 (0, 0)) (tK BK153)) : gb153 ≠ gb154)); have n6_ := Aside0.mk ((by rw [hg]; exact Nat.ne_of_gt (blk_lt (g := gb153) (o := .cells #[.int .i64 a0_0, .slice A0_1 l0_1.length c0_1] 35 (0, 0)) (tK BK153)) : gb154 ≠ gb153)); clear BK153; clear HB; have BK153 := n0_; have HB := n1_; have BK154 := n2_; have GW154 := n3_; have GE154 := n4_; have NB153_154 := n5_; have NB154_153 := n6_; clear n0_ n1_ n2_ n3_ n4_ n5_ n6_; clear hb hbox hg))
  have n0_ := Aside0.mk (blk_drew BK153.out)
  have n1_ := Aside0.mk (blk_drew BK154.out)
  have n2_ := Aside0.mk (below_drew1 HB.out)
  clear BK153
  clear BK154
  clear HB
  have BK153 := n0_
  have BK154 := n1_
  have HB := n2_
  clear n0_ n1_ n2_
  refine start_ (n := 8) (S := fun w' => w'.cell? ⟨gb153, 0, none⟩ = some (.int .i64 a0_0) ∧ w'.cell? ⟨gb153, 1, none⟩ = some (.slice A0_1 l0_1.length c0_1)) (ds := []) #[false, false, false, false, false, false, false, false] (by kernel_rfl) rfl rfl ⟨(blk_cell BK153.out 0).trans rfl, (blk_cell BK153.out 1).trans rfl⟩ (fun hHeld => ?_); refine with_tabW spec_l28Copy.tab1 spec_l28Copy.bits1 (fun HT_ HW_ => ?_)
  generalize w4.drew = w5 at BK153 BK154 HB hHeld ⊢
  refine pure_ (i := 0) (N := some 3) (v := ?_) (a' := ?_) #[true, false, false, false, false, false, false, false] rfl rfl (any_of HT_.out (by kernel_rfl)) (fun _ _ _ h => h) (Or.inl ⟨by rfl, ?_⟩) ?_ ?_
  rotate_left
  ·intro w'
   go_simp
   with_reducible rfl
  rotate_left
  ·simp only [Act.put, List.setIfInBounds_toArray, List.set_cons_zero, List.set_cons_succ, i64_w, i32_w]
   rfl
  refine pure_ (i := 3) (N := some 6) (v := ?_) (a' := ?_) #[true, false, false, true, false, false, false, false] rfl rfl (any_of HT_.out (by kernel_rfl)) (fun _ _ _ h => h) (Or.inl ⟨by rfl, ?_⟩) ?_ ?_
  rotate_left
  ·intro w'
   go_simp
   with_reducible rfl
  rotate_left
  ·simp only [Act.put, List.setIfInBounds_toArray, List.set_cons_zero, List.set_cons_succ, i64_w, i32_w]
   rfl
  refine take_ (i := 1) (N := some 4) (v := ?_) (a' := ?_) #[true, true, false, true, false, false, false, false] rfl rfl (take_ofW HT_.out HW_.out (by kernel_rfl)) (fun _ _ _ h => h) (Or.inl ⟨by rfl, ?_⟩) hHeld ?_ ?_
  rotate_left
  ·rintro w' ⟨s0, s1⟩
   go_simp
   with_reducible rfl
  rotate_left
  ·simp only [Act.put, List.setIfInBounds_toArray, List.set_cons_zero, List.set_cons_succ, i64_w, i32_w]
   rfl
  refine take_ (i := 4) (N := some 7) (v := ?_) (a' := ?_) #[true, true, false, true, true, false, false, false] rfl rfl (take_ofW HT_.out HW_.out (by kernel_rfl)) (fun _ _ _ h => h) (Or.inl ⟨by rfl, ?_⟩) hHeld ?_ ?_
  rotate_left
  ·rintro w' ⟨s0, s1⟩
   go_simp
   with_reducible rfl
  rotate_left
  ·simp only [Act.put, List.setIfInBounds_toArray, List.set_cons_zero, List.set_cons_succ, i64_w, i32_w]
   rfl
  refine one_ (i := 2) (N := some 5) #[true, true, true, true, true, false, false, false] rfl rfl (one_of HT_.out (by kernel_rfl)) (by decide) (fun K hK => ?_)
  refine Kd.R_lit_step k104 _ 104 ?hg (N := 5) ?hd (xs := ([] : List (S104))) (inner := []) (ok := fun _ => True) (okp := fun _ => True) ?hr ?hp (fun _ hk => hk) trivial (Below.refl _ _) (Nat.le_refl _) (by simp) ?_; (case hd => rfl); (case hg => rfl); (case hr => exact tG); (case hp => exact (Reps.none _ _))
  intro v156 w6 ho7 hb hg_ hnew_
  clear hg_ hnew_
  (first | rw [← Ny155.out] at ho7 | (simp only [Int.reduceToNat] at ho7; rw [← Ny155.out] at ho7))
  have n0_ := Aside0.mk (Kd.R_lower ho7 (below_size tB))
  have n1_ := Aside0.mk (blk_below (g := gb153) (o := .cells #[.int .i64 a0_0, .slice A0_1 l0_1.length c0_1] 35 (0, 0)) (tK BK153) hb)
  have n2_ := Aside0.mk (blk_below (g := gb154) (o := .cells #[.int .i64 0, .slice none 0 0] 35 (0, 0)) (tK BK154) hb)
  have n3_ := Aside0.mk (below_step tB hb)
  clear BK153
  clear BK154
  clear HB
  have HO157 := n0_
  have BK153 := n1_
  have BK154 := n2_
  have HB := n3_
  clear n0_ n1_ n2_ n3_
  clear hb ho7
  refine hK.out _ _ ⟨(blk_cell BK153.out 0).trans rfl, (blk_cell BK153.out 1).trans rfl⟩ (fun hHeld => ?_)
  clear hK K
  refine norm_ (a' := ?_) ?_ ?_
  rotate_left
  ·show Act.put _ (some 5) _ = _
   simp only [Act.put, List.setIfInBounds_toArray, List.set_cons_zero, List.set_cons_succ, i64_w, i32_w]
   rfl
  refine one_ (i := 5) (N := some 8) #[true, true, true, true, true, true, false, false] rfl rfl (one_of HT_.out (by kernel_rfl)) (by decide) (fun K hK => ?_)
  refine Kd.R_append_rows_step k104 (w0 := w) w.heap.size (by rfl) (.tmp 5) (.tmp 7) 33 104 (.agg #[(.int .i64 0), (.int .i64 0), (.int .i64 0), (.int .i64 0), (.int .i64 0), (.int .i64 0)]) 48 rfl Try.underlying33 info104 rfl (by decide) (by omega) v156 y155 l0_1 _ _ _ (fun _ => True) (fun _ => False) rfl rfl ?aO ?aR (fun _ _ h => h) (fun _ h => h.elim) ?aF ?aB ?aS ?aL ?_
  (case aR => repeat (first | exact (Kd.C_below HR0_1.out HB.out) | (with_reducible refine Kd.C_alloc ?_ _) | (with_reducible refine Kd.C_drewN ?_ _) | (with_reducible refine Kd.C_drew ?_)))
  (case aB => exact tB)
  (case aF => exact (fun _ _ => trivial))
  (case aO => exact (tR HO157))
  (case aS => exact (below_size tB))
  (case aL => have := LMc2.out; omega)
  intro v159 w8 ho hb hg hat
  rw [← Ny158.out] at ho
  have n0_ := Aside0.mk (blk_grown (g := gb153) (o := .cells #[.int .i64 a0_0, .slice A0_1 l0_1.length c0_1] 35 (0, 0)) (tK BK153) hg (Kd.R_ne HO157.out BK153.out (by decide)))
  have n1_ := Aside0.mk (blk_grown (g := gb154) (o := .cells #[.int .i64 0, .slice none 0 0] 35 (0, 0)) (tK BK154) hg (Kd.R_ne HO157.out BK154.out (by decide)))
  have n2_ := Aside0.mk (hb)
  have n3_ := Aside0.mk (ho)
  clear BK153
  clear BK154
  clear HB
  clear HO157
  have BK153 := n0_
  have BK154 := n1_
  have HB := n2_
  have HO160 := n3_
  clear n0_ n1_ n2_ n3_
  clear ho hb hg hat
  obtain ⟨Ao9, co9, eo9⟩ := Kd.R_slice HO160.out
  (first | subst eo9 | (injection eo9 with f1_ f2_ f3_; have f4_ := f1_.symm; have f5_ := f3_.symm; clear f1_ f2_ f3_; subst f4_; subst f5_))
  refine hK.out _ _ ⟨(blk_cell BK153.out 0).trans rfl, (blk_cell BK153.out 1).trans rfl⟩ (fun hHeld => ?_)
  clear hK K
  refine norm_ (a' := ?_) ?_ ?_
  rotate_left
  ·show Act.put _ (some 8) _ = _
   simp only [Act.put, List.setIfInBounds_toArray, List.set_cons_zero, List.set_cons_succ, i64_w, i32_w]
   rfl
  refine pure_ (i := 6) (N := some 9) (v := ?_) (a' := ?_) #[true, true, true, true, true, true, true, false] rfl rfl (any_of HT_.out (by kernel_rfl)) (fun _ _ _ h => h) (Or.inl ⟨by rfl, ?_⟩) ?_ ?_
  rotate_left
  ·intro w'
   go_simp
   with_reducible rfl
  rotate_left
  ·simp only [Act.put, List.setIfInBounds_toArray, List.set_cons_zero, List.set_cons_succ, i64_w, i32_w]
   rfl
  refine one_ (i := 7) (N := none) #[true, true, true, true, true, true, true, true] rfl rfl (one_of HT_.out (by kernel_rfl)) (by decide) (fun K hK => ?_)
  have hs10 : w8.cell? ⟨gb154, 0, none⟩ = some (.int .i64 0) := (blk_cell BK154.out 0).trans rfl
  have hfs10 := blk_frozen BK154.out 0
  have hns10_0 := NB153_154.out
  have hms10_0 := NB154_153.out
  have hs11 : w8.cell? ⟨gb154, 1, none⟩ = some (.slice none 0 0) := (blk_cell BK154.out 1).trans rfl
  have hfs11 := blk_frozen BK154.out 1
  have hns11_0 := NB153_154.out
  have hms11_0 := NB154_153.out
  refine skip_ (w1 := ?_) (by rfl) rfl ?_ ?_
  rotate_left
  ·go_simp
   rfl
  refine hK.out _ _ ⟨((cell_far (p := ⟨gb154, _, none⟩) NB153_154.out _).trans (((cell_far (p := ⟨gb154, _, none⟩) NB153_154.out _).trans (hHeld.1)))), ((cell_far (p := ⟨gb154, _, none⟩) NB153_154.out _).trans (((cell_far (p := ⟨gb154, _, none⟩) NB153_154.out _).trans (hHeld.2))))⟩ (fun hHeld => ?_)
  clear hK K
  refine done_ (done_of HT_.out (by kernel_rfl)) ?_
  try go_wp2
  refine bodyPost_ret (results_cell_row rfl _ _ gb154 35 #[.int .i64 a0_0, .slice Ao9 y158.length co9] (0, 0) _ rfl (by (with_reducible repeat (first | refine blk_drewN ?_ _ | refine blk_drew ?_ | refine blk_alloc ?_ _)); refine blk_put (cs := #[.int .i64 a0_0, .slice none 0 0]) ?_ 1 _ rfl; (with_reducible repeat (first | refine blk_drewN ?_ _ | refine blk_drew ?_ | refine blk_alloc ?_ _)); refine blk_put (cs := #[.int .i64 0, .slice none 0 0]) ?_ 0 _ rfl; (with_reducible repeat (first | refine blk_drewN ?_ _ | refine blk_drew ?_ | refine blk_alloc ?_ _)); exact BK154.out) Try.underlying35 rfl (by kernel_rfl)) rfl ?_
  exact ⟨_, tE, by (with_reducible repeat (first | apply Kd.R_alloc | apply Kd.R_drewN | apply Kd.R_drew)); exact Kd.R_mono (Kd.R_far (p := ⟨gb154, 1, none⟩) (Kd.R_far (p := ⟨gb154, 0, none⟩) (Kd.R_types HO160.out BK154.out (by decide)) (fun _ hk => hk.2) (.int .i64 a0_0)) (fun _ hk => hk.2) (.slice Ao9 y158.length co9)) (fun _ hk => trivial), tB⟩
 ·rw [if_neg c2] at H
  exact absurd H (by simp)

/-! ### spec_OpenClaims: function 121 -/
def spec_OpenClaims.l0 : Nat → Int → List Int → Int → Int → List (S104) → Option (List Int)
 | 0, _, _, _, _, _ => none
 | k + 1, x1, x5, x6, x162000, x162001 => if x6 < (x162001.length : Int) then (if 0 ≤ x6 then (if ((rd_T104 x162001 x6).f1) = x1 then (if ((rd_T104 x162001 x6).f5) = 1 then (if x5.length < 17592186044416 then (spec_OpenClaims.l0 k x1 (x5 ++ [(rd_T104 x162001 x6).f0]) (wrap64 (x6 + 1)) x162000 x162001) else (none)) else (spec_OpenClaims.l0 k x1 x5 (wrap64 (x6 + 1)) x162000 x162001)) else (spec_OpenClaims.l0 k x1 x5 (wrap64 (x6 + 1)) x162000 x162001)) else (none)) else (some x5)
def spec_OpenClaims.f (k : Nat) (a0_0 : Int) (l0_1 : List (S104)) (a1 : Int) : Option (List Int) := spec_OpenClaims.l0 k a1 (([] : List Int)) 0 a0_0 l0_1
theorem spec_OpenClaims.mono_l : ∀ k, (∀ y0 y1 y2 y3 y4, LeO (spec_OpenClaims.l0 k y0 y1 y2 y3 y4) (spec_OpenClaims.l0 (k + 1) y0 y1 y2 y3 y4))
 | 0 => fun _ _ _ _ _ r h => by simp [spec_OpenClaims.l0] at h
 | k + 1 => by
  have ih0 := spec_OpenClaims.mono_l k
  ·intro y0 y1 y2 y3 y4
   unfold spec_OpenClaims.l0
   repeat' first
   | (with_reducible exact ih0 _ _ _ _ _)
   | (with_reducible exact LeO.refl _)
   | (with_reducible exact LeO.none _)
   | (with_reducible refine LeO.ite ?_ ?_)
   | (with_reducible refine LeO.bind ?_ (fun _ => ?_))
   | exact ih0 _ _ _ _ _
   | exact LeO.none _
   | refine LeO.ite ?_ ?_
   | refine LeO.bind ?_ (fun _ => ?_)
theorem spec_OpenClaims.mono : ∀ a0 a1 a2 k, LeO (spec_OpenClaims.f k a0 a1 a2) (spec_OpenClaims.f (k + 1) a0 a1 a2) := by
 intro a0 a1 a2 k
 have ih0 := spec_OpenClaims.mono_l k
 unfold spec_OpenClaims.f
 repeat' first
   | (with_reducible exact ih0 _ _ _ _ _)
   | (with_reducible exact LeO.refl _)
   | (with_reducible exact LeO.none _)
   | (with_reducible refine LeO.ite ?_ ?_)
   | (with_reducible refine LeO.bind ?_ (fun _ => ?_))
   | exact ih0 _ _ _ _ _
   | exact LeO.none _
   | refine LeO.ite ?_ ?_
   | refine LeO.bind ?_ (fun _ => ?_)
set_option maxHeartbeats 8000000 in
set_option maxRecDepth 100000 in
theorem spec_OpenClaims.calls (k : Nat) (a0_0 : Int) (A0_1 : Option Addr) (c0_1 : Nat) (l0_1 : List (S104)) (a1 : Int) (r : List Int) (w : World) (hr0_1 : Kd.C k104 w A0_1 l0_1.length l0_1) (hc0_1 : l0_1.length ≤ c0_1) (h : spec_OpenClaims.f k a0_0 l0_1 a1 = some r) :
  Calls Try.prog 121 #[.agg #[.int .i64 a0_0, .slice A0_1 l0_1.length c0_1], .int .i64 a1] w fun e w' => ∃ v0_ : Value, e = .returned (v0_) ∧ Kd.R (Kd.int .i64) 3 w' w.heap.size (fun _ => True) v0_ r ∧ Below w.heap.size w w' := by
 have hu35 := Try.underlying35
 have HR0_1 := Aside0.mk hr0_1
 have HC0_1 := Aside0.mk hc0_1
 clear hr0_1 hc0_1
 have HB := Aside0.mk (Below.refl w.heap.size w)
 have H : (spec_OpenClaims.l0 k a1 (([] : List Int)) 0 a0_0 l0_1) = some r := h
 clear h
 obtain ⟨y162, hy162⟩ : ∃ y_ : List Int, y_ = (([] : List Int)) := ⟨_, rfl⟩
 replace H : (spec_OpenClaims.l0 k a1 y162 0 a0_0 l0_1) = some r := by first | (rw [hy162]; with_reducible exact H) | (have H2_ := (Option.bind_some _ _).symm.trans H; rw [hy162]; with_reducible exact H2_) | (have H2_ := (Option.bind_some _ _).symm.trans H; with_reducible exact H2_) | with_reducible exact H | (rw [hy162]; exact H) | exact H
 have Ny162 := Aside0.mk hy162
 clear hy162
 have H' := Aside0.mk H
 clear H
 go_enter Try.func121, Try.ntmps121
 go_wp2_with (first | ((with_reducible refine gate_dst (N := 2) rfl ?_); refine box_event ?hg (N := 2) ?hd (cs := #[.int .i64 a0_0, .slice A0_1 l0_1.length c0_1]) (t := 35) ?hr ?_; (case hd => rfl); (case hg => rfl); (case hr => exact tG); intro gb161 hg w3 hbox hb; have n0_ := Aside0.mk (below_step tB hb); have n1_ := Aside0.mk (hbox); have n2_ := Aside0.mk ((by rw [hg]; exact (below_size tB) : w.heap.size ≤ gb161)); have n3_ := Aside0.mk ((by rw [hg]; exact (below_size tB) : w.heap.size ≤ gb161)); clear HB; have HB := n0_; have BK161 := n1_; have GW161 := n2_; have GE161 := n3_; clear n0_ n1_ n2_ n3_; clear hb hbox hg) | ((with_reducible refine gate_dst (N := 7) rfl ?_); refine Kd.R_lit (Kd.int .i64) _ 3 ?hg (N := 7) ?hd (xs := ([] : List Int)) (inner := []) (ok := fun _ => True) (okp := fun _ => True) ?hr ?hp (fun _ hk => hk) trivial (Below.refl _ _) (Nat.le_refl _) (by simp) ?_; (case hd => rfl); (case hg => rfl); (case hr => exact tG); (case hp => exact (Reps.none _ _)); intro v163 w4 ho5 hb hg_ hnew_; clear hg_ hnew_; (first | rw [← Ny162.out] at ho5 | (simp only [Int.reduceToNat] at ho5; rw [← Ny162.out] at ho5)); have n0_ := Aside0.mk (Kd.R_lower ho5 (below_size tB)); have n1_ := Aside0.mk (blk_below (g := gb161) (o := .cells #[.int .i64 a0_0, .slice A0_1 l0_1.length c0_1] 35 (0, 0)) (tK BK161) hb); have n2_ := Aside0.mk (below_step tB hb); clear BK161; clear HB; have HO164 := n0_; have BK161 := n1_; have HB := n2_; clear n0_ n1_ n2_; clear hb ho5))
 go_loopg [5, 6] k (fun kq v5 v6 w' => ∃ (x5_1 : List Int) (x6_1 : Int), v6 = .int .i64 x6_1 ∧ Aside0 (spec_OpenClaims.l0 kq a1 x5_1 x6_1 a0_0 l0_1 = some r) ∧ Aside0 (kq ≤ k) ∧ Aside0 (Kd.R (Kd.int .i64) 3 w' w.heap.size (fun _ => True) v5 x5_1) ∧ Aside0 (w'.heap[gb161]? = some (.cells #[.int .i64 a0_0, (.slice A0_1 l0_1.length c0_1)] 35 (0, 0))) ∧ Aside0 (Below w.heap.size w w'))
 case atStart => exact ⟨(y162), (0), tS, H', ⟨Nat.le_refl _⟩, ⟨tR HO164⟩, ⟨tK BK161⟩, ⟨tB⟩⟩
 case round =>
  clear H'
  try clear c1
  try clear p2
  obtain ⟨x5_1, x6_1, rfl, HA, HK1, HO_5, BK161, HB⟩ := hrel
  cases gk with
  | zero => exact absurd HA.out (by simp [spec_OpenClaims.l0])
  | succ k1 =>
   have H := HA.out
   clear HA
   simp only [spec_OpenClaims.l0] at H
   by_cases c6 : x6_1 < (l0_1.length : Int)
   ·rw [if_pos c6] at H
    have c6b0 : decide (x6_1 < (l0_1.length : Int)) = true := decide_eq_true c6
    clear c6
    by_cases c7 : 0 ≤ x6_1
    ·rw [if_pos c7] at H
     have c7b0 : decide (0 ≤ x6_1) = true := decide_eq_true c7
     clear c7
     by_cases c8 : ((rd_T104 l0_1 x6_1).f1) = a1
     ·rw [if_pos c8] at H
      have c8b0 : (((rd_T104 l0_1 x6_1).f1) == a1) = true := beq_iff_eq.mpr c8
      have c8b1 : (((rd_T104 l0_1 x6_1).f1) != a1) = false := bne_eq_false_iff_eq.mpr c8
      clear c8
      by_cases c9 : ((rd_T104 l0_1 x6_1).f5) = 1
      ·rw [if_pos c9] at H
       have c9b0 : (((rd_T104 l0_1 x6_1).f5) == 1) = true := beq_iff_eq.mpr c9
       have c9b1 : (((rd_T104 l0_1 x6_1).f5) != 1) = false := bne_eq_false_iff_eq.mpr c9
       clear c9
       by_cases c10 : x5_1.length < 17592186044416
       ·rw [if_pos c10] at H
        have LMc10 := Aside0.mk c10
        clear c10
        obtain ⟨y168, hy168⟩ : ∃ y_ : List Int, y_ = (x5_1 ++ [(rd_T104 l0_1 x6_1).f0]) := ⟨_, rfl⟩
        replace H : (spec_OpenClaims.l0 k1 a1 y168 (wrap64 (x6_1 + 1)) a0_0 l0_1) = some r := by first | (rw [hy168]; with_reducible exact H) | (have H2_ := (Option.bind_some _ _).symm.trans H; rw [hy168]; with_reducible exact H2_) | (have H2_ := (Option.bind_some _ _).symm.trans H; with_reducible exact H2_) | with_reducible exact H | (rw [hy168]; exact H) | exact H
        have Ny168 := Aside0.mk hy168
        clear hy168
        have H' := Aside0.mk H
        clear H
        obtain ⟨hcz11_0, hcz11_1, hfz11_0, hfz11_1⟩ := bc2 BK161.out
        have p165 : 0 ≤ (x6_1 : Int) := of_decide_eq_true tA
        have q165 : x6_1 < (l0_1.length : Int) := of_decide_eq_true tA
        obtain ⟨ad165, e165, hx165_0, hx165_1, hx165_2, hx165_3, hx165_4, hx165_5⟩ := at_T104 HR0_1.out x6_1 p165 q165
        cases e165
        replace hx165_0 := hbc HB hx165_0
        replace hx165_1 := hbc HB hx165_1
        replace hx165_2 := hbc HB hx165_2
        replace hx165_3 := hbc HB hx165_3
        replace hx165_4 := hbc HB hx165_4
        replace hx165_5 := hbc HB hx165_5
        replace p165 := eq_true p165
        replace q165 := eq_true q165
        have p166 : 0 ≤ (x6_1 : Int) := of_decide_eq_true tA
        have q166 : x6_1 < (l0_1.length : Int) := of_decide_eq_true tA
        obtain ⟨ad166, e166, hx166_0, hx166_1, hx166_2, hx166_3, hx166_4, hx166_5⟩ := at_T104 HR0_1.out x6_1 p166 q166
        obtain rfl : ad165 = ad166 := (by injection e166)
        replace hx166_0 := hbc HB hx166_0
        replace hx166_1 := hbc HB hx166_1
        replace hx166_2 := hbc HB hx166_2
        replace hx166_3 := hbc HB hx166_3
        replace hx166_4 := hbc HB hx166_4
        replace hx166_5 := hbc HB hx166_5
        replace p166 := eq_true p166
        replace q166 := eq_true q166
        have p167 : 0 ≤ (x6_1 : Int) := of_decide_eq_true tA
        have q167 : x6_1 < (l0_1.length : Int) := of_decide_eq_true tA
        obtain ⟨ad167, e167, hx167_0, hx167_1, hx167_2, hx167_3, hx167_4, hx167_5⟩ := at_T104 HR0_1.out x6_1 p167 q167
        obtain rfl : ad165 = ad167 := (by injection e167)
        replace hx167_0 := hbc HB hx167_0
        replace hx167_1 := hbc HB hx167_1
        replace hx167_2 := hbc HB hx167_2
        replace hx167_3 := hbc HB hx167_3
        replace hx167_4 := hbc HB hx167_4
        replace hx167_5 := hbc HB hx167_5
        replace p167 := eq_true p167
        replace q167 := eq_true q167
        go_wp2_with (first | ((with_reducible refine gate_builtin (b := .append) (xs := #[.tmp 32, .tmp 39]) rfl ?_); at_builtin; refine Kd.R_append (Kd.int .i64) (w0 := w) w.heap.size rfl (.tmp 32) (.tmp 39) 46 3 (.int .i64 0) 8 rfl Try.underlying46 info3 rfl (by decide) (by omega) u5 x5_1 ((rd_T104 l0_1 x6_1).f0) [.int .i64 ((rd_T104 l0_1 x6_1).f0)] (fun _ => True) (fun _ => False) rfl rfl ?aP (fun _ hk => hk.elim) ?aF ?aO ?aB ?aS ?aL ?_; (case aP => exact rfl); (case aB => exact tB); (case aF => exact (fun _ _ => trivial)); (case aO => exact (tR HO_5)); (case aS => exact (below_size tB)); (case aL => have := LMc10.out; omega); intro v169 w12 ho hb hg hat; rw [← Ny168.out] at ho; have n0_ := Aside0.mk (blk_grown (g := gb161) (o := .cells #[.int .i64 a0_0, .slice (some ad165) l0_1.length c0_1] 35 (0, 0)) (tK BK161) hg (Kd.R_ne HO_5.out BK161.out (by decide))); have n1_ := Aside0.mk (hb); have n2_ := Aside0.mk (ho); clear BK161; clear HB; clear HO_5; have BK161 := n0_; have HB := n1_; have HO170 := n2_; clear n0_ n1_ n2_; clear ho hb hg hat))
        go_roundg k1
        case measure => have := HK1.out; omega
        case rel => exact ⟨(y168), (wrap64 (x6_1 + 1)), tS, H', ⟨tI⟩, ⟨tR HO170⟩, ⟨tK BK161⟩, ⟨tB⟩⟩
       ·rw [if_neg c10] at H
        exact absurd H (by simp)
      ·rw [if_neg c9] at H
       have c9b0 : (((rd_T104 l0_1 x6_1).f5) == 1) = false := beq_eq_false_iff_ne.mpr c9
       have c9b1 : (((rd_T104 l0_1 x6_1).f5) != 1) = true := bne_iff_ne.mpr c9
       have H' := Aside0.mk H
       clear H
       obtain ⟨hcz13_0, hcz13_1, hfz13_0, hfz13_1⟩ := bc2 BK161.out
       have p165 : 0 ≤ (x6_1 : Int) := of_decide_eq_true tA
       have q165 : x6_1 < (l0_1.length : Int) := of_decide_eq_true tA
       obtain ⟨ad165, e165, hx165_0, hx165_1, hx165_2, hx165_3, hx165_4, hx165_5⟩ := at_T104 HR0_1.out x6_1 p165 q165
       cases e165
       replace hx165_0 := hbc HB hx165_0
       replace hx165_1 := hbc HB hx165_1
       replace hx165_2 := hbc HB hx165_2
       replace hx165_3 := hbc HB hx165_3
       replace hx165_4 := hbc HB hx165_4
       replace hx165_5 := hbc HB hx165_5
       replace p165 := eq_true p165
       replace q165 := eq_true q165
       have p166 : 0 ≤ (x6_1 : Int) := of_decide_eq_true tA
       have q166 : x6_1 < (l0_1.length : Int) := of_decide_eq_true tA
       obtain ⟨ad166, e166, hx166_0, hx166_1, hx166_2, hx166_3, hx166_4, hx166_5⟩ := at_T104 HR0_1.out x6_1 p166 q166
       obtain rfl : ad165 = ad166 := (by injection e166)
       replace hx166_0 := hbc HB hx166_0
       replace hx166_1 := hbc HB hx166_1
       replace hx166_2 := hbc HB hx166_2
       replace hx166_3 := hbc HB hx166_3
       replace hx166_4 := hbc HB hx166_4
       replace hx166_5 := hbc HB hx166_5
       replace p166 := eq_true p166
       replace q166 := eq_true q166
       go_wp2
       go_roundg k1
       case measure => have := HK1.out; omega
       case rel => exact ⟨(x5_1), (wrap64 (x6_1 + 1)), tS, H', ⟨tI⟩, ⟨tR HO_5⟩, ⟨tK BK161⟩, ⟨tB⟩⟩
     ·rw [if_neg c8] at H
      have c8b0 : (((rd_T104 l0_1 x6_1).f1) == a1) = false := beq_eq_false_iff_ne.mpr c8
      have c8b1 : (((rd_T104 l0_1 x6_1).f1) != a1) = true := bne_iff_ne.mpr c8
      have H' := Aside0.mk H
      clear H
      obtain ⟨hcz14_0, hcz14_1, hfz14_0, hfz14_1⟩ := bc2 BK161.out
      have p165 : 0 ≤ (x6_1 : Int) := of_decide_eq_true tA
      have q165 : x6_1 < (l0_1.length : Int) := of_decide_eq_true tA
      obtain ⟨ad165, e165, hx165_0, hx165_1, hx165_2, hx165_3, hx165_4, hx165_5⟩ := at_T104 HR0_1.out x6_1 p165 q165
      cases e165
      replace hx165_0 := hbc HB hx165_0
      replace hx165_1 := hbc HB hx165_1
      replace hx165_2 := hbc HB hx165_2
      replace hx165_3 := hbc HB hx165_3
      replace hx165_4 := hbc HB hx165_4
      replace hx165_5 := hbc HB hx165_5
      replace p165 := eq_true p165
      replace q165 := eq_true q165
      go_wp2
      go_roundg k1
      case measure => have := HK1.out; omega
      case rel => exact ⟨(x5_1), (wrap64 (x6_1 + 1)), tS, H', ⟨tI⟩, ⟨tR HO_5⟩, ⟨tK BK161⟩, ⟨tB⟩⟩
    ·rw [if_neg c7] at H
     exact absurd H (by simp)
   ·rw [if_neg c6] at H
    have c6b0 : decide (x6_1 < (l0_1.length : Int)) = false := decide_eq_false c6
    clear c6
    obtain rfl := Option.some.inj H
    obtain ⟨hcz15_0, hcz15_1, hfz15_0, hfz15_1⟩ := bc2 BK161.out
    go_wp2
    go_ret
    exact ⟨_, tE, tR HO_5, tB⟩

end Go.Proofs.Ytjggdakbphjomaa.ZFnExactFileClaim
