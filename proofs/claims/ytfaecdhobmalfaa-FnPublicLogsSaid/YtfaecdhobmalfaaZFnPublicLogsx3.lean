/- The machine side: for each Go function a Lean function and the contract that the Go code answers as it does; printed by program (wip/tmpl/pprint.sh). -/
import Derived.Test.YtfaecdhobmalfaaZFnPublicLogsx0
import Derived.Test.YtfaecdhobmalfaaZFnPublicLogsx2
namespace Go.Proofs.Ytfaecdhobmalfaa.ZFnPublicLogs
open Go.RowKit Go.Proofs.YtfaecdhobmalfaaW.PrintWords Go.Proofs.YtfaecdhobmalfaaW.PrintLast Go.Proofs.YtfaecdhobmalfaaW.PrintMore
attribute [local go_sem] max2_int min2_int max_two min_two max_three min_three max_four min_four   -- for this text's walks alone
set_option linter.unusedVariables false
set_option linter.unusedSimpArgs false

/-! ### impl_SignHead: function 36 -/
def impl_SignHead.j0 : Nat → Bool → Int → Int → Int → List Int → Option (Int × Int × Int × Int × Int × Int × Int × Bool)
 | 0, _, _, _, _, _ => none
 | k + 1, x28, x160000, x160001, x160002, x161000 => if x28 = true then (some (x160000, x160001, x160002, 0, 0, 0, 0, false)) else ((impl_RootOf.f k x161000 (x161000.length : Int)).bind fun t165 => ((impl_PublicKey.f x160000).bind fun t166 => ((impl_SignMessage.f k x160000 (([271, (x161000.length : Int), t165] : List Int))).bind fun t170 => (some (x160000, (x161000.length : Int), t165, (x161000.length : Int), t165, t166, t170, true)))))
def impl_SignHead.f (k : Nat) (a0_0 : Int) (a0_1 : Int) (a0_2 : Int) (l1_0 : List Int) : Option (Int × Int × Int × Int × Int × Int × Int × Bool) := (impl_IsValidKey.f a0_0).bind fun t163 => (if t163 = true then (if (l1_0.length : Int) < a0_1 then (impl_SignHead.j0 k true a0_0 a0_1 a0_2 l1_0) else ((impl_RootOf.f k l1_0 a0_1).bind fun t164 => (impl_SignHead.j0 k (t164 != a0_2) a0_0 a0_1 a0_2 l1_0))) else (impl_SignHead.j0 k true a0_0 a0_1 a0_2 l1_0))
theorem impl_SignHead.mono_l : ∀ k, (∀ y0 y1 y2 y3 y4, LeO (impl_SignHead.j0 k y0 y1 y2 y3 y4) (impl_SignHead.j0 (k + 1) y0 y1 y2 y3 y4))
 | 0 => fun _ _ _ _ _ r h => by simp [impl_SignHead.j0] at h
 | k + 1 => by
  have ih0 := impl_SignHead.mono_l k
  ·intro y0 y1 y2 y3 y4
   unfold impl_SignHead.j0
   repeat' first
   | (with_reducible exact ih0 _ _ _ _ _)
   | (with_reducible exact impl_RootOf.mono _ _ _)
   | (with_reducible exact impl_SignMessage.mono _ _ _)
   | (with_reducible exact LeO.refl _)
   | (with_reducible exact LeO.none _)
   | (with_reducible refine LeO.ite ?_ ?_)
   | (with_reducible refine LeO.bind ?_ (fun _ => ?_))
   | exact ih0 _ _ _ _ _
   | exact impl_RootOf.mono _ _ _
   | exact impl_SignMessage.mono _ _ _
   | exact LeO.none _
   | refine LeO.ite ?_ ?_
   | refine LeO.bind ?_ (fun _ => ?_)
theorem impl_SignHead.mono : ∀ a0 a1 a2 a3 k, LeO (impl_SignHead.f k a0 a1 a2 a3) (impl_SignHead.f (k + 1) a0 a1 a2 a3) := by
 intro a0 a1 a2 a3 k
 have ih0 := impl_SignHead.mono_l k
 unfold impl_SignHead.f
 repeat' first
   | (with_reducible exact ih0 _ _ _ _ _)
   | (with_reducible exact impl_RootOf.mono _ _ _)
   | (with_reducible exact impl_SignMessage.mono _ _ _)
   | (with_reducible exact LeO.refl _)
   | (with_reducible exact LeO.none _)
   | (with_reducible refine LeO.ite ?_ ?_)
   | (with_reducible refine LeO.bind ?_ (fun _ => ?_))
   | exact ih0 _ _ _ _ _
   | exact impl_RootOf.mono _ _ _
   | exact impl_SignMessage.mono _ _ _
   | exact LeO.none _
   | refine LeO.ite ?_ ?_
   | refine LeO.bind ?_ (fun _ => ?_)
def impl_SignHead.T1 : Bool × List (List Nat × List Nat) := (true, [([], []), ([0], [0]), ([1], [1]), ([2], [2]), ([3, 2], [3]), ([4], [4]), ([5, 4], [4, 5]), ([6, 4], [4, 6]), ([4], [4]), ([8, 4], [4, 8]), ([7, 9, 4], [4, 7, 9]), ([4, 10], [4, 10]), ([11, 4], [11]), ([12], [12]), ([13, 12], [12, 13]), ([12], [12]), ([15, 12], [12, 15]), ([14, 16, 12, 12], [12, 14, 16]), ([12], [12]), ([18, 12], [12, 18]), ([17, 19, 12], [12, 17, 19]), ([12, 20], [12, 20])])
def impl_SignHead.B1 : List Nat := [0, 1, 3, 7, 15, 31, 63, 127, 31, 287, 1023, 2047, 4095, 8191, 16383, 8191, 40959, 131071, 8191, 270335, 1048575, 2097151]
theorem impl_SignHead.tab1 : rtab .any (opsOf Try.f36 1) = impl_SignHead.T1 := by kernel_rfl
theorem impl_SignHead.bits1 : waitsOk impl_SignHead.T1.2 impl_SignHead.B1 = true := by kernel_rfl
def impl_SignHead.T5 : Bool × List (List Nat × List Nat) := (true, [([], []), ([], []), ([1], [1]), ([], []), ([3], [3]), ([], []), ([5], [5]), ([6], [6]), ([], []), ([8], [8]), ([], []), ([10], [10]), ([], []), ([12], [12]), ([11, 13], [11, 13]), ([9, 14, 7], [9, 14]), ([2, 4, 7, 15], [2, 4, 7, 15]), ([0, 15, 0], [0]), ([16, 17, 0, 1, 2, 3, 4, 5, 6, 7, 8, 9, 10, 11, 12, 13, 14, 15, 16, 17], [16]), ([18, 0, 1, 2, 3, 4, 5, 6, 7, 8, 9, 10, 11, 12, 13, 14, 15, 16, 17, 18], [])])
def impl_SignHead.B5 : List Nat := [0, 0, 2, 0, 8, 0, 32, 96, 0, 256, 0, 1024, 0, 4096, 15360, 32736, 65534, 65505, 262143, 524287]
theorem impl_SignHead.tab5 : rtab .any (opsOf Try.f36 5) = impl_SignHead.T5 := by kernel_rfl
theorem impl_SignHead.bits5 : waitsOk impl_SignHead.T5.2 impl_SignHead.B5 = true := by kernel_rfl
set_option maxHeartbeats 8000000 in
set_option maxRecDepth 100000 in
theorem impl_SignHead.calls (k : Nat) (a0_0 : Int) (a0_1 : Int) (a0_2 : Int) (A1_0 : Option Addr) (c1_0 : Nat) (l1_0 : List Int) (r1 : Int) (r2 : Int) (r3 : Int) (r4 : Int) (r5 : Int) (r6 : Int) (r7 : Int) (r8 : Bool) (w : World) (hr1_0 : Kd.C (Kd.int .i64) w A1_0 l1_0.length l1_0) (hc1_0 : l1_0.length ≤ c1_0) (h : impl_SignHead.f k a0_0 a0_1 a0_2 l1_0 = some (r1, r2, r3, r4, r5, r6, r7, r8)) :
  Calls Try.prog 36 #[.agg #[.int .i64 a0_0, .int .i64 a0_1, .int .i64 a0_2], .agg #[.slice A1_0 l1_0.length c1_0]] w fun e w' => e = .returned (.tuple #[.agg #[.int .i64 r1, .int .i64 r2, .int .i64 r3], .agg #[.int .i64 r4, .int .i64 r5, .int .i64 r6, .int .i64 r7], .bool r8]) ∧ Below w.heap.size w w' := by
 have hu56 := Try.underlying56
 have hu45 := Try.underlying45
 have hu58 := Try.underlying58
 have HR1_0 := Aside0.mk hr1_0
 have HC1_0 := Aside0.mk hc1_0
 clear hr1_0 hc1_0
 have HB := Aside0.mk (Below.refl w.heap.size w)
 have H : ((impl_IsValidKey.f a0_0).bind fun t163 => (if t163 = true then (if (l1_0.length : Int) < a0_1 then (impl_SignHead.j0 k true a0_0 a0_1 a0_2 l1_0) else ((impl_RootOf.f k l1_0 a0_1).bind fun t164 => (impl_SignHead.j0 k (t164 != a0_2) a0_0 a0_1 a0_2 l1_0))) else (impl_SignHead.j0 k true a0_0 a0_1 a0_2 l1_0))) = some (r1, r2, r3, r4, r5, r6, r7, r8) := h
 clear h
 have HC3 := Aside0.mk H
 clear H
 go_enter Try.func36, Try.ntmps36
 go_upto_region 1 with (first | ((with_reducible refine gate_dst (N := 2) rfl ?_); (try (refine gate_guard (by rfl) ?_; dsimp only)); refine box_event ?hg (N := 2) ?hd (cs := #[.int .i64 a0_0, .int .i64 a0_1, .int .i64 a0_2]) (t := 56) ?hr ?_; (case hd => rfl); (case hg => rfl); (case hr => exact tG); intro gb159 hg w4 hbox hb; have BK159 := Aside0.mk (hbox); have GW159 := gW HB hg; have GE159 := gW HB hg; replace HB := bH HB hb; clear hb hbox hg) | ((with_reducible refine gate_dst (N := 3) rfl ?_); (try (refine gate_guard (by rfl) ?_; dsimp only)); refine box_event ?hg (N := 3) ?hd (cs := #[.slice A1_0 l1_0.length c1_0]) (t := 45) ?hr ?_; (case hd => rfl); (case hg => rfl); (case hr => exact tG); intro gb160 hg w5 hbox hb; have BK160 := Aside0.mk (hbox); have GW160 := gW HB hg; have GE160 := gW HB hg; replace HB := bH HB hb; have NB159_160 := nL BK159 hg; have NB160_159 := nR BK159 hg; replace BK159 := bB BK159 hb; clear hb hbox hg) | ((with_reducible refine gate_dst (N := 4) rfl ?_); (try (refine gate_guard (by rfl) ?_; dsimp only)); refine box_event ?hg (N := 4) ?hd (cs := #[.int .i64 0, .int .i64 0, .int .i64 0]) (t := 56) ?hr ?_; (case hd => rfl); (case hg => rfl); (case hr => exact tG); intro gb161 hg w6 hbox hb; have BK161 := Aside0.mk (hbox); have GW161 := gW HB hg; have GE161 := gW HB hg; replace HB := bH HB hb; have NB159_161 := nL BK159 hg; have NB161_159 := nR BK159 hg; replace BK159 := bB BK159 hb; have NB160_161 := nL BK160 hg; have NB161_160 := nR BK160 hg; replace BK160 := bB BK160 hb; clear hb hbox hg) | ((with_reducible refine gate_dst (N := 5) rfl ?_); (try (refine gate_guard (by rfl) ?_; dsimp only)); refine box_event ?hg (N := 5) ?hd (cs := #[.int .i64 0, .int .i64 0, .int .i64 0, .int .i64 0]) (t := 58) ?hr ?_; (case hd => rfl); (case hg => rfl); (case hr => exact tG); intro gb162 hg w7 hbox hb; have BK162 := Aside0.mk (hbox); have GW162 := gW HB hg; have GE162 := gW HB hg; replace HB := bH HB hb; have NB159_162 := nL BK159 hg; have NB162_159 := nR BK159 hg; replace BK159 := bB BK159 hb; have NB160_162 := nL BK160 hg; have NB162_160 := nR BK160 hg; replace BK160 := bB BK160 hb; have NB161_162 := nL BK161 hg; have NB162_161 := nR BK161 hg; replace BK161 := bB BK161 hb; clear hb hbox hg))
 (try simp only [Act.put, List.setIfInBounds_toArray, List.set_cons_zero, List.set_cons_succ])
 go_cut [28] (fun v28 wc => ∃ (kq : Nat) (x28_2 : Bool), v28 = .bool x28_2 ∧ Aside0 (impl_SignHead.j0 kq x28_2 a0_0 a0_1 a0_2 l1_0 = some (r1, r2, r3, r4, r5, r6, r7, r8)) ∧ Aside0 (kq ≤ k) ∧ Aside0 (wc.heap[gb159]? = some (.cells #[.int .i64 a0_0, .int .i64 a0_1, .int .i64 a0_2] 56 (0, 0))) ∧ Aside0 (wc.heap[gb160]? = some (.cells #[(.slice A1_0 l1_0.length c1_0)] 45 (0, 0))) ∧ Aside0 (wc.heap[gb161]? = some (.cells #[.int .i64 0, .int .i64 0, .int .i64 0] 56 (0, 0))) ∧ Aside0 (wc.heap[gb162]? = some (.cells #[.int .i64 0, .int .i64 0, .int .i64 0, .int .i64 0] 58 (0, 0))) ∧ Aside0 (Below w.heap.size w wc))
 case first =>
  have H := HC3.out
  clear HC3
  replace H := Option.bind_eq_some_iff.mp H
  obtain ⟨t163, A80, H⟩ := H
  try dsimp only at H
  have A8 := Aside0.mk A80
  clear A80
  by_cases c9 : t163 = true
  ·subst c9
   have H1 : (if (l1_0.length : Int) < a0_1 then (impl_SignHead.j0 k true a0_0 a0_1 a0_2 l1_0) else ((impl_RootOf.f k l1_0 a0_1).bind fun t164 => (impl_SignHead.j0 k (t164 != a0_2) a0_0 a0_1 a0_2 l1_0))) = some (r1, r2, r3, r4, r5, r6, r7, r8) := by rw [if_pos rfl] at H; exact H
   clear H
   have H := H1
   clear H1
   by_cases c10 : (l1_0.length : Int) < a0_1
   ·rw [if_pos c10] at H
    have c10b0 : decide ((l1_0.length : Int) < a0_1) = true := decide_eq_true c10
    clear c10
    (first | rw [c10b0] | (simp only [i64_w, i32_w]; rw [c10b0]) | skip)
    have H' := Aside0.mk H
    clear H
    try go_wp2
    replace BK159 := Aside0.mk (blk_drew BK159.out)
    replace BK160 := Aside0.mk (blk_drew BK160.out)
    replace BK161 := Aside0.mk (blk_drew BK161.out)
    replace BK162 := Aside0.mk (blk_drew BK162.out)
    replace HB := Aside0.mk (below_drew1 HB.out)
    refine start_ (n := 22) (S := fun w' => w'.cell? ⟨gb159, 0, none⟩ = some (.int .i64 a0_0) ∧ w'.cell? ⟨gb159, 1, none⟩ = some (.int .i64 a0_1) ∧ w'.cell? ⟨gb159, 2, none⟩ = some (.int .i64 a0_2) ∧ w'.cell? ⟨gb160, 0, none⟩ = some (.slice A1_0 l1_0.length c1_0)) (ds := []) #[N_,N_,N_,N_,N_,N_,N_,N_,N_,N_,N_,N_,N_,N_,N_,N_,N_,N_,N_,N_,N_,N_] (by kernel_rfl) rfl rfl tH (fun hHeld => ?_); refine with_tabW impl_SignHead.tab1 impl_SignHead.bits1 (fun HT_ HW_ => ?_)
    generalize w7.drew = w11 at BK159 BK160 BK161 BK162 HB hHeld ⊢
    refine pure_ (i := 0) (N := some 7) #[Y_,N_,N_,N_,N_,N_,N_,N_,N_,N_,N_,N_,N_,N_,N_,N_,N_,N_,N_,N_,N_,N_] rfl rfl (any_of HT_.out (by kernel_rfl)) (fun _ _ _ h => h) (Or.inl ⟨by rfl, tX⟩) tV ?_
    refine take_ (i := 1) (N := some 8) (v := ?_) (a' := ?_) #[Y_,Y_,N_,N_,N_,N_,N_,N_,N_,N_,N_,N_,N_,N_,N_,N_,N_,N_,N_,N_,N_,N_] rfl rfl (take_ofW HT_.out HW_.out (by kernel_rfl)) (fun _ _ _ h => h) (Or.inl ⟨by rfl, ?_⟩) hHeld ?_ ?_
    rotate_left
    ·rintro w' ⟨s0, s1, s2, s3⟩
     go_simp
     with_reducible rfl
    rotate_left
    ·simp only [Act.put, List.setIfInBounds_toArray, List.set_cons_zero, List.set_cons_succ, i64_w, i32_w]
     rfl
    refine one_ (i := 2) (N := some 9) #[Y_,Y_,Y_,N_,N_,N_,N_,N_,N_,N_,N_,N_,N_,N_,N_,N_,N_,N_,N_,N_,N_,N_] rfl rfl (one_of HT_.out (by kernel_rfl)) (by decide) (fun K hK => ?_)
    refine goes_ Try.func69 (by kernel_rfl) rfl #[.int .i64 a0_0] (by rfl) rfl rfl tL ?_
    with_reducible refine (impl_IsValidKey.calls a0_0 true _ A8.out).mono ?_
    rintro e w' ⟨rfl, ⟨nd, rfl⟩⟩
    refine ⟨_, rfl, ?_⟩
    refine hK.out _ _ tH (fun hHeld => ?_)
    clear hK K
    refine norm_ (tV : Act.put _ (some 9) _ = _) ?_
    refine pure_ (i := 3) (N := some 10) #[Y_,Y_,Y_,Y_,N_,N_,N_,N_,N_,N_,N_,N_,N_,N_,N_,N_,N_,N_,N_,N_,N_,N_] rfl rfl (any_of HT_.out (by kernel_rfl)) (fun _ _ _ h => h) (Or.inl ⟨by rfl, tX⟩) tV ?_
    refine pure_ (i := 4) (N := some 11) #[Y_,Y_,Y_,Y_,Y_,N_,N_,N_,N_,N_,N_,N_,N_,N_,N_,N_,N_,N_,N_,N_,N_,N_] rfl rfl (any_of HT_.out (by kernel_rfl)) (fun _ _ _ h => h) (Or.inl ⟨by rfl, tX⟩) tV ?_
    refine pure_ (i := 5) (N := some 12) #[Y_,Y_,Y_,Y_,Y_,Y_,N_,N_,N_,N_,N_,N_,N_,N_,N_,N_,N_,N_,N_,N_,N_,N_] rfl rfl (any_of HT_.out (by kernel_rfl)) (fun _ _ _ h => h) (Or.inl ⟨by rfl, tX⟩) tV ?_
    refine pure_ (i := 8) (N := some 15) #[Y_,Y_,Y_,Y_,Y_,Y_,N_,N_,Y_,N_,N_,N_,N_,N_,N_,N_,N_,N_,N_,N_,N_,N_] rfl rfl (any_of HT_.out (by kernel_rfl)) (fun _ _ _ h => h) (Or.inl ⟨by rfl, tX⟩) tV ?_
    refine take_ (i := 6) (N := some 13) (v := ?_) (a' := ?_) #[Y_,Y_,Y_,Y_,Y_,Y_,Y_,N_,Y_,N_,N_,N_,N_,N_,N_,N_,N_,N_,N_,N_,N_,N_] rfl rfl (take_ofW HT_.out HW_.out (by kernel_rfl)) (fun _ _ _ h => h) (Or.inl ⟨by rfl, ?_⟩) hHeld ?_ ?_
    rotate_left
    ·rintro w' ⟨s0, s1, s2, s3⟩
     go_simp
     with_reducible rfl
    rotate_left
    ·simp only [Act.put, List.setIfInBounds_toArray, List.set_cons_zero, List.set_cons_succ, i64_w, i32_w]
     rfl
    refine pure_ (i := 7) (N := some 14) #[Y_,Y_,Y_,Y_,Y_,Y_,Y_,Y_,Y_,N_,N_,N_,N_,N_,N_,N_,N_,N_,N_,N_,N_,N_] rfl rfl (any_of HT_.out (by kernel_rfl)) (fun _ _ _ h => h) (Or.inl ⟨by rfl, tX⟩) tV ?_
    refine take_ (i := 9) (N := some 16) (v := ?_) (a' := ?_) #[Y_,Y_,Y_,Y_,Y_,Y_,Y_,Y_,Y_,Y_,N_,N_,N_,N_,N_,N_,N_,N_,N_,N_,N_,N_] rfl rfl (take_ofW HT_.out HW_.out (by kernel_rfl)) (fun _ _ _ h => h) (Or.inl ⟨by rfl, ?_⟩) hHeld ?_ ?_
    rotate_left
    ·rintro w' ⟨s0, s1, s2, s3⟩
     go_simp
     with_reducible rfl
    rotate_left
    ·simp only [Act.put, List.setIfInBounds_toArray, List.set_cons_zero, List.set_cons_succ, i64_w, i32_w]
     rfl
    refine pure_ (i := 10) (N := some 17) #[Y_,Y_,Y_,Y_,Y_,Y_,Y_,Y_,Y_,Y_,Y_,N_,N_,N_,N_,N_,N_,N_,N_,N_,N_,N_] rfl rfl (any_of HT_.out (by kernel_rfl)) (fun _ _ _ h => h) (Or.inl ⟨by rfl, tX⟩) tV ?_
    refine pure_ (i := 11) (N := some 18) #[Y_,Y_,Y_,Y_,Y_,Y_,Y_,Y_,Y_,Y_,Y_,Y_,N_,N_,N_,N_,N_,N_,N_,N_,N_,N_] rfl rfl (any_of HT_.out (by kernel_rfl)) (fun _ _ _ h => h) (Or.inl ⟨by rfl, tX⟩) tV ?_
    refine pure_ (i := 12) (N := some 19) #[Y_,Y_,Y_,Y_,Y_,Y_,Y_,Y_,Y_,Y_,Y_,Y_,Y_,N_,N_,N_,N_,N_,N_,N_,N_,N_] rfl rfl (any_of HT_.out (by kernel_rfl)) (fun _ _ _ h => h) (Or.inl ⟨by rfl, tX⟩) tV ?_
    refine pure_ (i := 13) (N := some 20) (v := undef) (a' := ?_) #[Y_,Y_,Y_,Y_,Y_,Y_,Y_,Y_,Y_,Y_,Y_,Y_,Y_,Y_,N_,N_,N_,N_,N_,N_,N_,N_] rfl rfl (any_of HT_.out (by kernel_rfl)) (fun _ _ _ h => h) (Or.inr ⟨by rfl, rfl⟩) ?_ ?_
    rotate_left
    ·simp only [Act.put, List.setIfInBounds_toArray, List.set_cons_zero, List.set_cons_succ, i64_w, i32_w]
     rfl
    refine pure_ (i := 14) (N := some 21) (v := undef) (a' := ?_) #[Y_,Y_,Y_,Y_,Y_,Y_,Y_,Y_,Y_,Y_,Y_,Y_,Y_,Y_,Y_,N_,N_,N_,N_,N_,N_,N_] rfl rfl (any_of HT_.out (by kernel_rfl)) (fun _ _ _ h => h) (Or.inr ⟨by rfl, rfl⟩) ?_ ?_
    rotate_left
    ·simp only [Act.put, List.setIfInBounds_toArray, List.set_cons_zero, List.set_cons_succ, i64_w, i32_w]
     rfl
    refine pure_ (i := 15) (N := some 22) (v := undef) (a' := ?_) #[Y_,Y_,Y_,Y_,Y_,Y_,Y_,Y_,Y_,Y_,Y_,Y_,Y_,Y_,Y_,Y_,N_,N_,N_,N_,N_,N_] rfl rfl (any_of HT_.out (by kernel_rfl)) (fun _ _ _ h => h) (Or.inr ⟨by rfl, rfl⟩) ?_ ?_
    rotate_left
    ·simp only [Act.put, List.setIfInBounds_toArray, List.set_cons_zero, List.set_cons_succ, i64_w, i32_w]
     rfl
    refine pure_ (i := 16) (N := some 23) (v := undef) (a' := ?_) #[Y_,Y_,Y_,Y_,Y_,Y_,Y_,Y_,Y_,Y_,Y_,Y_,Y_,Y_,Y_,Y_,Y_,N_,N_,N_,N_,N_] rfl rfl (any_of HT_.out (by kernel_rfl)) (fun _ _ _ h => h) (Or.inr ⟨by rfl, rfl⟩) ?_ ?_
    rotate_left
    ·simp only [Act.put, List.setIfInBounds_toArray, List.set_cons_zero, List.set_cons_succ, i64_w, i32_w]
     rfl
    refine pure_ (i := 17) (N := some 24) (v := undef) (a' := ?_) #[Y_,Y_,Y_,Y_,Y_,Y_,Y_,Y_,Y_,Y_,Y_,Y_,Y_,Y_,Y_,Y_,Y_,Y_,N_,N_,N_,N_] rfl rfl (any_of HT_.out (by kernel_rfl)) (fun _ _ _ h => h) (Or.inr ⟨by rfl, rfl⟩) ?_ ?_
    rotate_left
    ·simp only [Act.put, List.setIfInBounds_toArray, List.set_cons_zero, List.set_cons_succ, i64_w, i32_w]
     rfl
    refine pure_ (i := 18) (N := some 25) (v := undef) (a' := ?_) #[Y_,Y_,Y_,Y_,Y_,Y_,Y_,Y_,Y_,Y_,Y_,Y_,Y_,Y_,Y_,Y_,Y_,Y_,Y_,N_,N_,N_] rfl rfl (any_of HT_.out (by kernel_rfl)) (fun _ _ _ h => h) (Or.inr ⟨by rfl, rfl⟩) ?_ ?_
    rotate_left
    ·simp only [Act.put, List.setIfInBounds_toArray, List.set_cons_zero, List.set_cons_succ, i64_w, i32_w]
     rfl
    refine pure_ (i := 19) (N := some 26) (v := undef) (a' := ?_) #[Y_,Y_,Y_,Y_,Y_,Y_,Y_,Y_,Y_,Y_,Y_,Y_,Y_,Y_,Y_,Y_,Y_,Y_,Y_,Y_,N_,N_] rfl rfl (any_of HT_.out (by kernel_rfl)) (fun _ _ _ h => h) (Or.inr ⟨by rfl, rfl⟩) ?_ ?_
    rotate_left
    ·simp only [Act.put, List.setIfInBounds_toArray, List.set_cons_zero, List.set_cons_succ, i64_w, i32_w]
     rfl
    refine pure_ (i := 20) (N := some 27) (v := undef) (a' := ?_) #[Y_,Y_,Y_,Y_,Y_,Y_,Y_,Y_,Y_,Y_,Y_,Y_,Y_,Y_,Y_,Y_,Y_,Y_,Y_,Y_,Y_,N_] rfl rfl (any_of HT_.out (by kernel_rfl)) (fun _ _ _ h => h) (Or.inr ⟨by rfl, rfl⟩) ?_ ?_
    rotate_left
    ·simp only [Act.put, List.setIfInBounds_toArray, List.set_cons_zero, List.set_cons_succ, i64_w, i32_w]
     rfl
    refine pure_ (i := 21) (N := some 28) #[Y_,Y_,Y_,Y_,Y_,Y_,Y_,Y_,Y_,Y_,Y_,Y_,Y_,Y_,Y_,Y_,Y_,Y_,Y_,Y_,Y_,Y_] rfl rfl (any_of HT_.out (by kernel_rfl)) (fun _ _ _ h => h) (Or.inl ⟨by rfl, tX⟩) tV ?_
    refine done_ (done_of HT_.out (by kernel_rfl)) ?_
    try go_wp2
    go_meet
    case rel => exact ⟨_, (true), tS, H', ⟨by first | omega | exact Nat.le_refl _⟩, ⟨tK BK159⟩, ⟨tK BK160⟩, ⟨tK BK161⟩, ⟨tK BK162⟩, ⟨tB⟩⟩
   rw [if_neg c10] at H
   have c10b0 : decide ((l1_0.length : Int) < a0_1) = false := decide_eq_false c10
   clear c10
   (first | rw [c10b0] | (simp only [i64_w, i32_w]; rw [c10b0]) | skip)
   replace H := Option.bind_eq_some_iff.mp H
   obtain ⟨t164, A120, H⟩ := H
   try dsimp only at H
   have A12 := Aside0.mk A120
   clear A120
   have H' := Aside0.mk H
   clear H
   try go_wp2
   replace BK159 := Aside0.mk (blk_drew BK159.out)
   replace BK160 := Aside0.mk (blk_drew BK160.out)
   replace BK161 := Aside0.mk (blk_drew BK161.out)
   replace BK162 := Aside0.mk (blk_drew BK162.out)
   replace HB := Aside0.mk (below_drew1 HB.out)
   refine start_ (n := 22) (S := fun w' => w'.cell? ⟨gb159, 0, none⟩ = some (.int .i64 a0_0) ∧ w'.cell? ⟨gb159, 1, none⟩ = some (.int .i64 a0_1) ∧ w'.cell? ⟨gb159, 2, none⟩ = some (.int .i64 a0_2) ∧ w'.cell? ⟨gb160, 0, none⟩ = some (.slice A1_0 l1_0.length c1_0)) (ds := []) #[N_,N_,N_,N_,N_,N_,N_,N_,N_,N_,N_,N_,N_,N_,N_,N_,N_,N_,N_,N_,N_,N_] (by kernel_rfl) rfl rfl tH (fun hHeld => ?_); refine with_tabW impl_SignHead.tab1 impl_SignHead.bits1 (fun HT_ HW_ => ?_)
   generalize w7.drew = w13 at BK159 BK160 BK161 BK162 HB hHeld ⊢
   refine pure_ (i := 0) (N := some 7) #[Y_,N_,N_,N_,N_,N_,N_,N_,N_,N_,N_,N_,N_,N_,N_,N_,N_,N_,N_,N_,N_,N_] rfl rfl (any_of HT_.out (by kernel_rfl)) (fun _ _ _ h => h) (Or.inl ⟨by rfl, tX⟩) tV ?_
   refine take_ (i := 1) (N := some 8) (v := ?_) (a' := ?_) #[Y_,Y_,N_,N_,N_,N_,N_,N_,N_,N_,N_,N_,N_,N_,N_,N_,N_,N_,N_,N_,N_,N_] rfl rfl (take_ofW HT_.out HW_.out (by kernel_rfl)) (fun _ _ _ h => h) (Or.inl ⟨by rfl, ?_⟩) hHeld ?_ ?_
   rotate_left
   ·rintro w' ⟨s0, s1, s2, s3⟩
    go_simp
    with_reducible rfl
   rotate_left
   ·simp only [Act.put, List.setIfInBounds_toArray, List.set_cons_zero, List.set_cons_succ, i64_w, i32_w]
    rfl
   refine one_ (i := 2) (N := some 9) #[Y_,Y_,Y_,N_,N_,N_,N_,N_,N_,N_,N_,N_,N_,N_,N_,N_,N_,N_,N_,N_,N_,N_] rfl rfl (one_of HT_.out (by kernel_rfl)) (by decide) (fun K hK => ?_)
   refine goes_ Try.func69 (by kernel_rfl) rfl #[.int .i64 a0_0] (by rfl) rfl rfl tL ?_
   with_reducible refine (impl_IsValidKey.calls a0_0 true _ A8.out).mono ?_
   rintro e w' ⟨rfl, ⟨nd, rfl⟩⟩
   refine ⟨_, rfl, ?_⟩
   refine hK.out _ _ tH (fun hHeld => ?_)
   clear hK K
   refine norm_ (tV : Act.put _ (some 9) _ = _) ?_
   refine pure_ (i := 3) (N := some 10) #[Y_,Y_,Y_,Y_,N_,N_,N_,N_,N_,N_,N_,N_,N_,N_,N_,N_,N_,N_,N_,N_,N_,N_] rfl rfl (any_of HT_.out (by kernel_rfl)) (fun _ _ _ h => h) (Or.inl ⟨by rfl, tX⟩) tV ?_
   refine pure_ (i := 4) (N := some 11) #[Y_,Y_,Y_,Y_,Y_,N_,N_,N_,N_,N_,N_,N_,N_,N_,N_,N_,N_,N_,N_,N_,N_,N_] rfl rfl (any_of HT_.out (by kernel_rfl)) (fun _ _ _ h => h) (Or.inl ⟨by rfl, tX⟩) tV ?_
   refine pure_ (i := 5) (N := some 12) #[Y_,Y_,Y_,Y_,Y_,Y_,N_,N_,N_,N_,N_,N_,N_,N_,N_,N_,N_,N_,N_,N_,N_,N_] rfl rfl (any_of HT_.out (by kernel_rfl)) (fun _ _ _ h => h) (Or.inl ⟨by rfl, tX⟩) tV ?_
   refine pure_ (i := 8) (N := some 15) #[Y_,Y_,Y_,Y_,Y_,Y_,N_,N_,Y_,N_,N_,N_,N_,N_,N_,N_,N_,N_,N_,N_,N_,N_] rfl rfl (any_of HT_.out (by kernel_rfl)) (fun _ _ _ h => h) (Or.inl ⟨by rfl, tX⟩) tV ?_
   refine take_ (i := 6) (N := some 13) (v := ?_) (a' := ?_) #[Y_,Y_,Y_,Y_,Y_,Y_,Y_,N_,Y_,N_,N_,N_,N_,N_,N_,N_,N_,N_,N_,N_,N_,N_] rfl rfl (take_ofW HT_.out HW_.out (by kernel_rfl)) (fun _ _ _ h => h) (Or.inl ⟨by rfl, ?_⟩) hHeld ?_ ?_
   rotate_left
   ·rintro w' ⟨s0, s1, s2, s3⟩
    go_simp
    with_reducible rfl
   rotate_left
   ·simp only [Act.put, List.setIfInBounds_toArray, List.set_cons_zero, List.set_cons_succ, i64_w, i32_w]
    rfl
   refine pure_ (i := 7) (N := some 14) #[Y_,Y_,Y_,Y_,Y_,Y_,Y_,Y_,Y_,N_,N_,N_,N_,N_,N_,N_,N_,N_,N_,N_,N_,N_] rfl rfl (any_of HT_.out (by kernel_rfl)) (fun _ _ _ h => h) (Or.inl ⟨by rfl, tX⟩) tV ?_
   refine take_ (i := 9) (N := some 16) (v := ?_) (a' := ?_) #[Y_,Y_,Y_,Y_,Y_,Y_,Y_,Y_,Y_,Y_,N_,N_,N_,N_,N_,N_,N_,N_,N_,N_,N_,N_] rfl rfl (take_ofW HT_.out HW_.out (by kernel_rfl)) (fun _ _ _ h => h) (Or.inl ⟨by rfl, ?_⟩) hHeld ?_ ?_
   rotate_left
   ·rintro w' ⟨s0, s1, s2, s3⟩
    go_simp
    with_reducible rfl
   rotate_left
   ·simp only [Act.put, List.setIfInBounds_toArray, List.set_cons_zero, List.set_cons_succ, i64_w, i32_w]
    rfl
   refine pure_ (i := 10) (N := some 17) #[Y_,Y_,Y_,Y_,Y_,Y_,Y_,Y_,Y_,Y_,Y_,N_,N_,N_,N_,N_,N_,N_,N_,N_,N_,N_] rfl rfl (any_of HT_.out (by kernel_rfl)) (fun _ _ _ h => h) (Or.inl ⟨by rfl, tX⟩) tV ?_
   refine pure_ (i := 11) (N := some 18) #[Y_,Y_,Y_,Y_,Y_,Y_,Y_,Y_,Y_,Y_,Y_,Y_,N_,N_,N_,N_,N_,N_,N_,N_,N_,N_] rfl rfl (any_of HT_.out (by kernel_rfl)) (fun _ _ _ h => h) (Or.inl ⟨by rfl, tX⟩) tV ?_
   refine pure_ (i := 12) (N := some 19) #[Y_,Y_,Y_,Y_,Y_,Y_,Y_,Y_,Y_,Y_,Y_,Y_,Y_,N_,N_,N_,N_,N_,N_,N_,N_,N_] rfl rfl (any_of HT_.out (by kernel_rfl)) (fun _ _ _ h => h) (Or.inl ⟨by rfl, tX⟩) tV ?_
   refine pure_ (i := 13) (N := some 20) #[Y_,Y_,Y_,Y_,Y_,Y_,Y_,Y_,Y_,Y_,Y_,Y_,Y_,Y_,N_,N_,N_,N_,N_,N_,N_,N_] rfl rfl (any_of HT_.out (by kernel_rfl)) (fun _ _ _ h => h) (Or.inl ⟨by rfl, tX⟩) tV ?_
   refine pure_ (i := 15) (N := some 22) #[Y_,Y_,Y_,Y_,Y_,Y_,Y_,Y_,Y_,Y_,Y_,Y_,Y_,Y_,N_,Y_,N_,N_,N_,N_,N_,N_] rfl rfl (any_of HT_.out (by kernel_rfl)) (fun _ _ _ h => h) (Or.inl ⟨by rfl, tX⟩) tV ?_
   refine pure_ (i := 18) (N := some 25) #[Y_,Y_,Y_,Y_,Y_,Y_,Y_,Y_,Y_,Y_,Y_,Y_,Y_,Y_,N_,Y_,N_,N_,Y_,N_,N_,N_] rfl rfl (any_of HT_.out (by kernel_rfl)) (fun _ _ _ h => h) (Or.inl ⟨by rfl, tX⟩) tV ?_
   refine take_ (i := 14) (N := some 21) (v := ?_) (a' := ?_) #[Y_,Y_,Y_,Y_,Y_,Y_,Y_,Y_,Y_,Y_,Y_,Y_,Y_,Y_,Y_,Y_,N_,N_,Y_,N_,N_,N_] rfl rfl (take_ofW HT_.out HW_.out (by kernel_rfl)) (fun _ _ _ h => h) (Or.inl ⟨by rfl, ?_⟩) hHeld ?_ ?_
   rotate_left
   ·rintro w' ⟨s0, s1, s2, s3⟩
    go_simp
    with_reducible rfl
   rotate_left
   ·simp only [Act.put, List.setIfInBounds_toArray, List.set_cons_zero, List.set_cons_succ, i64_w, i32_w]
    rfl
   refine take_ (i := 16) (N := some 23) (v := ?_) (a' := ?_) #[Y_,Y_,Y_,Y_,Y_,Y_,Y_,Y_,Y_,Y_,Y_,Y_,Y_,Y_,Y_,Y_,Y_,N_,Y_,N_,N_,N_] rfl rfl (take_ofW HT_.out HW_.out (by kernel_rfl)) (fun _ _ _ h => h) (Or.inl ⟨by rfl, ?_⟩) hHeld ?_ ?_
   rotate_left
   ·rintro w' ⟨s0, s1, s2, s3⟩
    go_simp
    with_reducible rfl
   rotate_left
   ·simp only [Act.put, List.setIfInBounds_toArray, List.set_cons_zero, List.set_cons_succ, i64_w, i32_w]
    rfl
   refine take_ (i := 19) (N := some 26) (v := ?_) (a' := ?_) #[Y_,Y_,Y_,Y_,Y_,Y_,Y_,Y_,Y_,Y_,Y_,Y_,Y_,Y_,Y_,Y_,Y_,N_,Y_,Y_,N_,N_] rfl rfl (take_ofW HT_.out HW_.out (by kernel_rfl)) (fun _ _ _ h => h) (Or.inl ⟨by rfl, ?_⟩) hHeld ?_ ?_
   rotate_left
   ·rintro w' ⟨s0, s1, s2, s3⟩
    go_simp
    with_reducible rfl
   rotate_left
   ·simp only [Act.put, List.setIfInBounds_toArray, List.set_cons_zero, List.set_cons_succ, i64_w, i32_w]
    rfl
   refine one_ (i := 17) (N := some 24) #[Y_,Y_,Y_,Y_,Y_,Y_,Y_,Y_,Y_,Y_,Y_,Y_,Y_,Y_,Y_,Y_,Y_,Y_,Y_,Y_,N_,N_] rfl rfl (one_of HT_.out (by kernel_rfl)) (by decide) (fun K hK => ?_)
   refine goes_ Try.func53 (by kernel_rfl) rfl #[.slice A1_0 l1_0.length c1_0, .int .i64 a0_1] (by rfl) rfl rfl tL ?_
   with_reducible refine (impl_RootOf.calls k _ _ l1_0 a0_1 t164 _ ?side1 ?side2 A12.out).mono ?_
   (case side1 => repeat (first | exact (Kd.C_below HR1_0.out tB) | (with_reducible refine Kd.C_alloc ?_ _) | (with_reducible refine Kd.C_drewN ?_ _) | (with_reducible refine Kd.C_drew ?_)))
   (case side2 => exact HC1_0.out)
   rintro e w14 ⟨rfl, hb⟩
   refine ⟨_, rfl, ?_⟩
   replace BK159 := bB BK159 hb
   replace BK160 := bB BK160 hb
   replace BK161 := bB BK161 hb
   replace BK162 := bB BK162 hb
   replace HB := bH HB hb
   (try clear hb)
   (try clear hb2)
   (try clear hk)
   (try clear hi)
   refine hK.out _ _ tH (fun hHeld => ?_)
   clear hK K
   refine norm_ (tV : Act.put _ (some 24) _ = _) ?_
   refine pure_ (i := 20) (N := some 27) #[Y_,Y_,Y_,Y_,Y_,Y_,Y_,Y_,Y_,Y_,Y_,Y_,Y_,Y_,Y_,Y_,Y_,Y_,Y_,Y_,Y_,N_] rfl rfl (any_of HT_.out (by kernel_rfl)) (fun _ _ _ h => h) (Or.inl ⟨by rfl, tX⟩) tV ?_
   refine pure_ (i := 21) (N := some 28) #[Y_,Y_,Y_,Y_,Y_,Y_,Y_,Y_,Y_,Y_,Y_,Y_,Y_,Y_,Y_,Y_,Y_,Y_,Y_,Y_,Y_,Y_] rfl rfl (any_of HT_.out (by kernel_rfl)) (fun _ _ _ h => h) (Or.inl ⟨by rfl, tX⟩) tV ?_
   refine done_ (done_of HT_.out (by kernel_rfl)) ?_
   try go_wp2
   go_meet
   case rel => exact ⟨_, ((t164 != a0_2)), tS, H', ⟨by first | omega | exact Nat.le_refl _⟩, ⟨tK BK159⟩, ⟨tK BK160⟩, ⟨tK BK161⟩, ⟨tK BK162⟩, ⟨tB⟩⟩
  replace c9 := Bool.eq_false_iff.mpr c9
  subst c9
  have H1 : (impl_SignHead.j0 k true a0_0 a0_1 a0_2 l1_0) = some (r1, r2, r3, r4, r5, r6, r7, r8) := by rw [if_neg (show ¬ (false = true) by decide)] at H; exact H
  clear H
  have H := H1
  clear H1
  have H' := Aside0.mk H
  clear H
  try go_wp2
  replace BK159 := Aside0.mk (blk_drew BK159.out)
  replace BK160 := Aside0.mk (blk_drew BK160.out)
  replace BK161 := Aside0.mk (blk_drew BK161.out)
  replace BK162 := Aside0.mk (blk_drew BK162.out)
  replace HB := Aside0.mk (below_drew1 HB.out)
  refine start_ (n := 22) (S := fun w' => w'.cell? ⟨gb159, 0, none⟩ = some (.int .i64 a0_0) ∧ w'.cell? ⟨gb159, 1, none⟩ = some (.int .i64 a0_1) ∧ w'.cell? ⟨gb159, 2, none⟩ = some (.int .i64 a0_2)) (ds := []) #[N_,N_,N_,N_,N_,N_,N_,N_,N_,N_,N_,N_,N_,N_,N_,N_,N_,N_,N_,N_,N_,N_] (by kernel_rfl) rfl rfl tH (fun hHeld => ?_); refine with_tabW impl_SignHead.tab1 impl_SignHead.bits1 (fun HT_ HW_ => ?_)
  generalize w7.drew = w15 at BK159 BK160 BK161 BK162 HB hHeld ⊢
  refine pure_ (i := 0) (N := some 7) #[Y_,N_,N_,N_,N_,N_,N_,N_,N_,N_,N_,N_,N_,N_,N_,N_,N_,N_,N_,N_,N_,N_] rfl rfl (any_of HT_.out (by kernel_rfl)) (fun _ _ _ h => h) (Or.inl ⟨by rfl, tX⟩) tV ?_
  refine take_ (i := 1) (N := some 8) (v := ?_) (a' := ?_) #[Y_,Y_,N_,N_,N_,N_,N_,N_,N_,N_,N_,N_,N_,N_,N_,N_,N_,N_,N_,N_,N_,N_] rfl rfl (take_ofW HT_.out HW_.out (by kernel_rfl)) (fun _ _ _ h => h) (Or.inl ⟨by rfl, ?_⟩) hHeld ?_ ?_
  rotate_left
  ·rintro w' ⟨s0, s1, s2⟩
   go_simp
   with_reducible rfl
  rotate_left
  ·simp only [Act.put, List.setIfInBounds_toArray, List.set_cons_zero, List.set_cons_succ, i64_w, i32_w]
   rfl
  refine one_ (i := 2) (N := some 9) #[Y_,Y_,Y_,N_,N_,N_,N_,N_,N_,N_,N_,N_,N_,N_,N_,N_,N_,N_,N_,N_,N_,N_] rfl rfl (one_of HT_.out (by kernel_rfl)) (by decide) (fun K hK => ?_)
  refine goes_ Try.func69 (by kernel_rfl) rfl #[.int .i64 a0_0] (by rfl) rfl rfl tL ?_
  with_reducible refine (impl_IsValidKey.calls a0_0 false _ A8.out).mono ?_
  rintro e w' ⟨rfl, ⟨nd, rfl⟩⟩
  refine ⟨_, rfl, ?_⟩
  refine hK.out _ _ tH (fun hHeld => ?_)
  clear hK K
  refine norm_ (tV : Act.put _ (some 9) _ = _) ?_
  refine pure_ (i := 3) (N := some 10) #[Y_,Y_,Y_,Y_,N_,N_,N_,N_,N_,N_,N_,N_,N_,N_,N_,N_,N_,N_,N_,N_,N_,N_] rfl rfl (any_of HT_.out (by kernel_rfl)) (fun _ _ _ h => h) (Or.inl ⟨by rfl, tX⟩) tV ?_
  refine pure_ (i := 4) (N := some 11) #[Y_,Y_,Y_,Y_,Y_,N_,N_,N_,N_,N_,N_,N_,N_,N_,N_,N_,N_,N_,N_,N_,N_,N_] rfl rfl (any_of HT_.out (by kernel_rfl)) (fun _ _ _ h => h) (Or.inl ⟨by rfl, tX⟩) tV ?_
  refine pure_ (i := 5) (N := some 12) (v := undef) (a' := ?_) #[Y_,Y_,Y_,Y_,Y_,Y_,N_,N_,N_,N_,N_,N_,N_,N_,N_,N_,N_,N_,N_,N_,N_,N_] rfl rfl (any_of HT_.out (by kernel_rfl)) (fun _ _ _ h => h) (Or.inr ⟨by rfl, rfl⟩) ?_ ?_
  rotate_left
  ·simp only [Act.put, List.setIfInBounds_toArray, List.set_cons_zero, List.set_cons_succ, i64_w, i32_w]
   rfl
  refine pure_ (i := 6) (N := some 13) (v := undef) (a' := ?_) #[Y_,Y_,Y_,Y_,Y_,Y_,Y_,N_,N_,N_,N_,N_,N_,N_,N_,N_,N_,N_,N_,N_,N_,N_] rfl rfl (any_of HT_.out (by kernel_rfl)) (fun _ _ _ h => h) (Or.inr ⟨by rfl, rfl⟩) ?_ ?_
  rotate_left
  ·simp only [Act.put, List.setIfInBounds_toArray, List.set_cons_zero, List.set_cons_succ, i64_w, i32_w]
   rfl
  refine pure_ (i := 7) (N := some 14) (v := undef) (a' := ?_) #[Y_,Y_,Y_,Y_,Y_,Y_,Y_,Y_,N_,N_,N_,N_,N_,N_,N_,N_,N_,N_,N_,N_,N_,N_] rfl rfl (any_of HT_.out (by kernel_rfl)) (fun _ _ _ h => h) (Or.inr ⟨by rfl, rfl⟩) ?_ ?_
  rotate_left
  ·simp only [Act.put, List.setIfInBounds_toArray, List.set_cons_zero, List.set_cons_succ, i64_w, i32_w]
   rfl
  refine pure_ (i := 8) (N := some 15) (v := undef) (a' := ?_) #[Y_,Y_,Y_,Y_,Y_,Y_,Y_,Y_,Y_,N_,N_,N_,N_,N_,N_,N_,N_,N_,N_,N_,N_,N_] rfl rfl (any_of HT_.out (by kernel_rfl)) (fun _ _ _ h => h) (Or.inr ⟨by rfl, rfl⟩) ?_ ?_
  rotate_left
  ·simp only [Act.put, List.setIfInBounds_toArray, List.set_cons_zero, List.set_cons_succ, i64_w, i32_w]
   rfl
  refine pure_ (i := 9) (N := some 16) (v := undef) (a' := ?_) #[Y_,Y_,Y_,Y_,Y_,Y_,Y_,Y_,Y_,Y_,N_,N_,N_,N_,N_,N_,N_,N_,N_,N_,N_,N_] rfl rfl (any_of HT_.out (by kernel_rfl)) (fun _ _ _ h => h) (Or.inr ⟨by rfl, rfl⟩) ?_ ?_
  rotate_left
  ·simp only [Act.put, List.setIfInBounds_toArray, List.set_cons_zero, List.set_cons_succ, i64_w, i32_w]
   rfl
  refine pure_ (i := 10) (N := some 17) (v := undef) (a' := ?_) #[Y_,Y_,Y_,Y_,Y_,Y_,Y_,Y_,Y_,Y_,Y_,N_,N_,N_,N_,N_,N_,N_,N_,N_,N_,N_] rfl rfl (any_of HT_.out (by kernel_rfl)) (fun _ _ _ h => h) (Or.inr ⟨by rfl, rfl⟩) ?_ ?_
  rotate_left
  ·simp only [Act.put, List.setIfInBounds_toArray, List.set_cons_zero, List.set_cons_succ, i64_w, i32_w]
   rfl
  refine pure_ (i := 11) (N := some 18) #[Y_,Y_,Y_,Y_,Y_,Y_,Y_,Y_,Y_,Y_,Y_,Y_,N_,N_,N_,N_,N_,N_,N_,N_,N_,N_] rfl rfl (any_of HT_.out (by kernel_rfl)) (fun _ _ _ h => h) (Or.inl ⟨by rfl, tX⟩) tV ?_
  refine pure_ (i := 12) (N := some 19) #[Y_,Y_,Y_,Y_,Y_,Y_,Y_,Y_,Y_,Y_,Y_,Y_,Y_,N_,N_,N_,N_,N_,N_,N_,N_,N_] rfl rfl (any_of HT_.out (by kernel_rfl)) (fun _ _ _ h => h) (Or.inl ⟨by rfl, tX⟩) tV ?_
  refine pure_ (i := 13) (N := some 20) (v := undef) (a' := ?_) #[Y_,Y_,Y_,Y_,Y_,Y_,Y_,Y_,Y_,Y_,Y_,Y_,Y_,Y_,N_,N_,N_,N_,N_,N_,N_,N_] rfl rfl (any_of HT_.out (by kernel_rfl)) (fun _ _ _ h => h) (Or.inr ⟨by rfl, rfl⟩) ?_ ?_
  rotate_left
  ·simp only [Act.put, List.setIfInBounds_toArray, List.set_cons_zero, List.set_cons_succ, i64_w, i32_w]
   rfl
  refine pure_ (i := 14) (N := some 21) (v := undef) (a' := ?_) #[Y_,Y_,Y_,Y_,Y_,Y_,Y_,Y_,Y_,Y_,Y_,Y_,Y_,Y_,Y_,N_,N_,N_,N_,N_,N_,N_] rfl rfl (any_of HT_.out (by kernel_rfl)) (fun _ _ _ h => h) (Or.inr ⟨by rfl, rfl⟩) ?_ ?_
  rotate_left
  ·simp only [Act.put, List.setIfInBounds_toArray, List.set_cons_zero, List.set_cons_succ, i64_w, i32_w]
   rfl
  refine pure_ (i := 15) (N := some 22) (v := undef) (a' := ?_) #[Y_,Y_,Y_,Y_,Y_,Y_,Y_,Y_,Y_,Y_,Y_,Y_,Y_,Y_,Y_,Y_,N_,N_,N_,N_,N_,N_] rfl rfl (any_of HT_.out (by kernel_rfl)) (fun _ _ _ h => h) (Or.inr ⟨by rfl, rfl⟩) ?_ ?_
  rotate_left
  ·simp only [Act.put, List.setIfInBounds_toArray, List.set_cons_zero, List.set_cons_succ, i64_w, i32_w]
   rfl
  refine pure_ (i := 16) (N := some 23) (v := undef) (a' := ?_) #[Y_,Y_,Y_,Y_,Y_,Y_,Y_,Y_,Y_,Y_,Y_,Y_,Y_,Y_,Y_,Y_,Y_,N_,N_,N_,N_,N_] rfl rfl (any_of HT_.out (by kernel_rfl)) (fun _ _ _ h => h) (Or.inr ⟨by rfl, rfl⟩) ?_ ?_
  rotate_left
  ·simp only [Act.put, List.setIfInBounds_toArray, List.set_cons_zero, List.set_cons_succ, i64_w, i32_w]
   rfl
  refine pure_ (i := 17) (N := some 24) (v := undef) (a' := ?_) #[Y_,Y_,Y_,Y_,Y_,Y_,Y_,Y_,Y_,Y_,Y_,Y_,Y_,Y_,Y_,Y_,Y_,Y_,N_,N_,N_,N_] rfl rfl (any_of HT_.out (by kernel_rfl)) (fun _ _ _ h => h) (Or.inr ⟨by rfl, rfl⟩) ?_ ?_
  rotate_left
  ·simp only [Act.put, List.setIfInBounds_toArray, List.set_cons_zero, List.set_cons_succ, i64_w, i32_w]
   rfl
  refine pure_ (i := 18) (N := some 25) (v := undef) (a' := ?_) #[Y_,Y_,Y_,Y_,Y_,Y_,Y_,Y_,Y_,Y_,Y_,Y_,Y_,Y_,Y_,Y_,Y_,Y_,Y_,N_,N_,N_] rfl rfl (any_of HT_.out (by kernel_rfl)) (fun _ _ _ h => h) (Or.inr ⟨by rfl, rfl⟩) ?_ ?_
  rotate_left
  ·simp only [Act.put, List.setIfInBounds_toArray, List.set_cons_zero, List.set_cons_succ, i64_w, i32_w]
   rfl
  refine pure_ (i := 19) (N := some 26) (v := undef) (a' := ?_) #[Y_,Y_,Y_,Y_,Y_,Y_,Y_,Y_,Y_,Y_,Y_,Y_,Y_,Y_,Y_,Y_,Y_,Y_,Y_,Y_,N_,N_] rfl rfl (any_of HT_.out (by kernel_rfl)) (fun _ _ _ h => h) (Or.inr ⟨by rfl, rfl⟩) ?_ ?_
  rotate_left
  ·simp only [Act.put, List.setIfInBounds_toArray, List.set_cons_zero, List.set_cons_succ, i64_w, i32_w]
   rfl
  refine pure_ (i := 20) (N := some 27) (v := undef) (a' := ?_) #[Y_,Y_,Y_,Y_,Y_,Y_,Y_,Y_,Y_,Y_,Y_,Y_,Y_,Y_,Y_,Y_,Y_,Y_,Y_,Y_,Y_,N_] rfl rfl (any_of HT_.out (by kernel_rfl)) (fun _ _ _ h => h) (Or.inr ⟨by rfl, rfl⟩) ?_ ?_
  rotate_left
  ·simp only [Act.put, List.setIfInBounds_toArray, List.set_cons_zero, List.set_cons_succ, i64_w, i32_w]
   rfl
  refine pure_ (i := 21) (N := some 28) #[Y_,Y_,Y_,Y_,Y_,Y_,Y_,Y_,Y_,Y_,Y_,Y_,Y_,Y_,Y_,Y_,Y_,Y_,Y_,Y_,Y_,Y_] rfl rfl (any_of HT_.out (by kernel_rfl)) (fun _ _ _ h => h) (Or.inl ⟨by rfl, tX⟩) tV ?_
  refine done_ (done_of HT_.out (by kernel_rfl)) ?_
  try go_wp2
  go_meet
  case rel => exact ⟨_, (true), tS, H', ⟨by first | omega | exact Nat.le_refl _⟩, ⟨tK BK159⟩, ⟨tK BK160⟩, ⟨tK BK161⟩, ⟨tK BK162⟩, ⟨tB⟩⟩
 case rest =>
  clear HC3
  try clear c1
  try clear p2
  try clear c3
  try clear c5
  try clear c6
  try clear c9
  try clear c10
  try clear c10b0
  obtain ⟨kq, x28_2, rfl, HA, HJ2, BK159, BK160, BK161, BK162, HB⟩ := hcut
  cases kq with
  | zero => exact absurd HA.out (by simp [impl_SignHead.j0])
  | succ kj2 =>
   have H := HA.out
   clear HA
   simp only [impl_SignHead.j0] at H
   by_cases c16 : x28_2 = true
   ·subst c16
    have H1 : (some (a0_0, a0_1, a0_2, 0, 0, 0, 0, false)) = some (r1, r2, r3, r4, r5, r6, r7, r8) := by rw [if_pos rfl] at H; exact H
    clear H
    have H := H1
    clear H1
    simp only [Option.some.injEq, Prod.mk.injEq] at H
    obtain ⟨rfl, rfl, rfl, rfl, rfl, rfl, rfl, rfl⟩ := H
    have hnb17 := NB159_160.out
    have hnc17 := NB160_159.out
    have hnb18 := NB159_161.out
    have hnc18 := NB161_159.out
    have hnb19 := NB159_162.out
    have hnc19 := NB162_159.out
    obtain ⟨hcz20_0, hcz20_1, hcz20_2, hfz20_0, hfz20_1, hfz20_2⟩ := bc3 BK159.out
    have hnb21 := NB161_160.out
    have hnc21 := NB160_161.out
    have hnb22 := NB161_162.out
    have hnc22 := NB162_161.out
    obtain ⟨hcz23_0, hcz23_1, hcz23_2, hfz23_0, hfz23_1, hfz23_2⟩ := bc3 BK161.out
    have hnb24 := NB162_160.out
    have hnc24 := NB160_162.out
    obtain ⟨hcz25_0, hcz25_1, hcz25_2, hcz25_3, hfz25_0, hfz25_1, hfz25_2, hfz25_3⟩ := bc4 BK162.out
    go_wp2
    refine bodyPost_ret (results_list (rs := [.cell 4 56, .cell 5 58, .tmp 6]) rfl (by simp) (.cell gb161 56 #[.int .i64 a0_0, .int .i64 a0_1, .int .i64 a0_2] (0, 0) _ rfl (by (with_reducible repeat (first | refine blk_drewN ?_ _ | refine blk_drew ?_ | refine blk_alloc ?_ _)); refine blk_far ?_ NB161_162.out _; (with_reducible repeat (first | refine blk_drewN ?_ _ | refine blk_drew ?_ | refine blk_alloc ?_ _)); refine blk_far ?_ NB161_162.out _; (with_reducible repeat (first | refine blk_drewN ?_ _ | refine blk_drew ?_ | refine blk_alloc ?_ _)); refine blk_far ?_ NB161_162.out _; (with_reducible repeat (first | refine blk_drewN ?_ _ | refine blk_drew ?_ | refine blk_alloc ?_ _)); refine blk_far ?_ NB161_162.out _; (with_reducible repeat (first | refine blk_drewN ?_ _ | refine blk_drew ?_ | refine blk_alloc ?_ _)); refine blk_put (cs := #[.int .i64 a0_0, .int .i64 a0_1, .int .i64 0]) ?_ 2 _ rfl; (with_reducible repeat (first | refine blk_drewN ?_ _ | refine blk_drew ?_ | refine blk_alloc ?_ _)); refine blk_put (cs := #[.int .i64 a0_0, .int .i64 0, .int .i64 0]) ?_ 1 _ rfl; (with_reducible repeat (first | refine blk_drewN ?_ _ | refine blk_drew ?_ | refine blk_alloc ?_ _)); refine blk_put (cs := #[.int .i64 0, .int .i64 0, .int .i64 0]) ?_ 0 _ rfl; (with_reducible repeat (first | refine blk_drewN ?_ _ | refine blk_drew ?_ | refine blk_alloc ?_ _)); exact BK161.out) Try.underlying56 rfl (by kernel_rfl) (.cell gb162 58 #[.int .i64 0, .int .i64 0, .int .i64 0, .int .i64 0] (0, 0) _ rfl (by (with_reducible repeat (first | refine blk_drewN ?_ _ | refine blk_drew ?_ | refine blk_alloc ?_ _)); refine blk_put (cs := #[.int .i64 0, .int .i64 0, .int .i64 0, .int .i64 0]) ?_ 3 _ rfl; (with_reducible repeat (first | refine blk_drewN ?_ _ | refine blk_drew ?_ | refine blk_alloc ?_ _)); refine blk_put (cs := #[.int .i64 0, .int .i64 0, .int .i64 0, .int .i64 0]) ?_ 2 _ rfl; (with_reducible repeat (first | refine blk_drewN ?_ _ | refine blk_drew ?_ | refine blk_alloc ?_ _)); refine blk_put (cs := #[.int .i64 0, .int .i64 0, .int .i64 0, .int .i64 0]) ?_ 1 _ rfl; (with_reducible repeat (first | refine blk_drewN ?_ _ | refine blk_drew ?_ | refine blk_alloc ?_ _)); refine blk_put (cs := #[.int .i64 0, .int .i64 0, .int .i64 0, .int .i64 0]) ?_ 0 _ rfl; exact kF NB162_161 BK162) Try.underlying58 rfl (by kernel_rfl) (.tmp .nil)))) rfl ?_
    exact ⟨tE, tB⟩
   replace c16 := Bool.eq_false_iff.mpr c16
   subst c16
   have H1 : ((impl_RootOf.f kj2 l1_0 (l1_0.length : Int)).bind fun t165 => ((impl_PublicKey.f a0_0).bind fun t166 => ((impl_SignMessage.f kj2 a0_0 (([271, (l1_0.length : Int), t165] : List Int))).bind fun t170 => (some (a0_0, (l1_0.length : Int), t165, (l1_0.length : Int), t165, t166, t170, true))))) = some (r1, r2, r3, r4, r5, r6, r7, r8) := by rw [if_neg (show ¬ (false = true) by decide)] at H; exact H
   clear H
   have H := H1
   clear H1
   replace H := Option.bind_eq_some_iff.mp H
   obtain ⟨t165, A260, H⟩ := H
   try dsimp only at H
   have A26 := Aside0.mk A260
   clear A260
   replace H := Option.bind_eq_some_iff.mp H
   obtain ⟨t166, A270, H⟩ := H
   try dsimp only at H
   have A27 := Aside0.mk A270
   clear A270
   obtain ⟨y167, hy167⟩ : ∃ y_ : List Int, y_ = (([271, (l1_0.length : Int), t165] : List Int)) := ⟨_, rfl⟩
   replace H : ((impl_SignMessage.f kj2 a0_0 y167).bind fun t170 => (some (a0_0, (l1_0.length : Int), t165, (l1_0.length : Int), t165, t166, t170, true))) = some (r1, r2, r3, r4, r5, r6, r7, r8) := by first | (rw [hy167]; with_reducible exact H) | (have H2_ := (Option.bind_some _ _).symm.trans H; rw [hy167]; with_reducible exact H2_) | (have H2_ := (Option.bind_some _ _).symm.trans H; with_reducible exact H2_) | with_reducible exact H | (rw [hy167]; exact H) | exact H
   have Ny167 := Aside0.mk hy167
   clear hy167
   replace H := Option.bind_eq_some_iff.mp H
   obtain ⟨t170, A280, H⟩ := H
   try dsimp only at H
   have A28 := Aside0.mk A280
   clear A280
   simp only [Option.some.injEq, Prod.mk.injEq] at H
   obtain ⟨rfl, rfl, rfl, rfl, rfl, rfl, rfl, rfl⟩ := H
   have hnb29 := NB160_159.out
   have hnc29 := NB159_160.out
   have hnb30 := NB160_161.out
   have hnc30 := NB161_160.out
   have hnb31 := NB160_162.out
   have hnc31 := NB162_160.out
   obtain ⟨hcz32_0, hfz32_0⟩ := bc1 BK160.out
   have hnb33 := NB159_161.out
   have hnc33 := NB161_159.out
   have hnb34 := NB159_162.out
   have hnc34 := NB162_159.out
   obtain ⟨hcz35_0, hcz35_1, hcz35_2, hfz35_0, hfz35_1, hfz35_2⟩ := bc3 BK159.out
   try go_wp2_with (first | ((with_reducible refine gate_callee (f := 53) rfl ?_); refine goesL_ (some 39) rfl rfl Try.func53 (by kernel_rfl) rfl #[.slice A1_0 l1_0.length c1_0, .int .i64 (l1_0.length : Int)] rfl tL ?_; (with_reducible refine (impl_RootOf.calls kj2 _ _ l1_0 (l1_0.length : Int) t165 _ ?side1 ?side2 A26.out).mono ?_); (case side1 => exact Kd.C_below HR1_0.out tB); (case side2 => exact HC1_0.out); rintro e w36 ⟨rfl, hb⟩; refine ⟨_, rfl, ?_⟩; replace BK159 := Aside0.mk (blk_below (g := gb159) (o := .cells #[.int .i64 a0_0, .int .i64 (l1_0.length : Int), .int .i64 a0_2] 56 (0, 0)) (by (with_reducible repeat (first | refine blk_drewN ?_ _ | refine blk_drew ?_ | refine blk_alloc ?_ _)); refine blk_put (cs := #[.int .i64 a0_0, .int .i64 a0_1, .int .i64 a0_2]) ?_ 1 _ rfl; (with_reducible repeat (first | refine blk_drewN ?_ _ | refine blk_drew ?_ | refine blk_alloc ?_ _)); exact BK159.out) hb); replace BK160 := Aside0.mk (blk_below (g := gb160) (o := .cells #[.slice A1_0 l1_0.length c1_0] 45 (0, 0)) (kF NB160_159 BK160) hb); replace BK161 := Aside0.mk (blk_below (g := gb161) (o := .cells #[.int .i64 0, .int .i64 0, .int .i64 0] 56 (0, 0)) (kF NB161_159 BK161) hb); replace BK162 := Aside0.mk (blk_below (g := gb162) (o := .cells #[.int .i64 0, .int .i64 0, .int .i64 0, .int .i64 0] 58 (0, 0)) (kF NB162_159 BK162) hb); replace HB := bH HB hb; (try clear hb); (try clear hb2); (try clear hk); (try clear hi); obtain ⟨hcz37_0, hcz37_1, hcz37_2, hfz37_0, hfz37_1, hfz37_2⟩ := bc3 BK159.out))
   have n0_ : Aside0 ((w36.setCell ⟨gb159, 2, none⟩ (.int .i64 t165)).heap[gb159]? = some (.cells #[.int .i64 a0_0, .int .i64 (l1_0.length : Int), .int .i64 t165] 56 (0, 0))) := ⟨by (with_reducible repeat (first | refine blk_drewN ?_ _ | refine blk_drew ?_ | refine blk_alloc ?_ _)); refine blk_put (cs := #[.int .i64 a0_0, .int .i64 (l1_0.length : Int), .int .i64 a0_2]) ?_ 2 _ rfl; (with_reducible repeat (first | refine blk_drewN ?_ _ | refine blk_drew ?_ | refine blk_alloc ?_ _)); exact BK159.out⟩
   have n1_ : Aside0 ((w36.setCell ⟨gb159, 2, none⟩ (.int .i64 t165)).heap[gb160]? = some (.cells #[.slice A1_0 l1_0.length c1_0] 45 (0, 0))) := ⟨kF NB160_159 BK160⟩
   have n2_ : Aside0 ((w36.setCell ⟨gb159, 2, none⟩ (.int .i64 t165)).heap[gb161]? = some (.cells #[.int .i64 0, .int .i64 0, .int .i64 0] 56 (0, 0))) := ⟨kF NB161_159 BK161⟩
   have n3_ : Aside0 ((w36.setCell ⟨gb159, 2, none⟩ (.int .i64 t165)).heap[gb162]? = some (.cells #[.int .i64 0, .int .i64 0, .int .i64 0, .int .i64 0] 58 (0, 0))) := ⟨kF NB162_159 BK162⟩
   have n4_ : Aside0 (Below w.heap.size w (w36.setCell ⟨gb159, 2, none⟩ (.int .i64 t165))) := ⟨tB⟩
   (try clear BK159)
   (try clear BK160)
   (try clear BK161)
   (try clear BK162)
   (try clear HB)
   generalize (w36.setCell ⟨gb159, 2, none⟩ (.int .i64 t165)) = w38 at n0_ n1_ n2_ n3_ n4_ ⊢
   have BK159 := n0_
   have BK160 := n1_
   have BK161 := n2_
   have BK162 := n3_
   have HB := n4_
   clear n0_ n1_ n2_ n3_ n4_
   replace BK159 := Aside0.mk (blk_drew BK159.out)
   replace BK160 := Aside0.mk (blk_drew BK160.out)
   replace BK161 := Aside0.mk (blk_drew BK161.out)
   replace BK162 := Aside0.mk (blk_drew BK162.out)
   replace HB := Aside0.mk (below_drew1 HB.out)
   refine start_ (n := 20) (S := fun w' => w'.cell? ⟨gb159, 0, none⟩ = some (.int .i64 a0_0) ∧ w'.cell? ⟨gb159, 1, none⟩ = some (.int .i64 (l1_0.length : Int)) ∧ w'.cell? ⟨gb159, 2, none⟩ = some (.int .i64 t165)) (ds := []) #[N_,N_,N_,N_,N_,N_,N_,N_,N_,N_,N_,N_,N_,N_,N_,N_,N_,N_,N_,N_] (by kernel_rfl) rfl rfl tH (fun hHeld => ?_); refine with_tabW impl_SignHead.tab5 impl_SignHead.bits5 (fun HT_ HW_ => ?_)
   generalize w38.drew = w39 at BK159 BK160 BK161 BK162 HB hHeld ⊢
   refine pure_ (i := 1) (N := some 42) #[N_,Y_,N_,N_,N_,N_,N_,N_,N_,N_,N_,N_,N_,N_,N_,N_,N_,N_,N_,N_] rfl rfl (any_of HT_.out (by kernel_rfl)) (fun _ _ _ h => h) (Or.inl ⟨by rfl, tX⟩) tV ?_
   refine pure_ (i := 3) (N := some 44) #[N_,Y_,N_,Y_,N_,N_,N_,N_,N_,N_,N_,N_,N_,N_,N_,N_,N_,N_,N_,N_] rfl rfl (any_of HT_.out (by kernel_rfl)) (fun _ _ _ h => h) (Or.inl ⟨by rfl, tX⟩) tV ?_
   refine pure_ (i := 5) (N := some 46) #[N_,Y_,N_,Y_,N_,Y_,N_,N_,N_,N_,N_,N_,N_,N_,N_,N_,N_,N_,N_,N_] rfl rfl (any_of HT_.out (by kernel_rfl)) (fun _ _ _ h => h) (Or.inl ⟨by rfl, tX⟩) tV ?_
   refine pure_ (i := 8) (N := some 49) #[N_,Y_,N_,Y_,N_,Y_,N_,N_,Y_,N_,N_,N_,N_,N_,N_,N_,N_,N_,N_,N_] rfl rfl (any_of HT_.out (by kernel_rfl)) (fun _ _ _ h => h) (Or.inl ⟨by rfl, tX⟩) tV ?_
   refine pure_ (i := 10) (N := some 51) #[N_,Y_,N_,Y_,N_,Y_,N_,N_,Y_,N_,Y_,N_,N_,N_,N_,N_,N_,N_,N_,N_] rfl rfl (any_of HT_.out (by kernel_rfl)) (fun _ _ _ h => h) (Or.inl ⟨by rfl, tX⟩) tV ?_
   refine pure_ (i := 12) (N := some 53) #[N_,Y_,N_,Y_,N_,Y_,N_,N_,Y_,N_,Y_,N_,Y_,N_,N_,N_,N_,N_,N_,N_] rfl rfl (any_of HT_.out (by kernel_rfl)) (fun _ _ _ h => h) (Or.inl ⟨by rfl, tX⟩) tV ?_
   refine take_ (i := 0) (N := some 41) (v := ?_) (a' := ?_) #[Y_,Y_,N_,Y_,N_,Y_,N_,N_,Y_,N_,Y_,N_,Y_,N_,N_,N_,N_,N_,N_,N_] rfl rfl (take_ofW HT_.out HW_.out (by kernel_rfl)) (fun _ _ _ h => h) (Or.inl ⟨by rfl, ?_⟩) hHeld ?_ ?_
   rotate_left
   ·rintro w' ⟨s0, s1, s2⟩
    go_simp
    with_reducible rfl
   rotate_left
   ·simp only [Act.put, List.setIfInBounds_toArray, List.set_cons_zero, List.set_cons_succ, i64_w, i32_w]
    rfl
   refine take_ (i := 2) (N := some 43) (v := ?_) (a' := ?_) #[Y_,Y_,Y_,Y_,N_,Y_,N_,N_,Y_,N_,Y_,N_,Y_,N_,N_,N_,N_,N_,N_,N_] rfl rfl (take_ofW HT_.out HW_.out (by kernel_rfl)) (fun _ _ _ h => h) (Or.inl ⟨by rfl, ?_⟩) hHeld ?_ ?_
   rotate_left
   ·rintro w' ⟨s0, s1, s2⟩
    go_simp
    with_reducible rfl
   rotate_left
   ·simp only [Act.put, List.setIfInBounds_toArray, List.set_cons_zero, List.set_cons_succ, i64_w, i32_w]
    rfl
   refine take_ (i := 4) (N := some 45) (v := ?_) (a' := ?_) #[Y_,Y_,Y_,Y_,Y_,Y_,N_,N_,Y_,N_,Y_,N_,Y_,N_,N_,N_,N_,N_,N_,N_] rfl rfl (take_ofW HT_.out HW_.out (by kernel_rfl)) (fun _ _ _ h => h) (Or.inl ⟨by rfl, ?_⟩) hHeld ?_ ?_
   rotate_left
   ·rintro w' ⟨s0, s1, s2⟩
    go_simp
    with_reducible rfl
   rotate_left
   ·simp only [Act.put, List.setIfInBounds_toArray, List.set_cons_zero, List.set_cons_succ, i64_w, i32_w]
    rfl
   refine take_ (i := 6) (N := some 47) (v := ?_) (a' := ?_) #[Y_,Y_,Y_,Y_,Y_,Y_,Y_,N_,Y_,N_,Y_,N_,Y_,N_,N_,N_,N_,N_,N_,N_] rfl rfl (take_ofW HT_.out HW_.out (by kernel_rfl)) (fun _ _ _ h => h) (Or.inl ⟨by rfl, ?_⟩) hHeld ?_ ?_
   rotate_left
   ·rintro w' ⟨s0, s1, s2⟩
    go_simp
    with_reducible rfl
   rotate_left
   ·simp only [Act.put, List.setIfInBounds_toArray, List.set_cons_zero, List.set_cons_succ, i64_w, i32_w]
    rfl
   refine take_ (i := 9) (N := some 50) (v := ?_) (a' := ?_) #[Y_,Y_,Y_,Y_,Y_,Y_,Y_,N_,Y_,Y_,Y_,N_,Y_,N_,N_,N_,N_,N_,N_,N_] rfl rfl (take_ofW HT_.out HW_.out (by kernel_rfl)) (fun _ _ _ h => h) (Or.inl ⟨by rfl, ?_⟩) hHeld ?_ ?_
   rotate_left
   ·rintro w' ⟨s0, s1, s2⟩
    go_simp
    with_reducible rfl
   rotate_left
   ·simp only [Act.put, List.setIfInBounds_toArray, List.set_cons_zero, List.set_cons_succ, i64_w, i32_w]
    rfl
   refine take_ (i := 11) (N := some 52) (v := ?_) (a' := ?_) #[Y_,Y_,Y_,Y_,Y_,Y_,Y_,N_,Y_,Y_,Y_,Y_,Y_,N_,N_,N_,N_,N_,N_,N_] rfl rfl (take_ofW HT_.out HW_.out (by kernel_rfl)) (fun _ _ _ h => h) (Or.inl ⟨by rfl, ?_⟩) hHeld ?_ ?_
   rotate_left
   ·rintro w' ⟨s0, s1, s2⟩
    go_simp
    with_reducible rfl
   rotate_left
   ·simp only [Act.put, List.setIfInBounds_toArray, List.set_cons_zero, List.set_cons_succ, i64_w, i32_w]
    rfl
   refine take_ (i := 13) (N := some 54) (v := ?_) (a' := ?_) #[Y_,Y_,Y_,Y_,Y_,Y_,Y_,N_,Y_,Y_,Y_,Y_,Y_,Y_,N_,N_,N_,N_,N_,N_] rfl rfl (take_ofW HT_.out HW_.out (by kernel_rfl)) (fun _ _ _ h => h) (Or.inl ⟨by rfl, ?_⟩) hHeld ?_ ?_
   rotate_left
   ·rintro w' ⟨s0, s1, s2⟩
    go_simp
    with_reducible rfl
   rotate_left
   ·simp only [Act.put, List.setIfInBounds_toArray, List.set_cons_zero, List.set_cons_succ, i64_w, i32_w]
    rfl
   refine join_ (σ := Value) 5 #[Y_,Y_,Y_,Y_,Y_,Y_,Y_,Y_,Y_,Y_,Y_,Y_,Y_,Y_,Y_,N_,N_,N_,N_,N_] (fun s_ => [(48, .int .i64 t166), (55, s_)]) (fun s_ w' => (w'.cell? ⟨gb159, 0, none⟩ = some (.int .i64 a0_0) ∧ w'.cell? ⟨gb159, 1, none⟩ = some (.int .i64 (l1_0.length : Int)) ∧ w'.cell? ⟨gb159, 2, none⟩ = some (.int .i64 t165)) ∧ (Kd.R (Kd.int .i64) 3 w' w.heap.size (fun _ => True) s_ y167) ∧ (w'.heap[gb159]? = some (.cells #[.int .i64 a0_0, .int .i64 (l1_0.length : Int), .int .i64 t165] 56 (0, 0))) ∧ (w'.heap[gb160]? = some (.cells #[.slice A1_0 l1_0.length c1_0] 45 (0, 0))) ∧ (w'.heap[gb161]? = some (.cells #[.int .i64 0, .int .i64 0, .int .i64 0] 56 (0, 0))) ∧ (w'.heap[gb162]? = some (.cells #[.int .i64 0, .int .i64 0, .int .i64 0, .int .i64 0] 58 (0, 0))) ∧ (Below w.heap.size w w')) ?_ ?_
   ·rintro v168 w42 ⟨hHeld, h0_, h1_, h2_, h3_, h4_, h5_⟩
    have HO169 := Aside0.mk h0_
    replace BK159 := Aside0.mk h1_
    replace BK160 := Aside0.mk h2_
    replace BK161 := Aside0.mk h3_
    replace BK162 := Aside0.mk h4_
    replace HB := Aside0.mk h5_
    clear h0_ h1_ h2_ h3_ h4_ h5_
    obtain ⟨Ao43, co43, eo43⟩ := Kd.R_slice HO169.out
    (first | subst eo43 | (injection eo43 with f1_ f2_ f3_; have f4_ := f1_.symm; have f5_ := f3_.symm; clear f1_ f2_ f3_; subst f4_; subst f5_))
    refine norm_ tM ?_
    refine one_ (i := 15) (N := some 56) #[Y_,Y_,Y_,Y_,Y_,Y_,Y_,Y_,Y_,Y_,Y_,Y_,Y_,Y_,Y_,Y_,N_,N_,N_,N_] rfl rfl (one_of HT_.out (by kernel_rfl)) (by decide) (fun K hK => ?_)
    refine goes_ Try.func71 (by kernel_rfl) rfl #[.int .i64 a0_0, .slice Ao43 y167.length co43] (by rfl) rfl rfl tL ?_
    with_reducible refine (impl_SignMessage.calls kj2 a0_0 (fun k_ => some k_ = (.slice Ao43 y167.length co43 : Value).ownBlock) _ _ y167 t170 _ ?side1 A28.out).mono ?_
    (case side1 => exact Kd.R_V (Kd.R_tight rfl (Kd.R_types (Kd.R_types (Kd.R_types (Kd.R_types (HO169.out) BK159.out (by decide)) BK160.out (by decide)) BK161.out (by decide)) BK162.out (by decide))))
    rintro e w44 ⟨rfl, hb⟩
    refine ⟨_, rfl, ?_⟩
    replace HO169 := Aside0.mk (Kd.R_below (tR HO169) hb)
    replace BK159 := bB BK159 hb
    replace BK160 := bB BK160 hb
    replace BK161 := bB BK161 hb
    replace BK162 := bB BK162 hb
    replace HB := bH HB hb
    (try clear hb)
    (try clear hb2)
    (try clear hk)
    (try clear hi)
    refine hK.out _ _ tH (fun hHeld => ?_)
    clear hK K
    refine norm_ (tV : Act.put _ (some 56) _ = _) ?_
    refine pure_ (i := 16) (N := some 57) #[Y_,Y_,Y_,Y_,Y_,Y_,Y_,Y_,Y_,Y_,Y_,Y_,Y_,Y_,Y_,Y_,Y_,N_,N_,N_] rfl rfl (any_of HT_.out (by kernel_rfl)) (fun _ _ _ h => h) (Or.inl ⟨by rfl, tX⟩) tV ?_
    refine one_ (i := 17) (N := none) #[Y_,Y_,Y_,Y_,Y_,Y_,Y_,Y_,Y_,Y_,Y_,Y_,Y_,Y_,Y_,Y_,Y_,Y_,N_,N_] rfl rfl (one_of HT_.out (by kernel_rfl)) (by decide) (fun K hK => ?_)
    have hs45 : w44.cell? ⟨gb161, 0, none⟩ = some (.int .i64 0) := (blk_cell BK161.out 0).trans rfl
    have hfs45 := blk_frozen BK161.out 0
    have hns45_0 := NB159_161.out
    have hns45_1 := NB160_161.out
    have hns45_3 := NB162_161.out
    have hms45_0 := NB161_159.out
    have hms45_1 := NB161_160.out
    have hms45_3 := NB161_162.out
    have hs46 : w44.cell? ⟨gb161, 1, none⟩ = some (.int .i64 0) := (blk_cell BK161.out 1).trans rfl
    have hfs46 := blk_frozen BK161.out 1
    have hns46_0 := NB159_161.out
    have hns46_1 := NB160_161.out
    have hns46_3 := NB162_161.out
    have hms46_0 := NB161_159.out
    have hms46_1 := NB161_160.out
    have hms46_3 := NB161_162.out
    have hs47 : w44.cell? ⟨gb161, 2, none⟩ = some (.int .i64 0) := (blk_cell BK161.out 2).trans rfl
    have hfs47 := blk_frozen BK161.out 2
    have hns47_0 := NB159_161.out
    have hns47_1 := NB160_161.out
    have hns47_3 := NB162_161.out
    have hms47_0 := NB161_159.out
    have hms47_1 := NB161_160.out
    have hms47_3 := NB161_162.out
    refine skip_ (w1 := ?_) (by rfl) rfl ?_ ?_
    rotate_left
    ·go_simp
     rfl
    refine hK.out _ _ ⟨((cell_far (p := ⟨gb161, _, none⟩) NB159_161.out _).trans (((cell_far (p := ⟨gb161, _, none⟩) NB159_161.out _).trans (((cell_far (p := ⟨gb161, _, none⟩) NB159_161.out _).trans (hHeld.1)))))), ((cell_far (p := ⟨gb161, _, none⟩) NB159_161.out _).trans (((cell_far (p := ⟨gb161, _, none⟩) NB159_161.out _).trans (((cell_far (p := ⟨gb161, _, none⟩) NB159_161.out _).trans (hHeld.2.1)))))), ((cell_far (p := ⟨gb161, _, none⟩) NB159_161.out _).trans (((cell_far (p := ⟨gb161, _, none⟩) NB159_161.out _).trans (((cell_far (p := ⟨gb161, _, none⟩) NB159_161.out _).trans (hHeld.2.2))))))⟩ (fun hHeld => ?_)
    clear hK K
    refine one_ (i := 18) (N := none) #[Y_,Y_,Y_,Y_,Y_,Y_,Y_,Y_,Y_,Y_,Y_,Y_,Y_,Y_,Y_,Y_,Y_,Y_,Y_,N_] rfl rfl (one_of HT_.out (by kernel_rfl)) (by decide) (fun K hK => ?_)
    have hs48 : w44.cell? ⟨gb162, 0, none⟩ = some (.int .i64 0) := (blk_cell BK162.out 0).trans rfl
    have hfs48 := blk_frozen BK162.out 0
    have hns48_0 := NB159_162.out
    have hns48_1 := NB160_162.out
    have hns48_2 := NB161_162.out
    have hms48_0 := NB162_159.out
    have hms48_1 := NB162_160.out
    have hms48_2 := NB162_161.out
    have hs49 : w44.cell? ⟨gb162, 1, none⟩ = some (.int .i64 0) := (blk_cell BK162.out 1).trans rfl
    have hfs49 := blk_frozen BK162.out 1
    have hns49_0 := NB159_162.out
    have hns49_1 := NB160_162.out
    have hns49_2 := NB161_162.out
    have hms49_0 := NB162_159.out
    have hms49_1 := NB162_160.out
    have hms49_2 := NB162_161.out
    have hs50 : w44.cell? ⟨gb162, 2, none⟩ = some (.int .i64 0) := (blk_cell BK162.out 2).trans rfl
    have hfs50 := blk_frozen BK162.out 2
    have hns50_0 := NB159_162.out
    have hns50_1 := NB160_162.out
    have hns50_2 := NB161_162.out
    have hms50_0 := NB162_159.out
    have hms50_1 := NB162_160.out
    have hms50_2 := NB162_161.out
    have hs51 : w44.cell? ⟨gb162, 3, none⟩ = some (.int .i64 0) := (blk_cell BK162.out 3).trans rfl
    have hfs51 := blk_frozen BK162.out 3
    have hns51_0 := NB159_162.out
    have hns51_1 := NB160_162.out
    have hns51_2 := NB161_162.out
    have hms51_0 := NB162_159.out
    have hms51_1 := NB162_160.out
    have hms51_2 := NB162_161.out
    refine skip_ (w1 := ?_) (by rfl) rfl ?_ ?_
    rotate_left
    ·go_simp
     rfl
    refine hK.out _ _ ⟨((cell_far (p := ⟨gb162, _, none⟩) NB159_162.out _).trans (((cell_far (p := ⟨gb162, _, none⟩) NB159_162.out _).trans (((cell_far (p := ⟨gb162, _, none⟩) NB159_162.out _).trans (((cell_far (p := ⟨gb162, _, none⟩) NB159_162.out _).trans (hHeld.1)))))))), ((cell_far (p := ⟨gb162, _, none⟩) NB159_162.out _).trans (((cell_far (p := ⟨gb162, _, none⟩) NB159_162.out _).trans (((cell_far (p := ⟨gb162, _, none⟩) NB159_162.out _).trans (((cell_far (p := ⟨gb162, _, none⟩) NB159_162.out _).trans (hHeld.2.1)))))))), ((cell_far (p := ⟨gb162, _, none⟩) NB159_162.out _).trans (((cell_far (p := ⟨gb162, _, none⟩) NB159_162.out _).trans (((cell_far (p := ⟨gb162, _, none⟩) NB159_162.out _).trans (((cell_far (p := ⟨gb162, _, none⟩) NB159_162.out _).trans (hHeld.2.2))))))))⟩ (fun hHeld => ?_)
    clear hK K
    refine pure_ (i := 19) (N := some 6) #[Y_,Y_,Y_,Y_,Y_,Y_,Y_,Y_,Y_,Y_,Y_,Y_,Y_,Y_,Y_,Y_,Y_,Y_,Y_,Y_] rfl rfl (any_of HT_.out (by kernel_rfl)) (fun _ _ _ h => h) (Or.inl ⟨by rfl, tX⟩) tV ?_
    refine done_ (done_of HT_.out (by kernel_rfl)) ?_
    try go_wp2
    refine bodyPost_ret (results_list (rs := [.cell 4 56, .cell 5 58, .tmp 6]) rfl (by simp) (.cell gb161 56 #[.int .i64 a0_0, .int .i64 (l1_0.length : Int), .int .i64 t165] (0, 0) _ rfl (by (with_reducible repeat (first | refine blk_drewN ?_ _ | refine blk_drew ?_ | refine blk_alloc ?_ _)); refine blk_far ?_ NB161_162.out _; (with_reducible repeat (first | refine blk_drewN ?_ _ | refine blk_drew ?_ | refine blk_alloc ?_ _)); refine blk_far ?_ NB161_162.out _; (with_reducible repeat (first | refine blk_drewN ?_ _ | refine blk_drew ?_ | refine blk_alloc ?_ _)); refine blk_far ?_ NB161_162.out _; (with_reducible repeat (first | refine blk_drewN ?_ _ | refine blk_drew ?_ | refine blk_alloc ?_ _)); refine blk_far ?_ NB161_162.out _; (with_reducible repeat (first | refine blk_drewN ?_ _ | refine blk_drew ?_ | refine blk_alloc ?_ _)); refine blk_put (cs := #[.int .i64 a0_0, .int .i64 (l1_0.length : Int), .int .i64 0]) ?_ 2 _ rfl; (with_reducible repeat (first | refine blk_drewN ?_ _ | refine blk_drew ?_ | refine blk_alloc ?_ _)); refine blk_put (cs := #[.int .i64 a0_0, .int .i64 0, .int .i64 0]) ?_ 1 _ rfl; (with_reducible repeat (first | refine blk_drewN ?_ _ | refine blk_drew ?_ | refine blk_alloc ?_ _)); refine blk_put (cs := #[.int .i64 0, .int .i64 0, .int .i64 0]) ?_ 0 _ rfl; (with_reducible repeat (first | refine blk_drewN ?_ _ | refine blk_drew ?_ | refine blk_alloc ?_ _)); exact BK161.out) Try.underlying56 rfl (by kernel_rfl) (.cell gb162 58 #[.int .i64 (l1_0.length : Int), .int .i64 t165, .int .i64 t166, .int .i64 t170] (0, 0) _ rfl (by (with_reducible repeat (first | refine blk_drewN ?_ _ | refine blk_drew ?_ | refine blk_alloc ?_ _)); refine blk_put (cs := #[.int .i64 (l1_0.length : Int), .int .i64 t165, .int .i64 t166, .int .i64 0]) ?_ 3 _ rfl; (with_reducible repeat (first | refine blk_drewN ?_ _ | refine blk_drew ?_ | refine blk_alloc ?_ _)); refine blk_put (cs := #[.int .i64 (l1_0.length : Int), .int .i64 t165, .int .i64 0, .int .i64 0]) ?_ 2 _ rfl; (with_reducible repeat (first | refine blk_drewN ?_ _ | refine blk_drew ?_ | refine blk_alloc ?_ _)); refine blk_put (cs := #[.int .i64 (l1_0.length : Int), .int .i64 0, .int .i64 0, .int .i64 0]) ?_ 1 _ rfl; (with_reducible repeat (first | refine blk_drewN ?_ _ | refine blk_drew ?_ | refine blk_alloc ?_ _)); refine blk_put (cs := #[.int .i64 0, .int .i64 0, .int .i64 0, .int .i64 0]) ?_ 0 _ rfl; exact kF NB162_161 BK162) Try.underlying58 rfl (by kernel_rfl) (.tmp .nil)))) rfl ?_
    exact ⟨tE, tB⟩
   intro hCont
   refine two_ (i := 7) (j := 14) (Ni := some 48) (Nj := some 55) #[Y_,Y_,Y_,Y_,Y_,Y_,Y_,Y_,Y_,Y_,Y_,Y_,Y_,Y_,N_,N_,N_,N_,N_,N_] #[Y_,Y_,Y_,Y_,Y_,Y_,Y_,N_,Y_,Y_,Y_,Y_,Y_,Y_,Y_,N_,N_,N_,N_,N_] rfl rfl rfl rfl (two_of HT_.out (by kernel_rfl)) (by decide) (by decide) (fun K hK => ?_) (fun K hK => ?_)
   ·refine goes_ Try.func70 (by kernel_rfl) rfl #[.int .i64 a0_0] (by rfl) rfl rfl tL ?_
    with_reducible refine (impl_PublicKey.calls a0_0 t166 _ A27.out).mono ?_
    rintro e w' ⟨rfl, ⟨nd, rfl⟩⟩
    refine ⟨_, rfl, ?_⟩
    refine hK.out _ _ tH (fun hHeld => ?_)
    clear hK K
    refine norm_ (tV : Act.put _ (some 48) _ = _) ?_
    refine one_ (i := 14) (N := some 55) #[Y_,Y_,Y_,Y_,Y_,Y_,Y_,Y_,Y_,Y_,Y_,Y_,Y_,Y_,Y_,N_,N_,N_,N_,N_] rfl rfl (one_of HT_.out (by kernel_rfl)) (by decide) (fun K hK => ?_)
    refine Kd.R_lit_step (Kd.int .i64) _ 3 ?hg (N := 55) ?hd (xs := ([271, (l1_0.length : Int), t165] : List Int)) (inner := [.int .i64 271, .int .i64 (l1_0.length : Int), .int .i64 t165]) (ok := fun _ => True) (okp := fun _ => True) ?hr ?hp (fun _ hk => hk) trivial (Below.refl _ _) (Nat.le_refl _) (by simp) ?_; (case hd => rfl); (case hg => rfl); (case hr => exact tG); (case hp => exact (Reps.one (show Kd.M (Kd.int .i64) _ _ _ 271 [.int .i64 271] from rfl) (Reps.one (show Kd.M (Kd.int .i64) _ _ _ (l1_0.length : Int) [.int .i64 (l1_0.length : Int)] from rfl) (Reps.one (show Kd.M (Kd.int .i64) _ _ _ t165 [.int .i64 t165] from rfl) (Reps.none _ _)))))
    intro v168 w40 ho41 hb hg_ hnew_
    clear hg_ hnew_
    (first | rw [← Ny167.out] at ho41 | (simp only [Int.reduceToNat] at ho41; rw [← Ny167.out] at ho41))
    have HO169 := Aside0.mk (Kd.R_lower ho41 (below_size tB))
    replace BK159 := bB BK159 hb
    replace BK160 := bB BK160 hb
    replace BK161 := bB BK161 hb
    replace BK162 := bB BK162 hb
    replace HB := bH HB hb
    clear hb ho41
    refine hK.out _ _ tH (fun hHeld => ?_)
    clear hK K
    refine norm_ (tV : Act.put _ (some 55) _ = _) ?_
    exact norm_ (by simp only [putAll, Act.put, List.setIfInBounds_toArray, List.set_cons_zero, List.set_cons_succ]) (hCont (v168) _ ⟨hHeld, tR HO169, tK BK159, tK BK160, tK BK161, tK BK162, tB⟩)
   refine Kd.R_lit_step (Kd.int .i64) _ 3 ?hg (N := 55) ?hd (xs := ([271, (l1_0.length : Int), t165] : List Int)) (inner := [.int .i64 271, .int .i64 (l1_0.length : Int), .int .i64 t165]) (ok := fun _ => True) (okp := fun _ => True) ?hr ?hp (fun _ hk => hk) trivial (Below.refl _ _) (Nat.le_refl _) (by simp) ?_; (case hd => rfl); (case hg => rfl); (case hr => exact tG); (case hp => exact (Reps.one (show Kd.M (Kd.int .i64) _ _ _ 271 [.int .i64 271] from rfl) (Reps.one (show Kd.M (Kd.int .i64) _ _ _ (l1_0.length : Int) [.int .i64 (l1_0.length : Int)] from rfl) (Reps.one (show Kd.M (Kd.int .i64) _ _ _ t165 [.int .i64 t165] from rfl) (Reps.none _ _)))))
   intro v168 w40 ho41 hb hg_ hnew_
   clear hg_ hnew_
   (first | rw [← Ny167.out] at ho41 | (simp only [Int.reduceToNat] at ho41; rw [← Ny167.out] at ho41))
   have HO169 := Aside0.mk (Kd.R_lower ho41 (below_size tB))
   replace BK159 := bB BK159 hb
   replace BK160 := bB BK160 hb
   replace BK161 := bB BK161 hb
   replace BK162 := bB BK162 hb
   replace HB := bH HB hb
   clear hb ho41
   refine hK.out _ _ tH (fun hHeld => ?_)
   clear hK K
   refine norm_ (tV : Act.put _ (some 55) _ = _) ?_
   refine one_ (i := 7) (N := some 48) #[Y_,Y_,Y_,Y_,Y_,Y_,Y_,Y_,Y_,Y_,Y_,Y_,Y_,Y_,Y_,N_,N_,N_,N_,N_] rfl rfl (one_of HT_.out (by kernel_rfl)) (by decide) (fun K hK => ?_)
   refine goes_ Try.func70 (by kernel_rfl) rfl #[.int .i64 a0_0] (by rfl) rfl rfl tL ?_
   with_reducible refine (impl_PublicKey.calls a0_0 t166 _ A27.out).mono ?_
   rintro e w' ⟨rfl, ⟨nd, rfl⟩⟩
   refine ⟨_, rfl, ?_⟩
   refine hK.out _ _ tH (fun hHeld => ?_)
   clear hK K
   refine norm_ (tV : Act.put _ (some 48) _ = _) ?_
   exact norm_ (by simp only [putAll, Act.put, List.setIfInBounds_toArray, List.set_cons_zero, List.set_cons_succ]) (hCont (v168) _ ⟨hHeld, tR HO169, tK BK159, tK BK160, tK BK161, tK BK162, tB⟩)

end Go.Proofs.Ytfaecdhobmalfaa.ZFnPublicLogs
