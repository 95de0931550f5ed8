/- The machine side: for each Go function a Lean function and the contract that the Go code answers as it does; printed by program (wip/tmpl/pprint.sh). -/
import Derived.Test.YtjggdakbphjomaaZFnGrantsx0
import Derived.Test.YtjggdakbphjomaaZFnGrantsx1
import Derived.Test.YtjggdakbphjomaaZFnGrantsx7
namespace Go.Proofs.Ytjggdakbphjomaa.ZFnGrants
open Go.RowKit Go.Proofs.YtjggdakbphjomaaW.PrintWords Go.Proofs.YtjggdakbphjomaaW.PrintLast Go.Proofs.YtjggdakbphjomaaW.PrintMore
attribute [local go_sem] max2_int min2_int max_two min_two max_three min_three max_four min_four   -- for this text's walks alone
set_option linter.unusedVariables false
set_option linter.unusedSimpArgs false

/-! ### spec_l27Chain: function 93 -/
mutual
def spec_l27Chain.l0 : Nat → List (S64) → Int → Int → List Int → Int → Int → Option ((List (S64)) × Int × Int)
 | 0, _, _, _, _, _, _ => none
 | k + 1, x3, x4, x5, x1000, x1001, x1002 => if x5 > 0 then ((spec_PublicKey.f (wrap64 (102 + (x3.length : Int)))).bind fun t258 => ((spec_l1Int.f x1000 x1001 x1002 (([7, 7, 3, 5, 1] : List Int))).bind fun bt262 => ((spec_l1Below.f x1000 bt262.2.1 bt262.2.2 9).bind fun bt265 => ((spec_MakeGrant.f k (wrap64 (101 + (x3.length : Int))) t258 bt262.1 (wrap64 (5 + bt265.1)) x4).bind fun bt268 => (if bt268.2.2.2.2.2.2 = true then (if x3.length < 2932031007402 then (spec_l27Chain.l0 k (x3 ++ [(⟨bt268.1, bt268.2.1, bt268.2.2.1, bt268.2.2.2.1, bt268.2.2.2.2.1, bt268.2.2.2.2.2.1⟩ : S64)]) (wrap64 (x4 - 1)) (wrap64 (x5 - 1)) x1000 bt265.2.1 bt265.2.2) else (none)) else (spec_l27Chain.l0 k x3 (wrap64 (x4 - 1)) (wrap64 (x5 - 1)) x1000 bt265.2.1 bt265.2.2)))))) else (if (x3.length : Int) > 0 then ((spec_l1Once.f x1000 x1001 x1002 3).bind fun bt279 => (spec_l27Chain.j1 k x3 bt279.1 x1000 bt279.2.1 bt279.2.2)) else (spec_l27Chain.j1 k x3 false x1000 x1001 x1002))
def spec_l27Chain.j1 : Nat → List (S64) → Bool → List Int → Int → Int → Option ((List (S64)) × Int × Int)
 | 0, _, _, _, _, _ => none
 | k + 1, x3, x51, x1000, x1001, x1002 => if x51 = true then ((spec_l1Below.f x1000 x1001 x1002 (x3.length : Int)).bind fun bt282 => ((spec_l1Below.f x1000 bt282.2.1 bt282.2.2 5).bind fun bt285 => (if bt285.1 = 0 then (if 0 ≤ bt282.1 then (if bt282.1 < (x3.length : Int) then (some ((x3.set (bt282.1 : Int).toNat (⟨(rd_T64 x3 bt282.1).f0, (rd_T64 x3 bt282.1).f1, 7, (rd_T64 x3 bt282.1).f3, (rd_T64 x3 bt282.1).f4, (rd_T64 x3 bt282.1).f5⟩ : S64)), bt285.2.1, bt285.2.2)) else (none)) else (none)) else (if bt285.1 = 1 then (if 0 ≤ bt282.1 then (if bt282.1 < (x3.length : Int) then (some ((x3.set (bt282.1 : Int).toNat (⟨(rd_T64 x3 bt282.1).f0, (rd_T64 x3 bt282.1).f1, (rd_T64 x3 bt282.1).f2, wrap64 (((rd_T64 x3 bt282.1).f3) + 1), (rd_T64 x3 bt282.1).f4, (rd_T64 x3 bt282.1).f5⟩ : S64)), bt285.2.1, bt285.2.2)) else (none)) else (none)) else (if bt285.1 = 2 then (if 0 ≤ bt282.1 then (if bt282.1 < (x3.length : Int) then (some ((x3.set (bt282.1 : Int).toNat (⟨(rd_T64 x3 bt282.1).f0, (rd_T64 x3 bt282.1).f1, (rd_T64 x3 bt282.1).f2, (rd_T64 x3 bt282.1).f3, wrap64 (((rd_T64 x3 bt282.1).f4) + 1), (rd_T64 x3 bt282.1).f5⟩ : S64)), bt285.2.1, bt285.2.2)) else (none)) else (none)) else (if bt285.1 = 3 then (if 0 ≤ bt282.1 then (if bt282.1 < (x3.length : Int) then (some ((x3.set (bt282.1 : Int).toNat (⟨(rd_T64 x3 bt282.1).f0, (rd_T64 x3 bt282.1).f1, (rd_T64 x3 bt282.1).f2, (rd_T64 x3 bt282.1).f3, (rd_T64 x3 bt282.1).f4, wrap64 (((rd_T64 x3 bt282.1).f5) + 1)⟩ : S64)), bt285.2.1, bt285.2.2)) else (none)) else (none)) else (if 0 ≤ bt282.1 then (if bt282.1 ≤ (x3.length : Int) then (if 0 ≤ (wrap64 (bt282.1 + 1)) then (if (wrap64 (bt282.1 + 1)) ≤ (x3.length : Int) then (some ((x3.eraseIdx (bt282.1 : Int).toNat), bt285.2.1, bt285.2.2)) else (none)) else (none)) else (none)) else (none)))))))) else (some (x3, x1001, x1002))
end
def spec_l27Chain.f (k : Nat) (s0_0 : List Int) (s0_1 : Int) (s0_2 : Int) : Option ((List (S64)) × Int × Int) := (spec_l1Below.f s0_0 s0_1 s0_2 4).bind fun bt252 => ((spec_l1Below.f s0_0 bt252.2.1 bt252.2.2 3).bind fun bt255 => (spec_l27Chain.l0 k (([] : List (S64))) (wrap64 (1 + bt252.1)) (wrap64 (1 + bt255.1)) s0_0 bt255.2.1 bt255.2.2))
theorem spec_l27Chain.mono_l : ∀ k, (∀ y0 y1 y2 y3 y4 y5, LeO (spec_l27Chain.l0 k y0 y1 y2 y3 y4 y5) (spec_l27Chain.l0 (k + 1) y0 y1 y2 y3 y4 y5)) ∧ (∀ y0 y1 y2 y3 y4, LeO (spec_l27Chain.j1 k y0 y1 y2 y3 y4) (spec_l27Chain.j1 (k + 1) y0 y1 y2 y3 y4))
 | 0 => ⟨fun _ _ _ _ _ _ r h => by simp [spec_l27Chain.l0] at h, fun _ _ _ _ _ r h => by simp [spec_l27Chain.j1] at h⟩
 | k + 1 => by
  obtain ⟨ih0, ih1⟩ := spec_l27Chain.mono_l k
  refine ⟨?_, ?_⟩
  ·intro y0 y1 y2 y3 y4 y5
   unfold spec_l27Chain.l0
   repeat' first
   | (with_reducible exact ih0 _ _ _ _ _ _)
   | (with_reducible exact ih1 _ _ _ _ _)
   | (with_reducible exact spec_MakeGrant.mono _ _ _ _ _ _)
   | (with_reducible exact LeO.refl _)
   | (with_reducible exact LeO.none _)
   | (with_reducible refine LeO.ite ?_ ?_)
   | (with_reducible refine LeO.bind ?_ (fun _ => ?_))
   | exact ih0 _ _ _ _ _ _
   | exact ih1 _ _ _ _ _
   | exact spec_MakeGrant.mono _ _ _ _ _ _
   | exact LeO.none _
   | refine LeO.ite ?_ ?_
   | refine LeO.bind ?_ (fun _ => ?_)
  ·intro y0 y1 y2 y3 y4
   unfold spec_l27Chain.j1
   repeat' first
   | (with_reducible exact ih0 _ _ _ _ _ _)
   | (with_reducible exact ih1 _ _ _ _ _)
   | (with_reducible exact spec_MakeGrant.mono _ _ _ _ _ _)
   | (with_reducible exact LeO.refl _)
   | (with_reducible exact LeO.none _)
   | (with_reducible refine LeO.ite ?_ ?_)
   | (with_reducible refine LeO.bind ?_ (fun _ => ?_))
   | exact ih0 _ _ _ _ _ _
   | exact ih1 _ _ _ _ _
   | exact spec_MakeGrant.mono _ _ _ _ _ _
   | exact LeO.none _
   | refine LeO.ite ?_ ?_
   | refine LeO.bind ?_ (fun _ => ?_)
theorem spec_l27Chain.mono : ∀ a0 a1 a2 k, LeO (spec_l27Chain.f k a0 a1 a2) (spec_l27Chain.f (k + 1) a0 a1 a2) := by
 intro a0 a1 a2 k
 obtain ⟨ih0, ih1⟩ := spec_l27Chain.mono_l k
 unfold spec_l27Chain.f
 repeat' first
   | (with_reducible exact ih0 _ _ _ _ _ _)
   | (with_reducible exact ih1 _ _ _ _ _)
   | (with_reducible exact spec_MakeGrant.mono _ _ _ _ _ _)
   | (with_reducible exact LeO.refl _)
   | (with_reducible exact LeO.none _)
   | (with_reducible refine LeO.ite ?_ ?_)
   | (with_reducible refine LeO.bind ?_ (fun _ => ?_))
   | exact ih0 _ _ _ _ _ _
   | exact ih1 _ _ _ _ _
   | exact spec_MakeGrant.mono _ _ _ _ _ _
   | exact LeO.none _
   | refine LeO.ite ?_ ?_
   | refine LeO.bind ?_ (fun _ => ?_)
def spec_l27Chain.T13 : Bool × List (List Nat × List Nat) := (true, [([], []), ([], []), ([0, 1], [0, 1]), ([], []), ([], []), ([4], [4]), ([3, 5], [3, 5]), ([2, 6], [2, 6]), ([7, 7, 0, 1, 2, 3, 4, 5, 6, 7], [0, 3, 7])])
def spec_l27Chain.B13 : List Nat := [0, 0, 3, 0, 0, 16, 56, 127, 255]
theorem spec_l27Chain.tab13 : rtab .any (opsOf Try.f93 13) = spec_l27Chain.T13 := by kernel_rfl
theorem spec_l27Chain.bits13 : waitsOk spec_l27Chain.T13.2 spec_l27Chain.B13 = true := by kernel_rfl
set_option maxHeartbeats 8000000 in
set_option maxRecDepth 100000 in
theorem spec_l27Chain.calls (k : Nat) (g : Nat) (s0_0 : List Int) (s0_1 : Int) (s0_2 : Int) (r1 : List (S64)) (r2 : Int) (r3 : Int) (w0 w : World) (hI : IsS139 w0 w g s0_0 s0_1 s0_2) (hB : Below w0.heap.size w0 w) (h : spec_l27Chain.f k s0_0 s0_1 s0_2 = some (r1, r2, r3)) :
  Calls Try.prog 93 #[.pointer (some ⟨g, 0, none⟩)] w fun e w' => ∃ v0_ : Value, e = .returned (v0_) ∧ Kd.R k64 64 w' w.heap.size (fun _ => True) v0_ r1 ∧ IsS139 w0 w' g s0_0 r2 r3 ∧ Below w0.heap.size w0 w' ∧ KeepBut w w' g none := by
 have hu64 := Try.underlying64
 have HI0 := Aside0.mk hI
 have HK := Aside0.mk (KeepBut.refl w g none)
 have HL := Aside0.mk hB.size
 clear hI
 have HW0 := Aside0.mk hB.size
 have HB := Aside0.mk hB
 clear hB
 have H : ((spec_l1Below.f s0_0 s0_1 s0_2 4).bind fun bt252 => ((spec_l1Below.f s0_0 bt252.2.1 bt252.2.2 3).bind fun bt255 => (spec_l27Chain.l0 k (([] : List (S64))) (wrap64 (1 + bt252.1)) (wrap64 (1 + bt255.1)) s0_0 bt255.2.1 bt255.2.2))) = some (r1, r2, r3) := h
 clear h
 obtain ⟨y249, hy249⟩ : ∃ y_ : List (S64), y_ = (([] : List (S64))) := ⟨_, rfl⟩
 replace H : ((spec_l1Below.f s0_0 s0_1 s0_2 4).bind fun bt252 => ((spec_l1Below.f s0_0 bt252.2.1 bt252.2.2 3).bind fun bt255 => (spec_l27Chain.l0 k y249 (wrap64 (1 + bt252.1)) (wrap64 (1 + bt255.1)) s0_0 bt255.2.1 bt255.2.2))) = some (r1, r2, r3) := by first | (rw [hy249]; with_reducible exact H) | (have H2_ := (Option.bind_some _ _).symm.trans H; rw [hy249]; with_reducible exact H2_) | (have H2_ := (Option.bind_some _ _).symm.trans H; with_reducible exact H2_) | with_reducible exact H | (rw [hy249]; exact H) | exact H
 have Ny249 := Aside0.mk hy249
 clear hy249
 replace H := Option.bind_eq_some_iff.mp H
 obtain ⟨⟨t252, t253, t254⟩, A20, H⟩ := H
 try dsimp only at H
 have A2 := Aside0.mk A20
 clear A20
 replace H := Option.bind_eq_some_iff.mp H
 obtain ⟨⟨t255, t256, t257⟩, A30, H⟩ := H
 try dsimp only at H
 have A3 := Aside0.mk A30
 clear A30
 have H' := Aside0.mk H
 clear H
 go_enter Try.func93, Try.ntmps93
 go_wp2_with (first | ((with_reducible refine gate_dst (N := 9) rfl ?_); refine Kd.R_lit k64 _ 64 ?hg (N := 9) ?hd (xs := ([] : List (S64))) (inner := []) (ok := fun _ => True) (okp := fun _ => True) ?hr ?hp (fun _ hk => hk) trivial (Below.refl _ _) (Nat.le_refl _) (by simp) ?_; (case hd => rfl); (case hg => rfl); (case hr => exact tG); (case hp => exact (Reps.none _ _)); intro v250 w4 ho5 hb hg_ hnew_; clear hg_ hnew_; (first | rw [← Ny249.out] at ho5 | (simp only [Int.reduceToNat] at ho5; rw [← Ny249.out] at ho5)); have HO251 := Aside0.mk (Kd.R_lower ho5 (keep_size (w := w) (g := g) (row := none) (by repeat (first | (with_reducible first | exact HK.out | apply KeepBut.set_ | apply keep_drewN | apply keep_drew | apply keep_alloc) | exact HK.out)))); replace HK := Aside0.mk (KeepBut.trans (by repeat (first | (with_reducible first | exact HK.out | apply KeepBut.set_ | apply keep_drewN | apply keep_drew | apply keep_alloc) | exact HK.out)) (KeepBut.of_below hb g none) (.inl rfl)); replace HB := Aside0.mk (below_step (by repeat (first | (with_reducible first | exact HB.out | apply below_alloc | apply pw_below_drewN | apply below_drew1 | refine below_set ?_ (IsS139.ge HI0.out)) | exact HB.out)) hb); replace HI0 := Aside0.mk (IsS139.below (by repeat (first | (with_reducible first | exact HI0.out | apply IsS139.alloc | apply IsS139.drewN | apply IsS139.drew | apply IsS139.set_1 | apply IsS139.set_2) | exact HI0.out)) hb); clear hb ho5) | ((with_reducible refine gate_callee (f := 96) rfl ?_); refine goesL_ (some 11) rfl rfl Try.func96 (by kernel_rfl) rfl #[.pointer (some ⟨g, 0, none⟩), .int .i64 4] rfl tL ?_; (with_reducible refine (spec_l1Below.calls g s0_0 s0_1 s0_2 4 t252 t253 t254 w0 _ ?side1 ?side2 A2.out).mono ?_); (case side1 => repeat (first | (with_reducible first | exact HI0.out | apply IsS139.alloc | apply IsS139.drewN | apply IsS139.drew | apply IsS139.set_1 | apply IsS139.set_2) | exact HI0.out)); (case side2 => repeat (first | (with_reducible first | exact HB.out | apply below_alloc | apply pw_below_drewN | apply below_drew1 | refine below_set ?_ (IsS139.ge HI0.out)) | exact HB.out)); rintro e w6 ⟨rfl, hi, hb, hk⟩; refine ⟨_, rfl, ?_⟩; replace HO251 := Aside0.mk (Kd.R_mono (Kd.R_keep (IsS139.apart (show IsS139 w0 _ g s0_0 s0_1 s0_2 from by repeat (first | (with_reducible first | exact HI0.out | apply IsS139.alloc | apply IsS139.drewN | apply IsS139.drew | apply IsS139.set_1 | apply IsS139.set_2) | exact HI0.out)) (tR HO251) (by decide)) hk (fun _ h => h.2)) (fun _ h => h.1)); replace HK := Aside0.mk (KeepBut.trans (by repeat (first | (with_reducible first | exact HK.out | apply KeepBut.set_ | apply keep_drewN | apply keep_drew | apply keep_alloc) | exact HK.out)) hk (.inl rfl)); replace HB := Aside0.mk (hb); replace HI0 := Aside0.mk (hi); (try clear hb); (try clear hb2); (try clear hk); (try clear hi)) | ((with_reducible refine gate_callee (f := 96) rfl ?_); refine goesL_ (some 14) rfl rfl Try.func96 (by kernel_rfl) rfl #[.pointer (some ⟨g, 0, none⟩), .int .i64 3] rfl tL ?_; (with_reducible refine (spec_l1Below.calls g s0_0 t253 t254 3 t255 t256 t257 w0 _ ?side1 ?side2 A3.out).mono ?_); (case side1 => repeat (first | (with_reducible first | exact HI0.out | apply IsS139.alloc | apply IsS139.drewN | apply IsS139.drew | apply IsS139.set_1 | apply IsS139.set_2) | exact HI0.out)); (case side2 => repeat (first | (with_reducible first | exact HB.out | apply below_alloc | apply pw_below_drewN | apply below_drew1 | refine below_set ?_ (IsS139.ge HI0.out)) | exact HB.out)); rintro e w7 ⟨rfl, hi, hb, hk⟩; refine ⟨_, rfl, ?_⟩; replace HO251 := Aside0.mk (Kd.R_mono (Kd.R_keep (IsS139.apart (show IsS139 w0 _ g s0_0 t253 t254 from by repeat (first | (with_reducible first | exact HI0.out | apply IsS139.alloc | apply IsS139.drewN | apply IsS139.drew | apply IsS139.set_1 | apply IsS139.set_2) | exact HI0.out)) (tR HO251) (by decide)) hk (fun _ h => h.2)) (fun _ h => h.1)); replace HK := Aside0.mk (KeepBut.trans (by repeat (first | (with_reducible first | exact HK.out | apply KeepBut.set_ | apply keep_drewN | apply keep_drew | apply keep_alloc) | exact HK.out)) hk (.inl rfl)); replace HB := Aside0.mk (hb); replace HI0 := Aside0.mk (hi); (try clear hb); (try clear hb2); (try clear hk); (try clear hi)))
 go_loopg [3, 4, 5] k (fun kq v3 v4 v5 w' => ∃ (x3_1 : List (S64)) (x4_1 : Int) (x5_1 : Int) (x1001_1 : Int) (x1002_1 : Int), v4 = .int .i64 x4_1 ∧ v5 = .int .i64 x5_1 ∧ Aside0 (spec_l27Chain.l0 kq x3_1 x4_1 x5_1 s0_0 x1001_1 x1002_1 = some (r1, r2, r3)) ∧ Aside0 (kq ≤ k) ∧ Aside0 (Kd.R k64 64 w' w.heap.size (fun _ => True) v3 x3_1) ∧ Aside0 (IsS139 w0 w' g s0_0 x1001_1 x1002_1) ∧ Aside0 (KeepBut w w' g none) ∧ Aside0 (Below w0.heap.size w0 w'))
 case atStart => exact ⟨(y249), (wrap64 (1 + t252)), (wrap64 (1 + t255)), (t256), (t257), tS, tS, H', ⟨Nat.le_refl _⟩, ⟨tR HO251⟩, ⟨by repeat (first | (with_reducible first | exact HI0.out | apply IsS139.alloc | apply IsS139.drewN | apply IsS139.drew | apply IsS139.set_1 | apply IsS139.set_2) | exact HI0.out)⟩, ⟨by repeat (first | (with_reducible first | exact HK.out | apply KeepBut.set_ | apply keep_drewN | apply keep_drew | apply keep_alloc) | exact HK.out)⟩, ⟨by repeat (first | (with_reducible first | exact HB.out | apply below_alloc | apply pw_below_drewN | apply below_drew1 | refine below_set ?_ (IsS139.ge HI0.out)) | exact HB.out)⟩⟩
 case round =>
  clear H'
  try clear p2
  try clear p6
  obtain ⟨x3_1, x4_1, x5_1, x1001_1, x1002_1, rfl, rfl, HA, HK1, HO_3, HI0, HK, HB⟩ := hrel
  cases gk with
  | zero => exact absurd HA.out (by simp [spec_l27Chain.l0])
  | succ k1 =>
   have H := HA.out
   clear HA
   simp only [spec_l27Chain.l0] at H
   by_cases c8 : x5_1 > 0
   ·rw [if_pos c8] at H
    have c8b0 : decide (0 < x5_1) = true := decide_eq_true c8
    clear c8
    replace H := Option.bind_eq_some_iff.mp H
    obtain ⟨t258, A90, H⟩ := H
    try dsimp only at H
    have A9 := Aside0.mk A90
    clear A90
    obtain ⟨y259, hy259⟩ : ∃ y_ : List Int, y_ = (([7, 7, 3, 5, 1] : List Int)) := ⟨_, rfl⟩
    replace H : ((spec_l1Int.f s0_0 x1001_1 x1002_1 y259).bind fun bt262 => ((spec_l1Below.f s0_0 bt262.2.1 bt262.2.2 9).bind fun bt265 => ((spec_MakeGrant.f k1 (wrap64 (101 + (x3_1.length : Int))) t258 bt262.1 (wrap64 (5 + bt265.1)) x4_1).bind fun bt268 => (if bt268.2.2.2.2.2.2 = true then (if x3_1.length < 2932031007402 then (spec_l27Chain.l0 k1 (x3_1 ++ [(⟨bt268.1, bt268.2.1, bt268.2.2.1, bt268.2.2.2.1, bt268.2.2.2.2.1, bt268.2.2.2.2.2.1⟩ : S64)]) (wrap64 (x4_1 - 1)) (wrap64 (x5_1 - 1)) s0_0 bt265.2.1 bt265.2.2) else (none)) else (spec_l27Chain.l0 k1 x3_1 (wrap64 (x4_1 - 1)) (wrap64 (x5_1 - 1)) s0_0 bt265.2.1 bt265.2.2))))) = some (r1, r2, r3) := by first | (rw [hy259]; with_reducible exact H) | (have H2_ := (Option.bind_some _ _).symm.trans H; rw [hy259]; with_reducible exact H2_) | (have H2_ := (Option.bind_some _ _).symm.trans H; with_reducible exact H2_) | with_reducible exact H | (rw [hy259]; exact H) | exact H
    have Ny259 := Aside0.mk hy259
    clear hy259
    replace H := Option.bind_eq_some_iff.mp H
    obtain ⟨⟨t262, t263, t264⟩, A100, H⟩ := H
    try dsimp only at H
    have A10 := Aside0.mk A100
    clear A100
    replace H := Option.bind_eq_some_iff.mp H
    obtain ⟨⟨t265, t266, t267⟩, A110, H⟩ := H
    try dsimp only at H
    have A11 := Aside0.mk A110
    clear A110
    replace H := Option.bind_eq_some_iff.mp H
    obtain ⟨⟨t268, t269, t270, t271, t272, t273, t274⟩, A120, H⟩ := H
    try dsimp only at H
    have A12 := Aside0.mk A120
    clear A120
    by_cases c13 : t274 = true
    ·subst c13
     have H1 : (if x3_1.length < 2932031007402 then (spec_l27Chain.l0 k1 (x3_1 ++ [(⟨t268, t269, t270, t271, t272, t273⟩ : S64)]) (wrap64 (x4_1 - 1)) (wrap64 (x5_1 - 1)) s0_0 t266 t267) else (none)) = some (r1, r2, r3) := by rw [if_pos rfl] at H; exact H
     clear H
     have H := H1
     clear H1
     by_cases c14 : x3_1.length < 2932031007402
     ·rw [if_pos c14] at H
      have LMc14 := Aside0.mk c14
      clear c14
      obtain ⟨y276, hy276⟩ : ∃ y_ : List (S64), y_ = (x3_1 ++ [(⟨t268, t269, t270, t271, t272, t273⟩ : S64)]) := ⟨_, rfl⟩
      replace H : (spec_l27Chain.l0 k1 y276 (wrap64 (x4_1 - 1)) (wrap64 (x5_1 - 1)) s0_0 t266 t267) = some (r1, r2, r3) := by first | (rw [hy276]; with_reducible exact H) | (have H2_ := (Option.bind_some _ _).symm.trans H; rw [hy276]; with_reducible exact H2_) | (have H2_ := (Option.bind_some _ _).symm.trans H; with_reducible exact H2_) | with_reducible exact H | (rw [hy276]; exact H) | exact H
      have Ny276 := Aside0.mk hy276
      clear hy276
      have H' := Aside0.mk H
      clear H
      obtain ⟨Ao15, co15, eo15⟩ := Kd.R_slice HO_3.out
      subst eo15
      go_wp2_with (first | ((with_reducible refine gate_callee (f := 94) rfl ?_); refine goesL_ (some 27) rfl rfl Try.func94 (by kernel_rfl) rfl #[.int .i64 (wrap64 (102 + (x3_1.length : Int)))] rfl tL ?_; (with_reducible refine (spec_PublicKey.calls (wrap64 (102 + (x3_1.length : Int))) t258 _ A9.out).mono ?_); rintro e w' ⟨rfl, ⟨nd, rfl⟩⟩; refine ⟨_, rfl, ?_⟩; (try (rw [drewN_self wr]; generalize hq_ : World.drewN wr _ = wr; have n0_ : Aside0 (Kd.R k64 64 wr w.heap.size (fun _ => True) (.slice Ao15 x3_1.length co15) x3_1) := ⟨by rw [← hq_]; exact tR HO_3⟩; have n1_ : Aside0 (IsS139 w0 wr g s0_0 x1001_1 x1002_1) := ⟨by rw [← hq_]; exact (by repeat (first | (with_reducible first | exact HI0.out | apply IsS139.alloc | apply IsS139.drewN | apply IsS139.drew | apply IsS139.set_1 | apply IsS139.set_2) | exact HI0.out))⟩; have n2_ : Aside0 (KeepBut w wr g none) := ⟨by rw [← hq_]; exact (by repeat (first | (with_reducible first | exact HK.out | apply KeepBut.set_ | apply keep_drewN | apply keep_drew | apply keep_alloc) | exact HK.out))⟩; have n3_ : Aside0 (Below w0.heap.size w0 wr) := ⟨by rw [← hq_]; exact (by repeat (first | (with_reducible first | exact HB.out | apply below_alloc | apply pw_below_drewN | apply below_drew1 | refine below_set ?_ (IsS139.ge HI0.out)) | exact HB.out))⟩; clear HO_3 HI0 HK HB hq_; have HO_3 := n0_; have HI0 := n1_; have HK := n2_; have HB := n3_; clear n0_ n1_ n2_ n3_))) | ((with_reducible refine gate_dst (N := 29) rfl ?_); refine Kd.R_lit (Kd.int .i64) _ 3 ?hg (N := 29) ?hd (xs := ([7, 7, 3, 5, 1] : List Int)) (inner := [.int .i64 7, .int .i64 7, .int .i64 3, .int .i64 5, .int .i64 1]) (ok := fun _ => True) (okp := fun _ => True) ?hr ?hp (fun _ hk => hk) trivial (Below.refl _ _) (Nat.le_refl _) (by simp) ?_; (case hd => rfl); (case hg => rfl); (case hr => exact tG); (case hp => exact (Reps.one (show Kd.M (Kd.int .i64) _ _ _ 7 [.int .i64 7] from rfl) (Reps.one (show Kd.M (Kd.int .i64) _ _ _ 7 [.int .i64 7] from rfl) (Reps.one (show Kd.M (Kd.int .i64) _ _ _ 3 [.int .i64 3] from rfl) (Reps.one (show Kd.M (Kd.int .i64) _ _ _ 5 [.int .i64 5] from rfl) (Reps.one (show Kd.M (Kd.int .i64) _ _ _ 1 [.int .i64 1] from rfl) (Reps.none _ _))))))); intro v260 w16 ho17 hb hg_ hnew_; clear hg_ hnew_; (first | rw [← Ny259.out] at ho17 | (simp only [Int.reduceToNat] at ho17; rw [← Ny259.out] at ho17)); replace HO_3 := Aside0.mk (Kd.R_below (tR HO_3) hb); have HO261 := Aside0.mk (Kd.R_lower ho17 (keep_size (w := w) (g := g) (row := none) (by repeat (first | (with_reducible first | exact HK.out | apply KeepBut.set_ | apply keep_drewN | apply keep_drew | apply keep_alloc) | exact HK.out)))); replace HK := Aside0.mk (KeepBut.trans (by repeat (first | (with_reducible first | exact HK.out | apply KeepBut.set_ | apply keep_drewN | apply keep_drew | apply keep_alloc) | exact HK.out)) (KeepBut.of_below hb g none) (.inl rfl)); replace HB := Aside0.mk (below_step (by repeat (first | (with_reducible first | exact HB.out | apply below_alloc | apply pw_below_drewN | apply below_drew1 | refine below_set ?_ (IsS139.ge HI0.out)) | exact HB.out)) hb); replace HI0 := Aside0.mk (IsS139.below (by repeat (first | (with_reducible first | exact HI0.out | apply IsS139.alloc | apply IsS139.drewN | apply IsS139.drew | apply IsS139.set_1 | apply IsS139.set_2) | exact HI0.out)) hb); clear hb ho17; obtain ⟨Ao18, co18, eo18⟩ := Kd.R_slice HO261.out; subst eo18) | ((with_reducible refine gate_callee (f := 112) rfl ?_); refine goesL_ (some 30) rfl rfl Try.func112 (by kernel_rfl) rfl #[.pointer (some ⟨g, 0, none⟩), .slice Ao18 y259.length co18] rfl tL ?_; (with_reducible refine (spec_l1Int.calls g s0_0 x1001_1 x1002_1 _ _ y259 t262 t263 t264 w0 _ ?side1 ?side2 ?side3 ?side4 ?side5 A10.out).mono ?_); (case side1 => repeat (first | (with_reducible first | exact HI0.out | apply IsS139.alloc | apply IsS139.drewN | apply IsS139.drew | apply IsS139.set_1 | apply IsS139.set_2) | exact HI0.out)); (case side2 => repeat (first | (with_reducible first | exact HB.out | apply below_alloc | apply pw_below_drewN | apply below_drew1 | refine below_set ?_ (IsS139.ge HI0.out)) | exact HB.out)); (case side3 => repeat (first | exact (Kd.R_reads' HO261.out).2.2 | (with_reducible refine Kd.C_alloc ?_ _) | (with_reducible refine Kd.C_drewN ?_ _) | (with_reducible refine Kd.C_drew ?_))); (case side4 => exact (Kd.R_reads' HO261.out).2.1); (case side5 => exact far_slice (IsS139.own_ne HI0.out HO261.out (by decide))); rintro e w19 ⟨rfl, hi, hb, hk⟩; refine ⟨_, rfl, ?_⟩; replace HO_3 := Aside0.mk (Kd.R_mono (Kd.R_keep (IsS139.apart (show IsS139 w0 _ g s0_0 x1001_1 x1002_1 from by repeat (first | (with_reducible first | exact HI0.out | apply IsS139.alloc | apply IsS139.drewN | apply IsS139.drew | apply IsS139.set_1 | apply IsS139.set_2) | exact HI0.out)) (tR HO_3) (by decide)) hk (fun _ h => h.2)) (fun _ h => h.1)); replace HO261 := Aside0.mk (Kd.R_mono (Kd.R_keep (IsS139.apart (show IsS139 w0 _ g s0_0 x1001_1 x1002_1 from by repeat (first | (with_reducible first | exact HI0.out | apply IsS139.alloc | apply IsS139.drewN | apply IsS139.drew | apply IsS139.set_1 | apply IsS139.set_2) | exact HI0.out)) (tR HO261) (by decide)) hk (fun _ h => h.2)) (fun _ h => h.1)); replace HK := Aside0.mk (KeepBut.trans (by repeat (first | (with_reducible first | exact HK.out | apply KeepBut.set_ | apply keep_drewN | apply keep_drew | apply keep_alloc) | exact HK.out)) hk (.inl rfl)); replace HB := Aside0.mk (hb); replace HI0 := Aside0.mk (hi); (try clear hb); (try clear hb2); (try clear hk); (try clear hi)) | ((with_reducible refine gate_callee (f := 96) rfl ?_); refine goesL_ (some 32) rfl rfl Try.func96 (by kernel_rfl) rfl #[.pointer (some ⟨g, 0, none⟩), .int .i64 9] rfl tL ?_; (with_reducible refine (spec_l1Below.calls g s0_0 t263 t264 9 t265 t266 t267 w0 _ ?side1 ?side2 A11.out).mono ?_); (case side1 => repeat (first | (with_reducible first | exact HI0.out | apply IsS139.alloc | apply IsS139.drewN | apply IsS139.drew | apply IsS139.set_1 | apply IsS139.set_2) | exact HI0.out)); (case side2 => repeat (first | (with_reducible first | exact HB.out | apply below_alloc | apply pw_below_drewN | apply below_drew1 | refine below_set ?_ (IsS139.ge HI0.out)) | exact HB.out)); rintro e w20 ⟨rfl, hi, hb, hk⟩; refine ⟨_, rfl, ?_⟩; replace HO_3 := Aside0.mk (Kd.R_mono (Kd.R_keep (IsS139.apart (show IsS139 w0 _ g s0_0 t263 t264 from by repeat (first | (with_reducible first | exact HI0.out | apply IsS139.alloc | apply IsS139.drewN | apply IsS139.drew | apply IsS139.set_1 | apply IsS139.set_2) | exact HI0.out)) (tR HO_3) (by decide)) hk (fun _ h => h.2)) (fun _ h => h.1)); replace HO261 := Aside0.mk (Kd.R_mono (Kd.R_keep (IsS139.apart (show IsS139 w0 _ g s0_0 t263 t264 from by repeat (first | (with_reducible first | exact HI0.out | apply IsS139.alloc | apply IsS139.drewN | apply IsS139.drew | apply IsS139.set_1 | apply IsS139.set_2) | exact HI0.out)) (tR HO261) (by decide)) hk (fun _ h => h.2)) (fun _ h => h.1)); replace HK := Aside0.mk (KeepBut.trans (by repeat (first | (with_reducible first | exact HK.out | apply KeepBut.set_ | apply keep_drewN | apply keep_drew | apply keep_alloc) | exact HK.out)) hk (.inl rfl)); replace HB := Aside0.mk (hb); replace HI0 := Aside0.mk (hi); (try clear hb); (try clear hb2); (try clear hk); (try clear hi)) | ((with_reducible refine gate_callee (f := 129) rfl ?_); refine goesL_ (some 35) rfl rfl Try.func129 (by kernel_rfl) rfl #[.int .i64 (wrap64 (101 + (x3_1.length : Int))), .int .i64 t258, .int .i64 t262, .int .i64 (wrap64 (5 + t265)), .int .i64 x4_1] rfl tL ?_; (with_reducible refine (spec_MakeGrant.calls k1 (wrap64 (101 + (x3_1.length : Int))) t258 t262 (wrap64 (5 + t265)) x4_1 t268 t269 t270 t271 t272 t273 true _ A12.out).mono ?_); rintro e w21 ⟨rfl, hb⟩; refine ⟨_, rfl, ?_⟩; replace HO_3 := Aside0.mk (Kd.R_below (tR HO_3) hb); replace HO261 := Aside0.mk (Kd.R_below (tR HO261) hb); replace HK := Aside0.mk (KeepBut.trans (by repeat (first | (with_reducible first | exact HK.out | apply KeepBut.set_ | apply keep_drewN | apply keep_drew | apply keep_alloc) | exact HK.out)) (KeepBut.of_below hb g none) (.inl rfl)); replace HB := Aside0.mk (below_step (by repeat (first | (with_reducible first | exact HB.out | apply below_alloc | apply pw_below_drewN | apply below_drew1 | refine below_set ?_ (IsS139.ge HI0.out)) | exact HB.out)) hb); replace HI0 := Aside0.mk (IsS139.below (by repeat (first | (with_reducible first | exact HI0.out | apply IsS139.alloc | apply IsS139.drewN | apply IsS139.drew | apply IsS139.set_1 | apply IsS139.set_2) | exact HI0.out)) hb); (try clear hb); (try clear hb2); (try clear hk); (try clear hi)) | ((with_reducible refine gate_dst (N := 6) rfl ?_); refine box_event ?hg (N := 6) ?hd (cs := #[.int .i64 0, .int .i64 0, .int .i64 0, .int .i64 0, .int .i64 0, .int .i64 0]) (t := 64) ?hr ?_; (case hd => rfl); (case hg => rfl); (case hr => exact tG); intro gb275 hg w22 hbox hb; replace HO_3 := Aside0.mk (Kd.R_below (Kd.R_elderB (tR HO_3) gb275 (Nat.le_of_eq hg.symm)) hb); replace HO261 := Aside0.mk (Kd.R_below (tR HO261) hb); replace HB := Aside0.mk (below_step (by repeat (first | (with_reducible first | exact HB.out | apply below_alloc | apply pw_below_drewN | apply below_drew1 | refine below_set ?_ (IsS139.ge HI0.out)) | exact HB.out)) hb); have BK275 := Aside0.mk (hbox); have GW275 := Aside0.mk ((by rw [hg]; exact (keep_size (w := w) (g := g) (row := none) (by repeat (first | (with_reducible first | exact HK.out | apply KeepBut.set_ | apply keep_drewN | apply keep_drew | apply keep_alloc) | exact HK.out))) : w.heap.size ≤ gb275)); have GE275 := Aside0.mk ((Nat.le_trans HW0.out (by rw [hg]; exact (keep_size (w := w) (g := g) (row := none) (by repeat (first | (with_reducible first | exact HK.out | apply KeepBut.set_ | apply keep_drewN | apply keep_drew | apply keep_alloc) | exact HK.out))) : w.heap.size ≤ gb275) : w0.heap.size ≤ gb275)); replace HK := Aside0.mk (KeepBut.trans (by repeat (first | (with_reducible first | exact HK.out | apply KeepBut.set_ | apply keep_drewN | apply keep_drew | apply keep_alloc) | exact HK.out)) (KeepBut.of_below hb g none) (.inl rfl)); have NB0_275 := Aside0.mk ((by rw [hg]; exact Nat.ne_of_lt (IsS139.lt (show IsS139 w0 _ g s0_0 t266 t267 from by repeat (first | (with_reducible first | exact HI0.out | apply IsS139.alloc | apply IsS139.drewN | apply IsS139.drew | apply IsS139.set_1 | apply IsS139.set_2) | exact HI0.out))) : g ≠ gb275)); have NB275_0 := Aside0.mk ((by rw [hg]; exact Nat.ne_of_gt (IsS139.lt (show IsS139 w0 _ g s0_0 t266 t267 from by repeat (first | (with_reducible first | exact HI0.out | apply IsS139.alloc | apply IsS139.drewN | apply IsS139.drew | apply IsS139.set_1 | apply IsS139.set_2) | exact HI0.out))) : gb275 ≠ g)); replace HI0 := Aside0.mk (IsS139.below (by repeat (first | (with_reducible first | exact HI0.out | apply IsS139.alloc | apply IsS139.drewN | apply IsS139.drew | apply IsS139.set_1 | apply IsS139.set_2) | exact HI0.out)) hb); clear hb hbox hg; have hnb23 := NB275_0.out; have hnc23 := NB0_275.out; obtain ⟨hcz24_0, hcz24_1, hcz24_2, hcz24_3, hcz24_4, hcz24_5, hfz24_0, hfz24_1, hfz24_2, hfz24_3, hfz24_4, hfz24_5⟩ := bc6 BK275.out) | ((with_reducible refine gate_builtin (b := .append) (xs := #[.tmp 39, .tmp 41]) rfl ?_); at_builtin; refine Kd.R_append k64 w.heap.size rfl (.tmp 39) (.tmp 41) 25 64 (.agg #[(.int .i64 0), (.int .i64 0), (.int .i64 0), (.int .i64 0), (.int .i64 0), (.int .i64 0)]) 48 rfl Try.underlying25 info64 rfl (by decide) (by omega) (.slice Ao15 x3_1.length co15) x3_1 (⟨t268, t269, t270, t271, t272, t273⟩ : S64) [.int .i64 t268, .int .i64 t269, .int .i64 t270, .int .i64 t271, .int .i64 t272, .int .i64 t273] (fun k_ => k_ ≠ gb275) (fun _ => False) rfl (by first | (go_simp; done) | (go_simp; rfl)) ?aP (fun _ hk => hk.elim) ?aF ?aO (Below.refl _ _) ?aS ?aL ?_; (case aP => exact k64_mkM _ _ _ (⟨t268, t269, t270, t271, t272, t273⟩ : S64)); (case aF => exact (fun k_ hk => Kd.freshB (g := gb275) (o := .cells #[.int .i64 t268, .int .i64 t269, .int .i64 t270, .int .i64 t271, .int .i64 t272, .int .i64 t273] 64 (0, 0)) (by (with_reducible repeat (first | refine blk_drewN ?_ _ | refine blk_drew ?_ | refine blk_alloc ?_ _)); refine blk_put (cs := #[.int .i64 t268, .int .i64 t269, .int .i64 t270, .int .i64 t271, .int .i64 t272, .int .i64 0]) ?_ 5 _ rfl; (with_reducible repeat (first | refine blk_drewN ?_ _ | refine blk_drew ?_ | refine blk_alloc ?_ _)); refine blk_put (cs := #[.int .i64 t268, .int .i64 t269, .int .i64 t270, .int .i64 t271, .int .i64 0, .int .i64 0]) ?_ 4 _ rfl; (with_reducible repeat (first | refine blk_drewN ?_ _ | refine blk_drew ?_ | refine blk_alloc ?_ _)); refine blk_put (cs := #[.int .i64 t268, .int .i64 t269, .int .i64 t270, .int .i64 0, .int .i64 0, .int .i64 0]) ?_ 3 _ rfl; (with_reducible repeat (first | refine blk_drewN ?_ _ | refine blk_drew ?_ | refine blk_alloc ?_ _)); refine blk_put (cs := #[.int .i64 t268, .int .i64 t269, .int .i64 0, .int .i64 0, .int .i64 0, .int .i64 0]) ?_ 2 _ rfl; (with_reducible repeat (first | refine blk_drewN ?_ _ | refine blk_drew ?_ | refine blk_alloc ?_ _)); refine blk_put (cs := #[.int .i64 t268, .int .i64 0, .int .i64 0, .int .i64 0, .int .i64 0, .int .i64 0]) ?_ 1 _ rfl; (with_reducible repeat (first | refine blk_drewN ?_ _ | refine blk_drew ?_ | refine blk_alloc ?_ _)); refine blk_put (cs := #[.int .i64 0, .int .i64 0, .int .i64 0, .int .i64 0, .int .i64 0, .int .i64 0]) ?_ 0 _ rfl; (with_reducible repeat (first | refine blk_drewN ?_ _ | refine blk_drew ?_ | refine blk_alloc ?_ _)); exact BK275.out) k_ hk)); (case aO => exact (by (with_reducible repeat (first | apply Kd.R_alloc | apply Kd.R_drewN | apply Kd.R_drew)); exact Kd.R_mono (Kd.R_far (p := ⟨gb275, 5, none⟩) (Kd.R_far (p := ⟨gb275, 4, none⟩) (Kd.R_far (p := ⟨gb275, 3, none⟩) (Kd.R_far (p := ⟨gb275, 2, none⟩) (Kd.R_far (p := ⟨gb275, 1, none⟩) (Kd.R_far (p := ⟨gb275, 0, none⟩) (Kd.R_mono HO_3.out (fun k_ hk => (⟨hk, hk.2⟩ : _ ∧ k_ ≠ gb275))) (fun _ hk => hk.2) (.int .i64 t268)) (fun _ hk => hk.2) (.int .i64 t269)) (fun _ hk => hk.2) (.int .i64 t270)) (fun _ hk => hk.2) (.int .i64 t271)) (fun _ hk => hk.2) (.int .i64 t272)) (fun _ hk => hk.2) (.int .i64 t273)) (fun _ hk => hk.1.2))); (case aS => exact (keep_size (w := w) (g := g) (row := none) (by repeat (first | (with_reducible first | exact HK.out | apply KeepBut.set_ | apply keep_drewN | apply keep_drew | apply keep_alloc | refine keep_far ?_ GW275.out _) | exact HK.out)))); (case aL => have := LMc14.out; omega); intro v277 w25 ho hb hg hat; rw [← Ny276.out] at ho; replace HO261 := Aside0.mk (Kd.R_over' (by (with_reducible repeat (first | apply Kd.R_alloc | apply Kd.R_drewN | apply Kd.R_drew)); exact (Kd.R_mono (Kd.R_far (p := ⟨gb275, 5, none⟩) (Kd.R_far (p := ⟨gb275, 4, none⟩) (Kd.R_far (p := ⟨gb275, 3, none⟩) (Kd.R_far (p := ⟨gb275, 2, none⟩) (Kd.R_far (p := ⟨gb275, 1, none⟩) (Kd.R_far (p := ⟨gb275, 0, none⟩) (Kd.R_types HO261.out BK275.out (by decide)) (fun _ hk => hk.2) (.int .i64 t268)) (fun _ hk => hk.2) (.int .i64 t269)) (fun _ hk => hk.2) (.int .i64 t270)) (fun _ hk => hk.2) (.int .i64 t271)) (fun _ hk => hk.2) (.int .i64 t272)) (fun _ hk => hk.2) (.int .i64 t273)) (fun _ h_ => h_.1))) (Kd.R_typed (by (with_reducible repeat (first | apply Kd.R_alloc | apply Kd.R_drewN | apply Kd.R_drew)); exact (Kd.R_mono (Kd.R_far (p := ⟨gb275, 5, none⟩) (Kd.R_far (p := ⟨gb275, 4, none⟩) (Kd.R_far (p := ⟨gb275, 3, none⟩) (Kd.R_far (p := ⟨gb275, 2, none⟩) (Kd.R_far (p := ⟨gb275, 1, none⟩) (Kd.R_far (p := ⟨gb275, 0, none⟩) (Kd.R_mono HO_3.out (fun k_ hk => (⟨hk, hk.2⟩ : _ ∧ k_ ≠ gb275))) (fun _ hk => hk.2) (.int .i64 t268)) (fun _ hk => hk.2) (.int .i64 t269)) (fun _ hk => hk.2) (.int .i64 t270)) (fun _ hk => hk.2) (.int .i64 t271)) (fun _ hk => hk.2) (.int .i64 t272)) (fun _ hk => hk.2) (.int .i64 t273)) (fun _ h_ => h_.1)))) (by decide) hg); replace BK275 := Aside0.mk (blk_grown (g := gb275) (o := .cells #[.int .i64 t268, .int .i64 t269, .int .i64 t270, .int .i64 t271, .int .i64 t272, .int .i64 t273] 64 (0, 0)) (by (with_reducible repeat (first | refine blk_drewN ?_ _ | refine blk_drew ?_ | refine blk_alloc ?_ _)); refine blk_put (cs := #[.int .i64 t268, .int .i64 t269, .int .i64 t270, .int .i64 t271, .int .i64 t272, .int .i64 0]) ?_ 5 _ rfl; (with_reducible repeat (first | refine blk_drewN ?_ _ | refine blk_drew ?_ | refine blk_alloc ?_ _)); refine blk_put (cs := #[.int .i64 t268, .int .i64 t269, .int .i64 t270, .int .i64 t271, .int .i64 0, .int .i64 0]) ?_ 4 _ rfl; (with_reducible repeat (first | refine blk_drewN ?_ _ | refine blk_drew ?_ | refine blk_alloc ?_ _)); refine blk_put (cs := #[.int .i64 t268, .int .i64 t269, .int .i64 t270, .int .i64 0, .int .i64 0, .int .i64 0]) ?_ 3 _ rfl; (with_reducible repeat (first | refine blk_drewN ?_ _ | refine blk_drew ?_ | refine blk_alloc ?_ _)); refine blk_put (cs := #[.int .i64 t268, .int .i64 t269, .int .i64 0, .int .i64 0, .int .i64 0, .int .i64 0]) ?_ 2 _ rfl; (with_reducible repeat (first | refine blk_drewN ?_ _ | refine blk_drew ?_ | refine blk_alloc ?_ _)); refine blk_put (cs := #[.int .i64 t268, .int .i64 0, .int .i64 0, .int .i64 0, .int .i64 0, .int .i64 0]) ?_ 1 _ rfl; (with_reducible repeat (first | refine blk_drewN ?_ _ | refine blk_drew ?_ | refine blk_alloc ?_ _)); refine blk_put (cs := #[.int .i64 0, .int .i64 0, .int .i64 0, .int .i64 0, .int .i64 0, .int .i64 0]) ?_ 0 _ rfl; (with_reducible repeat (first | refine blk_drewN ?_ _ | refine blk_drew ?_ | refine blk_alloc ?_ _)); exact BK275.out) hg (Kd.R_away HO_3.out (fun _ hk => hk.2))); replace HB := Aside0.mk (below_weaken (by repeat (first | (with_reducible first | exact HB.out | apply below_alloc | apply pw_below_drewN | apply below_drew1 | refine below_set ?_ (IsS139.ge HI0.out) | refine below_set ?_ GE275.out) | exact HB.out)) HL.out hb); replace HI0 : Aside0 (IsS139 w0 _ g s0_0 t266 t267) := Aside0.mk (IsS139.grown (by repeat (first | (with_reducible first | exact HI0.out | apply IsS139.alloc | apply IsS139.drewN | apply IsS139.drew | apply IsS139.set_1 | apply IsS139.set_2 | refine IsS139.far ?_ NB0_275.out _) | exact HI0.out)) hg (IsS139.own_ne HI0.out HO_3.out (by decide))); replace HK := Aside0.mk (KeepBut.trans (by repeat (first | (with_reducible first | exact HK.out | apply KeepBut.set_ | apply keep_drewN | apply keep_drew | apply keep_alloc | refine keep_far ?_ GW275.out _) | exact HK.out)) (KeepBut.of_grown hg g) (Kd.R_base2 HO_3.out)); have HO278 := Aside0.mk (ho); clear HO_3; clear ho hb hg hat))
      go_roundg k1
      case measure => have := HK1.out; omega
      case rel => exact ⟨(y276), (wrap64 (x4_1 - 1)), (wrap64 (x5_1 - 1)), (t266), (t267), tS, tS, H', ⟨tI⟩, ⟨by (with_reducible repeat (first | apply Kd.R_alloc | apply Kd.R_drewN | apply Kd.R_drew)); exact Kd.R_mono HO278.out (fun _ hk => trivial)⟩, ⟨by repeat (first | (with_reducible first | exact HI0.out | apply IsS139.alloc | apply IsS139.drewN | apply IsS139.drew | apply IsS139.set_1 | apply IsS139.set_2 | refine IsS139.far ?_ NB0_275.out _) | exact HI0.out)⟩, ⟨by repeat (first | (with_reducible first | exact HK.out | apply KeepBut.set_ | apply keep_drewN | apply keep_drew | apply keep_alloc | refine keep_far ?_ GW275.out _) | exact HK.out)⟩, ⟨by repeat (first | (with_reducible first | exact HB.out | apply below_alloc | apply pw_below_drewN | apply below_drew1 | refine below_set ?_ (IsS139.ge HI0.out) | refine below_set ?_ GE275.out) | exact HB.out)⟩⟩
     rw [if_neg c14] at H
     exact absurd H (by simp)
    replace c13 := Bool.eq_false_iff.mpr c13
    subst c13
    have H1 : (spec_l27Chain.l0 k1 x3_1 (wrap64 (x4_1 - 1)) (wrap64 (x5_1 - 1)) s0_0 t266 t267) = some (r1, r2, r3) := by rw [if_neg (show ¬ (false = true) by decide)] at H; exact H
    clear H
    have H := H1
    clear H1
    have H' := Aside0.mk H
    clear H
    obtain ⟨Ao26, co26, eo26⟩ := Kd.R_slice HO_3.out
    subst eo26
    go_wp2_with (first | ((with_reducible refine gate_callee (f := 94) rfl ?_); refine goesL_ (some 27) rfl rfl Try.func94 (by kernel_rfl) rfl #[.int .i64 (wrap64 (102 + (x3_1.length : Int)))] rfl tL ?_; (with_reducible refine (spec_PublicKey.calls (wrap64 (102 + (x3_1.length : Int))) t258 _ A9.out).mono ?_); rintro e w' ⟨rfl, ⟨nd, rfl⟩⟩; refine ⟨_, rfl, ?_⟩; (try (rw [drewN_self wr]; generalize hq_ : World.drewN wr _ = wr; have n0_ : Aside0 (Kd.R k64 64 wr w.heap.size (fun _ => True) (.slice Ao26 x3_1.length co26) x3_1) := ⟨by rw [← hq_]; exact tR HO_3⟩; have n1_ : Aside0 (IsS139 w0 wr g s0_0 x1001_1 x1002_1) := ⟨by rw [← hq_]; exact (by repeat (first | (with_reducible first | exact HI0.out | apply IsS139.alloc | apply IsS139.drewN | apply IsS139.drew | apply IsS139.set_1 | apply IsS139.set_2) | exact HI0.out))⟩; have n2_ : Aside0 (KeepBut w wr g none) := ⟨by rw [← hq_]; exact (by repeat (first | (with_reducible first | exact HK.out | apply KeepBut.set_ | apply keep_drewN | apply keep_drew | apply keep_alloc) | exact HK.out))⟩; have n3_ : Aside0 (Below w0.heap.size w0 wr) := ⟨by rw [← hq_]; exact (by repeat (first | (with_reducible first | exact HB.out | apply below_alloc | apply pw_below_drewN | apply below_drew1 | refine below_set ?_ (IsS139.ge HI0.out)) | exact HB.out))⟩; clear HO_3 HI0 HK HB hq_; have HO_3 := n0_; have HI0 := n1_; have HK := n2_; have HB := n3_; clear n0_ n1_ n2_ n3_))) | ((with_reducible refine gate_dst (N := 29) rfl ?_); refine Kd.R_lit (Kd.int .i64) _ 3 ?hg (N := 29) ?hd (xs := ([7, 7, 3, 5, 1] : List Int)) (inner := [.int .i64 7, .int .i64 7, .int .i64 3, .int .i64 5, .int .i64 1]) (ok := fun _ => True) (okp := fun _ => True) ?hr ?hp (fun _ hk => hk) trivial (Below.refl _ _) (Nat.le_refl _) (by simp) ?_; (case hd => rfl); (case hg => rfl); (case hr => exact tG); (case hp => exact (Reps.one (show Kd.M (Kd.int .i64) _ _ _ 7 [.int .i64 7] from rfl) (Reps.one (show Kd.M (Kd.int .i64) _ _ _ 7 [.int .i64 7] from rfl) (Reps.one (show Kd.M (Kd.int .i64) _ _ _ 3 [.int .i64 3] from rfl) (Reps.one (show Kd.M (Kd.int .i64) _ _ _ 5 [.int .i64 5] from rfl) (Reps.one (show Kd.M (Kd.int .i64) _ _ _ 1 [.int .i64 1] from rfl) (Reps.none _ _))))))); intro v260 w27 ho28 hb hg_ hnew_; clear hg_ hnew_; (first | rw [← Ny259.out] at ho28 | (simp only [Int.reduceToNat] at ho28; rw [← Ny259.out] at ho28)); replace HO_3 := Aside0.mk (Kd.R_below (tR HO_3) hb); have HO261 := Aside0.mk (Kd.R_lower ho28 (keep_size (w := w) (g := g) (row := none) (by repeat (first | (with_reducible first | exact HK.out | apply KeepBut.set_ | apply keep_drewN | apply keep_drew | apply keep_alloc) | exact HK.out)))); replace HK := Aside0.mk (KeepBut.trans (by repeat (first | (with_reducible first | exact HK.out | apply KeepBut.set_ | apply keep_drewN | apply keep_drew | apply keep_alloc) | exact HK.out)) (KeepBut.of_below hb g none) (.inl rfl)); replace HB := Aside0.mk (below_step (by repeat (first | (with_reducible first | exact HB.out | apply below_alloc | apply pw_below_drewN | apply below_drew1 | refine below_set ?_ (IsS139.ge HI0.out)) | exact HB.out)) hb); replace HI0 := Aside0.mk (IsS139.below (by repeat (first | (with_reducible first | exact HI0.out | apply IsS139.alloc | apply IsS139.drewN | apply IsS139.drew | apply IsS139.set_1 | apply IsS139.set_2) | exact HI0.out)) hb); clear hb ho28; obtain ⟨Ao29, co29, eo29⟩ := Kd.R_slice HO261.out; subst eo29) | ((with_reducible refine gate_callee (f := 112) rfl ?_); refine goesL_ (some 30) rfl rfl Try.func112 (by kernel_rfl) rfl #[.pointer (some ⟨g, 0, none⟩), .slice Ao29 y259.length co29] rfl tL ?_; (with_reducible refine (spec_l1Int.calls g s0_0 x1001_1 x1002_1 _ _ y259 t262 t263 t264 w0 _ ?side1 ?side2 ?side3 ?side4 ?side5 A10.out).mono ?_); (case side1 => repeat (first | (with_reducible first | exact HI0.out | apply IsS139.alloc | apply IsS139.drewN | apply IsS139.drew | apply IsS139.set_1 | apply IsS139.set_2) | exact HI0.out)); (case side2 => repeat (first | (with_reducible first | exact HB.out | apply below_alloc | apply pw_below_drewN | apply below_drew1 | refine below_set ?_ (IsS139.ge HI0.out)) | exact HB.out)); (case side3 => repeat (first | exact (Kd.R_reads' HO261.out).2.2 | (with_reducible refine Kd.C_alloc ?_ _) | (with_reducible refine Kd.C_drewN ?_ _) | (with_reducible refine Kd.C_drew ?_))); (case side4 => exact (Kd.R_reads' HO261.out).2.1); (case side5 => exact far_slice (IsS139.own_ne HI0.out HO261.out (by decide))); rintro e w30 ⟨rfl, hi, hb, hk⟩; refine ⟨_, rfl, ?_⟩; replace HO_3 := Aside0.mk (Kd.R_mono (Kd.R_keep (IsS139.apart (show IsS139 w0 _ g s0_0 x1001_1 x1002_1 from by repeat (first | (with_reducible first | exact HI0.out | apply IsS139.alloc | apply IsS139.drewN | apply IsS139.drew | apply IsS139.set_1 | apply IsS139.set_2) | exact HI0.out)) (tR HO_3) (by decide)) hk (fun _ h => h.2)) (fun _ h => h.1)); replace HO261 := Aside0.mk (Kd.R_mono (Kd.R_keep (IsS139.apart (show IsS139 w0 _ g s0_0 x1001_1 x1002_1 from by repeat (first | (with_reducible first | exact HI0.out | apply IsS139.alloc | apply IsS139.drewN | apply IsS139.drew | apply IsS139.set_1 | apply IsS139.set_2) | exact HI0.out)) (tR HO261) (by decide)) hk (fun _ h => h.2)) (fun _ h => h.1)); replace HK := Aside0.mk (KeepBut.trans (by repeat (first | (with_reducible first | exact HK.out | apply KeepBut.set_ | apply keep_drewN | apply keep_drew | apply keep_alloc) | exact HK.out)) hk (.inl rfl)); replace HB := Aside0.mk (hb); replace HI0 := Aside0.mk (hi); (try clear hb); (try clear hb2); (try clear hk); (try clear hi)) | ((with_reducible refine gate_callee (f := 96) rfl ?_); refine goesL_ (some 32) rfl rfl Try.func96 (by kernel_rfl) rfl #[.pointer (some ⟨g, 0, none⟩), .int .i64 9] rfl tL ?_; (with_reducible refine (spec_l1Below.calls g s0_0 t263 t264 9 t265 t266 t267 w0 _ ?side1 ?side2 A11.out).mono ?_); (case side1 => repeat (first | (with_reducible first | exact HI0.out | apply IsS139.alloc | apply IsS139.drewN | apply IsS139.drew | apply IsS139.set_1 | apply IsS139.set_2) | exact HI0.out)); (case side2 => repeat (first | (with_reducible first | exact HB.out | apply below_alloc | apply pw_below_drewN | apply below_drew1 | refine below_set ?_ (IsS139.ge HI0.out)) | exact HB.out)); rintro e w31 ⟨rfl, hi, hb, hk⟩; refine ⟨_, rfl, ?_⟩; replace HO_3 := Aside0.mk (Kd.R_mono (Kd.R_keep (IsS139.apart (show IsS139 w0 _ g s0_0 t263 t264 from by repeat (first | (with_reducible first | exact HI0.out | apply IsS139.alloc | apply IsS139.drewN | apply IsS139.drew | apply IsS139.set_1 | apply IsS139.set_2) | exact HI0.out)) (tR HO_3) (by decide)) hk (fun _ h => h.2)) (fun _ h => h.1)); replace HO261 := Aside0.mk (Kd.R_mono (Kd.R_keep (IsS139.apart (show IsS139 w0 _ g s0_0 t263 t264 from by repeat (first | (with_reducible first | exact HI0.out | apply IsS139.alloc | apply IsS139.drewN | apply IsS139.drew | apply IsS139.set_1 | apply IsS139.set_2) | exact HI0.out)) (tR HO261) (by decide)) hk (fun _ h => h.2)) (fun _ h => h.1)); replace HK := Aside0.mk (KeepBut.trans (by repeat (first | (with_reducible first | exact HK.out | apply KeepBut.set_ | apply keep_drewN | apply keep_drew | apply keep_alloc) | exact HK.out)) hk (.inl rfl)); replace HB := Aside0.mk (hb); replace HI0 := Aside0.mk (hi); (try clear hb); (try clear hb2); (try clear hk); (try clear hi)) | ((with_reducible refine gate_callee (f := 129) rfl ?_); refine goesL_ (some 35) rfl rfl Try.func129 (by kernel_rfl) rfl #[.int .i64 (wrap64 (101 + (x3_1.length : Int))), .int .i64 t258, .int .i64 t262, .int .i64 (wrap64 (5 + t265)), .int .i64 x4_1] rfl tL ?_; (with_reducible refine (spec_MakeGrant.calls k1 (wrap64 (101 + (x3_1.length : Int))) t258 t262 (wrap64 (5 + t265)) x4_1 t268 t269 t270 t271 t272 t273 false _ A12.out).mono ?_); rintro e w32 ⟨rfl, hb⟩; refine ⟨_, rfl, ?_⟩; replace HO_3 := Aside0.mk (Kd.R_below (tR HO_3) hb); replace HO261 := Aside0.mk (Kd.R_below (tR HO261) hb); replace HK := Aside0.mk (KeepBut.trans (by repeat (first | (with_reducible first | exact HK.out | apply KeepBut.set_ | apply keep_drewN | apply keep_drew | apply keep_alloc) | exact HK.out)) (KeepBut.of_below hb g none) (.inl rfl)); replace HB := Aside0.mk (below_step (by repeat (first | (with_reducible first | exact HB.out | apply below_alloc | apply pw_below_drewN | apply below_drew1 | refine below_set ?_ (IsS139.ge HI0.out)) | exact HB.out)) hb); replace HI0 := Aside0.mk (IsS139.below (by repeat (first | (with_reducible first | exact HI0.out | apply IsS139.alloc | apply IsS139.drewN | apply IsS139.drew | apply IsS139.set_1 | apply IsS139.set_2) | exact HI0.out)) hb); (try clear hb); (try clear hb2); (try clear hk); (try clear hi)) | ((with_reducible refine gate_dst (N := 6) rfl ?_); refine box_event ?hg (N := 6) ?hd (cs := #[.int .i64 0, .int .i64 0, .int .i64 0, .int .i64 0, .int .i64 0, .int .i64 0]) (t := 64) ?hr ?_; (case hd => rfl); (case hg => rfl); (case hr => exact tG); intro gb275 hg w33 hbox hb; replace HO_3 := Aside0.mk (Kd.R_below (Kd.R_elderB (tR HO_3) gb275 (Nat.le_of_eq hg.symm)) hb); replace HO261 := Aside0.mk (Kd.R_below (tR HO261) hb); replace HB := Aside0.mk (below_step (by repeat (first | (with_reducible first | exact HB.out | apply below_alloc | apply pw_below_drewN | apply below_drew1 | refine below_set ?_ (IsS139.ge HI0.out)) | exact HB.out)) hb); have BK275 := Aside0.mk (hbox); have GW275 := Aside0.mk ((by rw [hg]; exact (keep_size (w := w) (g := g) (row := none) (by repeat (first | (with_reducible first | exact HK.out | apply KeepBut.set_ | apply keep_drewN | apply keep_drew | apply keep_alloc) | exact HK.out))) : w.heap.size ≤ gb275)); have GE275 := Aside0.mk ((Nat.le_trans HW0.out (by rw [hg]; exact (keep_size (w := w) (g := g) (row := none) (by repeat (first | (with_reducible first | exact HK.out | apply KeepBut.set_ | apply keep_drewN | apply keep_drew | apply keep_alloc) | exact HK.out))) : w.heap.size ≤ gb275) : w0.heap.size ≤ gb275)); replace HK := Aside0.mk (KeepBut.trans (by repeat (first | (with_reducible first | exact HK.out | apply KeepBut.set_ | apply keep_drewN | apply keep_drew | apply keep_alloc) | exact HK.out)) (KeepBut.of_below hb g none) (.inl rfl)); have NB0_275 := Aside0.mk ((by rw [hg]; exact Nat.ne_of_lt (IsS139.lt (show IsS139 w0 _ g s0_0 t266 t267 from by repeat (first | (with_reducible first | exact HI0.out | apply IsS139.alloc | apply IsS139.drewN | apply IsS139.drew | apply IsS139.set_1 | apply IsS139.set_2) | exact HI0.out))) : g ≠ gb275)); have NB275_0 := Aside0.mk ((by rw [hg]; exact Nat.ne_of_gt (IsS139.lt (show IsS139 w0 _ g s0_0 t266 t267 from by repeat (first | (with_reducible first | exact HI0.out | apply IsS139.alloc | apply IsS139.drewN | apply IsS139.drew | apply IsS139.set_1 | apply IsS139.set_2) | exact HI0.out))) : gb275 ≠ g)); replace HI0 := Aside0.mk (IsS139.below (by repeat (first | (with_reducible first | exact HI0.out | apply IsS139.alloc | apply IsS139.drewN | apply IsS139.drew | apply IsS139.set_1 | apply IsS139.set_2) | exact HI0.out)) hb); clear hb hbox hg; have hnb34 := NB275_0.out; have hnc34 := NB0_275.out; obtain ⟨hcz35_0, hcz35_1, hcz35_2, hcz35_3, hcz35_4, hcz35_5, hfz35_0, hfz35_1, hfz35_2, hfz35_3, hfz35_4, hfz35_5⟩ := bc6 BK275.out))
    go_roundg k1
    case measure => have := HK1.out; omega
    case rel => exact ⟨(x3_1), (wrap64 (x4_1 - 1)), (wrap64 (x5_1 - 1)), (t266), (t267), tS, tS, H', ⟨tI⟩, ⟨by (with_reducible repeat (first | apply Kd.R_alloc | apply Kd.R_drewN | apply Kd.R_drew)); exact Kd.R_mono (Kd.R_far (p := ⟨gb275, 5, none⟩) (Kd.R_far (p := ⟨gb275, 4, none⟩) (Kd.R_far (p := ⟨gb275, 3, none⟩) (Kd.R_far (p := ⟨gb275, 2, none⟩) (Kd.R_far (p := ⟨gb275, 1, none⟩) (Kd.R_far (p := ⟨gb275, 0, none⟩) (Kd.R_mono HO_3.out (fun k_ hk => (⟨hk, hk.2⟩ : _ ∧ k_ ≠ gb275))) (fun _ hk => hk.2) (.int .i64 t268)) (fun _ hk => hk.2) (.int .i64 t269)) (fun _ hk => hk.2) (.int .i64 t270)) (fun _ hk => hk.2) (.int .i64 t271)) (fun _ hk => hk.2) (.int .i64 t272)) (fun _ hk => hk.2) (.int .i64 t273)) (fun _ hk => trivial)⟩, ⟨by repeat (first | (with_reducible first | exact HI0.out | apply IsS139.alloc | apply IsS139.drewN | apply IsS139.drew | apply IsS139.set_1 | apply IsS139.set_2 | refine IsS139.far ?_ NB0_275.out _) | exact HI0.out)⟩, ⟨by repeat (first | (with_reducible first | exact HK.out | apply KeepBut.set_ | apply keep_drewN | apply keep_drew | apply keep_alloc | refine keep_far ?_ GW275.out _) | exact HK.out)⟩, ⟨by repeat (first | (with_reducible first | exact HB.out | apply below_alloc | apply pw_below_drewN | apply below_drew1 | refine below_set ?_ (IsS139.ge HI0.out) | refine below_set ?_ GE275.out) | exact HB.out)⟩⟩
   rw [if_neg c8] at H
   have c8b0 : decide (0 < x5_1) = false := decide_eq_false c8
   clear c8
   have HC36 := Aside0.mk H
   clear H
   go_upto_region 10 with (fail)
   go_cut [51] (fun v51 wc => ∃ (kq : Nat) (x51_35 : Bool) (x1001_35 : Int) (x1002_35 : Int), v51 = .bool x51_35 ∧ Aside0 (spec_l27Chain.j1 kq x3_1 x51_35 s0_0 x1001_35 x1002_35 = some (r1, r2, r3)) ∧ Aside0 (kq ≤ k1) ∧ Aside0 (Kd.R k64 64 wc w.heap.size (fun _ => True) u3 x3_1) ∧ Aside0 (IsS139 w0 wc g s0_0 x1001_35 x1002_35) ∧ Aside0 (KeepBut w wc g none) ∧ Aside0 (Below w0.heap.size w0 wc))
   case first =>
    have H := HC36.out
    clear HC36
    by_cases c37 : (x3_1.length : Int) > 0
    ·rw [if_pos c37] at H
     have c37b0 : decide (0 < (x3_1.length : Int)) = true := decide_eq_true c37
     have c37b1 : decide (0 < x3_1.length) = true := decide_eq_true (by omega)
     clear c37
     (first | rw [c37b0] | (simp only [i64_w, i32_w]; rw [c37b0]) | skip)
     replace H := Option.bind_eq_some_iff.mp H
     obtain ⟨⟨t279, t280, t281⟩, A380, H⟩ := H
     try dsimp only at H
     have A38 := Aside0.mk A380
     clear A380
     have H' := Aside0.mk H
     clear H
     obtain ⟨Ao39, co39, eo39⟩ := Kd.R_slice HO_3.out
     subst eo39
     go_wp2_with (first | (go_at_call 95; (with_reducible refine (spec_l1Once.calls g s0_0 x1001_1 x1002_1 3 t279 t280 t281 w0 _ ?side1 ?side2 A38.out).mono ?_); (case side1 => repeat (first | (with_reducible first | exact HI0.out | apply IsS139.alloc | apply IsS139.drewN | apply IsS139.drew | apply IsS139.set_1 | apply IsS139.set_2) | exact HI0.out)); (case side2 => repeat (first | (with_reducible first | exact HB.out | apply below_alloc | apply pw_below_drewN | apply below_drew1 | refine below_set ?_ (IsS139.ge HI0.out)) | exact HB.out)); rintro e w40 ⟨rfl, hi, hb, hk⟩; replace HO_3 := Aside0.mk (Kd.R_mono (Kd.R_keep (IsS139.apart (show IsS139 w0 _ g s0_0 x1001_1 x1002_1 from by repeat (first | (with_reducible first | exact HI0.out | apply IsS139.alloc | apply IsS139.drewN | apply IsS139.drew | apply IsS139.set_1 | apply IsS139.set_2) | exact HI0.out)) (tR HO_3) (by decide)) hk (fun _ h => h.2)) (fun _ h => h.1)); replace HK := Aside0.mk (KeepBut.trans (by repeat (first | (with_reducible first | exact HK.out | apply KeepBut.set_ | apply keep_drewN | apply keep_drew | apply keep_alloc) | exact HK.out)) hk (.inl rfl)); replace HB := Aside0.mk (hb); replace HI0 := Aside0.mk (hi); (try clear hb); (try clear hb2); (try clear hk); (try clear hi)))
     go_meet
     case rel => exact ⟨_, (t279), (t280), (t281), tS, H', ⟨by have := HK1.out; first | omega | exact Nat.le_refl _⟩, ⟨tR HO_3⟩, ⟨by repeat (first | (with_reducible first | exact HI0.out | apply IsS139.alloc | apply IsS139.drewN | apply IsS139.drew | apply IsS139.set_1 | apply IsS139.set_2) | exact HI0.out)⟩, ⟨by repeat (first | (with_reducible first | exact HK.out | apply KeepBut.set_ | apply keep_drewN | apply keep_drew | apply keep_alloc) | exact HK.out)⟩, ⟨by repeat (first | (with_reducible first | exact HB.out | apply below_alloc | apply pw_below_drewN | apply below_drew1 | refine below_set ?_ (IsS139.ge HI0.out)) | exact HB.out)⟩⟩
    rw [if_neg c37] at H
    have c37b0 : decide (0 < (x3_1.length : Int)) = false := decide_eq_false c37
    have c37b1 : decide (0 < x3_1.length) = false := decide_eq_false (by omega)
    clear c37
    (first | rw [c37b0] | (simp only [i64_w, i32_w]; rw [c37b0]) | skip)
    have H' := Aside0.mk H
    clear H
    obtain ⟨Ao41, co41, eo41⟩ := Kd.R_slice HO_3.out
    subst eo41
    go_wp2
    go_meet
    case rel => exact ⟨_, (false), (x1001_1), (x1002_1), tS, H', ⟨by have := HK1.out; first | omega | exact Nat.le_refl _⟩, ⟨tR HO_3⟩, ⟨by repeat (first | (with_reducible first | exact HI0.out | apply IsS139.alloc | apply IsS139.drewN | apply IsS139.drew | apply IsS139.set_1 | apply IsS139.set_2) | exact HI0.out)⟩, ⟨by repeat (first | (with_reducible first | exact HK.out | apply KeepBut.set_ | apply keep_drewN | apply keep_drew | apply keep_alloc) | exact HK.out)⟩, ⟨by repeat (first | (with_reducible first | exact HB.out | apply below_alloc | apply pw_below_drewN | apply below_drew1 | refine below_set ?_ (IsS139.ge HI0.out)) | exact HB.out)⟩⟩
   case rest =>
    clear HC36
    try clear c1
    try clear c2
    try clear p2
    try clear c3
    try clear p6
    try clear c8
    try clear c8b0
    try clear c9
    try clear c11
    try clear c12
    try clear c13
    try clear c14
    try clear c23
    try clear c34
    try clear c37
    try clear c37b0
    try clear c37b1
    try clear hcz24_0
    try clear hcz24_1
    try clear hcz24_2
    try clear hcz24_3
    try clear hcz24_4
    try clear hcz24_5
    try clear hcz35_0
    try clear hcz35_1
    try clear hcz35_2
    try clear hcz35_3
    try clear hcz35_4
    try clear hcz35_5
    try clear hfz24_0
    try clear hfz24_1
    try clear hfz24_2
    try clear hfz24_3
    try clear hfz24_4
    try clear hfz24_5
    try clear hfz35_0
    try clear hfz35_1
    try clear hfz35_2
    try clear hfz35_3
    try clear hfz35_4
    try clear hfz35_5
    try clear p2
    try clear p6
    obtain ⟨kq, x51_35, x1001_35, x1002_35, rfl, HA, HJ35, HO_3, HI0, HK, HB⟩ := hcut
    cases kq with
    | zero => exact absurd HA.out (by simp [spec_l27Chain.j1])
    | succ kj35 =>
     have H := HA.out
     clear HA
     simp only [spec_l27Chain.j1] at H
     by_cases c42 : x51_35 = true
     ·subst c42
      have H1 : ((spec_l1Below.f s0_0 x1001_35 x1002_35 (x3_1.length : Int)).bind fun bt282 => ((spec_l1Below.f s0_0 bt282.2.1 bt282.2.2 5).bind fun bt285 => (if bt285.1 = 0 then (if 0 ≤ bt282.1 then (if bt282.1 < (x3_1.length : Int) then (some ((x3_1.set (bt282.1 : Int).toNat (⟨(rd_T64 x3_1 bt282.1).f0, (rd_T64 x3_1 bt282.1).f1, 7, (rd_T64 x3_1 bt282.1).f3, (rd_T64 x3_1 bt282.1).f4, (rd_T64 x3_1 bt282.1).f5⟩ : S64)), bt285.2.1, bt285.2.2)) else (none)) else (none)) else (if bt285.1 = 1 then (if 0 ≤ bt282.1 then (if bt282.1 < (x3_1.length : Int) then (some ((x3_1.set (bt282.1 : Int).toNat (⟨(rd_T64 x3_1 bt282.1).f0, (rd_T64 x3_1 bt282.1).f1, (rd_T64 x3_1 bt282.1).f2, wrap64 (((rd_T64 x3_1 bt282.1).f3) + 1), (rd_T64 x3_1 bt282.1).f4, (rd_T64 x3_1 bt282.1).f5⟩ : S64)), bt285.2.1, bt285.2.2)) else (none)) else (none)) else (if bt285.1 = 2 then (if 0 ≤ bt282.1 then (if bt282.1 < (x3_1.length : Int) then (some ((x3_1.set (bt282.1 : Int).toNat (⟨(rd_T64 x3_1 bt282.1).f0, (rd_T64 x3_1 bt282.1).f1, (rd_T64 x3_1 bt282.1).f2, (rd_T64 x3_1 bt282.1).f3, wrap64 (((rd_T64 x3_1 bt282.1).f4) + 1), (rd_T64 x3_1 bt282.1).f5⟩ : S64)), bt285.2.1, bt285.2.2)) else (none)) else (none)) else (if bt285.1 = 3 then (if 0 ≤ bt282.1 then (if bt282.1 < (x3_1.length : Int) then (some ((x3_1.set (bt282.1 : Int).toNat (⟨(rd_T64 x3_1 bt282.1).f0, (rd_T64 x3_1 bt282.1).f1, (rd_T64 x3_1 bt282.1).f2, (rd_T64 x3_1 bt282.1).f3, (rd_T64 x3_1 bt282.1).f4, wrap64 (((rd_T64 x3_1 bt282.1).f5) + 1)⟩ : S64)), bt285.2.1, bt285.2.2)) else (none)) else (none)) else (if 0 ≤ bt282.1 then (if bt282.1 ≤ (x3_1.length : Int) then (if 0 ≤ (wrap64 (bt282.1 + 1)) then (if (wrap64 (bt282.1 + 1)) ≤ (x3_1.length : Int) then (some ((x3_1.eraseIdx (bt282.1 : Int).toNat), bt285.2.1, bt285.2.2)) else (none)) else (none)) else (none)) else (none)))))))) = some (r1, r2, r3) := by rw [if_pos rfl] at H; exact H
      clear H
      have H := H1
      clear H1
      replace H := Option.bind_eq_some_iff.mp H
      obtain ⟨⟨t282, t283, t284⟩, A430, H⟩ := H
      try dsimp only at H
      have A43 := Aside0.mk A430
      clear A430
      replace H := Option.bind_eq_some_iff.mp H
      obtain ⟨⟨t285, t286, t287⟩, A440, H⟩ := H
      try dsimp only at H
      have A44 := Aside0.mk A440
      clear A440
      by_cases c45 : t285 = 0
      ·rw [if_pos c45] at H
       have c45b0 : (t285 == 0) = true := beq_iff_eq.mpr c45
       have c45b1 : (t285 != 0) = false := bne_eq_false_iff_eq.mpr c45
       clear c45
       by_cases c46 : 0 ≤ t282
       ·rw [if_pos c46] at H
        have c46b0 : decide (0 ≤ t282) = true := decide_eq_true c46
        clear c46
        by_cases c47 : t282 < (x3_1.length : Int)
        ·rw [if_pos c47] at H
         have c47b0 : decide (t282 < (x3_1.length : Int)) = true := decide_eq_true c47
         clear c47
         obtain ⟨y288, hy288⟩ : ∃ y_ : List (S64), y_ = (x3_1.set (t282 : Int).toNat (⟨(rd_T64 x3_1 t282).f0, (rd_T64 x3_1 t282).f1, 7, (rd_T64 x3_1 t282).f3, (rd_T64 x3_1 t282).f4, (rd_T64 x3_1 t282).f5⟩ : S64)) := ⟨_, rfl⟩
         replace H : (some (y288, t286, t287)) = some (r1, r2, r3) := by first | (rw [hy288]; with_reducible exact H) | (have H2_ := (Option.bind_some _ _).symm.trans H; rw [hy288]; with_reducible exact H2_) | (have H2_ := (Option.bind_some _ _).symm.trans H; with_reducible exact H2_) | with_reducible exact H | (rw [hy288]; exact H) | exact H
         have Ny288 := Aside0.mk hy288
         clear hy288
         simp only [Option.some.injEq, Prod.mk.injEq] at H
         obtain ⟨rfl, rfl, rfl⟩ := H
         obtain ⟨Ao49, co49, eo49⟩ := Kd.R_slice HO_3.out
         subst eo49
         go_wp2_with (first | ((with_reducible refine gate_callee (f := 96) rfl ?_); refine goesL_ (some 55) rfl rfl Try.func96 (by kernel_rfl) rfl #[.pointer (some ⟨g, 0, none⟩), .int .i64 (x3_1.length : Int)] rfl tL ?_; (with_reducible refine (spec_l1Below.calls g s0_0 x1001_35 x1002_35 (x3_1.length : Int) t282 t283 t284 w0 _ ?side1 ?side2 A43.out).mono ?_); (case side1 => repeat (first | (with_reducible first | exact HI0.out | apply IsS139.alloc | apply IsS139.drewN | apply IsS139.drew | apply IsS139.set_1 | apply IsS139.set_2) | exact HI0.out)); (case side2 => repeat (first | (with_reducible first | exact HB.out | apply below_alloc | apply pw_below_drewN | apply below_drew1 | refine below_set ?_ (IsS139.ge HI0.out)) | exact HB.out)); rintro e w50 ⟨rfl, hi, hb, hk⟩; refine ⟨_, rfl, ?_⟩; replace HO_3 := Aside0.mk (Kd.R_mono (Kd.R_keep (IsS139.apart (show IsS139 w0 _ g s0_0 x1001_35 x1002_35 from by repeat (first | (with_reducible first | exact HI0.out | apply IsS139.alloc | apply IsS139.drewN | apply IsS139.drew | apply IsS139.set_1 | apply IsS139.set_2) | exact HI0.out)) (tR HO_3) (by decide)) hk (fun _ h => h.2)) (fun _ h => h.1)); replace HK := Aside0.mk (KeepBut.trans (by repeat (first | (with_reducible first | exact HK.out | apply KeepBut.set_ | apply keep_drewN | apply keep_drew | apply keep_alloc) | exact HK.out)) hk (.inl rfl)); replace HB := Aside0.mk (hb); replace HI0 := Aside0.mk (hi); (try clear hb); (try clear hb2); (try clear hk); (try clear hi)) | ((with_reducible refine gate_callee (f := 96) rfl ?_); refine goesL_ (some 57) rfl rfl Try.func96 (by kernel_rfl) rfl #[.pointer (some ⟨g, 0, none⟩), .int .i64 5] rfl tL ?_; (with_reducible refine (spec_l1Below.calls g s0_0 t283 t284 5 t285 t286 t287 w0 _ ?side1 ?side2 A44.out).mono ?_); (case side1 => repeat (first | (with_reducible first | exact HI0.out | apply IsS139.alloc | apply IsS139.drewN | apply IsS139.drew | apply IsS139.set_1 | apply IsS139.set_2) | exact HI0.out)); (case side2 => repeat (first | (with_reducible first | exact HB.out | apply below_alloc | apply pw_below_drewN | apply below_drew1 | refine below_set ?_ (IsS139.ge HI0.out)) | exact HB.out)); rintro e w51 ⟨rfl, hi, hb, hk⟩; refine ⟨_, rfl, ?_⟩; replace HO_3 := Aside0.mk (Kd.R_mono (Kd.R_keep (IsS139.apart (show IsS139 w0 _ g s0_0 t283 t284 from by repeat (first | (with_reducible first | exact HI0.out | apply IsS139.alloc | apply IsS139.drewN | apply IsS139.drew | apply IsS139.set_1 | apply IsS139.set_2) | exact HI0.out)) (tR HO_3) (by decide)) hk (fun _ h => h.2)) (fun _ h => h.1)); replace HK := Aside0.mk (KeepBut.trans (by repeat (first | (with_reducible first | exact HK.out | apply KeepBut.set_ | apply keep_drewN | apply keep_drew | apply keep_alloc) | exact HK.out)) hk (.inl rfl)); replace HB := Aside0.mk (hb); replace HI0 := Aside0.mk (hi); (try clear hb); (try clear hb2); (try clear hk); (try clear hi); have p48 : 0 ≤ (t282 : Int) := of_decide_eq_true tA; have q48 : (t282 : Int) < ((x3_1.length : Int) : Int) := of_decide_eq_true tA; obtain ⟨go48, co48, eo48, gb48, gl48, cl48, HG48⟩ := Kd.R_form HO_3.out (by omega); (first | cases eo48 | (injection eo48 with ea_ en_ ec_; (first | subst ea_ | (injection ea_ with ea_; subst ea_)); subst ec_; clear en_)); have GB48 := Aside0.mk gb48; have GG48 := Aside0.mk HG48; clear gb48 gl48 HG48; obtain ⟨ce48, hcl48, hM48, hcc48, hfr48⟩ := Kd.R_elem HO_3.out z64 (t282 : Int) p48 q48; obtain rfl := k64_openM hM48; have hx48_0 : w51.cell? ⟨go48, (t282 : Int).toNat * 6, none⟩ = some (.int .i64 ((rd_T64 x3_1 t282).f0)) := hcc48 0 _ rfl; have hx48_1 : w51.cell? ⟨go48, (t282 : Int).toNat * 6 + 1, none⟩ = some (.int .i64 ((rd_T64 x3_1 t282).f1)) := hcc48 1 _ rfl; have hx48_2 : w51.cell? ⟨go48, (t282 : Int).toNat * 6 + 2, none⟩ = some (.int .i64 ((rd_T64 x3_1 t282).f2)) := hcc48 2 _ rfl; have hx48_3 : w51.cell? ⟨go48, (t282 : Int).toNat * 6 + 3, none⟩ = some (.int .i64 ((rd_T64 x3_1 t282).f3)) := hcc48 3 _ rfl; have hx48_4 : w51.cell? ⟨go48, (t282 : Int).toNat * 6 + 4, none⟩ = some (.int .i64 ((rd_T64 x3_1 t282).f4)) := hcc48 4 _ rfl; have hx48_5 : w51.cell? ⟨go48, (t282 : Int).toNat * 6 + 5, none⟩ = some (.int .i64 ((rd_T64 x3_1 t282).f5)) := hcc48 5 _ rfl; have hf48_0 : w51.frozen? ⟨go48, (t282 : Int).toNat * 6, none⟩ = false := hfr48 0; have hf48_1 : w51.frozen? ⟨go48, (t282 : Int).toNat * 6 + 1, none⟩ = false := hfr48 1; have hf48_2 : w51.frozen? ⟨go48, (t282 : Int).toNat * 6 + 2, none⟩ = false := hfr48 2; have hf48_3 : w51.frozen? ⟨go48, (t282 : Int).toNat * 6 + 3, none⟩ = false := hfr48 3; have hf48_4 : w51.frozen? ⟨go48, (t282 : Int).toNat * 6 + 4, none⟩ = false := hfr48 4; have hf48_5 : w51.frozen? ⟨go48, (t282 : Int).toNat * 6 + 5, none⟩ = false := hfr48 5; clear hcl48 hcc48 hfr48 hM48; replace p48 := eq_true p48; replace q48 := eq_true q48; have HX52 := Aside0.mk (show Kd.R k64 64 w51 w.heap.size (fun _ => True) (.slice (some ⟨go48, 0, none⟩) x3_1.length co49) x3_1 from (tR HO_3)); obtain ⟨ce52, hcl52, hM52, hcc52, hfr52⟩ := Kd.R_elem HX52.out z64 (t282 : Int) (of_decide_eq_true tA) (by have h_ : (t282 : Int) < ((x3_1.length : Int) : Int) := of_decide_eq_true tA; first | exact h_ | (have e_ := (Kd.R_reads' HO_3.out).1; omega) | simpa using h_); obtain rfl := k64_openM hM52; have HP52 := Kd.R_seg HX52.out (t282 : Int) (of_decide_eq_true tA) (by have h_ : (t282 : Int) < ((x3_1.length : Int) : Int) := of_decide_eq_true tA; first | exact h_ | (have e_ := (Kd.R_reads' HO_3.out).1; omega) | simpa using h_) (seg := [.int .i64 7]) (j := 2) hcl52 hcc52 (show 3 ≤ 6 from by decide) (x' := (⟨(rd_T64 x3_1 t282).f0, (rd_T64 x3_1 t282).f1, 7, (rd_T64 x3_1 t282).f3, (rd_T64 x3_1 t282).f4, (rd_T64 x3_1 t282).f5⟩ : S64)) (k64_mkM _ _ _ (⟨(rd_T64 x3_1 t282).f0, (rd_T64 x3_1 t282).f1, 7, (rd_T64 x3_1 t282).f3, (rd_T64 x3_1 t282).f4, (rd_T64 x3_1 t282).f5⟩ : S64) ) (fun _ hk => hk); have hx52_2 := hcc52 2 _ rfl; (try simp only [show (k64).sz = 6 from rfl, Nat.mul_one, Nat.add_zero] at hx52_2); have hf52_2 := hfr52 2; (try simp only [show (k64).sz = 6 from rfl, Nat.mul_one, Nat.add_zero] at hf52_2); clear hcl52 hcc52 hfr52 hM52) | ((with_reducible refine gate_store (t := 3) (p := 71) rfl ?_); refine store_event (t := 3) (p := 71) (v := ?vo_w53) (w1 := (w51.setCell ⟨go48, (t282 : Int).toNat * 6 + 2, none⟩ (.int .i64 7))) ?hg ?ho ?hn ?hr ?_; (case ho => rfl); (case hg => rfl); (case hn => rfl); (case hr => first | (go_simp; done) | (go_simp; rfl)); intro w53 hw; have hg : w51.grownBy w53 (some go48) := (by rw [hw]; exact HP52.2); have hp_ : Kd.R k64 64 w53 w.heap.size (fun _ => True) (.slice (some ⟨go48, 0, none⟩) x3_1.length co49) y288 := (by rw [hw, Ny288.out]; exact HP52.1); clear HP52; replace HI0 := Aside0.mk (IsS139.grown (by repeat (first | (with_reducible first | exact HI0.out | apply IsS139.alloc | apply IsS139.drewN | apply IsS139.drew | apply IsS139.set_1 | apply IsS139.set_2) | exact HI0.out)) hg (IsS139.own_ne HI0.out HO_3.out (by decide))); replace HB := Aside0.mk ((by rw [hw]; exact below_set (HB.out) (Nat.le_trans HL.out GB48.out) : Below w0.heap.size w0 w53)); replace HK := Aside0.mk (KeepBut.trans (by repeat (first | (with_reducible first | exact HK.out | apply KeepBut.set_ | apply keep_drewN | apply keep_drew | apply keep_alloc) | exact HK.out)) (KeepBut.of_grown hg g) (Kd.R_base2 HO_3.out)); replace HO_3 := Aside0.mk (hp_); clear hg hw hp_))
         go_ret
         exact ⟨_, tE, tR HO_3, by repeat (first | (with_reducible first | exact HI0.out | apply IsS139.alloc | apply IsS139.drewN | apply IsS139.drew | apply IsS139.set_1 | apply IsS139.set_2) | exact HI0.out), by repeat (first | (with_reducible first | exact HB.out | apply below_alloc | apply pw_below_drewN | apply below_drew1 | refine below_set ?_ (IsS139.ge HI0.out)) | exact HB.out), by repeat (first | (with_reducible first | exact HK.out | apply KeepBut.set_ | apply keep_drewN | apply keep_drew | apply keep_alloc) | exact HK.out)⟩
        rw [if_neg c47] at H
        exact absurd H (by simp)
       rw [if_neg c46] at H
       exact absurd H (by simp)
      rw [if_neg c45] at H
      have c45b0 : (t285 == 0) = false := beq_eq_false_iff_ne.mpr c45
      have c45b1 : (t285 != 0) = true := bne_iff_ne.mpr c45
      by_cases c54 : t285 = 1
      ·rw [if_pos c54] at H
       have c54b0 : (t285 == 1) = true := beq_iff_eq.mpr c54
       have c54b1 : (t285 != 1) = false := bne_eq_false_iff_eq.mpr c54
       clear c54
       by_cases c55 : 0 ≤ t282
       ·rw [if_pos c55] at H
        have c55b0 : decide (0 ≤ t282) = true := decide_eq_true c55
        clear c55
        by_cases c56 : t282 < (x3_1.length : Int)
        ·rw [if_pos c56] at H
         have c56b0 : decide (t282 < (x3_1.length : Int)) = true := decide_eq_true c56
         clear c56
         obtain ⟨y290, hy290⟩ : ∃ y_ : List (S64), y_ = (x3_1.set (t282 : Int).toNat (⟨(rd_T64 x3_1 t282).f0, (rd_T64 x3_1 t282).f1, (rd_T64 x3_1 t282).f2, wrap64 (((rd_T64 x3_1 t282).f3) + 1), (rd_T64 x3_1 t282).f4, (rd_T64 x3_1 t282).f5⟩ : S64)) := ⟨_, rfl⟩
         replace H : (some (y290, t286, t287)) = some (r1, r2, r3) := by first | (rw [hy290]; with_reducible exact H) | (have H2_ := (Option.bind_some _ _).symm.trans H; rw [hy290]; with_reducible exact H2_) | (have H2_ := (Option.bind_some _ _).symm.trans H; with_reducible exact H2_) | with_reducible exact H | (rw [hy290]; exact H) | exact H
         have Ny290 := Aside0.mk hy290
         clear hy290
         simp only [Option.some.injEq, Prod.mk.injEq] at H
         obtain ⟨rfl, rfl, rfl⟩ := H
         obtain ⟨Ao58, co58, eo58⟩ := Kd.R_slice HO_3.out
         subst eo58
         go_wp2_with (first | ((with_reducible refine gate_callee (f := 96) rfl ?_); refine goesL_ (some 55) rfl rfl Try.func96 (by kernel_rfl) rfl #[.pointer (some ⟨g, 0, none⟩), .int .i64 (x3_1.length : Int)] rfl tL ?_; (with_reducible refine (spec_l1Below.calls g s0_0 x1001_35 x1002_35 (x3_1.length : Int) t282 t283 t284 w0 _ ?side1 ?side2 A43.out).mono ?_); (case side1 => repeat (first | (with_reducible first | exact HI0.out | apply IsS139.alloc | apply IsS139.drewN | apply IsS139.drew | apply IsS139.set_1 | apply IsS139.set_2) | exact HI0.out)); (case side2 => repeat (first | (with_reducible first | exact HB.out | apply below_alloc | apply pw_below_drewN | apply below_drew1 | refine below_set ?_ (IsS139.ge HI0.out)) | exact HB.out)); rintro e w59 ⟨rfl, hi, hb, hk⟩; refine ⟨_, rfl, ?_⟩; replace HO_3 := Aside0.mk (Kd.R_mono (Kd.R_keep (IsS139.apart (show IsS139 w0 _ g s0_0 x1001_35 x1002_35 from by repeat (first | (with_reducible first | exact HI0.out | apply IsS139.alloc | apply IsS139.drewN | apply IsS139.drew | apply IsS139.set_1 | apply IsS139.set_2) | exact HI0.out)) (tR HO_3) (by decide)) hk (fun _ h => h.2)) (fun _ h => h.1)); replace HK := Aside0.mk (KeepBut.trans (by repeat (first | (with_reducible first | exact HK.out | apply KeepBut.set_ | apply keep_drewN | apply keep_drew | apply keep_alloc) | exact HK.out)) hk (.inl rfl)); replace HB := Aside0.mk (hb); replace HI0 := Aside0.mk (hi); (try clear hb); (try clear hb2); (try clear hk); (try clear hi)) | ((with_reducible refine gate_callee (f := 96) rfl ?_); refine goesL_ (some 57) rfl rfl Try.func96 (by kernel_rfl) rfl #[.pointer (some ⟨g, 0, none⟩), .int .i64 5] rfl tL ?_; (with_reducible refine (spec_l1Below.calls g s0_0 t283 t284 5 t285 t286 t287 w0 _ ?side1 ?side2 A44.out).mono ?_); (case side1 => repeat (first | (with_reducible first | exact HI0.out | apply IsS139.alloc | apply IsS139.drewN | apply IsS139.drew | apply IsS139.set_1 | apply IsS139.set_2) | exact HI0.out)); (case side2 => repeat (first | (with_reducible first | exact HB.out | apply below_alloc | apply pw_below_drewN | apply below_drew1 | refine below_set ?_ (IsS139.ge HI0.out)) | exact HB.out)); rintro e w60 ⟨rfl, hi, hb, hk⟩; refine ⟨_, rfl, ?_⟩; replace HO_3 := Aside0.mk (Kd.R_mono (Kd.R_keep (IsS139.apart (show IsS139 w0 _ g s0_0 t283 t284 from by repeat (first | (with_reducible first | exact HI0.out | apply IsS139.alloc | apply IsS139.drewN | apply IsS139.drew | apply IsS139.set_1 | apply IsS139.set_2) | exact HI0.out)) (tR HO_3) (by decide)) hk (fun _ h => h.2)) (fun _ h => h.1)); replace HK := Aside0.mk (KeepBut.trans (by repeat (first | (with_reducible first | exact HK.out | apply KeepBut.set_ | apply keep_drewN | apply keep_drew | apply keep_alloc) | exact HK.out)) hk (.inl rfl)); replace HB := Aside0.mk (hb); replace HI0 := Aside0.mk (hi); (try clear hb); (try clear hb2); (try clear hk); (try clear hi); have p289 : 0 ≤ (t282 : Int) := of_decide_eq_true tA; have q289 : t282 < (x3_1.length : Int) := of_decide_eq_true tA; obtain ⟨ad289, e289, hx289_0, hx289_1, hx289_2, hx289_3, hx289_4, hx289_5⟩ := at_T64 (Kd.R_reads' HO_3.out).2.2 t282 p289 q289; cases e289; replace p289 := eq_true p289; replace q289 := eq_true q289; have p57 : 0 ≤ (t282 : Int) := of_decide_eq_true tA; have q57 : (t282 : Int) < ((x3_1.length : Int) : Int) := of_decide_eq_true tA; obtain ⟨go57, co57, eo57, gb57, gl57, cl57, HG57⟩ := Kd.R_form HO_3.out (by omega); (first | cases eo57 | (injection eo57 with ea_ en_ ec_; (first | subst ea_ | (injection ea_ with ea_; subst ea_)); subst ec_; clear en_)); have GB57 := Aside0.mk gb57; have GG57 := Aside0.mk HG57; clear gb57 gl57 HG57; (first | simp only [add_plain] at hx289_0 | skip); (first | simp only [add_plain] at hx289_1 | skip); (first | simp only [add_plain] at hx289_2 | skip); (first | simp only [add_plain] at hx289_3 | skip); (first | simp only [add_plain] at hx289_4 | skip); (first | simp only [add_plain] at hx289_5 | skip); obtain ⟨ce57, hcl57, hM57, hcc57, hfr57⟩ := Kd.R_elem HO_3.out z64 (t282 : Int) p57 q57; obtain rfl := k64_openM hM57; have hx57_0 : w60.cell? ⟨go57, (t282 : Int).toNat * 6, none⟩ = some (.int .i64 ((rd_T64 x3_1 t282).f0)) := hcc57 0 _ rfl; have hx57_1 : w60.cell? ⟨go57, (t282 : Int).toNat * 6 + 1, none⟩ = some (.int .i64 ((rd_T64 x3_1 t282).f1)) := hcc57 1 _ rfl; have hx57_2 : w60.cell? ⟨go57, (t282 : Int).toNat * 6 + 2, none⟩ = some (.int .i64 ((rd_T64 x3_1 t282).f2)) := hcc57 2 _ rfl; have hx57_3 : w60.cell? ⟨go57, (t282 : Int).toNat * 6 + 3, none⟩ = some (.int .i64 ((rd_T64 x3_1 t282).f3)) := hcc57 3 _ rfl; have hx57_4 : w60.cell? ⟨go57, (t282 : Int).toNat * 6 + 4, none⟩ = some (.int .i64 ((rd_T64 x3_1 t282).f4)) := hcc57 4 _ rfl; have hx57_5 : w60.cell? ⟨go57, (t282 : Int).toNat * 6 + 5, none⟩ = some (.int .i64 ((rd_T64 x3_1 t282).f5)) := hcc57 5 _ rfl; have hf57_0 : w60.frozen? ⟨go57, (t282 : Int).toNat * 6, none⟩ = false := hfr57 0; have hf57_1 : w60.frozen? ⟨go57, (t282 : Int).toNat * 6 + 1, none⟩ = false := hfr57 1; have hf57_2 : w60.frozen? ⟨go57, (t282 : Int).toNat * 6 + 2, none⟩ = false := hfr57 2; have hf57_3 : w60.frozen? ⟨go57, (t282 : Int).toNat * 6 + 3, none⟩ = false := hfr57 3; have hf57_4 : w60.frozen? ⟨go57, (t282 : Int).toNat * 6 + 4, none⟩ = false := hfr57 4; have hf57_5 : w60.frozen? ⟨go57, (t282 : Int).toNat * 6 + 5, none⟩ = false := hfr57 5; clear hcl57 hcc57 hfr57 hM57; replace p57 := eq_true p57; replace q57 := eq_true q57; have HX61 := Aside0.mk (show Kd.R k64 64 w60 w.heap.size (fun _ => True) (.slice (some ⟨go57, 0, none⟩) x3_1.length co58) x3_1 from (tR HO_3)); obtain ⟨ce61, hcl61, hM61, hcc61, hfr61⟩ := Kd.R_elem HX61.out z64 (t282 : Int) (of_decide_eq_true tA) (by have h_ : (t282 : Int) < ((x3_1.length : Int) : Int) := of_decide_eq_true tA; first | exact h_ | (have e_ := (Kd.R_reads' HO_3.out).1; omega) | simpa using h_); obtain rfl := k64_openM hM61; have HP61 := Kd.R_seg HX61.out (t282 : Int) (of_decide_eq_true tA) (by have h_ : (t282 : Int) < ((x3_1.length : Int) : Int) := of_decide_eq_true tA; first | exact h_ | (have e_ := (Kd.R_reads' HO_3.out).1; omega) | simpa using h_) (seg := [.int .i64 (wrap64 (((rd_T64 x3_1 t282).f3) + 1))]) (j := 3) hcl61 hcc61 (show 4 ≤ 6 from by decide) (x' := (⟨(rd_T64 x3_1 t282).f0, (rd_T64 x3_1 t282).f1, (rd_T64 x3_1 t282).f2, wrap64 (((rd_T64 x3_1 t282).f3) + 1), (rd_T64 x3_1 t282).f4, (rd_T64 x3_1 t282).f5⟩ : S64)) (k64_mkM _ _ _ (⟨(rd_T64 x3_1 t282).f0, (rd_T64 x3_1 t282).f1, (rd_T64 x3_1 t282).f2, wrap64 (((rd_T64 x3_1 t282).f3) + 1), (rd_T64 x3_1 t282).f4, (rd_T64 x3_1 t282).f5⟩ : S64) ) (fun _ hk => hk); have hx61_3 := hcc61 3 _ rfl; (try simp only [show (k64).sz = 6 from rfl, Nat.mul_one, Nat.add_zero] at hx61_3); have hf61_3 := hfr61 3; (try simp only [show (k64).sz = 6 from rfl, Nat.mul_one, Nat.add_zero] at hf61_3); clear hcl61 hcc61 hfr61 hM61) | ((with_reducible refine gate_store (t := 3) (p := 83) rfl ?_); refine store_event (t := 3) (p := 83) (v := ?vo_w62) (w1 := (w60.setCell ⟨go57, (t282 : Int).toNat * 6 + 3, none⟩ (.int .i64 (wrap64 (((rd_T64 x3_1 t282).f3) + 1))))) ?hg ?ho ?hn ?hr ?_; (case ho => rfl); (case hg => rfl); (case hn => rfl); (case hr => first | (go_simp; done) | (go_simp; rfl)); intro w62 hw; have hg : w60.grownBy w62 (some go57) := (by rw [hw]; exact HP61.2); have hp_ : Kd.R k64 64 w62 w.heap.size (fun _ => True) (.slice (some ⟨go57, 0, none⟩) x3_1.length co58) y290 := (by rw [hw, Ny290.out]; exact HP61.1); clear HP61; replace HI0 := Aside0.mk (IsS139.grown (by repeat (first | (with_reducible first | exact HI0.out | apply IsS139.alloc | apply IsS139.drewN | apply IsS139.drew | apply IsS139.set_1 | apply IsS139.set_2) | exact HI0.out)) hg (IsS139.own_ne HI0.out HO_3.out (by decide))); replace HB := Aside0.mk ((by rw [hw]; exact below_set (HB.out) (Nat.le_trans HL.out GB57.out) : Below w0.heap.size w0 w62)); replace HK := Aside0.mk (KeepBut.trans (by repeat (first | (with_reducible first | exact HK.out | apply KeepBut.set_ | apply keep_drewN | apply keep_drew | apply keep_alloc) | exact HK.out)) (KeepBut.of_grown hg g) (Kd.R_base2 HO_3.out)); replace HO_3 := Aside0.mk (hp_); clear hg hw hp_))
         go_ret
         exact ⟨_, tE, tR HO_3, by repeat (first | (with_reducible first | exact HI0.out | apply IsS139.alloc | apply IsS139.drewN | apply IsS139.drew | apply IsS139.set_1 | apply IsS139.set_2) | exact HI0.out), by repeat (first | (with_reducible first | exact HB.out | apply below_alloc | apply pw_below_drewN | apply below_drew1 | refine below_set ?_ (IsS139.ge HI0.out)) | exact HB.out), by repeat (first | (with_reducible first | exact HK.out | apply KeepBut.set_ | apply keep_drewN | apply keep_drew | apply keep_alloc) | exact HK.out)⟩
        rw [if_neg c56] at H
        exact absurd H (by simp)
       rw [if_neg c55] at H
       exact absurd H (by simp)
      rw [if_neg c54] at H
      have c54b0 : (t285 == 1) = false := beq_eq_false_iff_ne.mpr c54
      have c54b1 : (t285 != 1) = true := bne_iff_ne.mpr c54
      by_cases c63 : t285 = 2
      ·rw [if_pos c63] at H
       have c63b0 : (t285 == 2) = true := beq_iff_eq.mpr c63
       have c63b1 : (t285 != 2) = false := bne_eq_false_iff_eq.mpr c63
       clear c63
       by_cases c64 : 0 ≤ t282
       ·rw [if_pos c64] at H
        have c64b0 : decide (0 ≤ t282) = true := decide_eq_true c64
        clear c64
        by_cases c65 : t282 < (x3_1.length : Int)
        ·rw [if_pos c65] at H
         have c65b0 : decide (t282 < (x3_1.length : Int)) = true := decide_eq_true c65
         clear c65
         obtain ⟨y292, hy292⟩ : ∃ y_ : List (S64), y_ = (x3_1.set (t282 : Int).toNat (⟨(rd_T64 x3_1 t282).f0, (rd_T64 x3_1 t282).f1, (rd_T64 x3_1 t282).f2, (rd_T64 x3_1 t282).f3, wrap64 (((rd_T64 x3_1 t282).f4) + 1), (rd_T64 x3_1 t282).f5⟩ : S64)) := ⟨_, rfl⟩
         replace H : (some (y292, t286, t287)) = some (r1, r2, r3) := by first | (rw [hy292]; with_reducible exact H) | (have H2_ := (Option.bind_some _ _).symm.trans H; rw [hy292]; with_reducible exact H2_) | (have H2_ := (Option.bind_some _ _).symm.trans H; with_reducible exact H2_) | with_reducible exact H | (rw [hy292]; exact H) | exact H
         have Ny292 := Aside0.mk hy292
         clear hy292
         simp only [Option.some.injEq, Prod.mk.injEq] at H
         obtain ⟨rfl, rfl, rfl⟩ := H
         obtain ⟨Ao67, co67, eo67⟩ := Kd.R_slice HO_3.out
         subst eo67
         go_wp2_with (first | ((with_reducible refine gate_callee (f := 96) rfl ?_); refine goesL_ (some 55) rfl rfl Try.func96 (by kernel_rfl) rfl #[.pointer (some ⟨g, 0, none⟩), .int .i64 (x3_1.length : Int)] rfl tL ?_; (with_reducible refine (spec_l1Below.calls g s0_0 x1001_35 x1002_35 (x3_1.length : Int) t282 t283 t284 w0 _ ?side1 ?side2 A43.out).mono ?_); (case side1 => repeat (first | (with_reducible first | exact HI0.out | apply IsS139.alloc | apply IsS139.drewN | apply IsS139.drew | apply IsS139.set_1 | apply IsS139.set_2) | exact HI0.out)); (case side2 => repeat (first | (with_reducible first | exact HB.out | apply below_alloc | apply pw_below_drewN | apply below_drew1 | refine below_set ?_ (IsS139.ge HI0.out)) | exact HB.out)); rintro e w68 ⟨rfl, hi, hb, hk⟩; refine ⟨_, rfl, ?_⟩; replace HO_3 := Aside0.mk (Kd.R_mono (Kd.R_keep (IsS139.apart (show IsS139 w0 _ g s0_0 x1001_35 x1002_35 from by repeat (first | (with_reducible first | exact HI0.out | apply IsS139.alloc | apply IsS139.drewN | apply IsS139.drew | apply IsS139.set_1 | apply IsS139.set_2) | exact HI0.out)) (tR HO_3) (by decide)) hk (fun _ h => h.2)) (fun _ h => h.1)); replace HK := Aside0.mk (KeepBut.trans (by repeat (first | (with_reducible first | exact HK.out | apply KeepBut.set_ | apply keep_drewN | apply keep_drew | apply keep_alloc) | exact HK.out)) hk (.inl rfl)); replace HB := Aside0.mk (hb); replace HI0 := Aside0.mk (hi); (try clear hb); (try clear hb2); (try clear hk); (try clear hi)) | ((with_reducible refine gate_callee (f := 96) rfl ?_); refine goesL_ (some 57) rfl rfl Try.func96 (by kernel_rfl) rfl #[.pointer (some ⟨g, 0, none⟩), .int .i64 5] rfl tL ?_; (with_reducible refine (spec_l1Below.calls g s0_0 t283 t284 5 t285 t286 t287 w0 _ ?side1 ?side2 A44.out).mono ?_); (case side1 => repeat (first | (with_reducible first | exact HI0.out | apply IsS139.alloc | apply IsS139.drewN | apply IsS139.drew | apply IsS139.set_1 | apply IsS139.set_2) | exact HI0.out)); (case side2 => repeat (first | (with_reducible first | exact HB.out | apply below_alloc | apply pw_below_drewN | apply below_drew1 | refine below_set ?_ (IsS139.ge HI0.out)) | exact HB.out)); rintro e w69 ⟨rfl, hi, hb, hk⟩; refine ⟨_, rfl, ?_⟩; replace HO_3 := Aside0.mk (Kd.R_mono (Kd.R_keep (IsS139.apart (show IsS139 w0 _ g s0_0 t283 t284 from by repeat (first | (with_reducible first | exact HI0.out | apply IsS139.alloc | apply IsS139.drewN | apply IsS139.drew | apply IsS139.set_1 | apply IsS139.set_2) | exact HI0.out)) (tR HO_3) (by decide)) hk (fun _ h => h.2)) (fun _ h => h.1)); replace HK := Aside0.mk (KeepBut.trans (by repeat (first | (with_reducible first | exact HK.out | apply KeepBut.set_ | apply keep_drewN | apply keep_drew | apply keep_alloc) | exact HK.out)) hk (.inl rfl)); replace HB := Aside0.mk (hb); replace HI0 := Aside0.mk (hi); (try clear hb); (try clear hb2); (try clear hk); (try clear hi); have p291 : 0 ≤ (t282 : Int) := of_decide_eq_true tA; have q291 : t282 < (x3_1.length : Int) := of_decide_eq_true tA; obtain ⟨ad291, e291, hx291_0, hx291_1, hx291_2, hx291_3, hx291_4, hx291_5⟩ := at_T64 (Kd.R_reads' HO_3.out).2.2 t282 p291 q291; cases e291; replace p291 := eq_true p291; replace q291 := eq_true q291; have p66 : 0 ≤ (t282 : Int) := of_decide_eq_true tA; have q66 : (t282 : Int) < ((x3_1.length : Int) : Int) := of_decide_eq_true tA; obtain ⟨go66, co66, eo66, gb66, gl66, cl66, HG66⟩ := Kd.R_form HO_3.out (by omega); (first | cases eo66 | (injection eo66 with ea_ en_ ec_; (first | subst ea_ | (injection ea_ with ea_; subst ea_)); subst ec_; clear en_)); have GB66 := Aside0.mk gb66; have GG66 := Aside0.mk HG66; clear gb66 gl66 HG66; (first | simp only [add_plain] at hx291_0 | skip); (first | simp only [add_plain] at hx291_1 | skip); (first | simp only [add_plain] at hx291_2 | skip); (first | simp only [add_plain] at hx291_3 | skip); (first | simp only [add_plain] at hx291_4 | skip); (first | simp only [add_plain] at hx291_5 | skip); obtain ⟨ce66, hcl66, hM66, hcc66, hfr66⟩ := Kd.R_elem HO_3.out z64 (t282 : Int) p66 q66; obtain rfl := k64_openM hM66; have hx66_0 : w69.cell? ⟨go66, (t282 : Int).toNat * 6, none⟩ = some (.int .i64 ((rd_T64 x3_1 t282).f0)) := hcc66 0 _ rfl; have hx66_1 : w69.cell? ⟨go66, (t282 : Int).toNat * 6 + 1, none⟩ = some (.int .i64 ((rd_T64 x3_1 t282).f1)) := hcc66 1 _ rfl; have hx66_2 : w69.cell? ⟨go66, (t282 : Int).toNat * 6 + 2, none⟩ = some (.int .i64 ((rd_T64 x3_1 t282).f2)) := hcc66 2 _ rfl; have hx66_3 : w69.cell? ⟨go66, (t282 : Int).toNat * 6 + 3, none⟩ = some (.int .i64 ((rd_T64 x3_1 t282).f3)) := hcc66 3 _ rfl; have hx66_4 : w69.cell? ⟨go66, (t282 : Int).toNat * 6 + 4, none⟩ = some (.int .i64 ((rd_T64 x3_1 t282).f4)) := hcc66 4 _ rfl; have hx66_5 : w69.cell? ⟨go66, (t282 : Int).toNat * 6 + 5, none⟩ = some (.int .i64 ((rd_T64 x3_1 t282).f5)) := hcc66 5 _ rfl; have hf66_0 : w69.frozen? ⟨go66, (t282 : Int).toNat * 6, none⟩ = false := hfr66 0; have hf66_1 : w69.frozen? ⟨go66, (t282 : Int).toNat * 6 + 1, none⟩ = false := hfr66 1; have hf66_2 : w69.frozen? ⟨go66, (t282 : Int).toNat * 6 + 2, none⟩ = false := hfr66 2; have hf66_3 : w69.frozen? ⟨go66, (t282 : Int).toNat * 6 + 3, none⟩ = false := hfr66 3; have hf66_4 : w69.frozen? ⟨go66, (t282 : Int).toNat * 6 + 4, none⟩ = false := hfr66 4; have hf66_5 : w69.frozen? ⟨go66, (t282 : Int).toNat * 6 + 5, none⟩ = false := hfr66 5; clear hcl66 hcc66 hfr66 hM66; replace p66 := eq_true p66; replace q66 := eq_true q66; have HX70 := Aside0.mk (show Kd.R k64 64 w69 w.heap.size (fun _ => True) (.slice (some ⟨go66, 0, none⟩) x3_1.length co67) x3_1 from (tR HO_3)); obtain ⟨ce70, hcl70, hM70, hcc70, hfr70⟩ := Kd.R_elem HX70.out z64 (t282 : Int) (of_decide_eq_true tA) (by have h_ : (t282 : Int) < ((x3_1.length : Int) : Int) := of_decide_eq_true tA; first | exact h_ | (have e_ := (Kd.R_reads' HO_3.out).1; omega) | simpa using h_); obtain rfl := k64_openM hM70; have HP70 := Kd.R_seg HX70.out (t282 : Int) (of_decide_eq_true tA) (by have h_ : (t282 : Int) < ((x3_1.length : Int) : Int) := of_decide_eq_true tA; first | exact h_ | (have e_ := (Kd.R_reads' HO_3.out).1; omega) | simpa using h_) (seg := [.int .i64 (wrap64 (((rd_T64 x3_1 t282).f4) + 1))]) (j := 4) hcl70 hcc70 (show 5 ≤ 6 from by decide) (x' := (⟨(rd_T64 x3_1 t282).f0, (rd_T64 x3_1 t282).f1, (rd_T64 x3_1 t282).f2, (rd_T64 x3_1 t282).f3, wrap64 (((rd_T64 x3_1 t282).f4) + 1), (rd_T64 x3_1 t282).f5⟩ : S64)) (k64_mkM _ _ _ (⟨(rd_T64 x3_1 t282).f0, (rd_T64 x3_1 t282).f1, (rd_T64 x3_1 t282).f2, (rd_T64 x3_1 t282).f3, wrap64 (((rd_T64 x3_1 t282).f4) + 1), (rd_T64 x3_1 t282).f5⟩ : S64) ) (fun _ hk => hk); have hx70_4 := hcc70 4 _ rfl; (try simp only [show (k64).sz = 6 from rfl, Nat.mul_one, Nat.add_zero] at hx70_4); have hf70_4 := hfr70 4; (try simp only [show (k64).sz = 6 from rfl, Nat.mul_one, Nat.add_zero] at hf70_4); clear hcl70 hcc70 hfr70 hM70) | ((with_reducible refine gate_store (t := 3) (p := 95) rfl ?_); refine store_event (t := 3) (p := 95) (v := ?vo_w71) (w1 := (w69.setCell ⟨go66, (t282 : Int).toNat * 6 + 4, none⟩ (.int .i64 (wrap64 (((rd_T64 x3_1 t282).f4) + 1))))) ?hg ?ho ?hn ?hr ?_; (case ho => rfl); (case hg => rfl); (case hn => rfl); (case hr => first | (go_simp; done) | (go_simp; rfl)); intro w71 hw; have hg : w69.grownBy w71 (some go66) := (by rw [hw]; exact HP70.2); have hp_ : Kd.R k64 64 w71 w.heap.size (fun _ => True) (.slice (some ⟨go66, 0, none⟩) x3_1.length co67) y292 := (by rw [hw, Ny292.out]; exact HP70.1); clear HP70; replace HI0 := Aside0.mk (IsS139.grown (by repeat (first | (with_reducible first | exact HI0.out | apply IsS139.alloc | apply IsS139.drewN | apply IsS139.drew | apply IsS139.set_1 | apply IsS139.set_2) | exact HI0.out)) hg (IsS139.own_ne HI0.out HO_3.out (by decide))); replace HB := Aside0.mk ((by rw [hw]; exact below_set (HB.out) (Nat.le_trans HL.out GB66.out) : Below w0.heap.size w0 w71)); replace HK := Aside0.mk (KeepBut.trans (by repeat (first | (with_reducible first | exact HK.out | apply KeepBut.set_ | apply keep_drewN | apply keep_drew | apply keep_alloc) | exact HK.out)) (KeepBut.of_grown hg g) (Kd.R_base2 HO_3.out)); replace HO_3 := Aside0.mk (hp_); clear hg hw hp_))
         go_ret
         exact ⟨_, tE, tR HO_3, by repeat (first | (with_reducible first | exact HI0.out | apply IsS139.alloc | apply IsS139.drewN | apply IsS139.drew | apply IsS139.set_1 | apply IsS139.set_2) | exact HI0.out), by repeat (first | (with_reducible first | exact HB.out | apply below_alloc | apply pw_below_drewN | apply below_drew1 | refine below_set ?_ (IsS139.ge HI0.out)) | exact HB.out), by repeat (first | (with_reducible first | exact HK.out | apply KeepBut.set_ | apply keep_drewN | apply keep_drew | apply keep_alloc) | exact HK.out)⟩
        rw [if_neg c65] at H
        exact absurd H (by simp)
       rw [if_neg c64] at H
       exact absurd H (by simp)
      rw [if_neg c63] at H
      have c63b0 : (t285 == 2) = false := beq_eq_false_iff_ne.mpr c63
      have c63b1 : (t285 != 2) = true := bne_iff_ne.mpr c63
      by_cases c72 : t285 = 3
      ·rw [if_pos c72] at H
       have c72b0 : (t285 == 3) = true := beq_iff_eq.mpr c72
       have c72b1 : (t285 != 3) = false := bne_eq_false_iff_eq.mpr c72
       clear c72
       by_cases c73 : 0 ≤ t282
       ·rw [if_pos c73] at H
        have c73b0 : decide (0 ≤ t282) = true := decide_eq_true c73
        clear c73
        by_cases c74 : t282 < (x3_1.length : Int)
        ·rw [if_pos c74] at H
         have c74b0 : decide (t282 < (x3_1.length : Int)) = true := decide_eq_true c74
         clear c74
         obtain ⟨y294, hy294⟩ : ∃ y_ : List (S64), y_ = (x3_1.set (t282 : Int).toNat (⟨(rd_T64 x3_1 t282).f0, (rd_T64 x3_1 t282).f1, (rd_T64 x3_1 t282).f2, (rd_T64 x3_1 t282).f3, (rd_T64 x3_1 t282).f4, wrap64 (((rd_T64 x3_1 t282).f5) + 1)⟩ : S64)) := ⟨_, rfl⟩
         replace H : (some (y294, t286, t287)) = some (r1, r2, r3) := by first | (rw [hy294]; with_reducible exact H) | (have H2_ := (Option.bind_some _ _).symm.trans H; rw [hy294]; with_reducible exact H2_) | (have H2_ := (Option.bind_some _ _).symm.trans H; with_reducible exact H2_) | with_reducible exact H | (rw [hy294]; exact H) | exact H
         have Ny294 := Aside0.mk hy294
         clear hy294
         simp only [Option.some.injEq, Prod.mk.injEq] at H
         obtain ⟨rfl, rfl, rfl⟩ := H
         obtain ⟨Ao76, co76, eo76⟩ := Kd.R_slice HO_3.out
         subst eo76
         go_wp2_with (first | ((with_reducible refine gate_callee (f := 96) rfl ?_); refine goesL_ (some 55) rfl rfl Try.func96 (by kernel_rfl) rfl #[.pointer (some ⟨g, 0, none⟩), .int .i64 (x3_1.length : Int)] rfl tL ?_; (with_reducible refine (spec_l1Below.calls g s0_0 x1001_35 x1002_35 (x3_1.length : Int) t282 t283 t284 w0 _ ?side1 ?side2 A43.out).mono ?_); (case side1 => repeat (first | (with_reducible first | exact HI0.out | apply IsS139.alloc | apply IsS139.drewN | apply IsS139.drew | apply IsS139.set_1 | apply IsS139.set_2) | exact HI0.out)); (case side2 => repeat (first | (with_reducible first | exact HB.out | apply below_alloc | apply pw_below_drewN | apply below_drew1 | refine below_set ?_ (IsS139.ge HI0.out)) | exact HB.out)); rintro e w77 ⟨rfl, hi, hb, hk⟩; refine ⟨_, rfl, ?_⟩; replace HO_3 := Aside0.mk (Kd.R_mono (Kd.R_keep (IsS139.apart (show IsS139 w0 _ g s0_0 x1001_35 x1002_35 from by repeat (first | (with_reducible first | exact HI0.out | apply IsS139.alloc | apply IsS139.drewN | apply IsS139.drew | apply IsS139.set_1 | apply IsS139.set_2) | exact HI0.out)) (tR HO_3) (by decide)) hk (fun _ h => h.2)) (fun _ h => h.1)); replace HK := Aside0.mk (KeepBut.trans (by repeat (first | (with_reducible first | exact HK.out | apply KeepBut.set_ | apply keep_drewN | apply keep_drew | apply keep_alloc) | exact HK.out)) hk (.inl rfl)); replace HB := Aside0.mk (hb); replace HI0 := Aside0.mk (hi); (try clear hb); (try clear hb2); (try clear hk); (try clear hi)) | ((with_reducible refine gate_callee (f := 96) rfl ?_); refine goesL_ (some 57) rfl rfl Try.func96 (by kernel_rfl) rfl #[.pointer (some ⟨g, 0, none⟩), .int .i64 5] rfl tL ?_; (with_reducible refine (spec_l1Below.calls g s0_0 t283 t284 5 t285 t286 t287 w0 _ ?side1 ?side2 A44.out).mono ?_); (case side1 => repeat (first | (with_reducible first | exact HI0.out | apply IsS139.alloc | apply IsS139.drewN | apply IsS139.drew | apply IsS139.set_1 | apply IsS139.set_2) | exact HI0.out)); (case side2 => repeat (first | (with_reducible first | exact HB.out | apply below_alloc | apply pw_below_drewN | apply below_drew1 | refine below_set ?_ (IsS139.ge HI0.out)) | exact HB.out)); rintro e w78 ⟨rfl, hi, hb, hk⟩; refine ⟨_, rfl, ?_⟩; replace HO_3 := Aside0.mk (Kd.R_mono (Kd.R_keep (IsS139.apart (show IsS139 w0 _ g s0_0 t283 t284 from by repeat (first | (with_reducible first | exact HI0.out | apply IsS139.alloc | apply IsS139.drewN | apply IsS139.drew | apply IsS139.set_1 | apply IsS139.set_2) | exact HI0.out)) (tR HO_3) (by decide)) hk (fun _ h => h.2)) (fun _ h => h.1)); replace HK := Aside0.mk (KeepBut.trans (by repeat (first | (with_reducible first | exact HK.out | apply KeepBut.set_ | apply keep_drewN | apply keep_drew | apply keep_alloc) | exact HK.out)) hk (.inl rfl)); replace HB := Aside0.mk (hb); replace HI0 := Aside0.mk (hi); (try clear hb); (try clear hb2); (try clear hk); (try clear hi); have p293 : 0 ≤ (t282 : Int) := of_decide_eq_true tA; have q293 : t282 < (x3_1.length : Int) := of_decide_eq_true tA; obtain ⟨ad293, e293, hx293_0, hx293_1, hx293_2, hx293_3, hx293_4, hx293_5⟩ := at_T64 (Kd.R_reads' HO_3.out).2.2 t282 p293 q293; cases e293; replace p293 := eq_true p293; replace q293 := eq_true q293; have p75 : 0 ≤ (t282 : Int) := of_decide_eq_true tA; have q75 : (t282 : Int) < ((x3_1.length : Int) : Int) := of_decide_eq_true tA; obtain ⟨go75, co75, eo75, gb75, gl75, cl75, HG75⟩ := Kd.R_form HO_3.out (by omega); (first | cases eo75 | (injection eo75 with ea_ en_ ec_; (first | subst ea_ | (injection ea_ with ea_; subst ea_)); subst ec_; clear en_)); have GB75 := Aside0.mk gb75; have GG75 := Aside0.mk HG75; clear gb75 gl75 HG75; (first | simp only [add_plain] at hx293_0 | skip); (first | simp only [add_plain] at hx293_1 | skip); (first | simp only [add_plain] at hx293_2 | skip); (first | simp only [add_plain] at hx293_3 | skip); (first | simp only [add_plain] at hx293_4 | skip); (first | simp only [add_plain] at hx293_5 | skip); obtain ⟨ce75, hcl75, hM75, hcc75, hfr75⟩ := Kd.R_elem HO_3.out z64 (t282 : Int) p75 q75; obtain rfl := k64_openM hM75; have hx75_0 : w78.cell? ⟨go75, (t282 : Int).toNat * 6, none⟩ = some (.int .i64 ((rd_T64 x3_1 t282).f0)) := hcc75 0 _ rfl; have hx75_1 : w78.cell? ⟨go75, (t282 : Int).toNat * 6 + 1, none⟩ = some (.int .i64 ((rd_T64 x3_1 t282).f1)) := hcc75 1 _ rfl; have hx75_2 : w78.cell? ⟨go75, (t282 : Int).toNat * 6 + 2, none⟩ = some (.int .i64 ((rd_T64 x3_1 t282).f2)) := hcc75 2 _ rfl; have hx75_3 : w78.cell? ⟨go75, (t282 : Int).toNat * 6 + 3, none⟩ = some (.int .i64 ((rd_T64 x3_1 t282).f3)) := hcc75 3 _ rfl; have hx75_4 : w78.cell? ⟨go75, (t282 : Int).toNat * 6 + 4, none⟩ = some (.int .i64 ((rd_T64 x3_1 t282).f4)) := hcc75 4 _ rfl; have hx75_5 : w78.cell? ⟨go75, (t282 : Int).toNat * 6 + 5, none⟩ = some (.int .i64 ((rd_T64 x3_1 t282).f5)) := hcc75 5 _ rfl; have hf75_0 : w78.frozen? ⟨go75, (t282 : Int).toNat * 6, none⟩ = false := hfr75 0; have hf75_1 : w78.frozen? ⟨go75, (t282 : Int).toNat * 6 + 1, none⟩ = false := hfr75 1; have hf75_2 : w78.frozen? ⟨go75, (t282 : Int).toNat * 6 + 2, none⟩ = false := hfr75 2; have hf75_3 : w78.frozen? ⟨go75, (t282 : Int).toNat * 6 + 3, none⟩ = false := hfr75 3; have hf75_4 : w78.frozen? ⟨go75, (t282 : Int).toNat * 6 + 4, none⟩ = false := hfr75 4; have hf75_5 : w78.frozen? ⟨go75, (t282 : Int).toNat * 6 + 5, none⟩ = false := hfr75 5; clear hcl75 hcc75 hfr75 hM75; replace p75 := eq_true p75; replace q75 := eq_true q75; have HX79 := Aside0.mk (show Kd.R k64 64 w78 w.heap.size (fun _ => True) (.slice (some ⟨go75, 0, none⟩) x3_1.length co76) x3_1 from (tR HO_3)); obtain ⟨ce79, hcl79, hM79, hcc79, hfr79⟩ := Kd.R_elem HX79.out z64 (t282 : Int) (of_decide_eq_true tA) (by have h_ : (t282 : Int) < ((x3_1.length : Int) : Int) := of_decide_eq_true tA; first | exact h_ | (have e_ := (Kd.R_reads' HO_3.out).1; omega) | simpa using h_); obtain rfl := k64_openM hM79; have HP79 := Kd.R_seg HX79.out (t282 : Int) (of_decide_eq_true tA) (by have h_ : (t282 : Int) < ((x3_1.length : Int) : Int) := of_decide_eq_true tA; first | exact h_ | (have e_ := (Kd.R_reads' HO_3.out).1; omega) | simpa using h_) (seg := [.int .i64 (wrap64 (((rd_T64 x3_1 t282).f5) + 1))]) (j := 5) hcl79 hcc79 (show 6 ≤ 6 from by decide) (x' := (⟨(rd_T64 x3_1 t282).f0, (rd_T64 x3_1 t282).f1, (rd_T64 x3_1 t282).f2, (rd_T64 x3_1 t282).f3, (rd_T64 x3_1 t282).f4, wrap64 (((rd_T64 x3_1 t282).f5) + 1)⟩ : S64)) (k64_mkM _ _ _ (⟨(rd_T64 x3_1 t282).f0, (rd_T64 x3_1 t282).f1, (rd_T64 x3_1 t282).f2, (rd_T64 x3_1 t282).f3, (rd_T64 x3_1 t282).f4, wrap64 (((rd_T64 x3_1 t282).f5) + 1)⟩ : S64) ) (fun _ hk => hk); have hx79_5 := hcc79 5 _ rfl; (try simp only [show (k64).sz = 6 from rfl, Nat.mul_one, Nat.add_zero] at hx79_5); have hf79_5 := hfr79 5; (try simp only [show (k64).sz = 6 from rfl, Nat.mul_one, Nat.add_zero] at hf79_5); clear hcl79 hcc79 hfr79 hM79) | ((with_reducible refine gate_store (t := 3) (p := 107) rfl ?_); refine store_event (t := 3) (p := 107) (v := ?vo_w80) (w1 := (w78.setCell ⟨go75, (t282 : Int).toNat * 6 + 5, none⟩ (.int .i64 (wrap64 (((rd_T64 x3_1 t282).f5) + 1))))) ?hg ?ho ?hn ?hr ?_; (case ho => rfl); (case hg => rfl); (case hn => rfl); (case hr => first | (go_simp; done) | (go_simp; rfl)); intro w80 hw; have hg : w78.grownBy w80 (some go75) := (by rw [hw]; exact HP79.2); have hp_ : Kd.R k64 64 w80 w.heap.size (fun _ => True) (.slice (some ⟨go75, 0, none⟩) x3_1.length co76) y294 := (by rw [hw, Ny294.out]; exact HP79.1); clear HP79; replace HI0 := Aside0.mk (IsS139.grown (by repeat (first | (with_reducible first | exact HI0.out | apply IsS139.alloc | apply IsS139.drewN | apply IsS139.drew | apply IsS139.set_1 | apply IsS139.set_2) | exact HI0.out)) hg (IsS139.own_ne HI0.out HO_3.out (by decide))); replace HB := Aside0.mk ((by rw [hw]; exact below_set (HB.out) (Nat.le_trans HL.out GB75.out) : Below w0.heap.size w0 w80)); replace HK := Aside0.mk (KeepBut.trans (by repeat (first | (with_reducible first | exact HK.out | apply KeepBut.set_ | apply keep_drewN | apply keep_drew | apply keep_alloc) | exact HK.out)) (KeepBut.of_grown hg g) (Kd.R_base2 HO_3.out)); replace HO_3 := Aside0.mk (hp_); clear hg hw hp_))
         go_ret
         exact ⟨_, tE, tR HO_3, by repeat (first | (with_reducible first | exact HI0.out | apply IsS139.alloc | apply IsS139.drewN | apply IsS139.drew | apply IsS139.set_1 | apply IsS139.set_2) | exact HI0.out), by repeat (first | (with_reducible first | exact HB.out | apply below_alloc | apply pw_below_drewN | apply below_drew1 | refine below_set ?_ (IsS139.ge HI0.out)) | exact HB.out), by repeat (first | (with_reducible first | exact HK.out | apply KeepBut.set_ | apply keep_drewN | apply keep_drew | apply keep_alloc) | exact HK.out)⟩
        rw [if_neg c74] at H
        exact absurd H (by simp)
       rw [if_neg c73] at H
       exact absurd H (by simp)
      rw [if_neg c72] at H
      have c72b0 : (t285 == 3) = false := beq_eq_false_iff_ne.mpr c72
      have c72b1 : (t285 != 3) = true := bne_iff_ne.mpr c72
      by_cases c81 : 0 ≤ t282
      ·rw [if_pos c81] at H
       have c81b0 := eq_true c81
       have c81b1 : decide (0 ≤ t282) = true := decide_eq_true c81
       clear c81
       by_cases c82 : t282 ≤ (x3_1.length : Int)
       ·rw [if_pos c82] at H
        have c82b0 := eq_true c82
        have c82b1 : decide (t282 ≤ (x3_1.length : Int)) = true := decide_eq_true c82
        clear c82
        obtain ⟨y295, hy295⟩ : ∃ y_ : List (S64), y_ = (x3_1.take (t282 : Int).toNat) := ⟨_, rfl⟩
        replace H : (if 0 ≤ (wrap64 (t282 + 1)) then (if (wrap64 (t282 + 1)) ≤ (x3_1.length : Int) then (some ((x3_1.eraseIdx (t282 : Int).toNat), t286, t287)) else (none)) else (none)) = some (r1, r2, r3) := by first | (rw [hy295]; with_reducible exact H) | (have H2_ := (Option.bind_some _ _).symm.trans H; rw [hy295]; with_reducible exact H2_) | (have H2_ := (Option.bind_some _ _).symm.trans H; with_reducible exact H2_) | with_reducible exact H | (rw [hy295]; exact H) | exact H
        have Ny295 := Aside0.mk hy295
        clear hy295
        obtain ⟨ji83, hji83⟩ : ∃ j_ : Int, (wrap64 (t282 + 1)) = j_ := ⟨_, rfl⟩
        replace H : (if 0 ≤ (ji83) then (if (ji83) ≤ (x3_1.length : Int) then (some ((x3_1.eraseIdx (t282 : Int).toNat), t286, t287)) else (none)) else (none)) = some (r1, r2, r3) := by first | (rw [hji83] at H; exact H) | (simp only [hji83] at H ⊢; exact H)
        (try rw [hji83] at A43)
        (try rw [hji83] at A44)
        have hji83w : (IntKind.i64.wrap (t282 + 1)) = ji83 := (i64_w _).trans hji83
        by_cases c84 : 0 ≤ (ji83)
        ·rw [if_pos c84] at H
         have c84b0 := eq_true c84
         have c84b1 : decide (0 ≤ (ji83)) = true := decide_eq_true c84
         clear c84
         by_cases c85 : (ji83) ≤ (x3_1.length : Int)
         ·rw [if_pos c85] at H
          have c85b0 := eq_true c85
          have c85b1 : decide ((ji83) ≤ (x3_1.length : Int)) = true := decide_eq_true c85
          clear c85
          obtain ⟨y299, hy299⟩ : ∃ y_ : List (S64), y_ = (x3_1.drop ((ji83) : Int).toNat) := ⟨_, rfl⟩
          replace H : (some ((x3_1.eraseIdx (t282 : Int).toNat), t286, t287)) = some (r1, r2, r3) := by first | (rw [hy299]; with_reducible exact H) | (have H2_ := (Option.bind_some _ _).symm.trans H; rw [hy299]; with_reducible exact H2_) | (have H2_ := (Option.bind_some _ _).symm.trans H; with_reducible exact H2_) | with_reducible exact H | (rw [hy299]; exact H) | exact H
          have Ny299 := Aside0.mk hy299
          clear hy299
          obtain ⟨y303, hy303⟩ : ∃ y_ : List (S64), y_ = (x3_1.eraseIdx (t282 : Int).toNat) := ⟨_, rfl⟩
          replace H : (some (y303, t286, t287)) = some (r1, r2, r3) := by first | (rw [hy303]; with_reducible exact H) | (have H2_ := (Option.bind_some _ _).symm.trans H; rw [hy303]; with_reducible exact H2_) | (have H2_ := (Option.bind_some _ _).symm.trans H; with_reducible exact H2_) | with_reducible exact H | (rw [hy303]; exact H) | exact H
          have Ny303 := Aside0.mk hy303
          clear hy303
          simp only [Option.some.injEq, Prod.mk.injEq] at H
          obtain ⟨rfl, rfl, rfl⟩ := H
          obtain ⟨Ao86, co86, eo86⟩ := Kd.R_slice HO_3.out
          subst eo86
          try go_wp2_with (first | ((with_reducible refine gate_callee (f := 96) rfl ?_); refine goesL_ (some 55) rfl rfl Try.func96 (by kernel_rfl) rfl #[.pointer (some ⟨g, 0, none⟩), .int .i64 (x3_1.length : Int)] rfl tL ?_; (with_reducible refine (spec_l1Below.calls g s0_0 x1001_35 x1002_35 (x3_1.length : Int) t282 t283 t284 w0 _ ?side1 ?side2 A43.out).mono ?_); (case side1 => repeat (first | (with_reducible first | exact HI0.out | apply IsS139.alloc | apply IsS139.drewN | apply IsS139.drew | apply IsS139.set_1 | apply IsS139.set_2) | exact HI0.out)); (case side2 => repeat (first | (with_reducible first | exact HB.out | apply below_alloc | apply pw_below_drewN | apply below_drew1 | refine below_set ?_ (IsS139.ge HI0.out)) | exact HB.out)); rintro e w87 ⟨rfl, hi, hb, hk⟩; refine ⟨_, rfl, ?_⟩; replace HO_3 := Aside0.mk (Kd.R_mono (Kd.R_keep (IsS139.apart (show IsS139 w0 _ g s0_0 x1001_35 x1002_35 from by repeat (first | (with_reducible first | exact HI0.out | apply IsS139.alloc | apply IsS139.drewN | apply IsS139.drew | apply IsS139.set_1 | apply IsS139.set_2) | exact HI0.out)) (tR HO_3) (by decide)) hk (fun _ h => h.2)) (fun _ h => h.1)); replace HK := Aside0.mk (KeepBut.trans (by repeat (first | (with_reducible first | exact HK.out | apply KeepBut.set_ | apply keep_drewN | apply keep_drew | apply keep_alloc) | exact HK.out)) hk (.inl rfl)); replace HB := Aside0.mk (hb); replace HI0 := Aside0.mk (hi); (try clear hb); (try clear hb2); (try clear hk); (try clear hi)) | ((with_reducible refine gate_callee (f := 96) rfl ?_); refine goesL_ (some 57) rfl rfl Try.func96 (by kernel_rfl) rfl #[.pointer (some ⟨g, 0, none⟩), .int .i64 5] rfl tL ?_; (with_reducible refine (spec_l1Below.calls g s0_0 t283 t284 5 t285 t286 t287 w0 _ ?side1 ?side2 A44.out).mono ?_); (case side1 => repeat (first | (with_reducible first | exact HI0.out | apply IsS139.alloc | apply IsS139.drewN | apply IsS139.drew | apply IsS139.set_1 | apply IsS139.set_2) | exact HI0.out)); (case side2 => repeat (first | (with_reducible first | exact HB.out | apply below_alloc | apply pw_below_drewN | apply below_drew1 | refine below_set ?_ (IsS139.ge HI0.out)) | exact HB.out)); rintro e w88 ⟨rfl, hi, hb, hk⟩; refine ⟨_, rfl, ?_⟩; replace HO_3 := Aside0.mk (Kd.R_mono (Kd.R_keep (IsS139.apart (show IsS139 w0 _ g s0_0 t283 t284 from by repeat (first | (with_reducible first | exact HI0.out | apply IsS139.alloc | apply IsS139.drewN | apply IsS139.drew | apply IsS139.set_1 | apply IsS139.set_2) | exact HI0.out)) (tR HO_3) (by decide)) hk (fun _ h => h.2)) (fun _ h => h.1)); replace HK := Aside0.mk (KeepBut.trans (by repeat (first | (with_reducible first | exact HK.out | apply KeepBut.set_ | apply keep_drewN | apply keep_drew | apply keep_alloc) | exact HK.out)) hk (.inl rfl)); replace HB := Aside0.mk (hb); replace HI0 := Aside0.mk (hi); (try clear hb); (try clear hb2); (try clear hk); (try clear hi)))
          replace HO_3 := Aside0.mk (Kd.R_drew HO_3.out)
          replace HI0 := Aside0.mk (IsS139.drew HI0.out)
          replace HK := Aside0.mk (keep_drew HK.out)
          replace HB := Aside0.mk (below_drew1 HB.out)
          have q90 : (t282 : Int) ≤ ((x3_1.length : Int) : Int) := of_decide_eq_true tA
          obtain ⟨i090, hi090, _, hsz90, _⟩ := info_parts info64
          have hroom90 : x3_1.length ≤ co86 := (Kd.R_reads' HO_3.out).2.1
          have hC90 : Kd.C k64 _ Ao86 x3_1.length x3_1 := (Kd.R_reads' HO_3.out).2.2
          have hcut90 := cut_to (P := Try.prog) 25 64 .i64 Try.underlying25 hi090 Ao86 x3_1.length co86 t282 (of_decide_eq_true tA) q90 hroom90
          have hr90 := Kd.C_take (m := (t282 : Int).toNat) hC90 (by omega)
          have hy90 : y295.length = (t282 : Int).toNat := (by rw [Ny295.out, List.length_take]; omega)
          rw [← Ny295.out] at hr90
          rw [← hy90] at hcut90
          have HR298 := Aside0.mk hr90
          have HC298 := Aside0.mk (show y295.length ≤ co86 from by omega)
          clear hr90 hC90 hroom90 hi090 hsz90
          have KY90 := Aside0.mk hy90
          clear hy90
          have KL90 := Aside0.mk (show (t282 : Int).toNat ≤ x3_1.length from by omega)
          replace q90 := eq_true q90
          have q91 : ((ji83) : Int) ≤ ((x3_1.length : Int) : Int) := of_decide_eq_true tA
          obtain ⟨i091, hi091, _, hsz91, _⟩ := info_parts info64
          have hroom91 : x3_1.length ≤ co86 := (Kd.R_reads' HO_3.out).2.1
          have hC91 : Kd.C k64 _ Ao86 x3_1.length x3_1 := (Kd.R_reads' HO_3.out).2.2
          have q091 : (0 : Int) ≤ ((ji83) : Int) := of_decide_eq_true tA
          have hcut91 := cut_from (P := Try.prog) 25 64 .i64 Try.underlying25 hi091 6 hsz91 Ao86 x3_1.length co86 (ji83) q091 q91
          have hr91 := Kd.C_drop (m := ((ji83) : Int).toNat) (c := co86) hC91 (by omega) hroom91
          obtain ⟨A91, hA91⟩ : ∃ A1, A1 = (if co86 = ((ji83) : Int).toNat then Ao86 else (Ao86 : Option Addr).map (·.add (((ji83) : Int).toNat * 6))) := ⟨_, rfl⟩
          obtain ⟨c91, hc91⟩ : ∃ c1, c1 = co86 - ((ji83) : Int).toNat := ⟨_, rfl⟩
          have hy91 : y299.length = x3_1.length - ((ji83) : Int).toNat := (by rw [Ny299.out, List.length_drop] <;> omega)
          rw [show (x3_1).drop ((ji83) : Int).toNat = y299 from Ny299.out.symm] at hr91
          replace hr91 : Kd.C k64 _ A91 y299.length y299 := (by rw [hA91]; exact hr91)
          rw [← hy91, ← hA91, ← hc91] at hcut91
          have HR302 := Aside0.mk hr91
          have HC302 := Aside0.mk (show y299.length ≤ c91 from by rw [hy91, hc91]; exact Nat.sub_le_sub_right hroom91 _)
          clear hr91 hC91 hroom91 hi091 hsz91 hc91
          have KY91 := Aside0.mk hy91
          have KA91 := Aside0.mk hA91
          clear hy91 hA91
          have KL91 := Aside0.mk (show ((ji83) : Int).toNat ≤ x3_1.length from by omega)
          replace q91 := eq_true q91
          obtain ⟨go93, co93, eo93, gb93, gl93, cl93, HG93⟩ := Kd.R_form HO_3.out (by have hj_ : 0 ≤ (t282 : Int) := of_decide_eq_true tA; have hl_ : (ji83 : Int) ≤ (x3_1.length : Int) := of_decide_eq_true tA; have hh_ : (t282 : Int) ≤ (x3_1.length : Int) := of_decide_eq_true tA; rw [← hji83] at hl_; unfold wrap64 at hl_; omega)
          (first | cases eo93 | (injection eo93 with ea_ en_ ec_; (first | subst ea_ | (injection ea_ with ea_; subst ea_)); subst ec_; clear en_))
          have GB93 := Aside0.mk gb93
          have GG93 := Aside0.mk HG93
          clear gb93 gl93 HG93
          refine start_ (n := 9) (S := fun w' => True) (ds := []) #[N_,N_,N_,N_,N_,N_,N_,N_,N_] (by kernel_rfl) rfl rfl trivial (fun hHeld => ?_); refine with_tabW spec_l27Chain.tab13 spec_l27Chain.bits13 (fun HT_ HW_ => ?_)
          generalize w88.drew = w89 at HO_3 HI0 HK HB GG93 HR298 HR302 hHeld ⊢
          refine pure_ (i := 0) (N := some 58) #[Y_,N_,N_,N_,N_,N_,N_,N_,N_] rfl rfl (any_of HT_.out (by kernel_rfl)) (fun _ _ _ h => h) (Or.inl ⟨by rfl, tX⟩) tV ?_
          refine pure_ (i := 1) (N := some 59) #[Y_,Y_,N_,N_,N_,N_,N_,N_,N_] rfl rfl (any_of HT_.out (by kernel_rfl)) (fun _ _ _ h => h) (Or.inl ⟨by rfl, tX⟩) tV ?_
          refine pure_ (i := 2) (N := some 60) #[Y_,Y_,Y_,N_,N_,N_,N_,N_,N_] rfl rfl (any_of HT_.out (by kernel_rfl)) (fun _ _ _ h => h) (Or.inl ⟨by rfl, tX⟩) tV ?_
          refine pure_ (i := 3) (N := some 61) #[Y_,Y_,Y_,Y_,N_,N_,N_,N_,N_] rfl rfl (any_of HT_.out (by kernel_rfl)) (fun _ _ _ h => h) (Or.inl ⟨by rfl, tX⟩) tV ?_
          refine pure_ (i := 4) (N := some 62) #[Y_,Y_,Y_,Y_,Y_,N_,N_,N_,N_] rfl rfl (any_of HT_.out (by kernel_rfl)) (fun _ _ _ h => h) (Or.inl ⟨by rfl, tX⟩) tV ?_
          refine pure_ (i := 5) (N := some 63) #[Y_,Y_,Y_,Y_,Y_,Y_,N_,N_,N_] rfl rfl (any_of HT_.out (by kernel_rfl)) (fun _ _ _ h => h) (Or.inl ⟨by rfl, tX⟩) tV ?_
          refine pure_ (i := 6) (N := some 64) #[Y_,Y_,Y_,Y_,Y_,Y_,Y_,N_,N_] rfl rfl (any_of HT_.out (by kernel_rfl)) (fun _ _ _ h => h) (Or.inl ⟨by rfl, tX⟩) tV ?_
          refine one_ (i := 7) (N := some 65) #[Y_,Y_,Y_,Y_,Y_,Y_,Y_,Y_,N_] rfl rfl (one_of HT_.out (by kernel_rfl)) (by decide) (fun K hK => ?_)
          have hj_ : 0 ≤ (t282 : Int) := of_decide_eq_true tA
          have hl_ : (ji83 : Int) ≤ (x3_1.length : Int) := of_decide_eq_true tA
          have hh_ : (t282 : Int) ≤ (x3_1.length : Int) := of_decide_eq_true tA
          have hb_ := (Kd.R_reads' HO_3.out).2.2.2.1
          have h0_ : (0 : Int) ≤ (ji83 : Int) := of_decide_eq_true tA
          have hy1_ := KY90.out
          have hk_ : (ji83 : Int).toNat = y295.length + 1 := (by have hw_ : (ji83 : Int) = t282 + 1 := (by have h00_ := h0_; rw [← hji83] at h00_ ⊢; unfold wrap64 at h00_ ⊢; omega); rw [hw_]; omega)
          refine Kd.R_delete_step k64 w.heap.size (by rfl) (.tmp 60) (.tmp 64) 25 64 rfl Try.underlying25 (by kernel_rfl) (g := go93) (n := x3_1.length) (c := co86) (k := y295.length) rfl rfl ?hA ?hm (tR HO_3) ?hk (Below.refl _ _) (keep_size (w := w) (g := g) (row := none) (by repeat (first | (with_reducible first | exact HK.out | apply KeepBut.set_ | apply keep_drewN | apply keep_drew | apply keep_alloc) | exact HK.out))) ?_
          (case hA => have ha_ := KA91.out; rw [hk_] at ha_; exact ha_)
          (case hm => have ha_ := KY91.out; omega)
          (case hk => omega)
          intro w92 ho hb hg
          clear hj_ hl_ hh_ hb_ hk_ h0_
          rw [hy1_, ← Ny303.out] at ho
          clear hy1_
          have hn_ : x3_1.length - 1 = y303.length := (by have := (Kd.R_reads' ho).1; omega)
          rw [hn_] at ho ⊢
          clear hn_
          replace HB := Aside0.mk (below_weaken (by repeat (first | (with_reducible first | exact HB.out | apply below_alloc | apply pw_below_drewN | apply below_drew1 | refine below_set ?_ (IsS139.ge HI0.out)) | exact HB.out)) HL.out hb)
          replace HI0 := Aside0.mk (IsS139.grown (by repeat (first | (with_reducible first | exact HI0.out | apply IsS139.alloc | apply IsS139.drewN | apply IsS139.drew | apply IsS139.set_1 | apply IsS139.set_2) | exact HI0.out)) hg (IsS139.own_ne HI0.out HO_3.out (by decide)))
          replace HK := Aside0.mk (KeepBut.trans (by repeat (first | (with_reducible first | exact HK.out | apply KeepBut.set_ | apply keep_drewN | apply keep_drew | apply keep_alloc) | exact HK.out)) (KeepBut.of_grown hg g) (Kd.R_base2 HO_3.out))
          replace HO_3 := Aside0.mk (ho)
          clear ho hb hg
          refine hK.out _ _ trivial (fun hHeld => ?_)
          clear hK K
          refine norm_ (tV : Act.put _ (some 65) _ = _) ?_
          refine pure_ (i := 8) (N := some 3) #[Y_,Y_,Y_,Y_,Y_,Y_,Y_,Y_,Y_] rfl rfl (any_of HT_.out (by kernel_rfl)) (fun _ _ _ h => h) (Or.inl ⟨by rfl, tX⟩) tV ?_
          refine done_ (done_of HT_.out (by kernel_rfl)) ?_
          try go_wp2
          go_ret
          exact ⟨_, by first | rfl | (simp [errW_none, errW_some] <;> rfl) | (simp only [← hji83]; first | rfl | (simp [errW_none, errW_some] <;> rfl)) | (simp [*, errW_none, errW_some] <;> rfl), tR HO_3, by repeat (first | (with_reducible first | exact HI0.out | apply IsS139.alloc | apply IsS139.drewN | apply IsS139.drew | apply IsS139.set_1 | apply IsS139.set_2) | exact HI0.out), by repeat (first | (with_reducible first | exact HB.out | apply below_alloc | apply pw_below_drewN | apply below_drew1 | refine below_set ?_ (IsS139.ge HI0.out)) | exact HB.out), by repeat (first | (with_reducible first | exact HK.out | apply KeepBut.set_ | apply keep_drewN | apply keep_drew | apply keep_alloc) | exact HK.out)⟩
         rw [if_neg c85] at H
         exact absurd H (by simp)
        rw [if_neg c84] at H
        exact absurd H (by simp)
       rw [if_neg c82] at H
       exact absurd H (by simp)
      rw [if_neg c81] at H
      exact absurd H (by simp)
     replace c42 := Bool.eq_false_iff.mpr c42
     subst c42
     have H1 : (some (x3_1, x1001_35, x1002_35)) = some (r1, r2, r3) := by rw [if_neg (show ¬ (false = true) by decide)] at H; exact H
     clear H
     have H := H1
     clear H1
     simp only [Option.some.injEq, Prod.mk.injEq] at H
     obtain ⟨rfl, rfl, rfl⟩ := H
     go_wp2
     go_ret
     exact ⟨_, tE, tR HO_3, by repeat (first | (with_reducible first | exact HI0.out | apply IsS139.alloc | apply IsS139.drewN | apply IsS139.drew | apply IsS139.set_1 | apply IsS139.set_2) | exact HI0.out), by repeat (first | (with_reducible first | exact HB.out | apply below_alloc | apply pw_below_drewN | apply below_drew1 | refine below_set ?_ (IsS139.ge HI0.out)) | exact HB.out), by repeat (first | (with_reducible first | exact HK.out | apply KeepBut.set_ | apply keep_drewN | apply keep_drew | apply keep_alloc) | exact HK.out)⟩

/-! ### spec_DrawChainScopes: function 38 -/
def spec_DrawChainScopes.j0 : Nat → List (S64) → Int → Int → List Int → Int → Int → Option ((List (S64)) × Int × Int × Int)
 | 0, _, _, _, _, _, _ => none
 | k + 1, x7, x8, x9, x310000, x310001, x310002 => (spec_l1Once.f x310000 x310001 x310002 8).bind fun bt324 => (if bt324.1 = true then ((spec_l1Below.f x310000 bt324.2.1 bt324.2.2 14).bind fun bt327 => (some (x7, x9, x9, bt327.1))) else ((spec_l1Below.f x310000 bt324.2.1 bt324.2.2 14).bind fun bt330 => (some (x7, x8, x9, bt330.1))))
def spec_DrawChainScopes.f (k : Nat) (l0 : List Int) : Option ((List (S64)) × Int × Int × Int) := (spec_l1New.f k l0).bind fun bt306 => ((spec_l27Chain.f k bt306.1 bt306.2.1 bt306.2.2).bind fun bt310 => ((spec_PublicKey.f 101).bind fun t315 => ((spec_PublicKey.f (wrap64 (101 + (bt310.1.length : Int)))).bind fun t316 => ((spec_l1Once.f bt306.1 bt310.2.1 bt310.2.2 6).bind fun bt317 => (if bt317.1 = true then ((spec_l1Below.f bt306.1 bt317.2.1 bt317.2.2 5).bind fun bt320 => ((spec_PublicKey.f (wrap64 (101 + bt320.1))).bind fun t323 => (spec_DrawChainScopes.j0 k bt310.1 t315 t323 bt306.1 bt320.2.1 bt320.2.2))) else (spec_DrawChainScopes.j0 k bt310.1 t315 t316 bt306.1 bt317.2.1 bt317.2.2))))))
theorem spec_DrawChainScopes.mono_l : ∀ k, (∀ y0 y1 y2 y3 y4 y5, LeO (spec_DrawChainScopes.j0 k y0 y1 y2 y3 y4 y5) (spec_DrawChainScopes.j0 (k + 1) y0 y1 y2 y3 y4 y5))
 | 0 => fun _ _ _ _ _ _ r h => by simp [spec_DrawChainScopes.j0] at h
 | k + 1 => by
  have ih0 := spec_DrawChainScopes.mono_l k
  ·intro y0 y1 y2 y3 y4 y5
   unfold spec_DrawChainScopes.j0
   repeat' first
   | (with_reducible exact ih0 _ _ _ _ _ _)
   | (with_reducible exact spec_l1New.mono _ _)
   | (with_reducible exact spec_l27Chain.mono _ _ _ _)
   | (with_reducible exact LeO.refl _)
   | (with_reducible exact LeO.none _)
   | (with_reducible refine LeO.ite ?_ ?_)
   | (with_reducible refine LeO.bind ?_ (fun _ => ?_))
   | exact ih0 _ _ _ _ _ _
   | exact spec_l1New.mono _ _
   | exact spec_l27Chain.mono _ _ _ _
   | exact LeO.none _
   | refine LeO.ite ?_ ?_
   | refine LeO.bind ?_ (fun _ => ?_)
theorem spec_DrawChainScopes.mono : ∀ a0 k, LeO (spec_DrawChainScopes.f k a0) (spec_DrawChainScopes.f (k + 1) a0) := by
 intro a0 k
 have ih0 := spec_DrawChainScopes.mono_l k
 unfold spec_DrawChainScopes.f
 repeat' first
   | (with_reducible exact ih0 _ _ _ _ _ _)
   | (with_reducible exact spec_l1New.mono _ _)
   | (with_reducible exact spec_l27Chain.mono _ _ _ _)
   | (with_reducible exact LeO.refl _)
   | (with_reducible exact LeO.none _)
   | (with_reducible refine LeO.ite ?_ ?_)
   | (with_reducible refine LeO.bind ?_ (fun _ => ?_))
   | exact ih0 _ _ _ _ _ _
   | exact spec_l1New.mono _ _
   | exact spec_l27Chain.mono _ _ _ _
   | exact LeO.none _
   | refine LeO.ite ?_ ?_
   | refine LeO.bind ?_ (fun _ => ?_)
set_option maxHeartbeats 8000000 in
set_option maxRecDepth 100000 in
theorem spec_DrawChainScopes.calls (k : Nat) (A0 : Option Addr) (c0 : Nat) (l0 : List Int) (r1 : List (S64)) (r2 : Int) (r3 : Int) (r4 : Int) (w : World) (hr0 : Kd.C (Kd.int .u8) w A0 l0.length l0) (hc0 : l0.length ≤ c0) (h : spec_DrawChainScopes.f k l0 = some (r1, r2, r3, r4)) :
  Calls Try.prog 38 #[.slice A0 l0.length c0] w fun e w' => ∃ v0_ : Value, e = .returned (.tuple #[v0_, .int .i64 r2, .int .i64 r3, .int .i64 r4]) ∧ Kd.R k64 64 w' w.heap.size (fun _ => True) v0_ r1 ∧ Below w.heap.size w w' := by
 have HR0 := Aside0.mk hr0
 have HC0 := Aside0.mk hc0
 clear hr0 hc0
 have HB := Aside0.mk (Below.refl w.heap.size w)
 have H : ((spec_l1New.f k l0).bind fun bt306 => ((spec_l27Chain.f k bt306.1 bt306.2.1 bt306.2.2).bind fun bt310 => ((spec_PublicKey.f 101).bind fun t315 => ((spec_PublicKey.f (wrap64 (101 + (bt310.1.length : Int)))).bind fun t316 => ((spec_l1Once.f bt306.1 bt310.2.1 bt310.2.2 6).bind fun bt317 => (if bt317.1 = true then ((spec_l1Below.f bt306.1 bt317.2.1 bt317.2.2 5).bind fun bt320 => ((spec_PublicKey.f (wrap64 (101 + bt320.1))).bind fun t323 => (spec_DrawChainScopes.j0 k bt310.1 t315 t323 bt306.1 bt320.2.1 bt320.2.2))) else (spec_DrawChainScopes.j0 k bt310.1 t315 t316 bt306.1 bt317.2.1 bt317.2.2))))))) = some (r1, r2, r3, r4) := h
 clear h
 replace H := Option.bind_eq_some_iff.mp H
 obtain ⟨⟨t306, t307, t308⟩, A20, H⟩ := H
 try dsimp only at H
 have A2 := Aside0.mk A20
 clear A20
 replace H := Option.bind_eq_some_iff.mp H
 obtain ⟨⟨t310, t313, t314⟩, A30, H⟩ := H
 try dsimp only at H
 have A3 := Aside0.mk A30
 clear A30
 replace H := Option.bind_eq_some_iff.mp H
 obtain ⟨t315, A40, H⟩ := H
 try dsimp only at H
 have A4 := Aside0.mk A40
 clear A40
 replace H := Option.bind_eq_some_iff.mp H
 obtain ⟨t316, A50, H⟩ := H
 try dsimp only at H
 have A5 := Aside0.mk A50
 clear A50
 replace H := Option.bind_eq_some_iff.mp H
 obtain ⟨⟨t317, t318, t319⟩, A60, H⟩ := H
 try dsimp only at H
 have A6 := Aside0.mk A60
 clear A60
 have HC7 := Aside0.mk H
 clear H
 go_enter Try.func38, Try.ntmps38
 go_upto_if 20 with (first | ((with_reducible refine gate_callee (f := 92) rfl ?_); refine goesL_ (some 11) rfl rfl Try.func92 (by kernel_rfl) rfl #[.slice A0 l0.length c0] rfl tL ?_; (with_reducible refine (spec_l1New.calls k _ _ l0 t306 t307 t308 w _ ?side1 ?side2 ?side3 A2.out).mono ?_); (case side1 => exact tB); (case side2 => exact HR0.out); (case side3 => exact HC0.out); rintro e w8 ⟨g309, rfl, hi, hb, hb2⟩; refine ⟨_, rfl, ?_⟩; replace HB := Aside0.mk (hb); have HI309 := Aside0.mk (hi); (try clear hb); (try clear hb2); (try clear hk); (try clear hi)) | ((with_reducible refine gate_callee (f := 93) rfl ?_); refine goesL_ (some 13) rfl rfl Try.func93 (by kernel_rfl) rfl #[.pointer (some ⟨g309, 0, none⟩)] rfl tL ?_; (with_reducible refine (spec_l27Chain.calls k g309 t306 t307 t308 t310 t313 t314 w _ ?side1 ?side2 A3.out).mono ?_); (case side1 => repeat (first | (with_reducible first | exact HI309.out | apply IsS139.alloc | apply IsS139.drewN | apply IsS139.drew | apply IsS139.set_1 | apply IsS139.set_2) | exact HI309.out)); (case side2 => repeat (first | (with_reducible first | exact HB.out | apply below_alloc | apply pw_below_drewN | apply below_drew1 | refine below_set ?_ (IsS139.ge HI309.out)) | exact HB.out)); rintro e w9 ⟨v311, rfl, ho0, hi, hb, hk⟩; refine ⟨_, rfl, ?_⟩; have HO312 := Aside0.mk (Kd.R_lower ho0 (below_size (by repeat (first | (with_reducible first | exact HB.out | apply below_alloc | apply pw_below_drewN | apply below_drew1 | refine below_set ?_ (IsS139.ge HI309.out)) | exact HB.out)))); replace HB := Aside0.mk (hb); replace HI309 := Aside0.mk (hi); (try clear hb); (try clear hb2); (try clear hk); (try clear hi); (try clear ho0)) | ((with_reducible refine gate_callee (f := 94) rfl ?_); refine goesL_ (some 14) rfl rfl Try.func94 (by kernel_rfl) rfl #[.int .i64 101] rfl tL ?_; (with_reducible refine (spec_PublicKey.calls 101 t315 _ A4.out).mono ?_); rintro e w' ⟨rfl, ⟨nd, rfl⟩⟩; refine ⟨_, rfl, ?_⟩; obtain ⟨Ao10, co10, eo10⟩ := Kd.R_slice HO312.out; subst eo10) | ((with_reducible refine gate_callee (f := 94) rfl ?_); refine goesL_ (some 18) rfl rfl Try.func94 (by kernel_rfl) rfl #[.int .i64 (wrap64 (101 + (t310.length : Int)))] rfl tL ?_; (with_reducible refine (spec_PublicKey.calls (wrap64 (101 + (t310.length : Int))) t316 _ A5.out).mono ?_); rintro e w' ⟨rfl, ⟨nd, rfl⟩⟩; refine ⟨_, rfl, ?_⟩) | ((with_reducible refine gate_callee (f := 95) rfl ?_); refine goesL_ (some 20) rfl rfl Try.func95 (by kernel_rfl) rfl #[.pointer (some ⟨g309, 0, none⟩), .int .i64 6] rfl tL ?_; (with_reducible refine (spec_l1Once.calls g309 t306 t313 t314 6 t317 t318 t319 w _ ?side1 ?side2 A6.out).mono ?_); (case side1 => repeat (first | (with_reducible first | exact HI309.out | apply IsS139.alloc | apply IsS139.drewN | apply IsS139.drew | apply IsS139.set_1 | apply IsS139.set_2) | exact HI309.out)); (case side2 => repeat (first | (with_reducible first | exact HB.out | apply below_alloc | apply pw_below_drewN | apply below_drew1 | refine below_set ?_ (IsS139.ge HI309.out)) | exact HB.out)); rintro e w11 ⟨rfl, hi, hb, hk⟩; refine ⟨_, rfl, ?_⟩; replace HO312 := Aside0.mk (Kd.R_mono (Kd.R_keep (IsS139.apart (show IsS139 w _ g309 t306 t313 t314 from by repeat (first | (with_reducible first | exact HI309.out | apply IsS139.alloc | apply IsS139.drewN | apply IsS139.drew | apply IsS139.set_1 | apply IsS139.set_2) | exact HI309.out)) (tR HO312) (by decide)) hk (fun _ h => h.2)) (fun _ h => h.1)); replace HB := Aside0.mk (hb); replace HI309 := Aside0.mk (hi); (try clear hb); (try clear hb2); (try clear hk); (try clear hi)))
 (try simp only [Act.put, List.setIfInBounds_toArray, List.set_cons_zero, List.set_cons_succ])
 go_cut [9] (fun v9 wc => ∃ (kq : Nat) (x9_6 : Int) (x310001_6 : Int) (x310002_6 : Int), v9 = .int .i64 x9_6 ∧ Aside0 (spec_DrawChainScopes.j0 kq t310 t315 x9_6 t306 x310001_6 x310002_6 = some (r1, r2, r3, r4)) ∧ Aside0 (kq ≤ k) ∧ Aside0 (Kd.R k64 64 wc w.heap.size (fun _ => True) (.slice Ao10 t310.length co10) t310) ∧ Aside0 (IsS139 w wc g309 t306 x310001_6 x310002_6) ∧ Aside0 (Below w.heap.size w wc))
 case first =>
  have H := HC7.out
  clear HC7
  by_cases c12 : t317 = true
  ·subst c12
   have H1 : ((spec_l1Below.f t306 t318 t319 5).bind fun bt320 => ((spec_PublicKey.f (wrap64 (101 + bt320.1))).bind fun t323 => (spec_DrawChainScopes.j0 k t310 t315 t323 t306 bt320.2.1 bt320.2.2))) = some (r1, r2, r3, r4) := by rw [if_pos rfl] at H; exact H
   clear H
   have H := H1
   clear H1
   replace H := Option.bind_eq_some_iff.mp H
   obtain ⟨⟨t320, t321, t322⟩, A130, H⟩ := H
   try dsimp only at H
   have A13 := Aside0.mk A130
   clear A130
   replace H := Option.bind_eq_some_iff.mp H
   obtain ⟨t323, A140, H⟩ := H
   try dsimp only at H
   have A14 := Aside0.mk A140
   clear A140
   have H' := Aside0.mk H
   clear H
   go_wp2_with (first | ((with_reducible refine gate_callee (f := 96) rfl ?_); refine goesL_ (some 22) rfl rfl Try.func96 (by kernel_rfl) rfl #[.pointer (some ⟨g309, 0, none⟩), .int .i64 5] rfl tL ?_; (with_reducible refine (spec_l1Below.calls g309 t306 t318 t319 5 t320 t321 t322 w _ ?side1 ?side2 A13.out).mono ?_); (case side1 => repeat (first | (with_reducible first | exact HI309.out | apply IsS139.alloc | apply IsS139.drewN | apply IsS139.drew | apply IsS139.set_1 | apply IsS139.set_2) | exact HI309.out)); (case side2 => repeat (first | (with_reducible first | exact HB.out | apply below_alloc | apply pw_below_drewN | apply below_drew1 | refine below_set ?_ (IsS139.ge HI309.out)) | exact HB.out)); rintro e w15 ⟨rfl, hi, hb, hk⟩; refine ⟨_, rfl, ?_⟩; replace HO312 := Aside0.mk (Kd.R_mono (Kd.R_keep (IsS139.apart (show IsS139 w _ g309 t306 t318 t319 from by repeat (first | (with_reducible first | exact HI309.out | apply IsS139.alloc | apply IsS139.drewN | apply IsS139.drew | apply IsS139.set_1 | apply IsS139.set_2) | exact HI309.out)) (tR HO312) (by decide)) hk (fun _ h => h.2)) (fun _ h => h.1)); replace HB := Aside0.mk (hb); replace HI309 := Aside0.mk (hi); (try clear hb); (try clear hb2); (try clear hk); (try clear hi)) | ((with_reducible refine gate_callee (f := 94) rfl ?_); refine goesL_ (some 24) rfl rfl Try.func94 (by kernel_rfl) rfl #[.int .i64 (wrap64 (101 + t320))] rfl tL ?_; (with_reducible refine (spec_PublicKey.calls (wrap64 (101 + t320)) t323 _ A14.out).mono ?_); rintro e w' ⟨rfl, ⟨nd, rfl⟩⟩; refine ⟨_, rfl, ?_⟩))
   go_meet
   case rel => exact ⟨_, (t323), (t321), (t322), tS, H', ⟨by first | omega | exact Nat.le_refl _⟩, ⟨tR HO312⟩, ⟨by repeat (first | (with_reducible first | exact HI309.out | apply IsS139.alloc | apply IsS139.drewN | apply IsS139.drew | apply IsS139.set_1 | apply IsS139.set_2) | exact HI309.out)⟩, ⟨by repeat (first | (with_reducible first | exact HB.out | apply below_alloc | apply pw_below_drewN | apply below_drew1 | refine below_set ?_ (IsS139.ge HI309.out)) | exact HB.out)⟩⟩
  replace c12 := Bool.eq_false_iff.mpr c12
  subst c12
  have H1 : (spec_DrawChainScopes.j0 k t310 t315 t316 t306 t318 t319) = some (r1, r2, r3, r4) := by rw [if_neg (show ¬ (false = true) by decide)] at H; exact H
  clear H
  have H := H1
  clear H1
  have H' := Aside0.mk H
  clear H
  go_wp2
  go_meet
  case rel => exact ⟨_, (t316), (t318), (t319), tS, H', ⟨by first | omega | exact Nat.le_refl _⟩, ⟨tR HO312⟩, ⟨by repeat (first | (with_reducible first | exact HI309.out | apply IsS139.alloc | apply IsS139.drewN | apply IsS139.drew | apply IsS139.set_1 | apply IsS139.set_2) | exact HI309.out)⟩, ⟨by repeat (first | (with_reducible first | exact HB.out | apply below_alloc | apply pw_below_drewN | apply below_drew1 | refine below_set ?_ (IsS139.ge HI309.out)) | exact HB.out)⟩⟩
 case rest =>
  clear HC7
  try clear c1
  try clear p2
  try clear c3
  try clear p6
  try clear c9
  try clear c12
  obtain ⟨kq, x9_6, x310001_6, x310002_6, rfl, HA, HJ6, HO_7, HI309, HB⟩ := hcut
  cases kq with
  | zero => exact absurd HA.out (by simp [spec_DrawChainScopes.j0])
  | succ kj6 =>
   have H := HA.out
   clear HA
   simp only [spec_DrawChainScopes.j0] at H
   replace H := Option.bind_eq_some_iff.mp H
   obtain ⟨⟨t324, t325, t326⟩, A160, H⟩ := H
   try dsimp only at H
   have A16 := Aside0.mk A160
   clear A160
   by_cases c17 : t324 = true
   ·subst c17
    have H1 : ((spec_l1Below.f t306 t325 t326 14).bind fun bt327 => (some (t310, x9_6, x9_6, bt327.1))) = some (r1, r2, r3, r4) := by rw [if_pos rfl] at H; exact H
    clear H
    have H := H1
    clear H1
    replace H := Option.bind_eq_some_iff.mp H
    obtain ⟨⟨t327, t328, t329⟩, A180, H⟩ := H
    try dsimp only at H
    have A18 := Aside0.mk A180
    clear A180
    simp only [Option.some.injEq, Prod.mk.injEq] at H
    obtain ⟨rfl, rfl, rfl, rfl⟩ := H
    go_wp2_with (first | ((with_reducible refine gate_callee (f := 95) rfl ?_); refine goesL_ (some 26) rfl rfl Try.func95 (by kernel_rfl) rfl #[.pointer (some ⟨g309, 0, none⟩), .int .i64 8] rfl tL ?_; (with_reducible refine (spec_l1Once.calls g309 t306 x310001_6 x310002_6 8 true t325 t326 w _ ?side1 ?side2 A16.out).mono ?_); (case side1 => repeat (first | (with_reducible first | exact HI309.out | apply IsS139.alloc | apply IsS139.drewN | apply IsS139.drew | apply IsS139.set_1 | apply IsS139.set_2) | exact HI309.out)); (case side2 => repeat (first | (with_reducible first | exact HB.out | apply below_alloc | apply pw_below_drewN | apply below_drew1 | refine below_set ?_ (IsS139.ge HI309.out)) | exact HB.out)); rintro e w19 ⟨rfl, hi, hb, hk⟩; refine ⟨_, rfl, ?_⟩; replace HO_7 := Aside0.mk (Kd.R_mono (Kd.R_keep (IsS139.apart (show IsS139 w _ g309 t306 x310001_6 x310002_6 from by repeat (first | (with_reducible first | exact HI309.out | apply IsS139.alloc | apply IsS139.drewN | apply IsS139.drew | apply IsS139.set_1 | apply IsS139.set_2) | exact HI309.out)) (tR HO_7) (by decide)) hk (fun _ h => h.2)) (fun _ h => h.1)); replace HB := Aside0.mk (hb); replace HI309 := Aside0.mk (hi); (try clear hb); (try clear hb2); (try clear hk); (try clear hi)) | ((with_reducible refine gate_callee (f := 96) rfl ?_); refine goesL_ (some 32) rfl rfl Try.func96 (by kernel_rfl) rfl #[.pointer (some ⟨g309, 0, none⟩), .int .i64 14] rfl tL ?_; (with_reducible refine (spec_l1Below.calls g309 t306 t325 t326 14 t327 t328 t329 w _ ?side1 ?side2 A18.out).mono ?_); (case side1 => repeat (first | (with_reducible first | exact HI309.out | apply IsS139.alloc | apply IsS139.drewN | apply IsS139.drew | apply IsS139.set_1 | apply IsS139.set_2) | exact HI309.out)); (case side2 => repeat (first | (with_reducible first | exact HB.out | apply below_alloc | apply pw_below_drewN | apply below_drew1 | refine below_set ?_ (IsS139.ge HI309.out)) | exact HB.out)); rintro e w20 ⟨rfl, hi, hb, hk⟩; refine ⟨_, rfl, ?_⟩; replace HO_7 := Aside0.mk (Kd.R_mono (Kd.R_keep (IsS139.apart (show IsS139 w _ g309 t306 t325 t326 from by repeat (first | (with_reducible first | exact HI309.out | apply IsS139.alloc | apply IsS139.drewN | apply IsS139.drew | apply IsS139.set_1 | apply IsS139.set_2) | exact HI309.out)) (tR HO_7) (by decide)) hk (fun _ h => h.2)) (fun _ h => h.1)); replace HB := Aside0.mk (hb); replace HI309 := Aside0.mk (hi); (try clear hb); (try clear hb2); (try clear hk); (try clear hi)))
    refine bodyPost_ret (results_list (rs := [.tmp 2, .tmp 3, .tmp 4, .tmp 5]) rfl (by simp) (.tmp (.tmp (.tmp (.tmp .nil))))) rfl ?_
    exact ⟨_, tE, tR HO_7, by repeat (first | (with_reducible first | exact HB.out | apply below_alloc | apply pw_below_drewN | apply below_drew1 | refine below_set ?_ (IsS139.ge HI309.out)) | exact HB.out)⟩
   replace c17 := Bool.eq_false_iff.mpr c17
   subst c17
   have H1 : ((spec_l1Below.f t306 t325 t326 14).bind fun bt330 => (some (t310, t315, x9_6, bt330.1))) = some (r1, r2, r3, r4) := by rw [if_neg (show ¬ (false = true) by decide)] at H; exact H
   clear H
   have H := H1
   clear H1
   replace H := Option.bind_eq_some_iff.mp H
   obtain ⟨⟨t330, t331, t332⟩, A210, H⟩ := H
   try dsimp only at H
   have A21 := Aside0.mk A210
   clear A210
   simp only [Option.some.injEq, Prod.mk.injEq] at H
   obtain ⟨rfl, rfl, rfl, rfl⟩ := H
   go_wp2_with (first | ((with_reducible refine gate_callee (f := 95) rfl ?_); refine goesL_ (some 26) rfl rfl Try.func95 (by kernel_rfl) rfl #[.pointer (some ⟨g309, 0, none⟩), .int .i64 8] rfl tL ?_; (with_reducible refine (spec_l1Once.calls g309 t306 x310001_6 x310002_6 8 false t325 t326 w _ ?side1 ?side2 A16.out).mono ?_); (case side1 => repeat (first | (with_reducible first | exact HI309.out | apply IsS139.alloc | apply IsS139.drewN | apply IsS139.drew | apply IsS139.set_1 | apply IsS139.set_2) | exact HI309.out)); (case side2 => repeat (first | (with_reducible first | exact HB.out | apply below_alloc | apply pw_below_drewN | apply below_drew1 | refine below_set ?_ (IsS139.ge HI309.out)) | exact HB.out)); rintro e w22 ⟨rfl, hi, hb, hk⟩; refine ⟨_, rfl, ?_⟩; replace HO_7 := Aside0.mk (Kd.R_mono (Kd.R_keep (IsS139.apart (show IsS139 w _ g309 t306 x310001_6 x310002_6 from by repeat (first | (with_reducible first | exact HI309.out | apply IsS139.alloc | apply IsS139.drewN | apply IsS139.drew | apply IsS139.set_1 | apply IsS139.set_2) | exact HI309.out)) (tR HO_7) (by decide)) hk (fun _ h => h.2)) (fun _ h => h.1)); replace HB := Aside0.mk (hb); replace HI309 := Aside0.mk (hi); (try clear hb); (try clear hb2); (try clear hk); (try clear hi)) | ((with_reducible refine gate_callee (f := 96) rfl ?_); refine goesL_ (some 32) rfl rfl Try.func96 (by kernel_rfl) rfl #[.pointer (some ⟨g309, 0, none⟩), .int .i64 14] rfl tL ?_; (with_reducible refine (spec_l1Below.calls g309 t306 t325 t326 14 t330 t331 t332 w _ ?side1 ?side2 A21.out).mono ?_); (case side1 => repeat (first | (with_reducible first | exact HI309.out | apply IsS139.alloc | apply IsS139.drewN | apply IsS139.drew | apply IsS139.set_1 | apply IsS139.set_2) | exact HI309.out)); (case side2 => repeat (first | (with_reducible first | exact HB.out | apply below_alloc | apply pw_below_drewN | apply below_drew1 | refine below_set ?_ (IsS139.ge HI309.out)) | exact HB.out)); rintro e w23 ⟨rfl, hi, hb, hk⟩; refine ⟨_, rfl, ?_⟩; replace HO_7 := Aside0.mk (Kd.R_mono (Kd.R_keep (IsS139.apart (show IsS139 w _ g309 t306 t325 t326 from by repeat (first | (with_reducible first | exact HI309.out | apply IsS139.alloc | apply IsS139.drewN | apply IsS139.drew | apply IsS139.set_1 | apply IsS139.set_2) | exact HI309.out)) (tR HO_7) (by decide)) hk (fun _ h => h.2)) (fun _ h => h.1)); replace HB := Aside0.mk (hb); replace HI309 := Aside0.mk (hi); (try clear hb); (try clear hb2); (try clear hk); (try clear hi)))
   refine bodyPost_ret (results_list (rs := [.tmp 2, .tmp 3, .tmp 4, .tmp 5]) rfl (by simp) (.tmp (.tmp (.tmp (.tmp .nil))))) rfl ?_
   exact ⟨_, tE, tR HO_7, by repeat (first | (with_reducible first | exact HB.out | apply below_alloc | apply pw_below_drewN | apply below_drew1 | refine below_set ?_ (IsS139.ge HI309.out)) | exact HB.out)⟩

end Go.Proofs.Ytjggdakbphjomaa.ZFnGrants
