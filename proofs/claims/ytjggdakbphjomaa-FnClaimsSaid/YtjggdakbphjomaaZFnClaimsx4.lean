/- The machine side: for each Go function a Lean function and the contract that the Go code answers as it does; printed by program (wip/tmpl/pprint.sh). -/
import Derived.Test.YtjggdakbphjomaaZFnClaimsx0
namespace Go.Proofs.Ytjggdakbphjomaa.ZFnClaims
open Go.RowKit Go.Proofs.YtjggdakbphjomaaW.PrintWords Go.Proofs.YtjggdakbphjomaaW.PrintLast Go.Proofs.YtjggdakbphjomaaW.PrintMore
attribute [local go_sem] max2_int min2_int max_two min_two max_three min_three max_four min_four   -- for this text's walks alone
set_option linter.unusedVariables false
set_option linter.unusedSimpArgs false

/-! ### impl_copyClaims: function 76 -/
def impl_copyClaims.f (a0_0 : Int) (l0_1 : List (S104)) : Option (Int × (List (S104))) := (some (([] : List (S104)) : List (S104))).bind fun y123 => (if y123.length + l0_1.length < 2932031007402 then (some (a0_0, (y123 ++ l0_1))) else (none))
def impl_copyClaims.T1 : Bool × List (List Nat × List Nat) := (true, [([], []), ([0], [0]), ([], []), ([], []), ([3], [3]), ([2, 4], [2, 4]), ([1, 5], [1, 5]), ([6, 5, 0, 1, 2, 3, 4, 5, 6], [6])])
def impl_copyClaims.B1 : List Nat := [0, 1, 0, 0, 8, 28, 63, 127]
theorem impl_copyClaims.tab1 : rtab .any (opsOf Try.f76 1) = impl_copyClaims.T1 := by kernel_rfl
theorem impl_copyClaims.bits1 : waitsOk impl_copyClaims.T1.2 impl_copyClaims.B1 = true := by kernel_rfl
set_option maxHeartbeats 8000000 in
set_option maxRecDepth 100000 in
theorem impl_copyClaims.calls (a0_0 : Int) (A0_1 : Option Addr) (c0_1 : Nat) (l0_1 : List (S104)) (r1 : Int) (r2 : List (S104)) (w : World) (hr0_1 : Kd.C k104 w A0_1 l0_1.length l0_1) (hc0_1 : l0_1.length ≤ c0_1) (h : impl_copyClaims.f a0_0 l0_1 = some (r1, r2)) :
  Calls Try.prog 76 #[.agg #[.int .i64 a0_0, .slice A0_1 l0_1.length c0_1]] w fun e w' => ∃ v1_ : Value, e = .returned (.agg #[.int .i64 r1, v1_]) ∧ Kd.R k104 104 w' w.heap.size (fun _ => True) v1_ r2 ∧ Below w.heap.size w w' := by
 have hu35 := Try.underlying35
 have HR0_1 := Aside0.mk hr0_1
 have HC0_1 := Aside0.mk hc0_1
 clear hr0_1 hc0_1
 have HB := Aside0.mk (Below.refl w.heap.size w)
 have H : ((some (([] : List (S104)) : List (S104))).bind fun y123 => (if y123.length + l0_1.length < 2932031007402 then (some (a0_0, (y123 ++ l0_1))) else (none))) = some (r1, r2) := h
 clear h
 obtain ⟨y123, hy123⟩ : ∃ y_ : List (S104), y_ = (([] : List (S104))) := ⟨_, rfl⟩
 replace H : (if y123.length + l0_1.length < 2932031007402 then (some (a0_0, (y123 ++ l0_1))) else (none)) = some (r1, r2) := by first | (rw [hy123]; with_reducible exact H) | (have H2_ := (Option.bind_some _ _).symm.trans H; rw [hy123]; with_reducible exact H2_) | (have H2_ := (Option.bind_some _ _).symm.trans H; with_reducible exact H2_) | with_reducible exact H | (rw [hy123]; exact H) | exact H
 have Ny123 := Aside0.mk hy123
 clear hy123
 by_cases c2 : y123.length + l0_1.length < 2932031007402
 ·rw [if_pos c2] at H
  have LMc2 := Aside0.mk c2
  clear c2
  obtain ⟨y126, hy126⟩ : ∃ y_ : List (S104), y_ = (y123 ++ l0_1) := ⟨_, rfl⟩
  replace H : (some (a0_0, y126)) = some (r1, r2) := by first | (rw [hy126]; with_reducible exact H) | (have H2_ := (Option.bind_some _ _).symm.trans H; rw [hy126]; with_reducible exact H2_) | (have H2_ := (Option.bind_some _ _).symm.trans H; with_reducible exact H2_) | with_reducible exact H | (rw [hy126]; exact H) | exact H
  have Ny126 := Aside0.mk hy126
  clear hy126
  simp only [Option.some.injEq, Prod.mk.injEq] at H
  obtain ⟨rfl, rfl⟩ := H
  go_enter Try.func76, Try.ntmps76
  try go_wp2_with (first | ((with_reducible refine gate_dst (N := 1) rfl ?_); refine box_event ?hg (N := 1) ?hd (cs := #[.int .i64 a0_0, .slice A0_1 l0_1.length c0_1]) (t := 35) ?hr ?_; (case hd => rfl); (case hg => rfl); (case hr => exact tG); intro gb121 hg w3 hbox hb; have BK121 := Aside0.mk (hbox); have GW121 := gW HB hg; have GE121 := gW HB hg; replace HB := bH HB hb; clear hb hbox hg) | ((with_reducible refine gate_dst (N := 2) rfl ?_); refine box_event ?hg (N := 2) ?hd (cs := #[.int .i64 0, .slice none 0 0]) (t := 35) ?hr ?_; (case hd => rfl); (case hg => rfl); (case hr => exact tG); intro gb122 hg w4 hbox hb; have BK122 := Aside0.mk (hbox); have GW122 := gW HB hg; have GE122 := gW HB hg; replace HB := bH HB hb; have NB121_122 := nL BK121 hg; have NB122_121 := nR BK121 hg; replace BK121 := bB BK121 hb; clear hb hbox hg))
  replace BK121 := Aside0.mk (blk_drew BK121.out)
  replace BK122 := Aside0.mk (blk_drew BK122.out)
  replace HB := Aside0.mk (below_drew1 HB.out)
  refine start_ (n := 8) (S := fun w' => w'.cell? ⟨gb121, 0, none⟩ = some (.int .i64 a0_0) ∧ w'.cell? ⟨gb121, 1, none⟩ = some (.slice A0_1 l0_1.length c0_1)) (ds := []) (bm 8 0) (by kernel_rfl) rfl (by kernel_rfl) tH (fun hHeld => ?_); refine with_tabW impl_copyClaims.tab1 impl_copyClaims.bits1 (fun HT_ HW_ => ?_)
  generalize w4.drew = w5 at BK121 BK122 HB hHeld ⊢
  refine pI 0 3 (bm 8 1) ?_
  refine pI 3 6 (bm 8 9) ?_
  refine pT 1 4 (bm 8 11) hHeld ?_
  refine pT 4 7 (bm 8 27) hHeld ?_
  refine one_ (i := 2) (N := some 5) (bm 8 31) rfl rfl (one_of HT_.out (by kernel_rfl)) (by decide) (fun K hK => ?_)
  refine Kd.R_lit_step k104 _ 104 ?hg (N := 5) ?hd (xs := ([] : List (S104))) (inner := []) (ok := fun _ => True) (okp := fun _ => True) ?hr ?hp (fun _ hk => hk) trivial (Below.refl _ _) (Nat.le_refl _) (by simp) ?_; (case hd => rfl); (case hg => rfl); (case hr => exact tG); (case hp => exact (Reps.none _ _))
  intro v124 w6 ho7 hb hg_ hnew_
  clear hg_ hnew_
  (first | rw [← Ny123.out] at ho7 | (simp only [Int.reduceToNat] at ho7; rw [← Ny123.out] at ho7))
  have HO125 := Aside0.mk (Kd.R_lower ho7 (below_size tB))
  replace BK121 := bB BK121 hb
  replace BK122 := bB BK122 hb
  replace HB := bH HB hb
  clear hb ho7
  refine hK.out _ _ tH (fun hHeld => ?_)
  clear hK K
  refine norm_ (tV : Act.put _ (some 5) _ = _) ?_
  refine one_ (i := 5) (N := some 8) (bm 8 63) rfl rfl (one_of HT_.out (by kernel_rfl)) (by decide) (fun K hK => ?_)
  refine Kd.R_append_rows_step k104 (w0 := w) w.heap.size (by rfl) (.tmp 5) (.tmp 7) 33 104 (.agg #[(.int .i64 0), (.int .i64 0), (.int .i64 0), (.int .i64 0), (.int .i64 0), (.int .i64 0)]) 48 rfl Try.underlying33 info104 rfl (by decide) (by omega) v124 y123 l0_1 _ _ _ (fun _ => True) (fun _ => False) rfl rfl ?aO ?aR (fun _ _ h => h) (fun _ h => h.elim) ?aF ?aB ?aS ?aL ?_
  (case aR => repeat (first | exact (Kd.C_below HR0_1.out HB.out) | (with_reducible refine Kd.C_alloc ?_ _) | (with_reducible refine Kd.C_drewN ?_ _) | (with_reducible refine Kd.C_drew ?_)))
  (case aB => exact tB)
  (case aF => exact (fun _ _ => trivial))
  (case aO => exact (tR HO125))
  (case aS => exact (below_size tB))
  (case aL => have := LMc2.out; omega)
  intro v127 w8 ho hb hg hat
  rw [← Ny126.out] at ho
  replace BK121 := Aside0.mk (blk_grown (g := gb121) (o := .cells #[.int .i64 a0_0, .slice A0_1 l0_1.length c0_1] 35 (0, 0)) (tK BK121) hg (Kd.R_ne HO125.out BK121.out (by decide)))
  replace BK122 := Aside0.mk (blk_grown (g := gb122) (o := .cells #[.int .i64 0, .slice none 0 0] 35 (0, 0)) (tK BK122) hg (Kd.R_ne HO125.out BK122.out (by decide)))
  replace HB := Aside0.mk (hb)
  have HO128 := Aside0.mk (ho)
  clear HO125
  clear ho hb hg hat
  obtain ⟨Ao9, co9, eo9⟩ := Kd.R_slice HO128.out
  (first | subst eo9 | (injection eo9 with f1_ f2_ f3_; have f4_ := f1_.symm; have f5_ := f3_.symm; clear f1_ f2_ f3_; subst f4_; subst f5_))
  refine hK.out _ _ tH (fun hHeld => ?_)
  clear hK K
  refine norm_ (tV : Act.put _ (some 8) _ = _) ?_
  refine pI 6 9 (bm 8 127) ?_
  refine one_ (i := 7) (N := none) (bm 8 255) rfl rfl (one_of HT_.out (by kernel_rfl)) (by decide) (fun K hK => ?_)
  have hs10 : w8.cell? ⟨gb122, 0, none⟩ = some (.int .i64 0) := (blk_cell BK122.out 0).trans rfl
  have hfs10 := blk_frozen BK122.out 0
  have hns10_0 := NB121_122.out
  have hms10_0 := NB122_121.out
  have hs11 : w8.cell? ⟨gb122, 1, none⟩ = some (.slice none 0 0) := (blk_cell BK122.out 1).trans rfl
  have hfs11 := blk_frozen BK122.out 1
  have hns11_0 := NB121_122.out
  have hms11_0 := NB122_121.out
  refine skip_ (w1 := ?_) (by rfl) rfl ?_ ?_
  rotate_left
  ·go_simp
   rfl
  refine hK.out _ _ ⟨((cell_far (p := ⟨gb122, _, none⟩) NB121_122.out _).trans (((cell_far (p := ⟨gb122, _, none⟩) NB121_122.out _).trans (hHeld.1)))), ((cell_far (p := ⟨gb122, _, none⟩) NB121_122.out _).trans (((cell_far (p := ⟨gb122, _, none⟩) NB121_122.out _).trans (hHeld.2))))⟩ (fun hHeld => ?_)
  clear hK K
  refine done_ (done_of HT_.out (by kernel_rfl)) ?_
  try go_wp2
  refine bodyPost_ret (results_cell_row rfl _ _ gb122 35 #[.int .i64 a0_0, .slice Ao9 y126.length co9] (0, 0) _ rfl (by (with_reducible repeat (first | refine blk_drewN ?_ _ | refine blk_drew ?_ | refine blk_alloc ?_ _)); refine blk_put (cs := #[.int .i64 a0_0, .slice none 0 0]) ?_ 1 _ rfl; (with_reducible repeat (first | refine blk_drewN ?_ _ | refine blk_drew ?_ | refine blk_alloc ?_ _)); refine blk_put (cs := #[.int .i64 0, .slice none 0 0]) ?_ 0 _ rfl; (with_reducible repeat (first | refine blk_drewN ?_ _ | refine blk_drew ?_ | refine blk_alloc ?_ _)); exact BK122.out) Try.underlying35 rfl (by kernel_rfl)) rfl ?_
  exact ⟨_, tE, by (with_reducible repeat (first | apply Kd.R_alloc | apply Kd.R_drewN | apply Kd.R_drew)); exact Kd.R_mono (Kd.R_far (p := ⟨gb122, 1, none⟩) (Kd.R_far (p := ⟨gb122, 0, none⟩) (Kd.R_types HO128.out BK122.out (by decide)) (fun _ hk => hk.2) (.int .i64 a0_0)) (fun _ hk => hk.2) (.slice Ao9 y126.length co9)) (fun _ hk => trivial), tB⟩
 rw [if_neg c2] at H
 exact absurd H (by simp)

/-! ### impl_findClaim: function 77 -/
def impl_findClaim.l0 : Nat → Int → List (S104) → Int → Int → Option (Int)
 | 0, _, _, _, _ => none
 | k + 1, x1, x8, x9, x10 => if x10 < x9 then (if 0 ≤ x10 then (if x10 < (x8.length : Int) then (if ((rd_T104 x8 x10).f0) = x1 then (some x10) else (impl_findClaim.l0 k x1 x8 x9 (wrap64 (x10 + 1)))) else (none)) else (none)) else (some (-1))
def impl_findClaim.f (k : Nat) (a0_0 : Int) (l0_1 : List (S104)) (a1 : Int) : Option (Int) := impl_findClaim.l0 k a1 l0_1 (l0_1.length : Int) 0
theorem impl_findClaim.mono_l : ∀ k, (∀ y0 y1 y2 y3, LeO (impl_findClaim.l0 k y0 y1 y2 y3) (impl_findClaim.l0 (k + 1) y0 y1 y2 y3))
 | 0 => fun _ _ _ _ r h => by simp [impl_findClaim.l0] at h
 | k + 1 => by
  have ih0 := impl_findClaim.mono_l k
  ·intro y0 y1 y2 y3
   unfold impl_findClaim.l0
   repeat' first
   | (with_reducible exact ih0 _ _ _ _)
   | (with_reducible exact LeO.refl _)
   | (with_reducible exact LeO.none _)
   | (with_reducible refine LeO.ite ?_ ?_)
   | (with_reducible refine LeO.bind ?_ (fun _ => ?_))
   | exact ih0 _ _ _ _
   | exact LeO.none _
   | refine LeO.ite ?_ ?_
   | refine LeO.bind ?_ (fun _ => ?_)
theorem impl_findClaim.mono : ∀ a0 a1 a2 k, LeO (impl_findClaim.f k a0 a1 a2) (impl_findClaim.f (k + 1) a0 a1 a2) := by
 intro a0 a1 a2 k
 have ih0 := impl_findClaim.mono_l k
 unfold impl_findClaim.f
 repeat' first
   | (with_reducible exact ih0 _ _ _ _)
   | (with_reducible exact LeO.refl _)
   | (with_reducible exact LeO.none _)
   | (with_reducible refine LeO.ite ?_ ?_)
   | (with_reducible refine LeO.bind ?_ (fun _ => ?_))
   | exact ih0 _ _ _ _
   | exact LeO.none _
   | refine LeO.ite ?_ ?_
   | refine LeO.bind ?_ (fun _ => ?_)
set_option maxHeartbeats 8000000 in
set_option maxRecDepth 100000 in
theorem impl_findClaim.calls (k : Nat) (a0_0 : Int) (A0_1 : Option Addr) (c0_1 : Nat) (l0_1 : List (S104)) (a1 : Int) (r : Int) (w : World) (hr0_1 : Kd.C k104 w A0_1 l0_1.length l0_1) (hc0_1 : l0_1.length ≤ c0_1) (h : impl_findClaim.f k a0_0 l0_1 a1 = some r) :
  Calls Try.prog 77 #[.agg #[.int .i64 a0_0, .slice A0_1 l0_1.length c0_1], .int .i64 a1] w fun e w' => e = .returned (.int .i64 r) ∧ Below w.heap.size w w' := by
 have hu35 := Try.underlying35
 have hu104 := Try.underlying104
 have HR0_1 := Aside0.mk hr0_1
 have HC0_1 := Aside0.mk hc0_1
 clear hr0_1 hc0_1
 have HB := Aside0.mk (Below.refl w.heap.size w)
 have H : (impl_findClaim.l0 k a1 l0_1 (l0_1.length : Int) 0) = some r := h
 clear h
 have H' := Aside0.mk H
 clear H
 go_enter Try.func77, Try.ntmps77
 go_wp2_with (first | ((with_reducible refine gate_dst (N := 2) rfl ?_); refine box_event ?hg (N := 2) ?hd (cs := #[.int .i64 a0_0, .slice A0_1 l0_1.length c0_1]) (t := 35) ?hr ?_; (case hd => rfl); (case hg => rfl); (case hr => exact tG); intro gb129 hg w3 hbox hb; have BK129 := Aside0.mk (hbox); have GW129 := gW HB hg; have GE129 := gW HB hg; replace HB := bH HB hb; clear hb hbox hg; obtain ⟨hcz4_0, hcz4_1, hfz4_0, hfz4_1⟩ := bc2 BK129.out))
 go_loopg [10] k (fun kq v10 w' => ∃ (x10_1 : Int), v10 = .int .i64 x10_1 ∧ Aside0 (impl_findClaim.l0 kq a1 l0_1 (l0_1.length : Int) x10_1 = some r) ∧ Aside0 (kq ≤ k) ∧ Aside0 (w'.heap[gb129]? = some (.cells #[.int .i64 a0_0, (.slice A0_1 l0_1.length c0_1)] 35 (0, 0))) ∧ Aside0 (Below w.heap.size w w'))
 case atStart => exact ⟨(0), tS, H', ⟨Nat.le_refl _⟩, ⟨tK BK129⟩, ⟨tB⟩⟩
 case round =>
  clear H'
  try clear p2
  obtain ⟨x10_1, rfl, HA, HK1, BK129, HB⟩ := hrel
  cases gk with
  | zero => exact absurd HA.out (by simp [impl_findClaim.l0])
  | succ k1 =>
   have H := HA.out
   clear HA
   simp only [impl_findClaim.l0] at H
   by_cases c5 : x10_1 < (l0_1.length : Int)
   ·rw [if_pos c5] at H
    have c5b0 : decide (x10_1 < (l0_1.length : Int)) = true := decide_eq_true c5
    clear c5
    by_cases c6 : 0 ≤ x10_1
    ·rw [if_pos c6] at H
     have c6b0 : decide (0 ≤ x10_1) = true := decide_eq_true c6
     clear c6
     by_cases c7 : x10_1 < (l0_1.length : Int)
     ·rw [if_pos c7] at H
      have c7b0 : decide (x10_1 < (l0_1.length : Int)) = true := decide_eq_true c7
      clear c7
      by_cases c8 : ((rd_T104 l0_1 x10_1).f0) = a1
      ·rw [if_pos c8] at H
       have c8b0 : (((rd_T104 l0_1 x10_1).f0) == a1) = true := beq_iff_eq.mpr c8
       have c8b1 : (((rd_T104 l0_1 x10_1).f0) != a1) = false := bne_eq_false_iff_eq.mpr c8
       clear c8
       obtain rfl := Option.some.inj H
       have p130 : 0 ≤ (x10_1 : Int) := of_decide_eq_true tA
       have q130 : x10_1 < (l0_1.length : Int) := of_decide_eq_true tA
       obtain ⟨ad130, e130, hx130_0, hx130_1, hx130_2, hx130_3, hx130_4, hx130_5⟩ := at_T104 HR0_1.out x10_1 p130 q130
       cases e130
       replace hx130_0 := hbc HB hx130_0
       replace hx130_1 := hbc HB hx130_1
       replace hx130_2 := hbc HB hx130_2
       replace hx130_3 := hbc HB hx130_3
       replace hx130_4 := hbc HB hx130_4
       replace hx130_5 := hbc HB hx130_5
       replace p130 := eq_true p130
       replace q130 := eq_true q130
       go_wp2_with (first | ((with_reducible refine gate_dst (N := 6) rfl ?_); refine box_event ?hg (N := 6) ?hd (cs := #[.int .i64 0, .int .i64 0, .int .i64 0, .int .i64 0, .int .i64 0, .int .i64 0]) (t := 104) ?hr ?_; (case hd => rfl); (case hg => rfl); (case hr => exact tG); intro gb131 hg w9 hbox hb; have BK131 := Aside0.mk (hbox); have GW131 := gW HB hg; have GE131 := gW HB hg; replace HB := bH HB hb; have NB129_131 := nL BK129 hg; have NB131_129 := nR BK129 hg; replace BK129 := bB BK129 hb; clear hb hbox hg; have hnb10 := NB131_129.out; have hnc10 := NB129_131.out; obtain ⟨hcz11_0, hcz11_1, hcz11_2, hcz11_3, hcz11_4, hcz11_5, hfz11_0, hfz11_1, hfz11_2, hfz11_3, hfz11_4, hfz11_5⟩ := bc6 BK131.out))
       go_ret
       exact ⟨tE, tB⟩
      rw [if_neg c8] at H
      have c8b0 : (((rd_T104 l0_1 x10_1).f0) == a1) = false := beq_eq_false_iff_ne.mpr c8
      have c8b1 : (((rd_T104 l0_1 x10_1).f0) != a1) = true := bne_iff_ne.mpr c8
      have H' := Aside0.mk H
      clear H
      have p130 : 0 ≤ (x10_1 : Int) := of_decide_eq_true tA
      have q130 : x10_1 < (l0_1.length : Int) := of_decide_eq_true tA
      obtain ⟨ad130, e130, hx130_0, hx130_1, hx130_2, hx130_3, hx130_4, hx130_5⟩ := at_T104 HR0_1.out x10_1 p130 q130
      cases e130
      replace hx130_0 := hbc HB hx130_0
      replace hx130_1 := hbc HB hx130_1
      replace hx130_2 := hbc HB hx130_2
      replace hx130_3 := hbc HB hx130_3
      replace hx130_4 := hbc HB hx130_4
      replace hx130_5 := hbc HB hx130_5
      replace p130 := eq_true p130
      replace q130 := eq_true q130
      go_wp2_with (first | ((with_reducible refine gate_dst (N := 6) rfl ?_); refine box_event ?hg (N := 6) ?hd (cs := #[.int .i64 0, .int .i64 0, .int .i64 0, .int .i64 0, .int .i64 0, .int .i64 0]) (t := 104) ?hr ?_; (case hd => rfl); (case hg => rfl); (case hr => exact tG); intro gb131 hg w12 hbox hb; have BK131 := Aside0.mk (hbox); have GW131 := gW HB hg; have GE131 := gW HB hg; replace HB := bH HB hb; have NB129_131 := nL BK129 hg; have NB131_129 := nR BK129 hg; replace BK129 := bB BK129 hb; clear hb hbox hg; have hnb13 := NB131_129.out; have hnc13 := NB129_131.out; obtain ⟨hcz14_0, hcz14_1, hcz14_2, hcz14_3, hcz14_4, hcz14_5, hfz14_0, hfz14_1, hfz14_2, hfz14_3, hfz14_4, hfz14_5⟩ := bc6 BK131.out))
      go_roundg k1
      case measure => have := HK1.out; omega
      case rel => exact ⟨(wrap64 (x10_1 + 1)), tS, H', ⟨tI⟩, ⟨kF NB129_131 BK129⟩, ⟨tB⟩⟩
     rw [if_neg c7] at H
     exact absurd H (by simp)
    rw [if_neg c6] at H
    exact absurd H (by simp)
   rw [if_neg c5] at H
   have c5b0 : decide (x10_1 < (l0_1.length : Int)) = false := decide_eq_false c5
   clear c5
   obtain rfl := Option.some.inj H
   go_wp2
   go_ret
   exact ⟨tE, tB⟩

end Go.Proofs.Ytjggdakbphjomaa.ZFnClaims
