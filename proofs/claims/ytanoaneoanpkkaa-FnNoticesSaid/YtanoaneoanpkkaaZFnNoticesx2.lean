/- The machine side: for each Go function a Lean function and the contract that the Go code answers as it does; printed by program (wip/tmpl/pprint.sh). -/
import Derived.Test.YtanoaneoanpkkaaZFnNoticesx0
namespace Go.Proofs.Ytanoaneoanpkkaa.ZFnNotices
open Go.RowKit Go.Proofs.YtanoaneoanpkkaaW.PrintWords Go.Proofs.YtanoaneoanpkkaaW.PrintLast Go.Proofs.YtanoaneoanpkkaaW.PrintMore
attribute [local go_sem] max2_int min2_int max_two min_two max_three min_three max_four min_four   -- for this text's walks alone
set_option linter.unusedVariables false
set_option linter.unusedSimpArgs false

/-! ### laws_big: function 15 -/
def laws_big.f (l0 : List Int) : Option (Bool) := some (decide ((l0.length : Int) > 1048576))
set_option maxHeartbeats 8000000 in
set_option maxRecDepth 100000 in
theorem laws_big.calls (A0 : Option Addr) (c0 : Nat) (l0 : List Int) (r : Bool) (w : World) (hr0 : Kd.C (Kd.int .u8) w A0 l0.length l0) (hc0 : l0.length ≤ c0) (h : laws_big.f l0 = some r) :
  Calls Try.prog 15 #[.slice A0 l0.length c0] w fun e w' => e = .returned (.bool r) ∧ Drawn0 w w' := by
 have HR0 := Aside0.mk hr0
 have HC0 := Aside0.mk hc0
 clear hr0 hc0
 have H : (some (decide ((l0.length : Int) > 1048576))) = some r := h
 clear h
 obtain rfl := Option.some.inj H
 go_enter Try.func15, Try.ntmps15
 go_wp2
 go_ret
 exact ⟨tS, by repeat (first | exact Drawn0.refl _ | apply Drawn0.step)⟩

/-! ### impl_copyMail: function 95 -/
def impl_copyMail.f (l0_0 : List (S108)) : Option ((List (S108))) := (some (([] : List (S108)) : List (S108))).bind fun y103 => (if y103.length + l0_0.length < 4398046511104 then (some (y103 ++ l0_0)) else (none))
set_option maxHeartbeats 8000000 in
set_option maxRecDepth 100000 in
theorem impl_copyMail.calls (A0_0 : Option Addr) (c0_0 : Nat) (l0_0 : List (S108)) (r : List (S108)) (w : World) (hr0_0 : Kd.C k108 w A0_0 l0_0.length l0_0) (hc0_0 : l0_0.length ≤ c0_0) (h : impl_copyMail.f l0_0 = some r) :
  Calls Try.prog 95 #[.agg #[.slice A0_0 l0_0.length c0_0]] w fun e w' => ∃ v0_ : Value, e = .returned (.agg #[v0_]) ∧ Kd.R k108 108 w' w.heap.size (fun _ => True) v0_ r ∧ Below w.heap.size w w' := by
 have hu65 := Try.underlying65
 have HR0_0 := Aside0.mk hr0_0
 have HC0_0 := Aside0.mk hc0_0
 clear hr0_0 hc0_0
 have HB := Aside0.mk (Below.refl w.heap.size w)
 have H : ((some (([] : List (S108)) : List (S108))).bind fun y103 => (if y103.length + l0_0.length < 4398046511104 then (some (y103 ++ l0_0)) else (none))) = some r := h
 clear h
 obtain ⟨y103, hy103⟩ : ∃ y_ : List (S108), y_ = (([] : List (S108))) := ⟨_, rfl⟩
 replace H : (if y103.length + l0_0.length < 4398046511104 then (some (y103 ++ l0_0)) else (none)) = some r := by first | (rw [hy103]; with_reducible exact H) | (have H2_ := (Option.bind_some _ _).symm.trans H; rw [hy103]; with_reducible exact H2_) | (have H2_ := (Option.bind_some _ _).symm.trans H; with_reducible exact H2_) | with_reducible exact H | (rw [hy103]; exact H) | exact H
 have Ny103 := Aside0.mk hy103
 clear hy103
 by_cases c2 : y103.length + l0_0.length < 4398046511104
 ·rw [if_pos c2] at H
  have LMc2 := Aside0.mk c2
  clear c2
  obtain ⟨y106, hy106⟩ : ∃ y_ : List (S108), y_ = (y103 ++ l0_0) := ⟨_, rfl⟩
  replace H : (some y106) = some r := by first | (rw [hy106]; with_reducible exact H) | (have H2_ := (Option.bind_some _ _).symm.trans H; rw [hy106]; with_reducible exact H2_) | (have H2_ := (Option.bind_some _ _).symm.trans H; with_reducible exact H2_) | with_reducible exact H | (rw [hy106]; exact H) | exact H
  have Ny106 := Aside0.mk hy106
  clear hy106
  obtain rfl := Option.some.inj H
  go_enter Try.func95, Try.ntmps95
  go_wp2_with (first | ((with_reducible refine gate_dst (N := 1) rfl ?_); refine box_event ?hg (N := 1) ?hd (cs := #[.slice A0_0 l0_0.length c0_0]) (t := 65) ?hr ?_; (case hd => rfl); (case hg => rfl); (case hr => exact tG); intro gb101 hg w3 hbox hb; have BK101 := Aside0.mk (hbox); have GW101 := gW HB hg; have GE101 := gW HB hg; replace HB := bH HB hb; clear hb hbox hg) | ((with_reducible refine gate_dst (N := 2) rfl ?_); refine box_event ?hg (N := 2) ?hd (cs := #[.slice none 0 0]) (t := 65) ?hr ?_; (case hd => rfl); (case hg => rfl); (case hr => exact tG); intro gb102 hg w4 hbox hb; have BK102 := Aside0.mk (hbox); have GW102 := gW HB hg; have GE102 := gW HB hg; replace HB := bH HB hb; have NB101_102 := nL BK101 hg; have NB102_101 := nR BK101 hg; replace BK101 := bB BK101 hb; clear hb hbox hg) | ((with_reducible refine gate_dst (N := 3) rfl ?_); refine Kd.R_lit k108 _ 108 ?hg (N := 3) ?hd (xs := ([] : List (S108))) (inner := []) (ok := fun _ => True) (okp := fun _ => True) ?hr ?hp (fun _ hk => hk) trivial (Below.refl _ _) (Nat.le_refl _) (by simp) ?_; (case hd => rfl); (case hg => rfl); (case hr => exact tG); (case hp => exact (Reps.none _ _)); intro v104 w5 ho6 hb hg_ hnew_; clear hg_ hnew_; (first | rw [← Ny103.out] at ho6 | (simp only [Int.reduceToNat] at ho6; rw [← Ny103.out] at ho6)); have HO105 := Aside0.mk (Kd.R_lower ho6 (below_size tB)); replace BK101 := bB BK101 hb; replace BK102 := bB BK102 hb; replace HB := bH HB hb; clear hb ho6; have hnb7 := NB101_102.out; have hnc7 := NB102_101.out; obtain ⟨hcz8_0, hfz8_0⟩ := bc1 BK101.out) | ((with_reducible refine gate_builtin (b := .append) (xs := #[.tmp 3, .tmp 5]) rfl ?_); at_builtin; refine Kd.R_append_rows k108 (w0 := w) w.heap.size rfl (.tmp 3) (.tmp 5) 63 108 (.agg #[(.int .i64 0), (.int .i64 0), (.int .i64 0), (.bool false)]) 32 rfl Try.underlying63 info108 rfl (by decide) (by omega) v104 y103 l0_0 _ _ _ (fun _ => True) (fun _ => False) rfl rfl ?aO ?aR (fun _ _ h => h) (fun _ h => h.elim) ?aF ?aB ?aS ?aL ?_; (case aR => repeat (first | exact (Kd.C_below HR0_0.out HB.out) | (with_reducible refine Kd.C_alloc ?_ _) | (with_reducible refine Kd.C_drewN ?_ _) | (with_reducible refine Kd.C_drew ?_))); (case aB => exact tB); (case aF => exact (fun _ _ => trivial)); (case aO => exact (tR HO105)); (case aS => exact (below_size tB)); (case aL => have := LMc2.out; omega); intro v107 w9 ho hb hg hat; rw [← Ny106.out] at ho; replace BK101 := Aside0.mk (blk_grown (g := gb101) (o := .cells #[.slice A0_0 l0_0.length c0_0] 65 (0, 0)) (tK BK101) hg (Kd.R_ne HO105.out BK101.out (by decide))); replace BK102 := Aside0.mk (blk_grown (g := gb102) (o := .cells #[.slice none 0 0] 65 (0, 0)) (tK BK102) hg (Kd.R_ne HO105.out BK102.out (by decide))); replace HB := Aside0.mk (hb); have HO108 := Aside0.mk (ho); clear HO105; clear ho hb hg hat; obtain ⟨Ao10, co10, eo10⟩ := Kd.R_slice HO108.out; subst eo10; obtain ⟨hcz11_0, hfz11_0⟩ := bc1 BK102.out))
  refine bodyPost_ret (results_cell_row rfl _ _ gb102 65 #[.slice Ao10 y106.length co10] (0, 0) _ rfl (by (with_reducible repeat (first | refine blk_drewN ?_ _ | refine blk_drew ?_ | refine blk_alloc ?_ _)); refine blk_put (cs := #[.slice none 0 0]) ?_ 0 _ rfl; (with_reducible repeat (first | refine blk_drewN ?_ _ | refine blk_drew ?_ | refine blk_alloc ?_ _)); exact BK102.out) Try.underlying65 rfl (by kernel_rfl)) rfl ?_
  exact ⟨_, tE, by (with_reducible repeat (first | apply Kd.R_alloc | apply Kd.R_drewN | apply Kd.R_drew)); exact Kd.R_mono (Kd.R_far (p := ⟨gb102, 0, none⟩) (Kd.R_types HO108.out BK102.out (by decide)) (fun _ hk => hk.2) (.slice Ao10 y106.length co10)) (fun _ hk => trivial), tB⟩
 rw [if_neg c2] at H
 exact absurd H (by simp)

/-! ### impl_ReadNotices: function 42 -/
def impl_ReadNotices.l0 : Nat → List (S108) → Int → Int → List (S108) → Option ((List (S108)) × (List (S108)))
 | 0, _, _, _, _ => none
 | k + 1, x5, x13, x14, x115000 => if x14 < x13 then (if 0 ≤ x14 then (if x14 < (x115000.length : Int) then (if ((rd_T108 x115000 x14).f3 = true) then (impl_ReadNotices.l0 k x5 x13 (wrap64 (x14 + 1)) (x115000.set (x14 : Int).toNat (⟨(rd_T108 x115000 x14).f0, (rd_T108 x115000 x14).f1, (rd_T108 x115000 x14).f2, true⟩ : S108))) else (if x5.length < 4398046511104 then (impl_ReadNotices.l0 k (x5 ++ [(⟨(rd_T108 x115000 x14).f0, (rd_T108 x115000 x14).f1, (rd_T108 x115000 x14).f2, (rd_T108 x115000 x14).f3⟩ : S108)]) x13 (wrap64 (x14 + 1)) (x115000.set (x14 : Int).toNat (⟨(rd_T108 x115000 x14).f0, (rd_T108 x115000 x14).f1, (rd_T108 x115000 x14).f2, true⟩ : S108))) else (none))) else (none)) else (none)) else (some (x115000, x5))
def impl_ReadNotices.f (k : Nat) (l0_0 : List (S108)) : Option ((List (S108)) × (List (S108))) := (impl_copyMail.f l0_0).bind fun t111 => (impl_ReadNotices.l0 k (([] : List (S108))) (t111.length : Int) 0 t111)
theorem impl_ReadNotices.mono_l : ∀ k, (∀ y0 y1 y2 y3, LeO (impl_ReadNotices.l0 k y0 y1 y2 y3) (impl_ReadNotices.l0 (k + 1) y0 y1 y2 y3))
 | 0 => fun _ _ _ _ r h => by simp [impl_ReadNotices.l0] at h
 | k + 1 => by
  have ih0 := impl_ReadNotices.mono_l k
  ·intro y0 y1 y2 y3
   unfold impl_ReadNotices.l0
   repeat' first
   | (with_reducible exact ih0 _ _ _ _)
   | (with_reducible exact LeO.refl _)
   | (with_reducible exact LeO.none _)
   | (with_reducible refine LeO.ite ?_ ?_)
   | (with_reducible refine LeO.bind ?_ (fun _ => ?_))
   | exact ih0 _ _ _ _
   | exact LeO.none _
   | refine LeO.ite ?_ ?_
   | refine LeO.bind ?_ (fun _ => ?_)
theorem impl_ReadNotices.mono : ∀ a0 k, LeO (impl_ReadNotices.f k a0) (impl_ReadNotices.f (k + 1) a0) := by
 intro a0 k
 have ih0 := impl_ReadNotices.mono_l k
 unfold impl_ReadNotices.f
 repeat' first
   | (with_reducible exact ih0 _ _ _ _)
   | (with_reducible exact LeO.refl _)
   | (with_reducible exact LeO.none _)
   | (with_reducible refine LeO.ite ?_ ?_)
   | (with_reducible refine LeO.bind ?_ (fun _ => ?_))
   | exact ih0 _ _ _ _
   | exact LeO.none _
   | refine LeO.ite ?_ ?_
   | refine LeO.bind ?_ (fun _ => ?_)
set_option maxHeartbeats 8000000 in
set_option maxRecDepth 100000 in
theorem impl_ReadNotices.calls (k : Nat) (A0_0 : Option Addr) (c0_0 : Nat) (l0_0 : List (S108)) (r1 : List (S108)) (r2 : List (S108)) (w : World) (hr0_0 : Kd.C k108 w A0_0 l0_0.length l0_0) (hc0_0 : l0_0.length ≤ c0_0) (h : impl_ReadNotices.f k l0_0 = some (r1, r2)) :
  Calls Try.prog 42 #[.agg #[.slice A0_0 l0_0.length c0_0]] w fun e w' => ∃ v0_ v1_ : Value, e = .returned (.tuple #[.agg #[v0_], v1_]) ∧ Kd.R k108 108 w' w.heap.size (fun k_ => some k_ ≠ (v1_ : Value).ownBlock) v0_ r1 ∧ Kd.R k108 108 w' w.heap.size (fun k_ => some k_ ≠ (v0_ : Value).ownBlock) v1_ r2 ∧ Below w.heap.size w w' := by
 have hu65 := Try.underlying65
 have hu108 := Try.underlying108
 have HR0_0 := Aside0.mk hr0_0
 have HC0_0 := Aside0.mk hc0_0
 clear hr0_0 hc0_0
 have HB := Aside0.mk (Below.refl w.heap.size w)
 have H : ((impl_copyMail.f l0_0).bind fun t111 => (impl_ReadNotices.l0 k (([] : List (S108))) (t111.length : Int) 0 t111)) = some (r1, r2) := h
 clear h
 replace H := Option.bind_eq_some_iff.mp H
 obtain ⟨t111, A20, H⟩ := H
 try dsimp only at H
 have A2 := Aside0.mk A20
 clear A20
 obtain ⟨y115, hy115⟩ : ∃ y_ : List (S108), y_ = (([] : List (S108))) := ⟨_, rfl⟩
 replace H : (impl_ReadNotices.l0 k y115 (t111.length : Int) 0 t111) = some (r1, r2) := by first | (rw [hy115]; with_reducible exact H) | (have H2_ := (Option.bind_some _ _).symm.trans H; rw [hy115]; with_reducible exact H2_) | (have H2_ := (Option.bind_some _ _).symm.trans H; with_reducible exact H2_) | with_reducible exact H | (rw [hy115]; exact H) | exact H
 have Ny115 := Aside0.mk hy115
 clear hy115
 have H' := Aside0.mk H
 clear H
 go_enter Try.func42, Try.ntmps42
 go_wp2_with (first | ((with_reducible refine gate_dst (N := 1) rfl ?_); refine box_event ?hg (N := 1) ?hd (cs := #[.slice A0_0 l0_0.length c0_0]) (t := 65) ?hr ?_; (case hd => rfl); (case hg => rfl); (case hr => exact tG); intro gb109 hg w3 hbox hb; have BK109 := Aside0.mk (hbox); have GW109 := gW HB hg; have GE109 := gW HB hg; replace HB := bH HB hb; clear hb hbox hg) | ((with_reducible refine gate_dst (N := 2) rfl ?_); refine box_event ?hg (N := 2) ?hd (cs := #[.slice none 0 0]) (t := 65) ?hr ?_; (case hd => rfl); (case hg => rfl); (case hr => exact tG); intro gb110 hg w4 hbox hb; have BK110 := Aside0.mk (hbox); have GW110 := gW HB hg; have GE110 := gW HB hg; replace HB := bH HB hb; have NB109_110 := nL BK109 hg; have NB110_109 := nR BK109 hg; replace BK109 := bB BK109 hb; clear hb hbox hg; have hnb5 := NB109_110.out; have hnc5 := NB110_109.out; obtain ⟨hcz6_0, hfz6_0⟩ := bc1 BK109.out) | ((with_reducible refine gate_callee (f := 95) rfl ?_); refine goesL_ (some 9) rfl rfl Try.func95 (by kernel_rfl) rfl #[.agg #[.slice A0_0 l0_0.length c0_0]] rfl tL ?_; (with_reducible refine (impl_copyMail.calls _ _ l0_0 t111 _ ?side1 ?side2 A2.out).mono ?_); (case side1 => repeat (first | exact (Kd.C_below HR0_0.out HB.out) | (with_reducible refine Kd.C_alloc ?_ _) | (with_reducible refine Kd.C_drewN ?_ _) | (with_reducible refine Kd.C_drew ?_))); (case side2 => exact HC0_0.out); rintro e w7 ⟨v112, rfl, ho0, hb⟩; refine ⟨_, rfl, ?_⟩; have HO113 := Aside0.mk (Kd.R_lower ho0 (below_size tB)); replace BK109 := bB BK109 hb; replace BK110 := bB BK110 hb; replace HB := bH HB hb; (try clear hb); (try clear hb2); (try clear hk); (try clear hi); (try clear ho0)) | ((with_reducible refine gate_dst (N := 4) rfl ?_); refine box_event ?hg (N := 4) ?hd (cs := #[.slice none 0 0]) (t := 65) ?hr ?_; (case hd => rfl); (case hg => rfl); (case hr => exact tG); intro gb114 hg w8 hbox hb; replace HO113 := Aside0.mk (Kd.R_below (tR HO113) hb); have BK114 := Aside0.mk (hbox); have GW114 := gW HB hg; have GE114 := gW HB hg; replace HB := bH HB hb; have NB109_114 := nL BK109 hg; have NB114_109 := nR BK109 hg; replace BK109 := bB BK109 hb; have NB110_114 := nL BK110 hg; have NB114_110 := nR BK110 hg; replace BK110 := bB BK110 hb; clear hb hbox hg; obtain ⟨Ao9, co9, eo9⟩ := Kd.R_slice HO113.out; subst eo9; have hnb10 := NB114_109.out; have hnc10 := NB109_114.out; have hnb11 := NB114_110.out; have hnc11 := NB110_114.out; obtain ⟨hcz12_0, hfz12_0⟩ := bc1 BK114.out) | ((with_reducible refine gate_dst (N := 10) rfl ?_); refine Kd.R_lit k108 _ 108 ?hg (N := 10) ?hd (xs := ([] : List (S108))) (inner := []) (ok := fun _ => True) (okp := fun _ => True) ?hr ?hp (fun _ hk => hk) trivial (Below.refl _ _) (Nat.le_refl _) (by simp) ?_; (case hd => rfl); (case hg => rfl); (case hr => exact tG); (case hp => exact (Reps.none _ _)); intro v116 w13 ho14 hb hg_ hnew_; clear hg_ hnew_; (first | rw [← Ny115.out] at ho14 | (simp only [Int.reduceToNat] at ho14; rw [← Ny115.out] at ho14)); have HO117 := Aside0.mk (Kd.R_lower (Kd.R_new' ho14 (Kd.R_lt (by (with_reducible repeat (first | apply Kd.R_alloc | apply Kd.R_drewN | apply Kd.R_drew)); exact (Kd.R_mono (Kd.R_far (p := ⟨gb114, 0, none⟩) (Kd.R_types HO113.out BK114.out (by decide)) (fun _ hk => hk.2) (.slice Ao9 t111.length co9)) (fun _ h_ => h_.1))))) (below_size tB)); replace HO113 := Aside0.mk (Kd.R_elder' (by (with_reducible repeat (first | apply Kd.R_alloc | apply Kd.R_drewN | apply Kd.R_drew)); exact (Kd.R_mono (Kd.R_far (p := ⟨gb114, 0, none⟩) (Kd.R_types HO113.out BK114.out (by decide)) (fun _ hk => hk.2) (.slice Ao9 t111.length co9)) (fun _ h_ => h_.1))) (Kd.R_base ho14) hb); replace BK109 := Aside0.mk (blk_below (g := gb109) (o := .cells #[.slice A0_0 l0_0.length c0_0] 65 (0, 0)) (kF NB109_114 BK109) hb); replace BK110 := Aside0.mk (blk_below (g := gb110) (o := .cells #[.slice none 0 0] 65 (0, 0)) (kF NB110_114 BK110) hb); replace BK114 := Aside0.mk (blk_below (g := gb114) (o := .cells #[.slice Ao9 t111.length co9] 65 (0, 0)) (by (with_reducible repeat (first | refine blk_drewN ?_ _ | refine blk_drew ?_ | refine blk_alloc ?_ _)); refine blk_put (cs := #[.slice none 0 0]) ?_ 0 _ rfl; (with_reducible repeat (first | refine blk_drewN ?_ _ | refine blk_drew ?_ | refine blk_alloc ?_ _)); exact BK114.out) hb); replace HB := bH HB hb; clear hb ho14; obtain ⟨hcz15_0, hfz15_0⟩ := bc1 BK114.out))
 go_loopg [5, 14] k (fun kq v5 v14 w' => ∃ (x5_1 : List (S108)) (x14_1 : Int) (x115000_1 : List (S108)), v14 = .int .i64 x14_1 ∧ Aside0 (impl_ReadNotices.l0 kq x5_1 (t111.length : Int) x14_1 x115000_1 = some (r1, r2)) ∧ Aside0 (kq ≤ k) ∧ Aside0 (Kd.R k108 108 w' w.heap.size (fun k_ => some k_ ≠ ((.slice Ao9 t111.length co9) : Value).ownBlock) v5 x5_1) ∧ Aside0 (Kd.R k108 108 w' w.heap.size (fun k_ => some k_ ≠ (v5 : Value).ownBlock) (.slice Ao9 t111.length co9) x115000_1) ∧ Aside0 (w'.heap[gb109]? = some (.cells #[(.slice A0_0 l0_0.length c0_0)] 65 (0, 0))) ∧ Aside0 (w'.heap[gb110]? = some (.cells #[(.slice none 0 0)] 65 (0, 0))) ∧ Aside0 (w'.heap[gb114]? = some (.cells #[(.slice Ao9 t111.length co9)] 65 (0, 0))) ∧ Aside0 (Below w.heap.size w w'))
 case atStart => exact ⟨(y115), (0), (t111), tS, H', ⟨Nat.le_refl _⟩, ⟨by (with_reducible repeat (first | apply Kd.R_alloc | apply Kd.R_drewN | apply Kd.R_drew)); exact Kd.R_mono HO117.out (fun _ hk => hk.2)⟩, ⟨by (with_reducible repeat (first | apply Kd.R_alloc | apply Kd.R_drewN | apply Kd.R_drew)); exact Kd.R_mono HO113.out (fun _ hk => hk.2)⟩, ⟨tK BK109⟩, ⟨tK BK110⟩, ⟨tK BK114⟩, ⟨tB⟩⟩
 case round =>
  clear H'
  try clear c1
  try clear p2
  try clear c4
  try clear c5
  try clear c9
  try clear c10
  try clear c11
  try clear hcz12_0
  try clear hcz15_0
  try clear hcz6_0
  try clear hfz12_0
  try clear hfz15_0
  try clear hfz6_0
  obtain ⟨x5_1, x14_1, x115000_1, rfl, HA, HK1, HO_5, HO_115000, BK109, BK110, BK114, HB⟩ := hrel
  have hl115000_1 := (Kd.R_reads' HO_115000.out).1
  rw [hl115000_1] at HO_115000
  (try simp only [hl115000_1])
  (try simp only [hl115000_1] at BK109)
  (try simp only [hl115000_1] at BK110)
  (try simp only [hl115000_1] at BK114)
  (try simp only [hl115000_1] at HO_5)
  cases gk with
  | zero => exact absurd HA.out (by simp [impl_ReadNotices.l0])
  | succ k1 =>
   have H := HA.out
   clear HA
   simp only [impl_ReadNotices.l0] at H
   by_cases c16 : x14_1 < (t111.length : Int)
   ·rw [if_pos c16] at H
    have c16b0 : decide (x14_1 < (t111.length : Int)) = true := decide_eq_true c16
    clear c16
    by_cases c17 : 0 ≤ x14_1
    ·rw [if_pos c17] at H
     have c17b0 : decide (0 ≤ x14_1) = true := decide_eq_true c17
     clear c17
     by_cases c18 : x14_1 < (x115000_1.length : Int)
     ·rw [if_pos c18] at H
      have c18b0 : decide (x14_1 < (x115000_1.length : Int)) = true := decide_eq_true c18
      clear c18
      obtain ⟨bq19, hbq19⟩ : ∃ b_ : Bool, b_ = ((rd_T108 x115000_1 x14_1).f3) := ⟨_, rfl⟩
      replace H : (if (bq19 = true) then (impl_ReadNotices.l0 k1 x5_1 (t111.length : Int) (wrap64 (x14_1 + 1)) (x115000_1.set (x14_1 : Int).toNat (⟨(rd_T108 x115000_1 x14_1).f0, (rd_T108 x115000_1 x14_1).f1, (rd_T108 x115000_1 x14_1).f2, true⟩ : S108))) else (if x5_1.length < 4398046511104 then (impl_ReadNotices.l0 k1 (x5_1 ++ [(⟨(rd_T108 x115000_1 x14_1).f0, (rd_T108 x115000_1 x14_1).f1, (rd_T108 x115000_1 x14_1).f2, bq19⟩ : S108)]) (t111.length : Int) (wrap64 (x14_1 + 1)) (x115000_1.set (x14_1 : Int).toNat (⟨(rd_T108 x115000_1 x14_1).f0, (rd_T108 x115000_1 x14_1).f1, (rd_T108 x115000_1 x14_1).f2, true⟩ : S108))) else (none))) = some (r1, r2) := by rw [← hbq19] at H; exact H
      have Nbq19 := Aside0.mk hbq19
      clear hbq19
      by_cases c20 : (bq19 = true)
      ·subst c20
       have H1 : (impl_ReadNotices.l0 k1 x5_1 (t111.length : Int) (wrap64 (x14_1 + 1)) (x115000_1.set (x14_1 : Int).toNat (⟨(rd_T108 x115000_1 x14_1).f0, (rd_T108 x115000_1 x14_1).f1, (rd_T108 x115000_1 x14_1).f2, true⟩ : S108))) = some (r1, r2) := by rw [if_pos rfl] at H; exact H
       clear H
       have H := H1
       clear H1
       obtain ⟨y120, hy120⟩ : ∃ y_ : List (S108), y_ = (x115000_1.set (x14_1 : Int).toNat (⟨(rd_T108 x115000_1 x14_1).f0, (rd_T108 x115000_1 x14_1).f1, (rd_T108 x115000_1 x14_1).f2, true⟩ : S108)) := ⟨_, rfl⟩
       replace H : (impl_ReadNotices.l0 k1 x5_1 (t111.length : Int) (wrap64 (x14_1 + 1)) y120) = some (r1, r2) := by first | (rw [hy120]; with_reducible exact H) | (have H2_ := (Option.bind_some _ _).symm.trans H; rw [hy120]; with_reducible exact H2_) | (have H2_ := (Option.bind_some _ _).symm.trans H; with_reducible exact H2_) | with_reducible exact H | (rw [hy120]; exact H) | exact H
       have Ny120 := Aside0.mk hy120
       clear hy120
       have H' := Aside0.mk H
       clear H
       have p118 : 0 ≤ (x14_1 : Int) := of_decide_eq_true tA
       have q118 : x14_1 < (x115000_1.length : Int) := of_decide_eq_true tA
       obtain ⟨ad118, e118, hx118_0, hx118_1, hx118_2, hx118_3⟩ := at_T108 (Kd.R_reads' HO_115000.out).2.2 x14_1 p118 q118
       (try rw [← Nbq19.out] at hx118_3)
       cases e118
       replace p118 := eq_true p118
       replace q118 := eq_true q118
       go_wp2_with (first | ((with_reducible refine gate_dst (N := 7) rfl ?_); refine box_event ?hg (N := 7) ?hd (cs := #[.int .i64 0, .int .i64 0, .int .i64 0, .bool false]) (t := 108) ?hr ?_; (case hd => rfl); (case hg => rfl); (case hr => exact tG); intro gb119 hg w22 hbox hb; replace HO_5 := Aside0.mk (Kd.R_below (Kd.R_elderB (tR HO_5) gb119 (Nat.le_of_eq hg.symm)) hb); replace HO_115000 := Aside0.mk (Kd.R_below (Kd.R_elderB (tR HO_115000) gb119 (Nat.le_of_eq hg.symm)) hb); have BK119 := Aside0.mk (hbox); have GW119 := gW HB hg; have GE119 := gW HB hg; replace HB := bH HB hb; have NB109_119 := nL BK109 hg; have NB119_109 := nR BK109 hg; replace BK109 := bB BK109 hb; have NB110_119 := nL BK110 hg; have NB119_110 := nR BK110 hg; replace BK110 := bB BK110 hb; have NB114_119 := nL BK114 hg; have NB119_114 := nR BK114 hg; replace BK114 := bB BK114 hb; clear hb hbox hg; have hnb23 := NB119_109.out; have hnc23 := NB109_119.out; have hnb24 := NB119_110.out; have hnc24 := NB110_119.out; have hnb25 := NB119_114.out; have hnc25 := NB114_119.out; obtain ⟨hcz26_0, hcz26_1, hcz26_2, hcz26_3, hfz26_0, hfz26_1, hfz26_2, hfz26_3⟩ := bc4 BK119.out) | ((with_reducible refine gate_store (t := 108) (p := 7) rfl ?_); refine store_event (t := 108) (p := 7) (v := ?vo_w27) (w1 := ((((w22.setCell ⟨gb119, 0, none⟩ (.int .i64 ((rd_T108 x115000_1 x14_1).f0))).setCell ⟨gb119, 1, none⟩ (.int .i64 ((rd_T108 x115000_1 x14_1).f1))).setCell ⟨gb119, 2, none⟩ (.int .i64 ((rd_T108 x115000_1 x14_1).f2))).setCell ⟨gb119, 3, none⟩ (.bool true))) ?hg ?ho ?hn ?hr ?_; (case ho => rfl); (case hg => rfl); (case hn => rfl); (case hr => first | (go_simp; done) | (go_simp; rfl)); intro w27 hw; replace HO_5 : Aside0 (Kd.R k108 108 w27 w.heap.size (fun k_ => some k_ ≠ (.slice (some ad118) x115000_1.length co9 : Value).ownBlock ∧ k_ ≠ gb119) u5 x5_1) := ⟨(by rw [hw]; exact (by (with_reducible repeat (first | apply Kd.R_alloc | apply Kd.R_drewN | apply Kd.R_drew)); exact Kd.R_mono (Kd.R_far (p := ⟨gb119, 3, none⟩) (Kd.R_far (p := ⟨gb119, 2, none⟩) (Kd.R_far (p := ⟨gb119, 1, none⟩) (Kd.R_far (p := ⟨gb119, 0, none⟩) (Kd.R_mono HO_5.out (fun k_ hk => (⟨hk, hk.2⟩ : _ ∧ k_ ≠ gb119))) (fun _ hk => hk.2) (.int .i64 ((rd_T108 x115000_1 x14_1).f0))) (fun _ hk => hk.2) (.int .i64 ((rd_T108 x115000_1 x14_1).f1))) (fun _ hk => hk.2) (.int .i64 ((rd_T108 x115000_1 x14_1).f2))) (fun _ hk => hk.2) (.bool true)) (fun _ hk => ⟨hk.1.1, hk.1.2⟩)))⟩; replace HO_115000 : Aside0 (Kd.R k108 108 w27 w.heap.size (fun k_ => some k_ ≠ (u5 : Value).ownBlock ∧ k_ ≠ gb119) (.slice (some ad118) x115000_1.length co9) x115000_1) := ⟨(by rw [hw]; exact (by (with_reducible repeat (first | apply Kd.R_alloc | apply Kd.R_drewN | apply Kd.R_drew)); exact Kd.R_mono (Kd.R_far (p := ⟨gb119, 3, none⟩) (Kd.R_far (p := ⟨gb119, 2, none⟩) (Kd.R_far (p := ⟨gb119, 1, none⟩) (Kd.R_far (p := ⟨gb119, 0, none⟩) (Kd.R_mono HO_115000.out (fun k_ hk => (⟨hk, hk.2⟩ : _ ∧ k_ ≠ gb119))) (fun _ hk => hk.2) (.int .i64 ((rd_T108 x115000_1 x14_1).f0))) (fun _ hk => hk.2) (.int .i64 ((rd_T108 x115000_1 x14_1).f1))) (fun _ hk => hk.2) (.int .i64 ((rd_T108 x115000_1 x14_1).f2))) (fun _ hk => hk.2) (.bool true)) (fun _ hk => ⟨hk.1.1, hk.1.2⟩)))⟩; replace BK109 : Aside0 (w27.heap[gb109]? = some (.cells #[.slice A0_0 l0_0.length c0_0] 65 (0, 0))) := ⟨(by rw [hw]; exact (kF NB109_119 BK109))⟩; replace BK110 : Aside0 (w27.heap[gb110]? = some (.cells #[.slice none 0 0] 65 (0, 0))) := ⟨(by rw [hw]; exact (kF NB110_119 BK110))⟩; replace BK114 : Aside0 (w27.heap[gb114]? = some (.cells #[.slice (some ad118) x115000_1.length co9] 65 (0, 0))) := ⟨(by rw [hw]; exact (kF NB114_119 BK114))⟩; replace BK119 : Aside0 (w27.heap[gb119]? = some (.cells #[.int .i64 ((rd_T108 x115000_1 x14_1).f0), .int .i64 ((rd_T108 x115000_1 x14_1).f1), .int .i64 ((rd_T108 x115000_1 x14_1).f2), .bool true] 108 (0, 0))) := ⟨(by rw [hw]; exact (by (with_reducible repeat (first | refine blk_drewN ?_ _ | refine blk_drew ?_ | refine blk_alloc ?_ _)); refine blk_put (cs := #[.int .i64 ((rd_T108 x115000_1 x14_1).f0), .int .i64 ((rd_T108 x115000_1 x14_1).f1), .int .i64 ((rd_T108 x115000_1 x14_1).f2), .bool false]) ?_ 3 _ rfl; (with_reducible repeat (first | refine blk_drewN ?_ _ | refine blk_drew ?_ | refine blk_alloc ?_ _)); refine blk_put (cs := #[.int .i64 ((rd_T108 x115000_1 x14_1).f0), .int .i64 ((rd_T108 x115000_1 x14_1).f1), .int .i64 0, .bool false]) ?_ 2 _ rfl; (with_reducible repeat (first | refine blk_drewN ?_ _ | refine blk_drew ?_ | refine blk_alloc ?_ _)); refine blk_put (cs := #[.int .i64 ((rd_T108 x115000_1 x14_1).f0), .int .i64 0, .int .i64 0, .bool false]) ?_ 1 _ rfl; (with_reducible repeat (first | refine blk_drewN ?_ _ | refine blk_drew ?_ | refine blk_alloc ?_ _)); refine blk_put (cs := #[.int .i64 0, .int .i64 0, .int .i64 0, .bool false]) ?_ 0 _ rfl; (with_reducible repeat (first | refine blk_drewN ?_ _ | refine blk_drew ?_ | refine blk_alloc ?_ _)); exact BK119.out))⟩; replace HB : Aside0 (Below w.heap.size w w27) := ⟨(by rw [hw]; exact tB)⟩; clear hw; obtain ⟨hcz28_0, hcz28_1, hcz28_2, hcz28_3, hfz28_0, hfz28_1, hfz28_2, hfz28_3⟩ := bc4 BK119.out; have hnb29 := NB114_109.out; have hnc29 := NB109_114.out; have hnb30 := NB114_110.out; have hnc30 := NB110_114.out; obtain ⟨hcz31_0, hfz31_0⟩ := bc1 BK114.out; have p21 : 0 ≤ (x14_1 : Int) := of_decide_eq_true tA; have q21 : (x14_1 : Int) < ((x115000_1.length : Int) : Int) := of_decide_eq_true tA; obtain ⟨go21, co21, eo21, gb21, gl21, cl21, HG21⟩ := Kd.R_form HO_115000.out (by omega); (first | cases eo21 | (injection eo21 with ea_ en_ ec_; (first | subst ea_ | (injection ea_ with ea_; subst ea_)); subst ec_; clear en_)); have GB21 := Aside0.mk gb21; have GG21 := Aside0.mk HG21; clear gb21 gl21 HG21; (first | simp only [add_plain] at hx118_0 | skip); (first | simp only [add_plain] at hx118_1 | skip); (first | simp only [add_plain] at hx118_2 | skip); (first | simp only [add_plain] at hx118_3 | skip); obtain ⟨ce21, hcl21, hM21, hcc21, hfr21⟩ := Kd.R_elem HO_115000.out z108 (x14_1 : Int) p21 q21; obtain rfl := k108_openM hM21; have hx21_0 : w27.cell? ⟨go21, (x14_1 : Int).toNat * 4, none⟩ = some (.int .i64 ((rd_T108 x115000_1 x14_1).f0)) := hcc21 0 _ rfl; have hx21_1 : w27.cell? ⟨go21, (x14_1 : Int).toNat * 4 + 1, none⟩ = some (.int .i64 ((rd_T108 x115000_1 x14_1).f1)) := hcc21 1 _ rfl; have hx21_2 : w27.cell? ⟨go21, (x14_1 : Int).toNat * 4 + 2, none⟩ = some (.int .i64 ((rd_T108 x115000_1 x14_1).f2)) := hcc21 2 _ rfl; have hx21_3 : w27.cell? ⟨go21, (x14_1 : Int).toNat * 4 + 3, none⟩ = some (.bool ((rd_T108 x115000_1 x14_1).f3)) := hcc21 3 _ rfl; have hf21_0 : w27.frozen? ⟨go21, (x14_1 : Int).toNat * 4, none⟩ = false := hfr21 0; have hf21_1 : w27.frozen? ⟨go21, (x14_1 : Int).toNat * 4 + 1, none⟩ = false := hfr21 1; have hf21_2 : w27.frozen? ⟨go21, (x14_1 : Int).toNat * 4 + 2, none⟩ = false := hfr21 2; have hf21_3 : w27.frozen? ⟨go21, (x14_1 : Int).toNat * 4 + 3, none⟩ = false := hfr21 3; clear hcl21 hcc21 hfr21 hM21; replace p21 := eq_true p21; replace q21 := eq_true q21; have HX32 := Aside0.mk (show Kd.R k108 108 w27 w.heap.size (fun k_ => some k_ ≠ (u5 : Value).ownBlock ∧ k_ ≠ gb119) (.slice (some ⟨go21, 0, none⟩) x115000_1.length co9) x115000_1 from (tR HO_115000)); obtain ⟨ce32, hcl32, hM32, hcc32, hfr32⟩ := Kd.R_elem HX32.out z108 (x14_1 : Int) (of_decide_eq_true tA) (by have h_ : (x14_1 : Int) < ((x115000_1.length : Int) : Int) := of_decide_eq_true tA; first | exact h_ | (have e_ := (Kd.R_reads' HO_115000.out).1; omega) | simpa using h_); obtain rfl := k108_openM hM32; have HP32 := Kd.R_seg HX32.out (x14_1 : Int) (of_decide_eq_true tA) (by have h_ : (x14_1 : Int) < ((x115000_1.length : Int) : Int) := of_decide_eq_true tA; first | exact h_ | (have e_ := (Kd.R_reads' HO_115000.out).1; omega) | simpa using h_) (seg := [.bool true]) (j := 3) hcl32 hcc32 (show 4 ≤ 4 from by decide) (x' := (⟨(rd_T108 x115000_1 x14_1).f0, (rd_T108 x115000_1 x14_1).f1, (rd_T108 x115000_1 x14_1).f2, true⟩ : S108)) (k108_mkM _ _ _ (⟨(rd_T108 x115000_1 x14_1).f0, (rd_T108 x115000_1 x14_1).f1, (rd_T108 x115000_1 x14_1).f2, true⟩ : S108) ) (fun _ hk => hk); have hx32_3 := hcc32 3 _ rfl; (try simp only [show (k108).sz = 4 from rfl, Nat.mul_one, Nat.add_zero] at hx32_3); have hf32_3 := hfr32 3; (try simp only [show (k108).sz = 4 from rfl, Nat.mul_one, Nat.add_zero] at hf32_3); clear hcl32 hcc32 hfr32 hM32) | ((with_reducible refine gate_store (t := 4) (p := 30) rfl ?_); refine store_event (t := 4) (p := 30) (v := ?vo_w33) (w1 := (w27.setCell ⟨go21, (x14_1 : Int).toNat * 4 + 3, none⟩ (.bool true))) ?hg ?ho ?hn ?hr ?_; (case ho => rfl); (case hg => rfl); (case hn => rfl); (case hr => first | (go_simp; done) | (go_simp; rfl)); intro w33 hw; have hg : w27.grownBy w33 (some go21) := (by rw [hw]; exact HP32.2); have hp_ : Kd.R k108 108 w33 w.heap.size (fun k_ => some k_ ≠ (u5 : Value).ownBlock ∧ k_ ≠ gb119) (.slice (some ⟨go21, 0, none⟩) x115000_1.length co9) y120 := (by rw [hw, Ny120.out]; exact HP32.1); clear HP32; replace HO_5 := Aside0.mk (Kd.R_after (v := (.slice (some ⟨go21, 0, none⟩) x115000_1.length co9)) (v1 := (.slice (some ⟨go21, 0, none⟩) x115000_1.length co9)) (ok := (fun k_ => k_ ≠ gb119)) (by (with_reducible repeat (first | apply Kd.R_alloc | apply Kd.R_drewN | apply Kd.R_drew)); exact Kd.R_mono HO_5.out (fun _ hk => ⟨hk.2, hk.1⟩)) hg (.inl rfl)); replace BK109 := Aside0.mk (blk_grown (g := gb109) (o := .cells #[.slice A0_0 l0_0.length c0_0] 65 (0, 0)) (tK BK109) hg (Kd.R_ne HO_115000.out BK109.out (by decide))); replace BK110 := Aside0.mk (blk_grown (g := gb110) (o := .cells #[.slice none 0 0] 65 (0, 0)) (tK BK110) hg (Kd.R_ne HO_115000.out BK110.out (by decide))); replace BK114 := Aside0.mk (blk_grown (g := gb114) (o := .cells #[.slice (some ⟨go21, 0, none⟩) x115000_1.length co9] 65 (0, 0)) (tK BK114) hg (Kd.R_ne HO_115000.out BK114.out (by decide))); replace BK119 := Aside0.mk (blk_grown (g := gb119) (o := .cells #[.int .i64 ((rd_T108 x115000_1 x14_1).f0), .int .i64 ((rd_T108 x115000_1 x14_1).f1), .int .i64 ((rd_T108 x115000_1 x14_1).f2), .bool true] 108 (0, 0)) (tK BK119) hg (Kd.R_away HO_115000.out (fun _ hk => hk.2))); replace HO_115000 := Aside0.mk (hp_); replace HB := Aside0.mk ((by rw [hw]; exact below_set (HB.out) GB21.out : Below w.heap.size w w33)); clear hg hw hp_))
       (try simp only [← hl115000_1])
       go_roundg k1
       case measure => have := HK1.out; omega
       case rel => exact ⟨(x5_1), (wrap64 (x14_1 + 1)), (y120), tS, H', ⟨tI⟩, ⟨by (try simp only [hl115000_1]); (with_reducible repeat (first | apply Kd.R_alloc | apply Kd.R_drewN | apply Kd.R_drew)); exact Kd.R_mono HO_5.out (fun _ hk => hk.2)⟩, ⟨by (try simp only [hl115000_1]); (with_reducible repeat (first | apply Kd.R_alloc | apply Kd.R_drewN | apply Kd.R_drew)); exact Kd.R_mono HO_115000.out (fun _ hk => hk.1)⟩, ⟨by (try simp only [hl115000_1]); (with_reducible repeat (first | refine blk_drewN ?_ _ | refine blk_drew ?_ | refine blk_alloc ?_ _)); exact BK109.out⟩, ⟨by (try simp only [hl115000_1]); (with_reducible repeat (first | refine blk_drewN ?_ _ | refine blk_drew ?_ | refine blk_alloc ?_ _)); exact BK110.out⟩, ⟨by (try simp only [hl115000_1]); (with_reducible repeat (first | refine blk_drewN ?_ _ | refine blk_drew ?_ | refine blk_alloc ?_ _)); exact BK114.out⟩, ⟨tB⟩⟩
      replace c20 := Bool.eq_false_iff.mpr c20
      subst c20
      have H1 : (if x5_1.length < 4398046511104 then (impl_ReadNotices.l0 k1 (x5_1 ++ [(⟨(rd_T108 x115000_1 x14_1).f0, (rd_T108 x115000_1 x14_1).f1, (rd_T108 x115000_1 x14_1).f2, false⟩ : S108)]) (t111.length : Int) (wrap64 (x14_1 + 1)) (x115000_1.set (x14_1 : Int).toNat (⟨(rd_T108 x115000_1 x14_1).f0, (rd_T108 x115000_1 x14_1).f1, (rd_T108 x115000_1 x14_1).f2, true⟩ : S108))) else (none)) = some (r1, r2) := by rw [if_neg (show ¬ (false = true) by decide)] at H; exact H
      clear H
      have H := H1
      clear H1
      by_cases c34 : x5_1.length < 4398046511104
      ·rw [if_pos c34] at H
       have LMc34 := Aside0.mk c34
       clear c34
       obtain ⟨y121, hy121⟩ : ∃ y_ : List (S108), y_ = (x5_1 ++ [(⟨(rd_T108 x115000_1 x14_1).f0, (rd_T108 x115000_1 x14_1).f1, (rd_T108 x115000_1 x14_1).f2, false⟩ : S108)]) := ⟨_, rfl⟩
       replace H : (impl_ReadNotices.l0 k1 y121 (t111.length : Int) (wrap64 (x14_1 + 1)) (x115000_1.set (x14_1 : Int).toNat (⟨(rd_T108 x115000_1 x14_1).f0, (rd_T108 x115000_1 x14_1).f1, (rd_T108 x115000_1 x14_1).f2, true⟩ : S108))) = some (r1, r2) := by first | (rw [hy121]; with_reducible exact H) | (have H2_ := (Option.bind_some _ _).symm.trans H; rw [hy121]; with_reducible exact H2_) | (have H2_ := (Option.bind_some _ _).symm.trans H; with_reducible exact H2_) | with_reducible exact H | (rw [hy121]; exact H) | exact H
       have Ny121 := Aside0.mk hy121
       clear hy121
       obtain ⟨y124, hy124⟩ : ∃ y_ : List (S108), y_ = (x115000_1.set (x14_1 : Int).toNat (⟨(rd_T108 x115000_1 x14_1).f0, (rd_T108 x115000_1 x14_1).f1, (rd_T108 x115000_1 x14_1).f2, true⟩ : S108)) := ⟨_, rfl⟩
       replace H : (impl_ReadNotices.l0 k1 y121 (t111.length : Int) (wrap64 (x14_1 + 1)) y124) = some (r1, r2) := by first | (rw [hy124]; with_reducible exact H) | (have H2_ := (Option.bind_some _ _).symm.trans H; rw [hy124]; with_reducible exact H2_) | (have H2_ := (Option.bind_some _ _).symm.trans H; with_reducible exact H2_) | with_reducible exact H | (rw [hy124]; exact H) | exact H
       have Ny124 := Aside0.mk hy124
       clear hy124
       have H' := Aside0.mk H
       clear H
       have p118 : 0 ≤ (x14_1 : Int) := of_decide_eq_true tA
       have q118 : x14_1 < (x115000_1.length : Int) := of_decide_eq_true tA
       obtain ⟨ad118, e118, hx118_0, hx118_1, hx118_2, hx118_3⟩ := at_T108 (Kd.R_reads' HO_115000.out).2.2 x14_1 p118 q118
       (try rw [← Nbq19.out] at hx118_3)
       cases e118
       replace p118 := eq_true p118
       replace q118 := eq_true q118
       go_wp2_with (first | ((with_reducible refine gate_dst (N := 7) rfl ?_); refine box_event ?hg (N := 7) ?hd (cs := #[.int .i64 0, .int .i64 0, .int .i64 0, .bool false]) (t := 108) ?hr ?_; (case hd => rfl); (case hg => rfl); (case hr => exact tG); intro gb119 hg w36 hbox hb; replace HO_5 := Aside0.mk (Kd.R_below (Kd.R_elderB (tR HO_5) gb119 (Nat.le_of_eq hg.symm)) hb); replace HO_115000 := Aside0.mk (Kd.R_below (Kd.R_elderB (tR HO_115000) gb119 (Nat.le_of_eq hg.symm)) hb); have BK119 := Aside0.mk (hbox); have GW119 := gW HB hg; have GE119 := gW HB hg; replace HB := bH HB hb; have NB109_119 := nL BK109 hg; have NB119_109 := nR BK109 hg; replace BK109 := bB BK109 hb; have NB110_119 := nL BK110 hg; have NB119_110 := nR BK110 hg; replace BK110 := bB BK110 hb; have NB114_119 := nL BK114 hg; have NB119_114 := nR BK114 hg; replace BK114 := bB BK114 hb; clear hb hbox hg; have hnb37 := NB119_109.out; have hnc37 := NB109_119.out; have hnb38 := NB119_110.out; have hnc38 := NB110_119.out; have hnb39 := NB119_114.out; have hnc39 := NB114_119.out; obtain ⟨hcz40_0, hcz40_1, hcz40_2, hcz40_3, hfz40_0, hfz40_1, hfz40_2, hfz40_3⟩ := bc4 BK119.out) | ((with_reducible refine gate_builtin (b := .append) (xs := #[.tmp 22, .tmp 24]) rfl ?_); at_builtin; refine Kd.R_append k108 (w0 := w) w.heap.size rfl (.tmp 22) (.tmp 24) 63 108 (.agg #[(.int .i64 0), (.int .i64 0), (.int .i64 0), (.bool false)]) 32 rfl Try.underlying63 info108 rfl (by decide) (by omega) u5 x5_1 (⟨(rd_T108 x115000_1 x14_1).f0, (rd_T108 x115000_1 x14_1).f1, (rd_T108 x115000_1 x14_1).f2, false⟩ : S108) [.int .i64 ((rd_T108 x115000_1 x14_1).f0), .int .i64 ((rd_T108 x115000_1 x14_1).f1), .int .i64 ((rd_T108 x115000_1 x14_1).f2), .bool false] (fun k_ => some k_ ≠ (.slice (some ad118) x115000_1.length co9 : Value).ownBlock ∧ k_ ≠ gb119) (fun _ => False) rfl (by first | (go_simp; done) | (go_simp; rfl)) ?aP (fun _ hk => hk.elim) ?aF ?aO ?aB ?aS ?aL ?_; (case aP => exact k108_mkM _ _ _ (⟨(rd_T108 x115000_1 x14_1).f0, (rd_T108 x115000_1 x14_1).f1, (rd_T108 x115000_1 x14_1).f2, false⟩ : S108)); (case aB => exact tB); (case aF => exact (fun k_ hk => ⟨Kd.fresh' (Kd.R_lt (by (with_reducible repeat (first | apply Kd.R_alloc | apply Kd.R_drewN | apply Kd.R_drew)); exact (Kd.R_mono (Kd.R_far (p := ⟨gb119, 3, none⟩) (Kd.R_far (p := ⟨gb119, 2, none⟩) (Kd.R_far (p := ⟨gb119, 1, none⟩) (Kd.R_far (p := ⟨gb119, 0, none⟩) (Kd.R_mono HO_115000.out (fun k_ hk => (⟨hk, hk.2⟩ : _ ∧ k_ ≠ gb119))) (fun _ hk => hk.2) (.int .i64 ((rd_T108 x115000_1 x14_1).f0))) (fun _ hk => hk.2) (.int .i64 ((rd_T108 x115000_1 x14_1).f1))) (fun _ hk => hk.2) (.int .i64 ((rd_T108 x115000_1 x14_1).f2))) (fun _ hk => hk.2) (.bool false)) (fun _ h_ => h_.1)))) k_ hk, Kd.freshB (g := gb119) (o := .cells #[.int .i64 ((rd_T108 x115000_1 x14_1).f0), .int .i64 ((rd_T108 x115000_1 x14_1).f1), .int .i64 ((rd_T108 x115000_1 x14_1).f2), .bool false] 108 (0, 0)) (by (with_reducible repeat (first | refine blk_drewN ?_ _ | refine blk_drew ?_ | refine blk_alloc ?_ _)); refine blk_put (cs := #[.int .i64 ((rd_T108 x115000_1 x14_1).f0), .int .i64 ((rd_T108 x115000_1 x14_1).f1), .int .i64 ((rd_T108 x115000_1 x14_1).f2), .bool false]) ?_ 3 _ rfl; (with_reducible repeat (first | refine blk_drewN ?_ _ | refine blk_drew ?_ | refine blk_alloc ?_ _)); refine blk_put (cs := #[.int .i64 ((rd_T108 x115000_1 x14_1).f0), .int .i64 ((rd_T108 x115000_1 x14_1).f1), .int .i64 0, .bool false]) ?_ 2 _ rfl; (with_reducible repeat (first | refine blk_drewN ?_ _ | refine blk_drew ?_ | refine blk_alloc ?_ _)); refine blk_put (cs := #[.int .i64 ((rd_T108 x115000_1 x14_1).f0), .int .i64 0, .int .i64 0, .bool false]) ?_ 1 _ rfl; (with_reducible repeat (first | refine blk_drewN ?_ _ | refine blk_drew ?_ | refine blk_alloc ?_ _)); refine blk_put (cs := #[.int .i64 0, .int .i64 0, .int .i64 0, .bool false]) ?_ 0 _ rfl; (with_reducible repeat (first | refine blk_drewN ?_ _ | refine blk_drew ?_ | refine blk_alloc ?_ _)); exact BK119.out) k_ hk⟩)); (case aO => exact (by (with_reducible repeat (first | apply Kd.R_alloc | apply Kd.R_drewN | apply Kd.R_drew)); exact Kd.R_mono (Kd.R_far (p := ⟨gb119, 3, none⟩) (Kd.R_far (p := ⟨gb119, 2, none⟩) (Kd.R_far (p := ⟨gb119, 1, none⟩) (Kd.R_far (p := ⟨gb119, 0, none⟩) (Kd.R_mono HO_5.out (fun k_ hk => (⟨hk, hk.2⟩ : _ ∧ k_ ≠ gb119))) (fun _ hk => hk.2) (.int .i64 ((rd_T108 x115000_1 x14_1).f0))) (fun _ hk => hk.2) (.int .i64 ((rd_T108 x115000_1 x14_1).f1))) (fun _ hk => hk.2) (.int .i64 ((rd_T108 x115000_1 x14_1).f2))) (fun _ hk => hk.2) (.bool false)) (fun _ hk => ⟨hk.1.1, hk.1.2⟩))); (case aS => exact (below_size tB)); (case aL => have := LMc34.out; omega); intro v122 w41 ho hb hg hat; rw [← Ny121.out] at ho; replace HO_115000 := Aside0.mk (Kd.R_after (ok := (fun k_ => k_ ≠ gb119)) (by (with_reducible repeat (first | apply Kd.R_alloc | apply Kd.R_drewN | apply Kd.R_drew)); exact Kd.R_mono (Kd.R_far (p := ⟨gb119, 3, none⟩) (Kd.R_far (p := ⟨gb119, 2, none⟩) (Kd.R_far (p := ⟨gb119, 1, none⟩) (Kd.R_far (p := ⟨gb119, 0, none⟩) (Kd.R_mono HO_115000.out (fun k_ hk => (⟨hk, hk.2⟩ : _ ∧ k_ ≠ gb119))) (fun _ hk => hk.2) (.int .i64 ((rd_T108 x115000_1 x14_1).f0))) (fun _ hk => hk.2) (.int .i64 ((rd_T108 x115000_1 x14_1).f1))) (fun _ hk => hk.2) (.int .i64 ((rd_T108 x115000_1 x14_1).f2))) (fun _ hk => hk.2) (.bool false)) (fun _ hk => ⟨hk.1.2, hk.1.1⟩)) hg hat); replace BK109 := Aside0.mk (blk_grown (g := gb109) (o := .cells #[.slice A0_0 l0_0.length c0_0] 65 (0, 0)) (kF NB109_119 BK109) hg (Kd.R_ne HO_5.out BK109.out (by decide))); replace BK110 := Aside0.mk (blk_grown (g := gb110) (o := .cells #[.slice none 0 0] 65 (0, 0)) (kF NB110_119 BK110) hg (Kd.R_ne HO_5.out BK110.out (by decide))); replace BK114 := Aside0.mk (blk_grown (g := gb114) (o := .cells #[.slice (some ad118) x115000_1.length co9] 65 (0, 0)) (kF NB114_119 BK114) hg (Kd.R_ne HO_5.out BK114.out (by decide))); replace BK119 := Aside0.mk (blk_grown (g := gb119) (o := .cells #[.int .i64 ((rd_T108 x115000_1 x14_1).f0), .int .i64 ((rd_T108 x115000_1 x14_1).f1), .int .i64 ((rd_T108 x115000_1 x14_1).f2), .bool false] 108 (0, 0)) (by (with_reducible repeat (first | refine blk_drewN ?_ _ | refine blk_drew ?_ | refine blk_alloc ?_ _)); refine blk_put (cs := #[.int .i64 ((rd_T108 x115000_1 x14_1).f0), .int .i64 ((rd_T108 x115000_1 x14_1).f1), .int .i64 ((rd_T108 x115000_1 x14_1).f2), .bool false]) ?_ 3 _ rfl; (with_reducible repeat (first | refine blk_drewN ?_ _ | refine blk_drew ?_ | refine blk_alloc ?_ _)); refine blk_put (cs := #[.int .i64 ((rd_T108 x115000_1 x14_1).f0), .int .i64 ((rd_T108 x115000_1 x14_1).f1), .int .i64 0, .bool false]) ?_ 2 _ rfl; (with_reducible repeat (first | refine blk_drewN ?_ _ | refine blk_drew ?_ | refine blk_alloc ?_ _)); refine blk_put (cs := #[.int .i64 ((rd_T108 x115000_1 x14_1).f0), .int .i64 0, .int .i64 0, .bool false]) ?_ 1 _ rfl; (with_reducible repeat (first | refine blk_drewN ?_ _ | refine blk_drew ?_ | refine blk_alloc ?_ _)); refine blk_put (cs := #[.int .i64 0, .int .i64 0, .int .i64 0, .bool false]) ?_ 0 _ rfl; (with_reducible repeat (first | refine blk_drewN ?_ _ | refine blk_drew ?_ | refine blk_alloc ?_ _)); exact BK119.out) hg (Kd.R_away HO_5.out (fun _ hk => hk.2))); replace HB := Aside0.mk (hb); have HO123 := Aside0.mk (ho); clear HO_5; clear ho hb hg hat; have hnb42 := NB114_109.out; have hnc42 := NB109_114.out; have hnb43 := NB114_110.out; have hnc43 := NB110_114.out; obtain ⟨hcz44_0, hfz44_0⟩ := bc1 BK114.out; have p35 : 0 ≤ (x14_1 : Int) := of_decide_eq_true tA; have q35 : (x14_1 : Int) < ((x115000_1.length : Int) : Int) := of_decide_eq_true tA; obtain ⟨go35, co35, eo35, gb35, gl35, cl35, HG35⟩ := Kd.R_form HO_115000.out (by omega); (first | cases eo35 | (injection eo35 with ea_ en_ ec_; (first | subst ea_ | (injection ea_ with ea_; subst ea_)); subst ec_; clear en_)); have GB35 := Aside0.mk gb35; have GG35 := Aside0.mk HG35; clear gb35 gl35 HG35; (first | simp only [add_plain] at hx118_0 | skip); (first | simp only [add_plain] at hx118_1 | skip); (first | simp only [add_plain] at hx118_2 | skip); (first | simp only [add_plain] at hx118_3 | skip); obtain ⟨ce35, hcl35, hM35, hcc35, hfr35⟩ := Kd.R_elem HO_115000.out z108 (x14_1 : Int) p35 q35; obtain rfl := k108_openM hM35; have hx35_0 : w41.cell? ⟨go35, (x14_1 : Int).toNat * 4, none⟩ = some (.int .i64 ((rd_T108 x115000_1 x14_1).f0)) := hcc35 0 _ rfl; have hx35_1 : w41.cell? ⟨go35, (x14_1 : Int).toNat * 4 + 1, none⟩ = some (.int .i64 ((rd_T108 x115000_1 x14_1).f1)) := hcc35 1 _ rfl; have hx35_2 : w41.cell? ⟨go35, (x14_1 : Int).toNat * 4 + 2, none⟩ = some (.int .i64 ((rd_T108 x115000_1 x14_1).f2)) := hcc35 2 _ rfl; have hx35_3 : w41.cell? ⟨go35, (x14_1 : Int).toNat * 4 + 3, none⟩ = some (.bool ((rd_T108 x115000_1 x14_1).f3)) := hcc35 3 _ rfl; have hf35_0 : w41.frozen? ⟨go35, (x14_1 : Int).toNat * 4, none⟩ = false := hfr35 0; have hf35_1 : w41.frozen? ⟨go35, (x14_1 : Int).toNat * 4 + 1, none⟩ = false := hfr35 1; have hf35_2 : w41.frozen? ⟨go35, (x14_1 : Int).toNat * 4 + 2, none⟩ = false := hfr35 2; have hf35_3 : w41.frozen? ⟨go35, (x14_1 : Int).toNat * 4 + 3, none⟩ = false := hfr35 3; clear hcl35 hcc35 hfr35 hM35; replace p35 := eq_true p35; replace q35 := eq_true q35; have HX45 := Aside0.mk (show Kd.R k108 108 w41 w.heap.size (fun k_ => some k_ ≠ (v122 : Value).ownBlock ∧ k_ ≠ gb119) (.slice (some ⟨go35, 0, none⟩) x115000_1.length co9) x115000_1 from (by (with_reducible repeat (first | apply Kd.R_alloc | apply Kd.R_drewN | apply Kd.R_drew)); exact Kd.R_mono HO_115000.out (fun _ hk => ⟨hk.2, hk.1⟩))); obtain ⟨ce45, hcl45, hM45, hcc45, hfr45⟩ := Kd.R_elem HX45.out z108 (x14_1 : Int) (of_decide_eq_true tA) (by have h_ : (x14_1 : Int) < ((x115000_1.length : Int) : Int) := of_decide_eq_true tA; first | exact h_ | (have e_ := (Kd.R_reads' HO_115000.out).1; omega) | simpa using h_); obtain rfl := k108_openM hM45; have HP45 := Kd.R_seg HX45.out (x14_1 : Int) (of_decide_eq_true tA) (by have h_ : (x14_1 : Int) < ((x115000_1.length : Int) : Int) := of_decide_eq_true tA; first | exact h_ | (have e_ := (Kd.R_reads' HO_115000.out).1; omega) | simpa using h_) (seg := [.bool true]) (j := 3) hcl45 hcc45 (show 4 ≤ 4 from by decide) (x' := (⟨(rd_T108 x115000_1 x14_1).f0, (rd_T108 x115000_1 x14_1).f1, (rd_T108 x115000_1 x14_1).f2, true⟩ : S108)) (k108_mkM _ _ _ (⟨(rd_T108 x115000_1 x14_1).f0, (rd_T108 x115000_1 x14_1).f1, (rd_T108 x115000_1 x14_1).f2, true⟩ : S108) ) (fun _ hk => hk); have hx45_3 := hcc45 3 _ rfl; (try simp only [show (k108).sz = 4 from rfl, Nat.mul_one, Nat.add_zero] at hx45_3); have hf45_3 := hfr45 3; (try simp only [show (k108).sz = 4 from rfl, Nat.mul_one, Nat.add_zero] at hf45_3); clear hcl45 hcc45 hfr45 hM45) | ((with_reducible refine gate_store (t := 4) (p := 30) rfl ?_); refine store_event (t := 4) (p := 30) (v := ?vo_w46) (w1 := (w41.setCell ⟨go35, (x14_1 : Int).toNat * 4 + 3, none⟩ (.bool true))) ?hg ?ho ?hn ?hr ?_; (case ho => rfl); (case hg => rfl); (case hn => rfl); (case hr => first | (go_simp; done) | (go_simp; rfl)); intro w46 hw; have hg : w41.grownBy w46 (some go35) := (by rw [hw]; exact HP45.2); have hp_ : Kd.R k108 108 w46 w.heap.size (fun k_ => some k_ ≠ (v122 : Value).ownBlock ∧ k_ ≠ gb119) (.slice (some ⟨go35, 0, none⟩) x115000_1.length co9) y124 := (by rw [hw, Ny124.out]; exact HP45.1); clear HP45; replace BK109 := Aside0.mk (blk_grown (g := gb109) (o := .cells #[.slice A0_0 l0_0.length c0_0] 65 (0, 0)) (tK BK109) hg (Kd.R_ne HO_115000.out BK109.out (by decide))); replace BK110 := Aside0.mk (blk_grown (g := gb110) (o := .cells #[.slice none 0 0] 65 (0, 0)) (tK BK110) hg (Kd.R_ne HO_115000.out BK110.out (by decide))); replace BK114 := Aside0.mk (blk_grown (g := gb114) (o := .cells #[.slice (some ⟨go35, 0, none⟩) x115000_1.length co9] 65 (0, 0)) (tK BK114) hg (Kd.R_ne HO_115000.out BK114.out (by decide))); replace BK119 := Aside0.mk (blk_grown (g := gb119) (o := .cells #[.int .i64 ((rd_T108 x115000_1 x14_1).f0), .int .i64 ((rd_T108 x115000_1 x14_1).f1), .int .i64 ((rd_T108 x115000_1 x14_1).f2), .bool false] 108 (0, 0)) (tK BK119) hg (Kd.R_away HO_115000.out (fun _ hk => hk.1))); replace HO_115000 := Aside0.mk (hp_); replace HO123 := Aside0.mk (Kd.R_after (v := (.slice (some ⟨go35, 0, none⟩) x115000_1.length co9)) (v1 := (.slice (some ⟨go35, 0, none⟩) x115000_1.length co9)) (ok := (fun k_ => k_ ≠ gb119)) (by (with_reducible repeat (first | apply Kd.R_alloc | apply Kd.R_drewN | apply Kd.R_drew)); exact Kd.R_mono HO123.out (fun _ hk => ⟨hk.2, hk.1⟩)) hg (.inl rfl)); replace HB := Aside0.mk ((by rw [hw]; exact below_set (HB.out) GB35.out : Below w.heap.size w w46)); clear hg hw hp_))
       (try simp only [← hl115000_1])
       go_roundg k1
       case measure => have := HK1.out; omega
       case rel => exact ⟨(y121), (wrap64 (x14_1 + 1)), (y124), tS, H', ⟨tI⟩, ⟨by (try simp only [hl115000_1]); (with_reducible repeat (first | apply Kd.R_alloc | apply Kd.R_drewN | apply Kd.R_drew)); exact Kd.R_mono HO123.out (fun _ hk => hk.2)⟩, ⟨by (try simp only [hl115000_1]); (with_reducible repeat (first | apply Kd.R_alloc | apply Kd.R_drewN | apply Kd.R_drew)); exact Kd.R_mono HO_115000.out (fun _ hk => hk.1)⟩, ⟨by (try simp only [hl115000_1]); (with_reducible repeat (first | refine blk_drewN ?_ _ | refine blk_drew ?_ | refine blk_alloc ?_ _)); exact BK109.out⟩, ⟨by (try simp only [hl115000_1]); (with_reducible repeat (first | refine blk_drewN ?_ _ | refine blk_drew ?_ | refine blk_alloc ?_ _)); exact BK110.out⟩, ⟨by (try simp only [hl115000_1]); (with_reducible repeat (first | refine blk_drewN ?_ _ | refine blk_drew ?_ | refine blk_alloc ?_ _)); exact BK114.out⟩, ⟨tB⟩⟩
      rw [if_neg c34] at H
      exact absurd H (by simp)
     rw [if_neg c18] at H
     exact absurd H (by simp)
    rw [if_neg c17] at H
    exact absurd H (by simp)
   rw [if_neg c16] at H
   have c16b0 : decide (x14_1 < (t111.length : Int)) = false := decide_eq_false c16
   try simp only [hl115000_1] at c16b0
   clear c16
   simp only [Option.some.injEq, Prod.mk.injEq] at H
   obtain ⟨rfl, rfl⟩ := H
   have hnb47 := NB114_109.out
   have hnc47 := NB109_114.out
   have hnb48 := NB114_110.out
   have hnc48 := NB110_114.out
   obtain ⟨hcz49_0, hfz49_0⟩ := bc1 BK114.out
   have hnb50 := NB110_109.out
   have hnc50 := NB109_110.out
   obtain ⟨hcz51_0, hfz51_0⟩ := bc1 BK110.out
   go_wp2
   refine bodyPost_ret (results_ct rfl _ _ gb110 65 #[.slice Ao9 x115000_1.length co9] (0, 0) _ rfl (by (with_reducible repeat (first | refine blk_drewN ?_ _ | refine blk_drew ?_ | refine blk_alloc ?_ _)); refine blk_put (cs := #[.slice none 0 0]) ?_ 0 _ rfl; (with_reducible repeat (first | refine blk_drewN ?_ _ | refine blk_drew ?_ | refine blk_alloc ?_ _)); exact BK110.out) Try.underlying65 rfl (by kernel_rfl)) rfl ?_
   exact ⟨_, _, tE, by (with_reducible repeat (first | apply Kd.R_alloc | apply Kd.R_drewN | apply Kd.R_drew)); exact Kd.R_mono (Kd.R_far (p := ⟨gb110, 0, none⟩) (Kd.R_types HO_115000.out BK110.out (by decide)) (fun _ hk => hk.2) (.slice Ao9 x115000_1.length co9)) (fun _ hk => hk.1), by (with_reducible repeat (first | apply Kd.R_alloc | apply Kd.R_drewN | apply Kd.R_drew)); exact Kd.R_mono (Kd.R_far (p := ⟨gb110, 0, none⟩) (Kd.R_types HO_5.out BK110.out (by decide)) (fun _ hk => hk.2) (.slice Ao9 x115000_1.length co9)) (fun _ hk => hk.1), tB⟩

/-! ### spec_l31Copy: function 93 -/
def spec_l31Copy.f (l0_0 : List (S108)) : Option ((List (S108))) := (some (([] : List (S108)) : List (S108))).bind fun y127 => (if y127.length + l0_0.length < 4398046511104 then (some (y127 ++ l0_0)) else (none))
set_option maxHeartbeats 8000000 in
set_option maxRecDepth 100000 in
theorem spec_l31Copy.calls (A0_0 : Option Addr) (c0_0 : Nat) (l0_0 : List (S108)) (r : List (S108)) (w : World) (hr0_0 : Kd.C k108 w A0_0 l0_0.length l0_0) (hc0_0 : l0_0.length ≤ c0_0) (h : spec_l31Copy.f l0_0 = some r) :
  Calls Try.prog 93 #[.agg #[.slice A0_0 l0_0.length c0_0]] w fun e w' => ∃ v0_ : Value, e = .returned (.agg #[v0_]) ∧ Kd.R k108 108 w' w.heap.size (fun _ => True) v0_ r ∧ Below w.heap.size w w' := by
 have hu65 := Try.underlying65
 have HR0_0 := Aside0.mk hr0_0
 have HC0_0 := Aside0.mk hc0_0
 clear hr0_0 hc0_0
 have HB := Aside0.mk (Below.refl w.heap.size w)
 have H : ((some (([] : List (S108)) : List (S108))).bind fun y127 => (if y127.length + l0_0.length < 4398046511104 then (some (y127 ++ l0_0)) else (none))) = some r := h
 clear h
 obtain ⟨y127, hy127⟩ : ∃ y_ : List (S108), y_ = (([] : List (S108))) := ⟨_, rfl⟩
 replace H : (if y127.length + l0_0.length < 4398046511104 then (some (y127 ++ l0_0)) else (none)) = some r := by first | (rw [hy127]; with_reducible exact H) | (have H2_ := (Option.bind_some _ _).symm.trans H; rw [hy127]; with_reducible exact H2_) | (have H2_ := (Option.bind_some _ _).symm.trans H; with_reducible exact H2_) | with_reducible exact H | (rw [hy127]; exact H) | exact H
 have Ny127 := Aside0.mk hy127
 clear hy127
 by_cases c2 : y127.length + l0_0.length < 4398046511104
 ·rw [if_pos c2] at H
  have LMc2 := Aside0.mk c2
  clear c2
  obtain ⟨y130, hy130⟩ : ∃ y_ : List (S108), y_ = (y127 ++ l0_0) := ⟨_, rfl⟩
  replace H : (some y130) = some r := by first | (rw [hy130]; with_reducible exact H) | (have H2_ := (Option.bind_some _ _).symm.trans H; rw [hy130]; with_reducible exact H2_) | (have H2_ := (Option.bind_some _ _).symm.trans H; with_reducible exact H2_) | with_reducible exact H | (rw [hy130]; exact H) | exact H
  have Ny130 := Aside0.mk hy130
  clear hy130
  obtain rfl := Option.some.inj H
  go_enter Try.func93, Try.ntmps93
  go_wp2_with (first | ((with_reducible refine gate_dst (N := 1) rfl ?_); refine box_event ?hg (N := 1) ?hd (cs := #[.slice A0_0 l0_0.length c0_0]) (t := 65) ?hr ?_; (case hd => rfl); (case hg => rfl); (case hr => exact tG); intro gb125 hg w3 hbox hb; have BK125 := Aside0.mk (hbox); have GW125 := gW HB hg; have GE125 := gW HB hg; replace HB := bH HB hb; clear hb hbox hg) | ((with_reducible refine gate_dst (N := 2) rfl ?_); refine box_event ?hg (N := 2) ?hd (cs := #[.slice none 0 0]) (t := 65) ?hr ?_; (case hd => rfl); (case hg => rfl); (case hr => exact tG); intro gb126 hg w4 hbox hb; have BK126 := Aside0.mk (hbox); have GW126 := gW HB hg; have GE126 := gW HB hg; replace HB := bH HB hb; have NB125_126 := nL BK125 hg; have NB126_125 := nR BK125 hg; replace BK125 := bB BK125 hb; clear hb hbox hg) | ((with_reducible refine gate_dst (N := 3) rfl ?_); refine Kd.R_lit k108 _ 108 ?hg (N := 3) ?hd (xs := ([] : List (S108))) (inner := []) (ok := fun _ => True) (okp := fun _ => True) ?hr ?hp (fun _ hk => hk) trivial (Below.refl _ _) (Nat.le_refl _) (by simp) ?_; (case hd => rfl); (case hg => rfl); (case hr => exact tG); (case hp => exact (Reps.none _ _)); intro v128 w5 ho6 hb hg_ hnew_; clear hg_ hnew_; (first | rw [← Ny127.out] at ho6 | (simp only [Int.reduceToNat] at ho6; rw [← Ny127.out] at ho6)); have HO129 := Aside0.mk (Kd.R_lower ho6 (below_size tB)); replace BK125 := bB BK125 hb; replace BK126 := bB BK126 hb; replace HB := bH HB hb; clear hb ho6; have hnb7 := NB125_126.out; have hnc7 := NB126_125.out; obtain ⟨hcz8_0, hfz8_0⟩ := bc1 BK125.out) | ((with_reducible refine gate_builtin (b := .append) (xs := #[.tmp 3, .tmp 5]) rfl ?_); at_builtin; refine Kd.R_append_rows k108 (w0 := w) w.heap.size rfl (.tmp 3) (.tmp 5) 63 108 (.agg #[(.int .i64 0), (.int .i64 0), (.int .i64 0), (.bool false)]) 32 rfl Try.underlying63 info108 rfl (by decide) (by omega) v128 y127 l0_0 _ _ _ (fun _ => True) (fun _ => False) rfl rfl ?aO ?aR (fun _ _ h => h) (fun _ h => h.elim) ?aF ?aB ?aS ?aL ?_; (case aR => repeat (first | exact (Kd.C_below HR0_0.out HB.out) | (with_reducible refine Kd.C_alloc ?_ _) | (with_reducible refine Kd.C_drewN ?_ _) | (with_reducible refine Kd.C_drew ?_))); (case aB => exact tB); (case aF => exact (fun _ _ => trivial)); (case aO => exact (tR HO129)); (case aS => exact (below_size tB)); (case aL => have := LMc2.out; omega); intro v131 w9 ho hb hg hat; rw [← Ny130.out] at ho; replace BK125 := Aside0.mk (blk_grown (g := gb125) (o := .cells #[.slice A0_0 l0_0.length c0_0] 65 (0, 0)) (tK BK125) hg (Kd.R_ne HO129.out BK125.out (by decide))); replace BK126 := Aside0.mk (blk_grown (g := gb126) (o := .cells #[.slice none 0 0] 65 (0, 0)) (tK BK126) hg (Kd.R_ne HO129.out BK126.out (by decide))); replace HB := Aside0.mk (hb); have HO132 := Aside0.mk (ho); clear HO129; clear ho hb hg hat; obtain ⟨Ao10, co10, eo10⟩ := Kd.R_slice HO132.out; subst eo10; obtain ⟨hcz11_0, hfz11_0⟩ := bc1 BK126.out))
  refine bodyPost_ret (results_cell_row rfl _ _ gb126 65 #[.slice Ao10 y130.length co10] (0, 0) _ rfl (by (with_reducible repeat (first | refine blk_drewN ?_ _ | refine blk_drew ?_ | refine blk_alloc ?_ _)); refine blk_put (cs := #[.slice none 0 0]) ?_ 0 _ rfl; (with_reducible repeat (first | refine blk_drewN ?_ _ | refine blk_drew ?_ | refine blk_alloc ?_ _)); exact BK126.out) Try.underlying65 rfl (by kernel_rfl)) rfl ?_
  exact ⟨_, tE, by (with_reducible repeat (first | apply Kd.R_alloc | apply Kd.R_drewN | apply Kd.R_drew)); exact Kd.R_mono (Kd.R_far (p := ⟨gb126, 0, none⟩) (Kd.R_types HO132.out BK126.out (by decide)) (fun _ hk => hk.2) (.slice Ao10 y130.length co10)) (fun _ hk => trivial), tB⟩
 rw [if_neg c2] at H
 exact absurd H (by simp)

/-! ### spec_l1In: function 86 -/
def spec_l1In.f (a0 : Int) (a1 : Int) (a2 : Int) : Option (Bool) := if a0 ≥ a1 then (some (decide (a0 ≤ a2))) else (some false)
set_option maxHeartbeats 8000000 in
set_option maxRecDepth 100000 in
theorem spec_l1In.calls (a0 : Int) (a1 : Int) (a2 : Int) (r : Bool) (w : World) (h : spec_l1In.f a0 a1 a2 = some r) :
  Calls Try.prog 86 #[.int .i64 a0, .int .i64 a1, .int .i64 a2] w fun e w' => e = .returned (.bool r) ∧ Drawn0 w w' := by
 have H : (if a0 ≥ a1 then (some (decide (a0 ≤ a2))) else (some false)) = some r := h
 clear h
 by_cases c4 : a0 ≥ a1
 ·rw [if_pos c4] at H
  have c4b0 : decide (a1 ≤ a0) = true := decide_eq_true c4
  clear c4
  obtain rfl := Option.some.inj H
  go_enter Try.func86, Try.ntmps86
  go_wp2
  go_ret
  exact ⟨tS, by repeat (first | exact Drawn0.refl _ | apply Drawn0.step)⟩
 rw [if_neg c4] at H
 have c4b0 : decide (a1 ≤ a0) = false := decide_eq_false c4
 clear c4
 obtain rfl := Option.some.inj H
 go_enter Try.func86, Try.ntmps86
 go_wp2
 go_ret
 exact ⟨tS, by repeat (first | exact Drawn0.refl _ | apply Drawn0.step)⟩

/-! ### spec_IsValidMailbox: function 102 -/
def spec_IsValidMailbox.l0 : Nat → Int → List (S108) → Option (Bool)
 | 0, _, _ => none
 | k + 1, x3, x134000 => if x3 < (x134000.length : Int) then (if 0 ≤ x3 then ((spec_l1In.f ((rd_T108 x134000 x3).f0) 1 5).bind fun t136 => (if t136 = true then ((spec_l1In.f ((rd_T108 x134000 x3).f1) 0 1000000).bind fun t137 => (if t137 = true then ((spec_l1In.f ((rd_T108 x134000 x3).f2) 0 1000000).bind fun t138 => (if t138 = true then (if x3 > 0 then (if 0 ≤ (wrap64 (x3 - 1)) then (if (wrap64 (x3 - 1)) < (x134000.length : Int) then (if ((rd_T108 x134000 (wrap64 (x3 - 1))).f2) > ((rd_T108 x134000 x3).f2) then (some false) else (spec_IsValidMailbox.l0 k (wrap64 (x3 + 1)) x134000)) else (none)) else (none)) else (spec_IsValidMailbox.l0 k (wrap64 (x3 + 1)) x134000)) else (some false))) else (some false))) else (some false))) else (none)) else (some (decide ((x134000.length : Int) ≤ 30)))
def spec_IsValidMailbox.f (k : Nat) (l0_0 : List (S108)) : Option (Bool) := spec_IsValidMailbox.l0 k 0 l0_0
theorem spec_IsValidMailbox.mono_l : ∀ k, (∀ y0 y1, LeO (spec_IsValidMailbox.l0 k y0 y1) (spec_IsValidMailbox.l0 (k + 1) y0 y1))
 | 0 => fun _ _ r h => by simp [spec_IsValidMailbox.l0] at h
 | k + 1 => by
  have ih0 := spec_IsValidMailbox.mono_l k
  ·intro y0 y1
   unfold spec_IsValidMailbox.l0
   repeat' first
   | (with_reducible exact ih0 _ _)
   | (with_reducible exact LeO.refl _)
   | (with_reducible exact LeO.none _)
   | (with_reducible refine LeO.ite ?_ ?_)
   | (with_reducible refine LeO.bind ?_ (fun _ => ?_))
   | exact ih0 _ _
   | exact LeO.none _
   | refine LeO.ite ?_ ?_
   | refine LeO.bind ?_ (fun _ => ?_)
theorem spec_IsValidMailbox.mono : ∀ a0 k, LeO (spec_IsValidMailbox.f k a0) (spec_IsValidMailbox.f (k + 1) a0) := by
 intro a0 k
 have ih0 := spec_IsValidMailbox.mono_l k
 unfold spec_IsValidMailbox.f
 repeat' first
   | (with_reducible exact ih0 _ _)
   | (with_reducible exact LeO.refl _)
   | (with_reducible exact LeO.none _)
   | (with_reducible refine LeO.ite ?_ ?_)
   | (with_reducible refine LeO.bind ?_ (fun _ => ?_))
   | exact ih0 _ _
   | exact LeO.none _
   | refine LeO.ite ?_ ?_
   | refine LeO.bind ?_ (fun _ => ?_)
set_option maxHeartbeats 8000000 in
set_option maxRecDepth 100000 in
theorem spec_IsValidMailbox.calls (k : Nat) (A0_0 : Option Addr) (c0_0 : Nat) (l0_0 : List (S108)) (r : Bool) (w : World) (hr0_0 : Kd.C k108 w A0_0 l0_0.length l0_0) (hc0_0 : l0_0.length ≤ c0_0) (h : spec_IsValidMailbox.f k l0_0 = some r) :
  Calls Try.prog 102 #[.agg #[.slice A0_0 l0_0.length c0_0]] w fun e w' => e = .returned (.bool r) ∧ Below w.heap.size w w' := by
 have hu65 := Try.underlying65
 have hu108 := Try.underlying108
 have HR0_0 := Aside0.mk hr0_0
 have HC0_0 := Aside0.mk hc0_0
 clear hr0_0 hc0_0
 have HB := Aside0.mk (Below.refl w.heap.size w)
 have H : (spec_IsValidMailbox.l0 k 0 l0_0) = some r := h
 clear h
 have H' := Aside0.mk H
 clear H
 go_enter Try.func102, Try.ntmps102
 go_wp2_with (first | ((with_reducible refine gate_dst (N := 1) rfl ?_); refine box_event ?hg (N := 1) ?hd (cs := #[.slice A0_0 l0_0.length c0_0]) (t := 65) ?hr ?_; (case hd => rfl); (case hg => rfl); (case hr => exact tG); intro gb133 hg w2 hbox hb; have BK133 := Aside0.mk (hbox); have GW133 := gW HB hg; have GE133 := gW HB hg; replace HB := bH HB hb; clear hb hbox hg))
 repeat (go_quiet (first | ((with_reducible refine gate_dst (N := 1) rfl ?_); refine box_event ?hg (N := 1) ?hd (cs := #[.slice A0_0 l0_0.length c0_0]) (t := 65) ?hr ?_; (case hd => rfl); (case hg => rfl); (case hr => exact tG); intro gb133 hg w2 hbox hb; have BK133 := Aside0.mk (hbox); have GW133 := gW HB hg; have GE133 := gW HB hg; replace HB := bH HB hb; clear hb hbox hg)); try go_wp2_with (first | ((with_reducible refine gate_dst (N := 1) rfl ?_); refine box_event ?hg (N := 1) ?hd (cs := #[.slice A0_0 l0_0.length c0_0]) (t := 65) ?hr ?_; (case hd => rfl); (case hg => rfl); (case hr => exact tG); intro gb133 hg w2 hbox hb; have BK133 := Aside0.mk (hbox); have GW133 := gW HB hg; have GE133 := gW HB hg; replace HB := bH HB hb; clear hb hbox hg)))
 go_loopg [3] k (fun kq v3 w' => ∃ (x3_1 : Int), v3 = .int .i64 x3_1 ∧ Aside0 (spec_IsValidMailbox.l0 kq x3_1 l0_0 = some r) ∧ Aside0 (kq ≤ k) ∧ Aside0 (w'.heap[gb133]? = some (.cells #[(.slice A0_0 l0_0.length c0_0)] 65 (0, 0))) ∧ Aside0 (Below w.heap.size w w'))
 case atStart => exact ⟨(0), tS, H', ⟨Nat.le_refl _⟩, ⟨tK BK133⟩, ⟨tB⟩⟩
 case round =>
  clear H'
  try clear c1
  try clear p2
  obtain ⟨x3_1, rfl, HA, HK1, BK133, HB⟩ := hrel
  cases gk with
  | zero => exact absurd HA.out (by simp [spec_IsValidMailbox.l0])
  | succ k1 =>
   have H := HA.out
   clear HA
   simp only [spec_IsValidMailbox.l0] at H
   by_cases c3 : x3_1 < (l0_0.length : Int)
   ·rw [if_pos c3] at H
    have c3b0 : decide (x3_1 < (l0_0.length : Int)) = true := decide_eq_true c3
    clear c3
    by_cases c4 : 0 ≤ x3_1
    ·rw [if_pos c4] at H
     have c4b0 : decide (0 ≤ x3_1) = true := decide_eq_true c4
     clear c4
     replace H := Option.bind_eq_some_iff.mp H
     obtain ⟨t136, A50, H⟩ := H
     try dsimp only at H
     have A5 := Aside0.mk A50
     clear A50
     by_cases c6 : t136 = true
     ·subst c6
      have H1 : ((spec_l1In.f ((rd_T108 l0_0 x3_1).f1) 0 1000000).bind fun t137 => (if t137 = true then ((spec_l1In.f ((rd_T108 l0_0 x3_1).f2) 0 1000000).bind fun t138 => (if t138 = true then (if x3_1 > 0 then (if 0 ≤ (wrap64 (x3_1 - 1)) then (if (wrap64 (x3_1 - 1)) < (l0_0.length : Int) then (if ((rd_T108 l0_0 (wrap64 (x3_1 - 1))).f2) > ((rd_T108 l0_0 x3_1).f2) then (some false) else (spec_IsValidMailbox.l0 k1 (wrap64 (x3_1 + 1)) l0_0)) else (none)) else (none)) else (spec_IsValidMailbox.l0 k1 (wrap64 (x3_1 + 1)) l0_0)) else (some false))) else (some false))) = some r := by rw [if_pos rfl] at H; exact H
      clear H
      have H := H1
      clear H1
      replace H := Option.bind_eq_some_iff.mp H
      obtain ⟨t137, A70, H⟩ := H
      try dsimp only at H
      have A7 := Aside0.mk A70
      clear A70
      by_cases c8 : t137 = true
      ·subst c8
       have H1 : ((spec_l1In.f ((rd_T108 l0_0 x3_1).f2) 0 1000000).bind fun t138 => (if t138 = true then (if x3_1 > 0 then (if 0 ≤ (wrap64 (x3_1 - 1)) then (if (wrap64 (x3_1 - 1)) < (l0_0.length : Int) then (if ((rd_T108 l0_0 (wrap64 (x3_1 - 1))).f2) > ((rd_T108 l0_0 x3_1).f2) then (some false) else (spec_IsValidMailbox.l0 k1 (wrap64 (x3_1 + 1)) l0_0)) else (none)) else (none)) else (spec_IsValidMailbox.l0 k1 (wrap64 (x3_1 + 1)) l0_0)) else (some false))) = some r := by rw [if_pos rfl] at H; exact H
       clear H
       have H := H1
       clear H1
       replace H := Option.bind_eq_some_iff.mp H
       obtain ⟨t138, A90, H⟩ := H
       try dsimp only at H
       have A9 := Aside0.mk A90
       clear A90
       by_cases c10 : t138 = true
       ·subst c10
        have H1 : (if x3_1 > 0 then (if 0 ≤ (wrap64 (x3_1 - 1)) then (if (wrap64 (x3_1 - 1)) < (l0_0.length : Int) then (if ((rd_T108 l0_0 (wrap64 (x3_1 - 1))).f2) > ((rd_T108 l0_0 x3_1).f2) then (some false) else (spec_IsValidMailbox.l0 k1 (wrap64 (x3_1 + 1)) l0_0)) else (none)) else (none)) else (spec_IsValidMailbox.l0 k1 (wrap64 (x3_1 + 1)) l0_0)) = some r := by rw [if_pos rfl] at H; exact H
        clear H
        have H := H1
        clear H1
        by_cases c11 : x3_1 > 0
        ·rw [if_pos c11] at H
         have c11b0 : decide (0 < x3_1) = true := decide_eq_true c11
         clear c11
         obtain ⟨ji12, hji12⟩ : ∃ j_ : Int, (wrap64 (x3_1 - 1)) = j_ := ⟨_, rfl⟩
         replace H : (if 0 ≤ (ji12) then (if (ji12) < (l0_0.length : Int) then (if ((rd_T108 l0_0 (ji12)).f2) > ((rd_T108 l0_0 x3_1).f2) then (some false) else (spec_IsValidMailbox.l0 k1 (wrap64 (x3_1 + 1)) l0_0)) else (none)) else (none)) = some r := by first | (rw [hji12] at H; exact H) | (simp only [hji12] at H ⊢; exact H)
         (try rw [hji12] at A5)
         (try rw [hji12] at A7)
         (try rw [hji12] at A9)
         have hji12w : (IntKind.i64.wrap (x3_1 - 1)) = ji12 := (i64_w _).trans hji12
         by_cases c13 : 0 ≤ (ji12)
         ·rw [if_pos c13] at H
          have c13b0 : decide (0 ≤ (ji12)) = true := decide_eq_true c13
          clear c13
          by_cases c14 : (ji12) < (l0_0.length : Int)
          ·rw [if_pos c14] at H
           have c14b0 : decide ((ji12) < (l0_0.length : Int)) = true := decide_eq_true c14
           clear c14
           by_cases c15 : ((rd_T108 l0_0 (ji12)).f2) > ((rd_T108 l0_0 x3_1).f2)
           ·rw [if_pos c15] at H
            have c15b0 : decide (((rd_T108 l0_0 x3_1).f2) < ((rd_T108 l0_0 (ji12)).f2)) = true := decide_eq_true c15
            clear c15
            obtain rfl := Option.some.inj H
            obtain ⟨hcz16_0, hfz16_0⟩ := bc1 BK133.out
            have p134 : 0 ≤ (x3_1 : Int) := of_decide_eq_true tA
            have q134 : x3_1 < (l0_0.length : Int) := of_decide_eq_true tA
            obtain ⟨ad134, e134, hx134_0, hx134_1, hx134_2, hx134_3⟩ := at_T108 HR0_0.out x3_1 p134 q134
            cases e134
            replace hx134_0 := hbc HB hx134_0
            replace hx134_1 := hbc HB hx134_1
            replace hx134_2 := hbc HB hx134_2
            replace hx134_3 := hbc HB hx134_3
            replace p134 := eq_true p134
            replace q134 := eq_true q134
            go_wp2_with (first | ((with_reducible refine gate_dst (N := 4) rfl ?_); refine box_event ?hg (N := 4) ?hd (cs := #[.int .i64 0, .int .i64 0, .int .i64 0, .bool false]) (t := 108) ?hr ?_; (case hd => rfl); (case hg => rfl); (case hr => exact tG); intro gb135 hg w17 hbox hb; have BK135 := Aside0.mk (hbox); have GW135 := gW HB hg; have GE135 := gW HB hg; replace HB := bH HB hb; have NB133_135 := nL BK133 hg; have NB135_133 := nR BK133 hg; replace BK133 := bB BK133 hb; clear hb hbox hg; have hnb18 := NB135_133.out; have hnc18 := NB133_135.out; obtain ⟨hcz19_0, hcz19_1, hcz19_2, hcz19_3, hfz19_0, hfz19_1, hfz19_2, hfz19_3⟩ := bc4 BK135.out) | (go_at_call 86; (with_reducible refine (spec_l1In.calls ((rd_T108 l0_0 x3_1).f0) 1 5 true _ A5.out).mono ?_); rintro e w' ⟨rfl, ⟨nd, rfl⟩⟩; (try exact tQ)) | (go_at_call 86; (with_reducible refine (spec_l1In.calls ((rd_T108 l0_0 x3_1).f1) 0 1000000 true _ A7.out).mono ?_); rintro e w' ⟨rfl, ⟨nd, rfl⟩⟩; (try exact tQ)) | (go_at_call 86; (with_reducible refine (spec_l1In.calls ((rd_T108 l0_0 x3_1).f2) 0 1000000 true _ A9.out).mono ?_); rintro e w' ⟨rfl, ⟨nd, rfl⟩⟩; (try exact tQ)))
            obtain ⟨hcz20_0, hfz20_0⟩ := bc1 BK133.out
            have p139 : 0 ≤ ((ji12) : Int) := of_decide_eq_true tA
            have q139 : (ji12) < (l0_0.length : Int) := of_decide_eq_true tA
            obtain ⟨ad139, e139, hx139_0, hx139_1, hx139_2, hx139_3⟩ := at_T108 HR0_0.out (ji12) p139 q139
            obtain rfl : ad134 = ad139 := (by injection e139)
            have hn139_0 : ad134.block ≠ gb135 := Nat.ne_of_lt (Nat.lt_of_lt_of_le (by have := World.block_lt_of_cell? _ _ hx139_0; first | rwa [add_block] at this | exact this) GW135.out)
            have hn139_1 : ad134.block ≠ gb135 := Nat.ne_of_lt (Nat.lt_of_lt_of_le (by have := World.block_lt_of_cell? _ _ hx139_0; first | rwa [add_block] at this | exact this) GW135.out)
            have hn139_2 : ad134.block ≠ gb135 := Nat.ne_of_lt (Nat.lt_of_lt_of_le (by have := World.block_lt_of_cell? _ _ hx139_0; first | rwa [add_block] at this | exact this) GW135.out)
            have hn139_3 : ad134.block ≠ gb135 := Nat.ne_of_lt (Nat.lt_of_lt_of_le (by have := World.block_lt_of_cell? _ _ hx139_0; first | rwa [add_block] at this | exact this) GW135.out)
            replace hx139_0 := hbc HB hx139_0
            replace hx139_1 := hbc HB hx139_1
            replace hx139_2 := hbc HB hx139_2
            replace hx139_3 := hbc HB hx139_3
            have F_ := @far4 gb135 (.int .i64 ((rd_T108 l0_0 x3_1).f0)) (.int .i64 ((rd_T108 l0_0 x3_1).f1)) (.int .i64 ((rd_T108 l0_0 x3_1).f2)) (.bool ((rd_T108 l0_0 x3_1).f3))
            replace hx139_0 := (F_ tF).trans hx139_0
            replace hx139_1 := (F_ tF).trans hx139_1
            replace hx139_2 := (F_ tF).trans hx139_2
            replace hx139_3 := (F_ tF).trans hx139_3
            clear F_
            clear hn139_0
            clear hn139_1
            clear hn139_2
            clear hn139_3
            replace p139 := eq_true p139
            replace q139 := eq_true q139
            repeat (go_quiet (first | ((with_reducible refine gate_dst (N := 4) rfl ?_); refine box_event ?hg (N := 4) ?hd (cs := #[.int .i64 0, .int .i64 0, .int .i64 0, .bool false]) (t := 108) ?hr ?_; (case hd => rfl); (case hg => rfl); (case hr => exact tG); intro gb135 hg w17 hbox hb; have BK135 := Aside0.mk (hbox); have GW135 := gW HB hg; have GE135 := gW HB hg; replace HB := bH HB hb; have NB133_135 := nL BK133 hg; have NB135_133 := nR BK133 hg; replace BK133 := bB BK133 hb; clear hb hbox hg; have hnb18 := NB135_133.out; have hnc18 := NB133_135.out; obtain ⟨hcz19_0, hcz19_1, hcz19_2, hcz19_3, hfz19_0, hfz19_1, hfz19_2, hfz19_3⟩ := bc4 BK135.out) | (go_at_call 86; (with_reducible refine (spec_l1In.calls ((rd_T108 l0_0 x3_1).f0) 1 5 true _ A5.out).mono ?_); rintro e w' ⟨rfl, ⟨nd, rfl⟩⟩; (try exact tQ)) | (go_at_call 86; (with_reducible refine (spec_l1In.calls ((rd_T108 l0_0 x3_1).f1) 0 1000000 true _ A7.out).mono ?_); rintro e w' ⟨rfl, ⟨nd, rfl⟩⟩; (try exact tQ)) | (go_at_call 86; (with_reducible refine (spec_l1In.calls ((rd_T108 l0_0 x3_1).f2) 0 1000000 true _ A9.out).mono ?_); rintro e w' ⟨rfl, ⟨nd, rfl⟩⟩; (try exact tQ))); try go_wp2_with (first | ((with_reducible refine gate_dst (N := 4) rfl ?_); refine box_event ?hg (N := 4) ?hd (cs := #[.int .i64 0, .int .i64 0, .int .i64 0, .bool false]) (t := 108) ?hr ?_; (case hd => rfl); (case hg => rfl); (case hr => exact tG); intro gb135 hg w17 hbox hb; have BK135 := Aside0.mk (hbox); have GW135 := gW HB hg; have GE135 := gW HB hg; replace HB := bH HB hb; have NB133_135 := nL BK133 hg; have NB135_133 := nR BK133 hg; replace BK133 := bB BK133 hb; clear hb hbox hg; have hnb18 := NB135_133.out; have hnc18 := NB133_135.out; obtain ⟨hcz19_0, hcz19_1, hcz19_2, hcz19_3, hfz19_0, hfz19_1, hfz19_2, hfz19_3⟩ := bc4 BK135.out) | (go_at_call 86; (with_reducible refine (spec_l1In.calls ((rd_T108 l0_0 x3_1).f0) 1 5 true _ A5.out).mono ?_); rintro e w' ⟨rfl, ⟨nd, rfl⟩⟩; (try exact tQ)) | (go_at_call 86; (with_reducible refine (spec_l1In.calls ((rd_T108 l0_0 x3_1).f1) 0 1000000 true _ A7.out).mono ?_); rintro e w' ⟨rfl, ⟨nd, rfl⟩⟩; (try exact tQ)) | (go_at_call 86; (with_reducible refine (spec_l1In.calls ((rd_T108 l0_0 x3_1).f2) 0 1000000 true _ A9.out).mono ?_); rintro e w' ⟨rfl, ⟨nd, rfl⟩⟩; (try exact tQ))))
            go_ret
            exact ⟨by first | rfl | (simp [errW_none, errW_some] <;> rfl) | (simp only [← hji12]; first | rfl | (simp [errW_none, errW_some] <;> rfl)) | (simp [*, errW_none, errW_some] <;> rfl), tB⟩
           rw [if_neg c15] at H
           have c15b0 : decide (((rd_T108 l0_0 x3_1).f2) < ((rd_T108 l0_0 (ji12)).f2)) = false := decide_eq_false c15
           clear c15
           have H' := Aside0.mk H
           clear H
           obtain ⟨hcz21_0, hfz21_0⟩ := bc1 BK133.out
           have p134 : 0 ≤ (x3_1 : Int) := of_decide_eq_true tA
           have q134 : x3_1 < (l0_0.length : Int) := of_decide_eq_true tA
           obtain ⟨ad134, e134, hx134_0, hx134_1, hx134_2, hx134_3⟩ := at_T108 HR0_0.out x3_1 p134 q134
           cases e134
           replace hx134_0 := hbc HB hx134_0
           replace hx134_1 := hbc HB hx134_1
           replace hx134_2 := hbc HB hx134_2
           replace hx134_3 := hbc HB hx134_3
           replace p134 := eq_true p134
           replace q134 := eq_true q134
           go_wp2_with (first | ((with_reducible refine gate_dst (N := 4) rfl ?_); refine box_event ?hg (N := 4) ?hd (cs := #[.int .i64 0, .int .i64 0, .int .i64 0, .bool false]) (t := 108) ?hr ?_; (case hd => rfl); (case hg => rfl); (case hr => exact tG); intro gb135 hg w22 hbox hb; have BK135 := Aside0.mk (hbox); have GW135 := gW HB hg; have GE135 := gW HB hg; replace HB := bH HB hb; have NB133_135 := nL BK133 hg; have NB135_133 := nR BK133 hg; replace BK133 := bB BK133 hb; clear hb hbox hg; have hnb23 := NB135_133.out; have hnc23 := NB133_135.out; obtain ⟨hcz24_0, hcz24_1, hcz24_2, hcz24_3, hfz24_0, hfz24_1, hfz24_2, hfz24_3⟩ := bc4 BK135.out) | (go_at_call 86; (with_reducible refine (spec_l1In.calls ((rd_T108 l0_0 x3_1).f0) 1 5 true _ A5.out).mono ?_); rintro e w' ⟨rfl, ⟨nd, rfl⟩⟩; (try exact tQ)) | (go_at_call 86; (with_reducible refine (spec_l1In.calls ((rd_T108 l0_0 x3_1).f1) 0 1000000 true _ A7.out).mono ?_); rintro e w' ⟨rfl, ⟨nd, rfl⟩⟩; (try exact tQ)) | (go_at_call 86; (with_reducible refine (spec_l1In.calls ((rd_T108 l0_0 x3_1).f2) 0 1000000 true _ A9.out).mono ?_); rintro e w' ⟨rfl, ⟨nd, rfl⟩⟩; (try exact tQ)))
           obtain ⟨hcz25_0, hfz25_0⟩ := bc1 BK133.out
           have p139 : 0 ≤ ((ji12) : Int) := of_decide_eq_true tA
           have q139 : (ji12) < (l0_0.length : Int) := of_decide_eq_true tA
           obtain ⟨ad139, e139, hx139_0, hx139_1, hx139_2, hx139_3⟩ := at_T108 HR0_0.out (ji12) p139 q139
           obtain rfl : ad134 = ad139 := (by injection e139)
           have hn139_0 : ad134.block ≠ gb135 := Nat.ne_of_lt (Nat.lt_of_lt_of_le (by have := World.block_lt_of_cell? _ _ hx139_0; first | rwa [add_block] at this | exact this) GW135.out)
           have hn139_1 : ad134.block ≠ gb135 := Nat.ne_of_lt (Nat.lt_of_lt_of_le (by have := World.block_lt_of_cell? _ _ hx139_0; first | rwa [add_block] at this | exact this) GW135.out)
           have hn139_2 : ad134.block ≠ gb135 := Nat.ne_of_lt (Nat.lt_of_lt_of_le (by have := World.block_lt_of_cell? _ _ hx139_0; first | rwa [add_block] at this | exact this) GW135.out)
           have hn139_3 : ad134.block ≠ gb135 := Nat.ne_of_lt (Nat.lt_of_lt_of_le (by have := World.block_lt_of_cell? _ _ hx139_0; first | rwa [add_block] at this | exact this) GW135.out)
           replace hx139_0 := hbc HB hx139_0
           replace hx139_1 := hbc HB hx139_1
           replace hx139_2 := hbc HB hx139_2
           replace hx139_3 := hbc HB hx139_3
           have F_ := @far4 gb135 (.int .i64 ((rd_T108 l0_0 x3_1).f0)) (.int .i64 ((rd_T108 l0_0 x3_1).f1)) (.int .i64 ((rd_T108 l0_0 x3_1).f2)) (.bool ((rd_T108 l0_0 x3_1).f3))
           replace hx139_0 := (F_ tF).trans hx139_0
           replace hx139_1 := (F_ tF).trans hx139_1
           replace hx139_2 := (F_ tF).trans hx139_2
           replace hx139_3 := (F_ tF).trans hx139_3
           clear F_
           clear hn139_0
           clear hn139_1
           clear hn139_2
           clear hn139_3
           replace p139 := eq_true p139
           replace q139 := eq_true q139
           repeat (go_quiet (first | ((with_reducible refine gate_dst (N := 4) rfl ?_); refine box_event ?hg (N := 4) ?hd (cs := #[.int .i64 0, .int .i64 0, .int .i64 0, .bool false]) (t := 108) ?hr ?_; (case hd => rfl); (case hg => rfl); (case hr => exact tG); intro gb135 hg w22 hbox hb; have BK135 := Aside0.mk (hbox); have GW135 := gW HB hg; have GE135 := gW HB hg; replace HB := bH HB hb; have NB133_135 := nL BK133 hg; have NB135_133 := nR BK133 hg; replace BK133 := bB BK133 hb; clear hb hbox hg; have hnb23 := NB135_133.out; have hnc23 := NB133_135.out; obtain ⟨hcz24_0, hcz24_1, hcz24_2, hcz24_3, hfz24_0, hfz24_1, hfz24_2, hfz24_3⟩ := bc4 BK135.out) | (go_at_call 86; (with_reducible refine (spec_l1In.calls ((rd_T108 l0_0 x3_1).f0) 1 5 true _ A5.out).mono ?_); rintro e w' ⟨rfl, ⟨nd, rfl⟩⟩; (try exact tQ)) | (go_at_call 86; (with_reducible refine (spec_l1In.calls ((rd_T108 l0_0 x3_1).f1) 0 1000000 true _ A7.out).mono ?_); rintro e w' ⟨rfl, ⟨nd, rfl⟩⟩; (try exact tQ)) | (go_at_call 86; (with_reducible refine (spec_l1In.calls ((rd_T108 l0_0 x3_1).f2) 0 1000000 true _ A9.out).mono ?_); rintro e w' ⟨rfl, ⟨nd, rfl⟩⟩; (try exact tQ))); try go_wp2_with (first | ((with_reducible refine gate_dst (N := 4) rfl ?_); refine box_event ?hg (N := 4) ?hd (cs := #[.int .i64 0, .int .i64 0, .int .i64 0, .bool false]) (t := 108) ?hr ?_; (case hd => rfl); (case hg => rfl); (case hr => exact tG); intro gb135 hg w22 hbox hb; have BK135 := Aside0.mk (hbox); have GW135 := gW HB hg; have GE135 := gW HB hg; replace HB := bH HB hb; have NB133_135 := nL BK133 hg; have NB135_133 := nR BK133 hg; replace BK133 := bB BK133 hb; clear hb hbox hg; have hnb23 := NB135_133.out; have hnc23 := NB133_135.out; obtain ⟨hcz24_0, hcz24_1, hcz24_2, hcz24_3, hfz24_0, hfz24_1, hfz24_2, hfz24_3⟩ := bc4 BK135.out) | (go_at_call 86; (with_reducible refine (spec_l1In.calls ((rd_T108 l0_0 x3_1).f0) 1 5 true _ A5.out).mono ?_); rintro e w' ⟨rfl, ⟨nd, rfl⟩⟩; (try exact tQ)) | (go_at_call 86; (with_reducible refine (spec_l1In.calls ((rd_T108 l0_0 x3_1).f1) 0 1000000 true _ A7.out).mono ?_); rintro e w' ⟨rfl, ⟨nd, rfl⟩⟩; (try exact tQ)) | (go_at_call 86; (with_reducible refine (spec_l1In.calls ((rd_T108 l0_0 x3_1).f2) 0 1000000 true _ A9.out).mono ?_); rintro e w' ⟨rfl, ⟨nd, rfl⟩⟩; (try exact tQ))))
           go_roundg k1
           case measure => have := HK1.out; omega
           case rel => exact ⟨(wrap64 (x3_1 + 1)), tS, H', ⟨tI⟩, ⟨kF NB133_135 BK133⟩, ⟨tB⟩⟩
          rw [if_neg c14] at H
          exact absurd H (by simp)
         rw [if_neg c13] at H
         exact absurd H (by simp)
        rw [if_neg c11] at H
        have c11b0 : decide (0 < x3_1) = false := decide_eq_false c11
        clear c11
        have H' := Aside0.mk H
        clear H
        obtain ⟨hcz26_0, hfz26_0⟩ := bc1 BK133.out
        have p134 : 0 ≤ (x3_1 : Int) := of_decide_eq_true tA
        have q134 : x3_1 < (l0_0.length : Int) := of_decide_eq_true tA
        obtain ⟨ad134, e134, hx134_0, hx134_1, hx134_2, hx134_3⟩ := at_T108 HR0_0.out x3_1 p134 q134
        cases e134
        replace hx134_0 := hbc HB hx134_0
        replace hx134_1 := hbc HB hx134_1
        replace hx134_2 := hbc HB hx134_2
        replace hx134_3 := hbc HB hx134_3
        replace p134 := eq_true p134
        replace q134 := eq_true q134
        go_wp2_with (first | ((with_reducible refine gate_dst (N := 4) rfl ?_); refine box_event ?hg (N := 4) ?hd (cs := #[.int .i64 0, .int .i64 0, .int .i64 0, .bool false]) (t := 108) ?hr ?_; (case hd => rfl); (case hg => rfl); (case hr => exact tG); intro gb135 hg w27 hbox hb; have BK135 := Aside0.mk (hbox); have GW135 := gW HB hg; have GE135 := gW HB hg; replace HB := bH HB hb; have NB133_135 := nL BK133 hg; have NB135_133 := nR BK133 hg; replace BK133 := bB BK133 hb; clear hb hbox hg; have hnb28 := NB135_133.out; have hnc28 := NB133_135.out; obtain ⟨hcz29_0, hcz29_1, hcz29_2, hcz29_3, hfz29_0, hfz29_1, hfz29_2, hfz29_3⟩ := bc4 BK135.out) | (go_at_call 86; (with_reducible refine (spec_l1In.calls ((rd_T108 l0_0 x3_1).f0) 1 5 true _ A5.out).mono ?_); rintro e w' ⟨rfl, ⟨nd, rfl⟩⟩; (try exact tQ)) | (go_at_call 86; (with_reducible refine (spec_l1In.calls ((rd_T108 l0_0 x3_1).f1) 0 1000000 true _ A7.out).mono ?_); rintro e w' ⟨rfl, ⟨nd, rfl⟩⟩; (try exact tQ)) | (go_at_call 86; (with_reducible refine (spec_l1In.calls ((rd_T108 l0_0 x3_1).f2) 0 1000000 true _ A9.out).mono ?_); rintro e w' ⟨rfl, ⟨nd, rfl⟩⟩; (try exact tQ)))
        repeat (go_quiet (first | ((with_reducible refine gate_dst (N := 4) rfl ?_); refine box_event ?hg (N := 4) ?hd (cs := #[.int .i64 0, .int .i64 0, .int .i64 0, .bool false]) (t := 108) ?hr ?_; (case hd => rfl); (case hg => rfl); (case hr => exact tG); intro gb135 hg w27 hbox hb; have BK135 := Aside0.mk (hbox); have GW135 := gW HB hg; have GE135 := gW HB hg; replace HB := bH HB hb; have NB133_135 := nL BK133 hg; have NB135_133 := nR BK133 hg; replace BK133 := bB BK133 hb; clear hb hbox hg; have hnb28 := NB135_133.out; have hnc28 := NB133_135.out; obtain ⟨hcz29_0, hcz29_1, hcz29_2, hcz29_3, hfz29_0, hfz29_1, hfz29_2, hfz29_3⟩ := bc4 BK135.out) | (go_at_call 86; (with_reducible refine (spec_l1In.calls ((rd_T108 l0_0 x3_1).f0) 1 5 true _ A5.out).mono ?_); rintro e w' ⟨rfl, ⟨nd, rfl⟩⟩; (try exact tQ)) | (go_at_call 86; (with_reducible refine (spec_l1In.calls ((rd_T108 l0_0 x3_1).f1) 0 1000000 true _ A7.out).mono ?_); rintro e w' ⟨rfl, ⟨nd, rfl⟩⟩; (try exact tQ)) | (go_at_call 86; (with_reducible refine (spec_l1In.calls ((rd_T108 l0_0 x3_1).f2) 0 1000000 true _ A9.out).mono ?_); rintro e w' ⟨rfl, ⟨nd, rfl⟩⟩; (try exact tQ))); try go_wp2_with (first | ((with_reducible refine gate_dst (N := 4) rfl ?_); refine box_event ?hg (N := 4) ?hd (cs := #[.int .i64 0, .int .i64 0, .int .i64 0, .bool false]) (t := 108) ?hr ?_; (case hd => rfl); (case hg => rfl); (case hr => exact tG); intro gb135 hg w27 hbox hb; have BK135 := Aside0.mk (hbox); have GW135 := gW HB hg; have GE135 := gW HB hg; replace HB := bH HB hb; have NB133_135 := nL BK133 hg; have NB135_133 := nR BK133 hg; replace BK133 := bB BK133 hb; clear hb hbox hg; have hnb28 := NB135_133.out; have hnc28 := NB133_135.out; obtain ⟨hcz29_0, hcz29_1, hcz29_2, hcz29_3, hfz29_0, hfz29_1, hfz29_2, hfz29_3⟩ := bc4 BK135.out) | (go_at_call 86; (with_reducible refine (spec_l1In.calls ((rd_T108 l0_0 x3_1).f0) 1 5 true _ A5.out).mono ?_); rintro e w' ⟨rfl, ⟨nd, rfl⟩⟩; (try exact tQ)) | (go_at_call 86; (with_reducible refine (spec_l1In.calls ((rd_T108 l0_0 x3_1).f1) 0 1000000 true _ A7.out).mono ?_); rintro e w' ⟨rfl, ⟨nd, rfl⟩⟩; (try exact tQ)) | (go_at_call 86; (with_reducible refine (spec_l1In.calls ((rd_T108 l0_0 x3_1).f2) 0 1000000 true _ A9.out).mono ?_); rintro e w' ⟨rfl, ⟨nd, rfl⟩⟩; (try exact tQ))))
        go_roundg k1
        case measure => have := HK1.out; omega
        case rel => exact ⟨(wrap64 (x3_1 + 1)), tS, H', ⟨tI⟩, ⟨kF NB133_135 BK133⟩, ⟨tB⟩⟩
       replace c10 := Bool.eq_false_iff.mpr c10
       subst c10
       have H1 : (some false) = some r := by rw [if_neg (show ¬ (false = true) by decide)] at H; exact H
       clear H
       have H := H1
       clear H1
       obtain rfl := Option.some.inj H
       obtain ⟨hcz30_0, hfz30_0⟩ := bc1 BK133.out
       have p134 : 0 ≤ (x3_1 : Int) := of_decide_eq_true tA
       have q134 : x3_1 < (l0_0.length : Int) := of_decide_eq_true tA
       obtain ⟨ad134, e134, hx134_0, hx134_1, hx134_2, hx134_3⟩ := at_T108 HR0_0.out x3_1 p134 q134
       cases e134
       replace hx134_0 := hbc HB hx134_0
       replace hx134_1 := hbc HB hx134_1
       replace hx134_2 := hbc HB hx134_2
       replace hx134_3 := hbc HB hx134_3
       replace p134 := eq_true p134
       replace q134 := eq_true q134
       go_wp2_with (first | ((with_reducible refine gate_dst (N := 4) rfl ?_); refine box_event ?hg (N := 4) ?hd (cs := #[.int .i64 0, .int .i64 0, .int .i64 0, .bool false]) (t := 108) ?hr ?_; (case hd => rfl); (case hg => rfl); (case hr => exact tG); intro gb135 hg w31 hbox hb; have BK135 := Aside0.mk (hbox); have GW135 := gW HB hg; have GE135 := gW HB hg; replace HB := bH HB hb; have NB133_135 := nL BK133 hg; have NB135_133 := nR BK133 hg; replace BK133 := bB BK133 hb; clear hb hbox hg; have hnb32 := NB135_133.out; have hnc32 := NB133_135.out; obtain ⟨hcz33_0, hcz33_1, hcz33_2, hcz33_3, hfz33_0, hfz33_1, hfz33_2, hfz33_3⟩ := bc4 BK135.out) | (go_at_call 86; (with_reducible refine (spec_l1In.calls ((rd_T108 l0_0 x3_1).f0) 1 5 true _ A5.out).mono ?_); rintro e w' ⟨rfl, ⟨nd, rfl⟩⟩; (try exact tQ)) | (go_at_call 86; (with_reducible refine (spec_l1In.calls ((rd_T108 l0_0 x3_1).f1) 0 1000000 true _ A7.out).mono ?_); rintro e w' ⟨rfl, ⟨nd, rfl⟩⟩; (try exact tQ)) | (go_at_call 86; (with_reducible refine (spec_l1In.calls ((rd_T108 l0_0 x3_1).f2) 0 1000000 false _ A9.out).mono ?_); rintro e w' ⟨rfl, ⟨nd, rfl⟩⟩; (try exact tQ)))
       repeat (go_quiet (first | ((with_reducible refine gate_dst (N := 4) rfl ?_); refine box_event ?hg (N := 4) ?hd (cs := #[.int .i64 0, .int .i64 0, .int .i64 0, .bool false]) (t := 108) ?hr ?_; (case hd => rfl); (case hg => rfl); (case hr => exact tG); intro gb135 hg w31 hbox hb; have BK135 := Aside0.mk (hbox); have GW135 := gW HB hg; have GE135 := gW HB hg; replace HB := bH HB hb; have NB133_135 := nL BK133 hg; have NB135_133 := nR BK133 hg; replace BK133 := bB BK133 hb; clear hb hbox hg; have hnb32 := NB135_133.out; have hnc32 := NB133_135.out; obtain ⟨hcz33_0, hcz33_1, hcz33_2, hcz33_3, hfz33_0, hfz33_1, hfz33_2, hfz33_3⟩ := bc4 BK135.out) | (go_at_call 86; (with_reducible refine (spec_l1In.calls ((rd_T108 l0_0 x3_1).f0) 1 5 true _ A5.out).mono ?_); rintro e w' ⟨rfl, ⟨nd, rfl⟩⟩; (try exact tQ)) | (go_at_call 86; (with_reducible refine (spec_l1In.calls ((rd_T108 l0_0 x3_1).f1) 0 1000000 true _ A7.out).mono ?_); rintro e w' ⟨rfl, ⟨nd, rfl⟩⟩; (try exact tQ)) | (go_at_call 86; (with_reducible refine (spec_l1In.calls ((rd_T108 l0_0 x3_1).f2) 0 1000000 false _ A9.out).mono ?_); rintro e w' ⟨rfl, ⟨nd, rfl⟩⟩; (try exact tQ))); try go_wp2_with (first | ((with_reducible refine gate_dst (N := 4) rfl ?_); refine box_event ?hg (N := 4) ?hd (cs := #[.int .i64 0, .int .i64 0, .int .i64 0, .bool false]) (t := 108) ?hr ?_; (case hd => rfl); (case hg => rfl); (case hr => exact tG); intro gb135 hg w31 hbox hb; have BK135 := Aside0.mk (hbox); have GW135 := gW HB hg; have GE135 := gW HB hg; replace HB := bH HB hb; have NB133_135 := nL BK133 hg; have NB135_133 := nR BK133 hg; replace BK133 := bB BK133 hb; clear hb hbox hg; have hnb32 := NB135_133.out; have hnc32 := NB133_135.out; obtain ⟨hcz33_0, hcz33_1, hcz33_2, hcz33_3, hfz33_0, hfz33_1, hfz33_2, hfz33_3⟩ := bc4 BK135.out) | (go_at_call 86; (with_reducible refine (spec_l1In.calls ((rd_T108 l0_0 x3_1).f0) 1 5 true _ A5.out).mono ?_); rintro e w' ⟨rfl, ⟨nd, rfl⟩⟩; (try exact tQ)) | (go_at_call 86; (with_reducible refine (spec_l1In.calls ((rd_T108 l0_0 x3_1).f1) 0 1000000 true _ A7.out).mono ?_); rintro e w' ⟨rfl, ⟨nd, rfl⟩⟩; (try exact tQ)) | (go_at_call 86; (with_reducible refine (spec_l1In.calls ((rd_T108 l0_0 x3_1).f2) 0 1000000 false _ A9.out).mono ?_); rintro e w' ⟨rfl, ⟨nd, rfl⟩⟩; (try exact tQ))))
       go_ret
       exact ⟨tE, tB⟩
      replace c8 := Bool.eq_false_iff.mpr c8
      subst c8
      have H1 : (some false) = some r := by rw [if_neg (show ¬ (false = true) by decide)] at H; exact H
      clear H
      have H := H1
      clear H1
      obtain rfl := Option.some.inj H
      obtain ⟨hcz34_0, hfz34_0⟩ := bc1 BK133.out
      have p134 : 0 ≤ (x3_1 : Int) := of_decide_eq_true tA
      have q134 : x3_1 < (l0_0.length : Int) := of_decide_eq_true tA
      obtain ⟨ad134, e134, hx134_0, hx134_1, hx134_2, hx134_3⟩ := at_T108 HR0_0.out x3_1 p134 q134
      cases e134
      replace hx134_0 := hbc HB hx134_0
      replace hx134_1 := hbc HB hx134_1
      replace hx134_2 := hbc HB hx134_2
      replace hx134_3 := hbc HB hx134_3
      replace p134 := eq_true p134
      replace q134 := eq_true q134
      go_wp2_with (first | ((with_reducible refine gate_dst (N := 4) rfl ?_); refine box_event ?hg (N := 4) ?hd (cs := #[.int .i64 0, .int .i64 0, .int .i64 0, .bool false]) (t := 108) ?hr ?_; (case hd => rfl); (case hg => rfl); (case hr => exact tG); intro gb135 hg w35 hbox hb; have BK135 := Aside0.mk (hbox); have GW135 := gW HB hg; have GE135 := gW HB hg; replace HB := bH HB hb; have NB133_135 := nL BK133 hg; have NB135_133 := nR BK133 hg; replace BK133 := bB BK133 hb; clear hb hbox hg; have hnb36 := NB135_133.out; have hnc36 := NB133_135.out; obtain ⟨hcz37_0, hcz37_1, hcz37_2, hcz37_3, hfz37_0, hfz37_1, hfz37_2, hfz37_3⟩ := bc4 BK135.out) | (go_at_call 86; (with_reducible refine (spec_l1In.calls ((rd_T108 l0_0 x3_1).f0) 1 5 true _ A5.out).mono ?_); rintro e w' ⟨rfl, ⟨nd, rfl⟩⟩; (try exact tQ)) | (go_at_call 86; (with_reducible refine (spec_l1In.calls ((rd_T108 l0_0 x3_1).f1) 0 1000000 false _ A7.out).mono ?_); rintro e w' ⟨rfl, ⟨nd, rfl⟩⟩; (try exact tQ)))
      repeat (go_quiet (first | ((with_reducible refine gate_dst (N := 4) rfl ?_); refine box_event ?hg (N := 4) ?hd (cs := #[.int .i64 0, .int .i64 0, .int .i64 0, .bool false]) (t := 108) ?hr ?_; (case hd => rfl); (case hg => rfl); (case hr => exact tG); intro gb135 hg w35 hbox hb; have BK135 := Aside0.mk (hbox); have GW135 := gW HB hg; have GE135 := gW HB hg; replace HB := bH HB hb; have NB133_135 := nL BK133 hg; have NB135_133 := nR BK133 hg; replace BK133 := bB BK133 hb; clear hb hbox hg; have hnb36 := NB135_133.out; have hnc36 := NB133_135.out; obtain ⟨hcz37_0, hcz37_1, hcz37_2, hcz37_3, hfz37_0, hfz37_1, hfz37_2, hfz37_3⟩ := bc4 BK135.out) | (go_at_call 86; (with_reducible refine (spec_l1In.calls ((rd_T108 l0_0 x3_1).f0) 1 5 true _ A5.out).mono ?_); rintro e w' ⟨rfl, ⟨nd, rfl⟩⟩; (try exact tQ)) | (go_at_call 86; (with_reducible refine (spec_l1In.calls ((rd_T108 l0_0 x3_1).f1) 0 1000000 false _ A7.out).mono ?_); rintro e w' ⟨rfl, ⟨nd, rfl⟩⟩; (try exact tQ))); try go_wp2_with (first | ((with_reducible refine gate_dst (N := 4) rfl ?_); refine box_event ?hg (N := 4) ?hd (cs := #[.int .i64 0, .int .i64 0, .int .i64 0, .bool false]) (t := 108) ?hr ?_; (case hd => rfl); (case hg => rfl); (case hr => exact tG); intro gb135 hg w35 hbox hb; have BK135 := Aside0.mk (hbox); have GW135 := gW HB hg; have GE135 := gW HB hg; replace HB := bH HB hb; have NB133_135 := nL BK133 hg; have NB135_133 := nR BK133 hg; replace BK133 := bB BK133 hb; clear hb hbox hg; have hnb36 := NB135_133.out; have hnc36 := NB133_135.out; obtain ⟨hcz37_0, hcz37_1, hcz37_2, hcz37_3, hfz37_0, hfz37_1, hfz37_2, hfz37_3⟩ := bc4 BK135.out) | (go_at_call 86; (with_reducible refine (spec_l1In.calls ((rd_T108 l0_0 x3_1).f0) 1 5 true _ A5.out).mono ?_); rintro e w' ⟨rfl, ⟨nd, rfl⟩⟩; (try exact tQ)) | (go_at_call 86; (with_reducible refine (spec_l1In.calls ((rd_T108 l0_0 x3_1).f1) 0 1000000 false _ A7.out).mono ?_); rintro e w' ⟨rfl, ⟨nd, rfl⟩⟩; (try exact tQ))))
      go_ret
      exact ⟨tE, tB⟩
     replace c6 := Bool.eq_false_iff.mpr c6
     subst c6
     have H1 : (some false) = some r := by rw [if_neg (show ¬ (false = true) by decide)] at H; exact H
     clear H
     have H := H1
     clear H1
     obtain rfl := Option.some.inj H
     obtain ⟨hcz38_0, hfz38_0⟩ := bc1 BK133.out
     have p134 : 0 ≤ (x3_1 : Int) := of_decide_eq_true tA
     have q134 : x3_1 < (l0_0.length : Int) := of_decide_eq_true tA
     obtain ⟨ad134, e134, hx134_0, hx134_1, hx134_2, hx134_3⟩ := at_T108 HR0_0.out x3_1 p134 q134
     cases e134
     replace hx134_0 := hbc HB hx134_0
     replace hx134_1 := hbc HB hx134_1
     replace hx134_2 := hbc HB hx134_2
     replace hx134_3 := hbc HB hx134_3
     replace p134 := eq_true p134
     replace q134 := eq_true q134
     go_wp2_with (first | ((with_reducible refine gate_dst (N := 4) rfl ?_); refine box_event ?hg (N := 4) ?hd (cs := #[.int .i64 0, .int .i64 0, .int .i64 0, .bool false]) (t := 108) ?hr ?_; (case hd => rfl); (case hg => rfl); (case hr => exact tG); intro gb135 hg w39 hbox hb; have BK135 := Aside0.mk (hbox); have GW135 := gW HB hg; have GE135 := gW HB hg; replace HB := bH HB hb; have NB133_135 := nL BK133 hg; have NB135_133 := nR BK133 hg; replace BK133 := bB BK133 hb; clear hb hbox hg; have hnb40 := NB135_133.out; have hnc40 := NB133_135.out; obtain ⟨hcz41_0, hcz41_1, hcz41_2, hcz41_3, hfz41_0, hfz41_1, hfz41_2, hfz41_3⟩ := bc4 BK135.out) | (go_at_call 86; (with_reducible refine (spec_l1In.calls ((rd_T108 l0_0 x3_1).f0) 1 5 false _ A5.out).mono ?_); rintro e w' ⟨rfl, ⟨nd, rfl⟩⟩; (try exact tQ)))
     repeat (go_quiet (first | ((with_reducible refine gate_dst (N := 4) rfl ?_); refine box_event ?hg (N := 4) ?hd (cs := #[.int .i64 0, .int .i64 0, .int .i64 0, .bool false]) (t := 108) ?hr ?_; (case hd => rfl); (case hg => rfl); (case hr => exact tG); intro gb135 hg w39 hbox hb; have BK135 := Aside0.mk (hbox); have GW135 := gW HB hg; have GE135 := gW HB hg; replace HB := bH HB hb; have NB133_135 := nL BK133 hg; have NB135_133 := nR BK133 hg; replace BK133 := bB BK133 hb; clear hb hbox hg; have hnb40 := NB135_133.out; have hnc40 := NB133_135.out; obtain ⟨hcz41_0, hcz41_1, hcz41_2, hcz41_3, hfz41_0, hfz41_1, hfz41_2, hfz41_3⟩ := bc4 BK135.out) | (go_at_call 86; (with_reducible refine (spec_l1In.calls ((rd_T108 l0_0 x3_1).f0) 1 5 false _ A5.out).mono ?_); rintro e w' ⟨rfl, ⟨nd, rfl⟩⟩; (try exact tQ))); try go_wp2_with (first | ((with_reducible refine gate_dst (N := 4) rfl ?_); refine box_event ?hg (N := 4) ?hd (cs := #[.int .i64 0, .int .i64 0, .int .i64 0, .bool false]) (t := 108) ?hr ?_; (case hd => rfl); (case hg => rfl); (case hr => exact tG); intro gb135 hg w39 hbox hb; have BK135 := Aside0.mk (hbox); have GW135 := gW HB hg; have GE135 := gW HB hg; replace HB := bH HB hb; have NB133_135 := nL BK133 hg; have NB135_133 := nR BK133 hg; replace BK133 := bB BK133 hb; clear hb hbox hg; have hnb40 := NB135_133.out; have hnc40 := NB133_135.out; obtain ⟨hcz41_0, hcz41_1, hcz41_2, hcz41_3, hfz41_0, hfz41_1, hfz41_2, hfz41_3⟩ := bc4 BK135.out) | (go_at_call 86; (with_reducible refine (spec_l1In.calls ((rd_T108 l0_0 x3_1).f0) 1 5 false _ A5.out).mono ?_); rintro e w' ⟨rfl, ⟨nd, rfl⟩⟩; (try exact tQ))))
     go_ret
     exact ⟨tE, tB⟩
    rw [if_neg c4] at H
    exact absurd H (by simp)
   rw [if_neg c3] at H
   have c3b0 : decide (x3_1 < (l0_0.length : Int)) = false := decide_eq_false c3
   clear c3
   obtain rfl := Option.some.inj H
   obtain ⟨hcz42_0, hfz42_0⟩ := bc1 BK133.out
   go_wp2
   repeat (go_quiet (fail); try go_wp2)
   go_ret
   exact ⟨tE, tB⟩

end Go.Proofs.Ytanoaneoanpkkaa.ZFnNotices
