/- The machine side: for each Go function a Lean function and the contract that the Go code answers as it does; printed by program (wip/tmpl/pprint.sh). -/
import Derived.Test.YtanoaneoanpkkaaZFnExactReadNoticesx0
namespace Go.Proofs.Ytanoaneoanpkkaa.ZFnExactReadNotices
open Go.RowKit Go.Proofs.YtanoaneoanpkkaaW.PrintWords Go.Proofs.YtanoaneoanpkkaaW.PrintLast Go.Proofs.YtanoaneoanpkkaaW.PrintMore
attribute [local go_sem] max2_int min2_int max_two min_two max_three min_three max_four min_four   -- for this text's walks alone
set_option linter.unusedVariables false
set_option linter.unusedSimpArgs false

/-! ### laws_szNoticeS: function 92 -/
def laws_szNoticeS.f (l0 : List (S153)) (a1 : Int) : Option (Int) := if (wrap64 (a1 - (l0.length : Int))) < 0 then (some (-1)) else (some (wrap64 (a1 - (l0.length : Int))))
set_option maxHeartbeats 8000000 in
set_option maxRecDepth 100000 in
theorem laws_szNoticeS.calls (A0 : Option Addr) (c0 : Nat) (l0 : List (S153)) (a1 : Int) (r : Int) (w : World) (hr0 : Kd.C k153 w A0 l0.length l0) (hc0 : l0.length ≤ c0) (h : laws_szNoticeS.f l0 a1 = some r) :
  Calls Try.prog 92 #[.slice A0 l0.length c0, .int .i64 a1] w fun e w' => e = .returned (.int .i64 r) ∧ Drawn0 w w' := by
 have HR0 := Aside0.mk hr0
 have HC0 := Aside0.mk hc0
 clear hr0 hc0
 have H : (if (wrap64 (a1 - (l0.length : Int))) < 0 then (some (-1)) else (some (wrap64 (a1 - (l0.length : Int))))) = some r := h
 clear h
 by_cases c3 : (wrap64 (a1 - (l0.length : Int))) < 0
 ·rw [if_pos c3] at H
  have c3b0 : decide ((wrap64 (a1 - (l0.length : Int))) < 0) = true := decide_eq_true c3
  clear c3
  obtain rfl := Option.some.inj H
  go_enter Try.func92, Try.ntmps92
  go_wp2
  go_ret
  exact ⟨tS, by repeat (first | exact Drawn0.refl _ | apply Drawn0.step)⟩
 rw [if_neg c3] at H
 have c3b0 : decide ((wrap64 (a1 - (l0.length : Int))) < 0) = false := decide_eq_false c3
 clear c3
 obtain rfl := Option.some.inj H
 go_enter Try.func92, Try.ntmps92
 go_wp2
 go_ret
 exact ⟨tS, by repeat (first | exact Drawn0.refl _ | apply Drawn0.step)⟩

/-! ### laws_szMailbox: function 39 -/
def laws_szMailbox.f (l0_0 : List (S153)) (a1 : Int) : Option (Int) := (laws_szNoticeS.f l0_0 a1).bind fun t102 => (if t102 < 0 then (some (-1)) else (some t102))
set_option maxHeartbeats 8000000 in
set_option maxRecDepth 100000 in
theorem laws_szMailbox.calls (A0_0 : Option Addr) (c0_0 : Nat) (l0_0 : List (S153)) (a1 : Int) (r : Int) (w : World) (hr0_0 : Kd.C k153 w A0_0 l0_0.length l0_0) (hc0_0 : l0_0.length ≤ c0_0) (h : laws_szMailbox.f l0_0 a1 = some r) :
  Calls Try.prog 39 #[.agg #[.slice A0_0 l0_0.length c0_0], .int .i64 a1] w fun e w' => e = .returned (.int .i64 r) ∧ Below w.heap.size w w' := by
 have hu61 := Try.underlying61
 have HR0_0 := Aside0.mk hr0_0
 have HC0_0 := Aside0.mk hc0_0
 clear hr0_0 hc0_0
 have HB := Aside0.mk (Below.refl w.heap.size w)
 have H : ((laws_szNoticeS.f l0_0 a1).bind fun t102 => (if t102 < 0 then (some (-1)) else (some t102))) = some r := h
 clear h
 replace H := Option.bind_eq_some_iff.mp H
 obtain ⟨t102, A30, H⟩ := H
 try dsimp only at H
 have A3 := Aside0.mk A30
 clear A30
 by_cases c4 : t102 < 0
 ·rw [if_pos c4] at H
  have c4b0 : decide (t102 < 0) = true := decide_eq_true c4
  clear c4
  obtain rfl := Option.some.inj H
  go_enter Try.func39, Try.ntmps39
  go_wp2_with (first | ((with_reducible refine gate_dst (N := 2) rfl ?_); refine box_event ?hg (N := 2) ?hd (cs := #[.slice A0_0 l0_0.length c0_0]) (t := 61) ?hr ?_; (case hd => rfl); (case hg => rfl); (case hr => exact tG); intro gb101 hg w5 hbox hb; have BK101 := Aside0.mk (hbox); have GW101 := gW HB hg; have GE101 := gW HB hg; replace HB := bH HB hb; clear hb hbox hg; obtain ⟨hcz6_0, hfz6_0⟩ := bc1 BK101.out) | ((with_reducible refine gate_callee (f := 92) rfl ?_); refine goesL_ (some 8) rfl rfl Try.func92 (by kernel_rfl) rfl #[.slice A0_0 l0_0.length c0_0, .int .i64 a1] rfl tL ?_; (with_reducible refine (laws_szNoticeS.calls _ _ l0_0 a1 t102 _ ?side1 ?side2 A3.out).mono ?_); (case side1 => repeat (first | exact (Kd.C_below HR0_0.out HB.out) | (with_reducible refine Kd.C_alloc ?_ _) | (with_reducible refine Kd.C_drewN ?_ _) | (with_reducible refine Kd.C_drew ?_))); (case side2 => exact HC0_0.out); rintro e w' ⟨rfl, ⟨nd, rfl⟩⟩; refine ⟨_, rfl, ?_⟩))
  go_ret
  exact ⟨tE, tB⟩
 rw [if_neg c4] at H
 have c4b0 : decide (t102 < 0) = false := decide_eq_false c4
 clear c4
 obtain rfl := Option.some.inj H
 go_enter Try.func39, Try.ntmps39
 go_wp2_with (first | ((with_reducible refine gate_dst (N := 2) rfl ?_); refine box_event ?hg (N := 2) ?hd (cs := #[.slice A0_0 l0_0.length c0_0]) (t := 61) ?hr ?_; (case hd => rfl); (case hg => rfl); (case hr => exact tG); intro gb101 hg w7 hbox hb; have BK101 := Aside0.mk (hbox); have GW101 := gW HB hg; have GE101 := gW HB hg; replace HB := bH HB hb; clear hb hbox hg; obtain ⟨hcz8_0, hfz8_0⟩ := bc1 BK101.out) | ((with_reducible refine gate_callee (f := 92) rfl ?_); refine goesL_ (some 8) rfl rfl Try.func92 (by kernel_rfl) rfl #[.slice A0_0 l0_0.length c0_0, .int .i64 a1] rfl tL ?_; (with_reducible refine (laws_szNoticeS.calls _ _ l0_0 a1 t102 _ ?side1 ?side2 A3.out).mono ?_); (case side1 => repeat (first | exact (Kd.C_below HR0_0.out HB.out) | (with_reducible refine Kd.C_alloc ?_ _) | (with_reducible refine Kd.C_drewN ?_ _) | (with_reducible refine Kd.C_drew ?_))); (case side2 => exact HC0_0.out); rintro e w' ⟨rfl, ⟨nd, rfl⟩⟩; refine ⟨_, rfl, ?_⟩))
 go_ret
 exact ⟨tE, tB⟩

/-! ### spec_l31Copy: function 93 -/
def spec_l31Copy.f (l0_0 : List (S108)) : Option ((List (S108))) := (some (([] : List (S108)) : List (S108))).bind fun y105 => (if y105.length + l0_0.length < 4398046511104 then (some (y105 ++ l0_0)) else (none))
set_option maxHeartbeats 8000000 in
set_option maxRecDepth 100000 in
theorem spec_l31Copy.calls (A0_0 : Option Addr) (c0_0 : Nat) (l0_0 : List (S108)) (r : List (S108)) (w : World) (hr0_0 : Kd.C k108 w A0_0 l0_0.length l0_0) (hc0_0 : l0_0.length ≤ c0_0) (h : spec_l31Copy.f l0_0 = some r) :
  Calls Try.prog 93 #[.agg #[.slice A0_0 l0_0.length c0_0]] w fun e w' => ∃ v0_ : Value, e = .returned (.agg #[v0_]) ∧ Kd.R k108 108 w' w.heap.size (fun _ => True) v0_ r ∧ Below w.heap.size w w' := by
 have hu65 := Try.underlying65
 have HR0_0 := Aside0.mk hr0_0
 have HC0_0 := Aside0.mk hc0_0
 clear hr0_0 hc0_0
 have HB := Aside0.mk (Below.refl w.heap.size w)
 have H : ((some (([] : List (S108)) : List (S108))).bind fun y105 => (if y105.length + l0_0.length < 4398046511104 then (some (y105 ++ l0_0)) else (none))) = some r := h
 clear h
 obtain ⟨y105, hy105⟩ : ∃ y_ : List (S108), y_ = (([] : List (S108))) := ⟨_, rfl⟩
 replace H : (if y105.length + l0_0.length < 4398046511104 then (some (y105 ++ l0_0)) else (none)) = some r := by first | (rw [hy105]; with_reducible exact H) | (have H2_ := (Option.bind_some _ _).symm.trans H; rw [hy105]; with_reducible exact H2_) | (have H2_ := (Option.bind_some _ _).symm.trans H; with_reducible exact H2_) | with_reducible exact H | (rw [hy105]; exact H) | exact H
 have Ny105 := Aside0.mk hy105
 clear hy105
 by_cases c2 : y105.length + l0_0.length < 4398046511104
 ·rw [if_pos c2] at H
  have LMc2 := Aside0.mk c2
  clear c2
  obtain ⟨y108, hy108⟩ : ∃ y_ : List (S108), y_ = (y105 ++ l0_0) := ⟨_, rfl⟩
  replace H : (some y108) = some r := by first | (rw [hy108]; with_reducible exact H) | (have H2_ := (Option.bind_some _ _).symm.trans H; rw [hy108]; with_reducible exact H2_) | (have H2_ := (Option.bind_some _ _).symm.trans H; with_reducible exact H2_) | with_reducible exact H | (rw [hy108]; exact H) | exact H
  have Ny108 := Aside0.mk hy108
  clear hy108
  obtain rfl := Option.some.inj H
  go_enter Try.func93, Try.ntmps93
  go_wp2_with (first | ((with_reducible refine gate_dst (N := 1) rfl ?_); refine box_event ?hg (N := 1) ?hd (cs := #[.slice A0_0 l0_0.length c0_0]) (t := 65) ?hr ?_; (case hd => rfl); (case hg => rfl); (case hr => exact tG); intro gb103 hg w3 hbox hb; have BK103 := Aside0.mk (hbox); have GW103 := gW HB hg; have GE103 := gW HB hg; replace HB := bH HB hb; clear hb hbox hg) | ((with_reducible refine gate_dst (N := 2) rfl ?_); refine box_event ?hg (N := 2) ?hd (cs := #[.slice none 0 0]) (t := 65) ?hr ?_; (case hd => rfl); (case hg => rfl); (case hr => exact tG); intro gb104 hg w4 hbox hb; have BK104 := Aside0.mk (hbox); have GW104 := gW HB hg; have GE104 := gW HB hg; replace HB := bH HB hb; have NB103_104 := nL BK103 hg; have NB104_103 := nR BK103 hg; replace BK103 := bB BK103 hb; clear hb hbox hg) | ((with_reducible refine gate_dst (N := 3) rfl ?_); refine Kd.R_lit k108 _ 108 ?hg (N := 3) ?hd (xs := ([] : List (S108))) (inner := []) (ok := fun _ => True) (okp := fun _ => True) ?hr ?hp (fun _ hk => hk) trivial (Below.refl _ _) (Nat.le_refl _) (by simp) ?_; (case hd => rfl); (case hg => rfl); (case hr => exact tG); (case hp => exact (Reps.none _ _)); intro v106 w5 ho6 hb hg_ hnew_; clear hg_ hnew_; (first | rw [← Ny105.out] at ho6 | (simp only [Int.reduceToNat] at ho6; rw [← Ny105.out] at ho6)); have HO107 := Aside0.mk (Kd.R_lower ho6 (below_size tB)); replace BK103 := bB BK103 hb; replace BK104 := bB BK104 hb; replace HB := bH HB hb; clear hb ho6; have hnb7 := NB103_104.out; have hnc7 := NB104_103.out; obtain ⟨hcz8_0, hfz8_0⟩ := bc1 BK103.out) | ((with_reducible refine gate_builtin (b := .append) (xs := #[.tmp 3, .tmp 5]) rfl ?_); at_builtin; refine Kd.R_append_rows k108 (w0 := w) w.heap.size rfl (.tmp 3) (.tmp 5) 63 108 (.agg #[(.int .i64 0), (.int .i64 0), (.int .i64 0), (.bool false)]) 32 rfl Try.underlying63 info108 rfl (by decide) (by omega) v106 y105 l0_0 _ _ _ (fun _ => True) (fun _ => False) rfl rfl ?aO ?aR (fun _ _ h => h) (fun _ h => h.elim) ?aF ?aB ?aS ?aL ?_; (case aR => repeat (first | exact (Kd.C_below HR0_0.out HB.out) | (with_reducible refine Kd.C_alloc ?_ _) | (with_reducible refine Kd.C_drewN ?_ _) | (with_reducible refine Kd.C_drew ?_))); (case aB => exact tB); (case aF => exact (fun _ _ => trivial)); (case aO => exact (tR HO107)); (case aS => exact (below_size tB)); (case aL => have := LMc2.out; omega); intro v109 w9 ho hb hg hat; rw [← Ny108.out] at ho; replace BK103 := Aside0.mk (blk_grown (g := gb103) (o := .cells #[.slice A0_0 l0_0.length c0_0] 65 (0, 0)) (tK BK103) hg (Kd.R_ne HO107.out BK103.out (by decide))); replace BK104 := Aside0.mk (blk_grown (g := gb104) (o := .cells #[.slice none 0 0] 65 (0, 0)) (tK BK104) hg (Kd.R_ne HO107.out BK104.out (by decide))); replace HB := Aside0.mk (hb); have HO110 := Aside0.mk (ho); clear HO107; clear ho hb hg hat; obtain ⟨Ao10, co10, eo10⟩ := Kd.R_slice HO110.out; subst eo10; obtain ⟨hcz11_0, hfz11_0⟩ := bc1 BK104.out))
  refine bodyPost_ret (results_cell_row rfl _ _ gb104 65 #[.slice Ao10 y108.length co10] (0, 0) _ rfl (by (with_reducible repeat (first | refine blk_drewN ?_ _ | refine blk_drew ?_ | refine blk_alloc ?_ _)); refine blk_put (cs := #[.slice none 0 0]) ?_ 0 _ rfl; (with_reducible repeat (first | refine blk_drewN ?_ _ | refine blk_drew ?_ | refine blk_alloc ?_ _)); exact BK104.out) Try.underlying65 rfl (by kernel_rfl)) rfl ?_
  exact ⟨_, tE, by (with_reducible repeat (first | apply Kd.R_alloc | apply Kd.R_drewN | apply Kd.R_drew)); exact Kd.R_mono (Kd.R_far (p := ⟨gb104, 0, none⟩) (Kd.R_types HO110.out BK104.out (by decide)) (fun _ hk => hk.2) (.slice Ao10 y108.length co10)) (fun _ hk => trivial), tB⟩
 rw [if_neg c2] at H
 exact absurd H (by simp)

/-! ### spec_ReadNotices: function 40 -/
def spec_ReadNotices.l0 : Nat → List (S108) → Int → List (S108) → List (S108) → Option ((List (S108)) × (List (S108)))
 | 0, _, _, _, _ => none
 | k + 1, x5, x6, x112000, x117000 => if x6 < (x112000.length : Int) then (if 0 ≤ x6 then (if ((rd_T108 x112000 x6).f3 = true) then (if x6 < (x117000.length : Int) then (spec_ReadNotices.l0 k x5 (wrap64 (x6 + 1)) x112000 (x117000.set (x6 : Int).toNat (⟨(rd_T108 x117000 x6).f0, (rd_T108 x117000 x6).f1, (rd_T108 x117000 x6).f2, true⟩ : S108))) else (none)) else (if x5.length < 4398046511104 then (if x6 < (x117000.length : Int) then (spec_ReadNotices.l0 k (x5 ++ [(⟨(rd_T108 x112000 x6).f0, (rd_T108 x112000 x6).f1, (rd_T108 x112000 x6).f2, (rd_T108 x112000 x6).f3⟩ : S108)]) (wrap64 (x6 + 1)) x112000 (x117000.set (x6 : Int).toNat (⟨(rd_T108 x117000 x6).f0, (rd_T108 x117000 x6).f1, (rd_T108 x117000 x6).f2, true⟩ : S108))) else (none)) else (none))) else (none)) else (some (x117000, x5))
def spec_ReadNotices.f (k : Nat) (l0_0 : List (S108)) : Option ((List (S108)) × (List (S108))) := (spec_l31Copy.f l0_0).bind fun t113 => (spec_ReadNotices.l0 k (([] : List (S108))) 0 l0_0 t113)
theorem spec_ReadNotices.mono_l : ∀ k, (∀ y0 y1 y2 y3, LeO (spec_ReadNotices.l0 k y0 y1 y2 y3) (spec_ReadNotices.l0 (k + 1) y0 y1 y2 y3))
 | 0 => fun _ _ _ _ r h => by simp [spec_ReadNotices.l0] at h
 | k + 1 => by
  have ih0 := spec_ReadNotices.mono_l k
  ·intro y0 y1 y2 y3
   unfold spec_ReadNotices.l0
   repeat' first
   | (with_reducible exact ih0 _ _ _ _)
   | (with_reducible exact LeO.refl _)
   | (with_reducible exact LeO.none _)
   | (with_reducible refine LeO.ite ?_ ?_)
   | (with_reducible refine LeO.bind ?_ (fun _ => ?_))
   | exact ih0 _ _ _ _
   | exact LeO.none _
   | refine LeO.ite ?_ ?_
   | refine LeO.bind ?_ (fun _ => ?_)
theorem spec_ReadNotices.mono : ∀ a0 k, LeO (spec_ReadNotices.f k a0) (spec_ReadNotices.f (k + 1) a0) := by
 intro a0 k
 have ih0 := spec_ReadNotices.mono_l k
 unfold spec_ReadNotices.f
 repeat' first
   | (with_reducible exact ih0 _ _ _ _)
   | (with_reducible exact LeO.refl _)
   | (with_reducible exact LeO.none _)
   | (with_reducible refine LeO.ite ?_ ?_)
   | (with_reducible refine LeO.bind ?_ (fun _ => ?_))
   | exact ih0 _ _ _ _
   | exact LeO.none _
   | refine LeO.ite ?_ ?_
   | refine LeO.bind ?_ (fun _ => ?_)
set_option maxHeartbeats 8000000 in
set_option maxRecDepth 100000 in
theorem spec_ReadNotices.calls (k : Nat) (A0_0 : Option Addr) (c0_0 : Nat) (l0_0 : List (S108)) (r1 : List (S108)) (r2 : List (S108)) (w : World) (hr0_0 : Kd.C k108 w A0_0 l0_0.length l0_0) (hc0_0 : l0_0.length ≤ c0_0) (h : spec_ReadNotices.f k l0_0 = some (r1, r2)) :
  Calls Try.prog 40 #[.agg #[.slice A0_0 l0_0.length c0_0]] w fun e w' => ∃ v0_ v1_ : Value, e = .returned (.tuple #[.agg #[v0_], v1_]) ∧ Kd.R k108 108 w' w.heap.size (fun k_ => some k_ ≠ (v1_ : Value).ownBlock) v0_ r1 ∧ Kd.R k108 108 w' w.heap.size (fun k_ => some k_ ≠ (v0_ : Value).ownBlock) v1_ r2 ∧ Below w.heap.size w w' := by
 have hu65 := Try.underlying65
 have hu108 := Try.underlying108
 have HR0_0 := Aside0.mk hr0_0
 have HC0_0 := Aside0.mk hc0_0
 clear hr0_0 hc0_0
 have HB := Aside0.mk (Below.refl w.heap.size w)
 have H : ((spec_l31Copy.f l0_0).bind fun t113 => (spec_ReadNotices.l0 k (([] : List (S108))) 0 l0_0 t113)) = some (r1, r2) := h
 clear h
 replace H := Option.bind_eq_some_iff.mp H
 obtain ⟨t113, A20, H⟩ := H
 try dsimp only at H
 have A2 := Aside0.mk A20
 clear A20
 obtain ⟨y117, hy117⟩ : ∃ y_ : List (S108), y_ = (([] : List (S108))) := ⟨_, rfl⟩
 replace H : (spec_ReadNotices.l0 k y117 0 l0_0 t113) = some (r1, r2) := by first | (rw [hy117]; with_reducible exact H) | (have H2_ := (Option.bind_some _ _).symm.trans H; rw [hy117]; with_reducible exact H2_) | (have H2_ := (Option.bind_some _ _).symm.trans H; with_reducible exact H2_) | with_reducible exact H | (rw [hy117]; exact H) | exact H
 have Ny117 := Aside0.mk hy117
 clear hy117
 have H' := Aside0.mk H
 clear H
 go_enter Try.func40, Try.ntmps40
 go_wp2_with (first | ((with_reducible refine gate_dst (N := 1) rfl ?_); refine box_event ?hg (N := 1) ?hd (cs := #[.slice A0_0 l0_0.length c0_0]) (t := 65) ?hr ?_; (case hd => rfl); (case hg => rfl); (case hr => exact tG); intro gb111 hg w3 hbox hb; have BK111 := Aside0.mk (hbox); have GW111 := gW HB hg; have GE111 := gW HB hg; replace HB := bH HB hb; clear hb hbox hg) | ((with_reducible refine gate_dst (N := 2) rfl ?_); refine box_event ?hg (N := 2) ?hd (cs := #[.slice none 0 0]) (t := 65) ?hr ?_; (case hd => rfl); (case hg => rfl); (case hr => exact tG); intro gb112 hg w4 hbox hb; have BK112 := Aside0.mk (hbox); have GW112 := gW HB hg; have GE112 := gW HB hg; replace HB := bH HB hb; have NB111_112 := nL BK111 hg; have NB112_111 := nR BK111 hg; replace BK111 := bB BK111 hb; clear hb hbox hg; have hnb5 := NB111_112.out; have hnc5 := NB112_111.out; obtain ⟨hcz6_0, hfz6_0⟩ := bc1 BK111.out) | ((with_reducible refine gate_callee (f := 93) rfl ?_); refine goesL_ (some 8) rfl rfl Try.func93 (by kernel_rfl) rfl #[.agg #[.slice A0_0 l0_0.length c0_0]] rfl tL ?_; (with_reducible refine (spec_l31Copy.calls _ _ l0_0 t113 _ ?side1 ?side2 A2.out).mono ?_); (case side1 => repeat (first | exact (Kd.C_below HR0_0.out HB.out) | (with_reducible refine Kd.C_alloc ?_ _) | (with_reducible refine Kd.C_drewN ?_ _) | (with_reducible refine Kd.C_drew ?_))); (case side2 => exact HC0_0.out); rintro e w7 ⟨v114, rfl, ho0, hb⟩; refine ⟨_, rfl, ?_⟩; have HO115 := Aside0.mk (Kd.R_lower ho0 (below_size tB)); replace BK111 := bB BK111 hb; replace BK112 := bB BK112 hb; replace HB := bH HB hb; (try clear hb); (try clear hb2); (try clear hk); (try clear hi); (try clear ho0)) | ((with_reducible refine gate_dst (N := 4) rfl ?_); refine box_event ?hg (N := 4) ?hd (cs := #[.slice none 0 0]) (t := 65) ?hr ?_; (case hd => rfl); (case hg => rfl); (case hr => exact tG); intro gb116 hg w8 hbox hb; replace HO115 := Aside0.mk (Kd.R_below (tR HO115) hb); have BK116 := Aside0.mk (hbox); have GW116 := gW HB hg; have GE116 := gW HB hg; replace HB := bH HB hb; have NB111_116 := nL BK111 hg; have NB116_111 := nR BK111 hg; replace BK111 := bB BK111 hb; have NB112_116 := nL BK112 hg; have NB116_112 := nR BK112 hg; replace BK112 := bB BK112 hb; clear hb hbox hg; obtain ⟨Ao9, co9, eo9⟩ := Kd.R_slice HO115.out; subst eo9; have hnb10 := NB116_111.out; have hnc10 := NB111_116.out; have hnb11 := NB116_112.out; have hnc11 := NB112_116.out; obtain ⟨hcz12_0, hfz12_0⟩ := bc1 BK116.out) | ((with_reducible refine gate_dst (N := 9) rfl ?_); refine Kd.R_lit k108 _ 108 ?hg (N := 9) ?hd (xs := ([] : List (S108))) (inner := []) (ok := fun _ => True) (okp := fun _ => True) ?hr ?hp (fun _ hk => hk) trivial (Below.refl _ _) (Nat.le_refl _) (by simp) ?_; (case hd => rfl); (case hg => rfl); (case hr => exact tG); (case hp => exact (Reps.none _ _)); intro v118 w13 ho14 hb hg_ hnew_; clear hg_ hnew_; (first | rw [← Ny117.out] at ho14 | (simp only [Int.reduceToNat] at ho14; rw [← Ny117.out] at ho14)); have HO119 := Aside0.mk (Kd.R_lower (Kd.R_new' ho14 (Kd.R_lt (by (with_reducible repeat (first | apply Kd.R_alloc | apply Kd.R_drewN | apply Kd.R_drew)); exact (Kd.R_mono (Kd.R_far (p := ⟨gb116, 0, none⟩) (Kd.R_types HO115.out BK116.out (by decide)) (fun _ hk => hk.2) (.slice Ao9 t113.length co9)) (fun _ h_ => h_.1))))) (below_size tB)); replace HO115 := Aside0.mk (Kd.R_elder' (by (with_reducible repeat (first | apply Kd.R_alloc | apply Kd.R_drewN | apply Kd.R_drew)); exact (Kd.R_mono (Kd.R_far (p := ⟨gb116, 0, none⟩) (Kd.R_types HO115.out BK116.out (by decide)) (fun _ hk => hk.2) (.slice Ao9 t113.length co9)) (fun _ h_ => h_.1))) (Kd.R_base ho14) hb); replace BK111 := Aside0.mk (blk_below (g := gb111) (o := .cells #[.slice A0_0 l0_0.length c0_0] 65 (0, 0)) (kF NB111_116 BK111) hb); replace BK112 := Aside0.mk (blk_below (g := gb112) (o := .cells #[.slice none 0 0] 65 (0, 0)) (kF NB112_116 BK112) hb); replace BK116 := Aside0.mk (blk_below (g := gb116) (o := .cells #[.slice Ao9 t113.length co9] 65 (0, 0)) (by (with_reducible repeat (first | refine blk_drewN ?_ _ | refine blk_drew ?_ | refine blk_alloc ?_ _)); refine blk_put (cs := #[.slice none 0 0]) ?_ 0 _ rfl; (with_reducible repeat (first | refine blk_drewN ?_ _ | refine blk_drew ?_ | refine blk_alloc ?_ _)); exact BK116.out) hb); replace HB := bH HB hb; clear hb ho14))
 go_loopg [5, 6] k (fun kq v5 v6 w' => ∃ (x5_1 : List (S108)) (x6_1 : Int) (x117000_1 : List (S108)) (u117000 : Value), v6 = .int .i64 x6_1 ∧ Aside0 (spec_ReadNotices.l0 kq x5_1 x6_1 l0_0 x117000_1 = some (r1, r2)) ∧ Aside0 (kq ≤ k) ∧ Aside0 (Kd.R k108 108 w' w.heap.size (fun k_ => some k_ ≠ (u117000 : Value).ownBlock) v5 x5_1) ∧ Aside0 (Kd.R k108 108 w' w.heap.size (fun k_ => some k_ ≠ (v5 : Value).ownBlock) u117000 x117000_1) ∧ Aside0 (w'.heap[gb111]? = some (.cells #[(.slice A0_0 l0_0.length c0_0)] 65 (0, 0))) ∧ Aside0 (w'.heap[gb112]? = some (.cells #[(.slice none 0 0)] 65 (0, 0))) ∧ Aside0 (w'.heap[gb116]? = some (.cells #[u117000] 65 (0, 0))) ∧ Aside0 (Below w.heap.size w w'))
 case atStart => exact ⟨(y117), (0), (t113), (.slice Ao9 t113.length co9), tS, H', ⟨Nat.le_refl _⟩, ⟨by (with_reducible repeat (first | apply Kd.R_alloc | apply Kd.R_drewN | apply Kd.R_drew)); exact Kd.R_mono HO119.out (fun _ hk => hk.2)⟩, ⟨by (with_reducible repeat (first | apply Kd.R_alloc | apply Kd.R_drewN | apply Kd.R_drew)); exact Kd.R_mono HO115.out (fun _ hk => hk.2)⟩, ⟨tK BK111⟩, ⟨tK BK112⟩, ⟨tK BK116⟩, ⟨tB⟩⟩
 case round =>
  clear H'
  try clear c1
  try clear p2
  try clear c4
  try clear c5
  try clear c9
  try clear c10
  try clear c11
  try clear hcz12_0
  try clear hcz6_0
  try clear hfz12_0
  try clear hfz6_0
  obtain ⟨x5_1, x6_1, x117000_1, u117000, rfl, HA, HK1, HO_5, HO_117000, BK111, BK112, BK116, HB⟩ := hrel
  cases gk with
  | zero => exact absurd HA.out (by simp [spec_ReadNotices.l0])
  | succ k1 =>
   have H := HA.out
   clear HA
   simp only [spec_ReadNotices.l0] at H
   by_cases c15 : x6_1 < (l0_0.length : Int)
   ·rw [if_pos c15] at H
    have c15b0 : decide (x6_1 < (l0_0.length : Int)) = true := decide_eq_true c15
    clear c15
    by_cases c16 : 0 ≤ x6_1
    ·rw [if_pos c16] at H
     have c16b0 : decide (0 ≤ x6_1) = true := decide_eq_true c16
     clear c16
     obtain ⟨bq17, hbq17⟩ : ∃ b_ : Bool, b_ = ((rd_T108 l0_0 x6_1).f3) := ⟨_, rfl⟩
     replace H : (if (bq17 = true) then (if x6_1 < (x117000_1.length : Int) then (spec_ReadNotices.l0 k1 x5_1 (wrap64 (x6_1 + 1)) l0_0 (x117000_1.set (x6_1 : Int).toNat (⟨(rd_T108 x117000_1 x6_1).f0, (rd_T108 x117000_1 x6_1).f1, (rd_T108 x117000_1 x6_1).f2, true⟩ : S108))) else (none)) else (if x5_1.length < 4398046511104 then (if x6_1 < (x117000_1.length : Int) then (spec_ReadNotices.l0 k1 (x5_1 ++ [(⟨(rd_T108 l0_0 x6_1).f0, (rd_T108 l0_0 x6_1).f1, (rd_T108 l0_0 x6_1).f2, bq17⟩ : S108)]) (wrap64 (x6_1 + 1)) l0_0 (x117000_1.set (x6_1 : Int).toNat (⟨(rd_T108 x117000_1 x6_1).f0, (rd_T108 x117000_1 x6_1).f1, (rd_T108 x117000_1 x6_1).f2, true⟩ : S108))) else (none)) else (none))) = some (r1, r2) := by rw [← hbq17] at H; exact H
     have Nbq17 := Aside0.mk hbq17
     clear hbq17
     by_cases c18 : (bq17 = true)
     ·subst c18
      have H1 : (if x6_1 < (x117000_1.length : Int) then (spec_ReadNotices.l0 k1 x5_1 (wrap64 (x6_1 + 1)) l0_0 (x117000_1.set (x6_1 : Int).toNat (⟨(rd_T108 x117000_1 x6_1).f0, (rd_T108 x117000_1 x6_1).f1, (rd_T108 x117000_1 x6_1).f2, true⟩ : S108))) else (none)) = some (r1, r2) := by rw [if_pos rfl] at H; exact H
      clear H
      have H := H1
      clear H1
      by_cases c19 : x6_1 < (x117000_1.length : Int)
      ·rw [if_pos c19] at H
       have c19b0 : decide (x6_1 < (x117000_1.length : Int)) = true := decide_eq_true c19
       clear c19
       obtain ⟨y121, hy121⟩ : ∃ y_ : List (S108), y_ = (x117000_1.set (x6_1 : Int).toNat (⟨(rd_T108 x117000_1 x6_1).f0, (rd_T108 x117000_1 x6_1).f1, (rd_T108 x117000_1 x6_1).f2, true⟩ : S108)) := ⟨_, rfl⟩
       replace H : (spec_ReadNotices.l0 k1 x5_1 (wrap64 (x6_1 + 1)) l0_0 y121) = some (r1, r2) := by first | (rw [hy121]; with_reducible exact H) | (have H2_ := (Option.bind_some _ _).symm.trans H; rw [hy121]; with_reducible exact H2_) | (have H2_ := (Option.bind_some _ _).symm.trans H; with_reducible exact H2_) | with_reducible exact H | (rw [hy121]; exact H) | exact H
       have Ny121 := Aside0.mk hy121
       clear hy121
       have H' := Aside0.mk H
       clear H
       have hnb21 := NB111_112.out
       have hnc21 := NB112_111.out
       have hnb22 := NB111_116.out
       have hnc22 := NB116_111.out
       obtain ⟨hcz23_0, hfz23_0⟩ := bc1 BK111.out
       have p120 : 0 ≤ (x6_1 : Int) := of_decide_eq_true tA
       have q120 : x6_1 < (l0_0.length : Int) := of_decide_eq_true tA
       obtain ⟨ad120, e120, hx120_0, hx120_1, hx120_2, hx120_3⟩ := at_T108 HR0_0.out x6_1 p120 q120
       (try rw [← Nbq17.out] at hx120_3)
       cases e120
       replace hx120_0 := hbc HB hx120_0
       replace hx120_1 := hbc HB hx120_1
       replace hx120_2 := hbc HB hx120_2
       replace hx120_3 := hbc HB hx120_3
       replace p120 := eq_true p120
       replace q120 := eq_true q120
       have hnb24 := NB116_112.out
       have hnc24 := NB112_116.out
       obtain ⟨hcz25_0, hfz25_0⟩ := bc1 BK116.out
       have p20 : 0 ≤ (x6_1 : Int) := of_decide_eq_true tA
       have q20 : (x6_1 : Int) < ((x117000_1.length : Int) : Int) := of_decide_eq_true tA
       obtain ⟨go20, co20, eo20, gb20, gl20, cl20, HG20⟩ := Kd.R_form HO_117000.out (by omega)
       (first | cases eo20 | (injection eo20 with ea_ en_ ec_; (first | subst ea_ | (injection ea_ with ea_; subst ea_)); subst ec_; clear en_))
       have GB20 := Aside0.mk gb20
       have GG20 := Aside0.mk HG20
       clear gb20 gl20 HG20
       obtain ⟨ce20, hcl20, hM20, hcc20, hfr20⟩ := Kd.R_elem HO_117000.out z108 (x6_1 : Int) p20 q20
       obtain rfl := k108_openM hM20
       have hx20_0 : wr.cell? ⟨go20, (x6_1 : Int).toNat * 4, none⟩ = some (.int .i64 ((rd_T108 x117000_1 x6_1).f0)) := hcc20 0 _ rfl
       have hx20_1 : wr.cell? ⟨go20, (x6_1 : Int).toNat * 4 + 1, none⟩ = some (.int .i64 ((rd_T108 x117000_1 x6_1).f1)) := hcc20 1 _ rfl
       have hx20_2 : wr.cell? ⟨go20, (x6_1 : Int).toNat * 4 + 2, none⟩ = some (.int .i64 ((rd_T108 x117000_1 x6_1).f2)) := hcc20 2 _ rfl
       have hx20_3 : wr.cell? ⟨go20, (x6_1 : Int).toNat * 4 + 3, none⟩ = some (.bool ((rd_T108 x117000_1 x6_1).f3)) := hcc20 3 _ rfl
       have hf20_0 : wr.frozen? ⟨go20, (x6_1 : Int).toNat * 4, none⟩ = false := hfr20 0
       have hf20_1 : wr.frozen? ⟨go20, (x6_1 : Int).toNat * 4 + 1, none⟩ = false := hfr20 1
       have hf20_2 : wr.frozen? ⟨go20, (x6_1 : Int).toNat * 4 + 2, none⟩ = false := hfr20 2
       have hf20_3 : wr.frozen? ⟨go20, (x6_1 : Int).toNat * 4 + 3, none⟩ = false := hfr20 3
       clear hcl20 hcc20 hfr20 hM20
       replace p20 := eq_true p20
       replace q20 := eq_true q20
       have HX26 := Aside0.mk (show Kd.R k108 108 wr w.heap.size (fun k_ => some k_ ≠ (u5 : Value).ownBlock) (.slice (some ⟨go20, 0, none⟩) x117000_1.length co20) x117000_1 from (tR HO_117000))
       obtain ⟨ce26, hcl26, hM26, hcc26, hfr26⟩ := Kd.R_elem HX26.out z108 (x6_1 : Int) (of_decide_eq_true tA) (by have h_ : (x6_1 : Int) < ((x117000_1.length : Int) : Int) := of_decide_eq_true tA; first | exact h_ | (have e_ := (Kd.R_reads' HO_117000.out).1; omega) | simpa using h_)
       obtain rfl := k108_openM hM26
       have HP26 := Kd.R_seg HX26.out (x6_1 : Int) (of_decide_eq_true tA) (by have h_ : (x6_1 : Int) < ((x117000_1.length : Int) : Int) := of_decide_eq_true tA; first | exact h_ | (have e_ := (Kd.R_reads' HO_117000.out).1; omega) | simpa using h_) (seg := [.bool true]) (j := 3) hcl26 hcc26 (show 4 ≤ 4 from by decide) (x' := (⟨(rd_T108 x117000_1 x6_1).f0, (rd_T108 x117000_1 x6_1).f1, (rd_T108 x117000_1 x6_1).f2, true⟩ : S108)) (k108_mkM _ _ _ (⟨(rd_T108 x117000_1 x6_1).f0, (rd_T108 x117000_1 x6_1).f1, (rd_T108 x117000_1 x6_1).f2, true⟩ : S108) ) (fun _ hk => hk)
       have hx26_3 := hcc26 3 _ rfl
       (try simp only [show (k108).sz = 4 from rfl, Nat.mul_one, Nat.add_zero] at hx26_3)
       have hf26_3 := hfr26 3
       (try simp only [show (k108).sz = 4 from rfl, Nat.mul_one, Nat.add_zero] at hf26_3)
       clear hcl26 hcc26 hfr26 hM26
       go_wp2_with (first | ((with_reducible refine gate_store (t := 4) (p := 36) rfl ?_); refine store_event (t := 4) (p := 36) (v := ?vo_w27) (w1 := (wr.setCell ⟨go20, (x6_1 : Int).toNat * 4 + 3, none⟩ (.bool true))) ?hg ?ho ?hn ?hr ?_; (case ho => rfl); (case hg => rfl); (case hn => rfl); (case hr => first | (go_simp; done) | (go_simp; rfl)); intro w27 hw; have hg : wr.grownBy w27 (some go20) := (by rw [hw]; exact HP26.2); have hp_ : Kd.R k108 108 w27 w.heap.size (fun k_ => some k_ ≠ (u5 : Value).ownBlock) (.slice (some ⟨go20, 0, none⟩) x117000_1.length co20) y121 := (by rw [hw, Ny121.out]; exact HP26.1); clear HP26; replace HO_5 := Aside0.mk (Kd.R_after (v := (.slice (some ⟨go20, 0, none⟩) x117000_1.length co20)) (v1 := (.slice (some ⟨go20, 0, none⟩) x117000_1.length co20)) (ok := (fun _ => True)) (by (with_reducible repeat (first | apply Kd.R_alloc | apply Kd.R_drewN | apply Kd.R_drew)); exact Kd.R_mono HO_5.out (fun _ hk => ⟨trivial, hk⟩)) hg (.inl rfl)); replace BK111 := Aside0.mk (blk_grown (g := gb111) (o := .cells #[.slice (some ad120) l0_0.length c0_0] 65 (0, 0)) (tK BK111) hg (Kd.R_ne HO_117000.out BK111.out (by decide))); replace BK112 := Aside0.mk (blk_grown (g := gb112) (o := .cells #[.slice none 0 0] 65 (0, 0)) (tK BK112) hg (Kd.R_ne HO_117000.out BK112.out (by decide))); replace BK116 := Aside0.mk (blk_grown (g := gb116) (o := .cells #[.slice (some ⟨go20, 0, none⟩) x117000_1.length co20] 65 (0, 0)) (tK BK116) hg (Kd.R_ne HO_117000.out BK116.out (by decide))); replace HO_117000 := Aside0.mk (hp_); replace HB := Aside0.mk ((by rw [hw]; exact below_set (HB.out) GB20.out : Below w.heap.size w w27)); clear hg hw hp_))
       go_roundg k1
       case measure => have := HK1.out; omega
       case rel => exact ⟨(x5_1), (wrap64 (x6_1 + 1)), (y121), (.slice (some ⟨go20, 0, none⟩) x117000_1.length co20), tS, H', ⟨tI⟩, ⟨by (with_reducible repeat (first | apply Kd.R_alloc | apply Kd.R_drewN | apply Kd.R_drew)); exact Kd.R_mono HO_5.out (fun _ hk => hk.2)⟩, ⟨tR HO_117000⟩, ⟨tK BK111⟩, ⟨tK BK112⟩, ⟨tK BK116⟩, ⟨tB⟩⟩
      rw [if_neg c19] at H
      exact absurd H (by simp)
     replace c18 := Bool.eq_false_iff.mpr c18
     subst c18
     have H1 : (if x5_1.length < 4398046511104 then (if x6_1 < (x117000_1.length : Int) then (spec_ReadNotices.l0 k1 (x5_1 ++ [(⟨(rd_T108 l0_0 x6_1).f0, (rd_T108 l0_0 x6_1).f1, (rd_T108 l0_0 x6_1).f2, false⟩ : S108)]) (wrap64 (x6_1 + 1)) l0_0 (x117000_1.set (x6_1 : Int).toNat (⟨(rd_T108 x117000_1 x6_1).f0, (rd_T108 x117000_1 x6_1).f1, (rd_T108 x117000_1 x6_1).f2, true⟩ : S108))) else (none)) else (none)) = some (r1, r2) := by rw [if_neg (show ¬ (false = true) by decide)] at H; exact H
     clear H
     have H := H1
     clear H1
     by_cases c28 : x5_1.length < 4398046511104
     ·rw [if_pos c28] at H
      have LMc28 := Aside0.mk c28
      clear c28
      obtain ⟨y123, hy123⟩ : ∃ y_ : List (S108), y_ = (x5_1 ++ [(⟨(rd_T108 l0_0 x6_1).f0, (rd_T108 l0_0 x6_1).f1, (rd_T108 l0_0 x6_1).f2, false⟩ : S108)]) := ⟨_, rfl⟩
      replace H : (if x6_1 < (x117000_1.length : Int) then (spec_ReadNotices.l0 k1 y123 (wrap64 (x6_1 + 1)) l0_0 (x117000_1.set (x6_1 : Int).toNat (⟨(rd_T108 x117000_1 x6_1).f0, (rd_T108 x117000_1 x6_1).f1, (rd_T108 x117000_1 x6_1).f2, true⟩ : S108))) else (none)) = some (r1, r2) := by first | (rw [hy123]; with_reducible exact H) | (have H2_ := (Option.bind_some _ _).symm.trans H; rw [hy123]; with_reducible exact H2_) | (have H2_ := (Option.bind_some _ _).symm.trans H; with_reducible exact H2_) | with_reducible exact H | (rw [hy123]; exact H) | exact H
      have Ny123 := Aside0.mk hy123
      clear hy123
      by_cases c29 : x6_1 < (x117000_1.length : Int)
      ·rw [if_pos c29] at H
       have c29b0 : decide (x6_1 < (x117000_1.length : Int)) = true := decide_eq_true c29
       clear c29
       obtain ⟨y126, hy126⟩ : ∃ y_ : List (S108), y_ = (x117000_1.set (x6_1 : Int).toNat (⟨(rd_T108 x117000_1 x6_1).f0, (rd_T108 x117000_1 x6_1).f1, (rd_T108 x117000_1 x6_1).f2, true⟩ : S108)) := ⟨_, rfl⟩
       replace H : (spec_ReadNotices.l0 k1 y123 (wrap64 (x6_1 + 1)) l0_0 y126) = some (r1, r2) := by first | (rw [hy126]; with_reducible exact H) | (have H2_ := (Option.bind_some _ _).symm.trans H; rw [hy126]; with_reducible exact H2_) | (have H2_ := (Option.bind_some _ _).symm.trans H; with_reducible exact H2_) | with_reducible exact H | (rw [hy126]; exact H) | exact H
       have Ny126 := Aside0.mk hy126
       clear hy126
       have H' := Aside0.mk H
       clear H
       have hnb31 := NB111_112.out
       have hnc31 := NB112_111.out
       have hnb32 := NB111_116.out
       have hnc32 := NB116_111.out
       obtain ⟨hcz33_0, hfz33_0⟩ := bc1 BK111.out
       have p120 : 0 ≤ (x6_1 : Int) := of_decide_eq_true tA
       have q120 : x6_1 < (l0_0.length : Int) := of_decide_eq_true tA
       obtain ⟨ad120, e120, hx120_0, hx120_1, hx120_2, hx120_3⟩ := at_T108 HR0_0.out x6_1 p120 q120
       (try rw [← Nbq17.out] at hx120_3)
       cases e120
       replace hx120_0 := hbc HB hx120_0
       replace hx120_1 := hbc HB hx120_1
       replace hx120_2 := hbc HB hx120_2
       replace hx120_3 := hbc HB hx120_3
       replace p120 := eq_true p120
       replace q120 := eq_true q120
       have p122 : 0 ≤ (x6_1 : Int) := of_decide_eq_true tA
       have q122 : x6_1 < (l0_0.length : Int) := of_decide_eq_true tA
       obtain ⟨ad122, e122, hx122_0, hx122_1, hx122_2, hx122_3⟩ := at_T108 HR0_0.out x6_1 p122 q122
       (try rw [← Nbq17.out] at hx122_3)
       obtain rfl : ad120 = ad122 := (by injection e122)
       replace hx122_0 := hbc HB hx122_0
       replace hx122_1 := hbc HB hx122_1
       replace hx122_2 := hbc HB hx122_2
       replace hx122_3 := hbc HB hx122_3
       replace p122 := eq_true p122
       replace q122 := eq_true q122
       go_wp2_with (first | ((with_reducible refine gate_builtin (b := .append) (xs := #[.tmp 24, .tmp 30]) rfl ?_); at_builtin; refine Kd.R_append k108 (w0 := w) w.heap.size rfl (.tmp 24) (.tmp 30) 63 108 (.agg #[(.int .i64 0), (.int .i64 0), (.int .i64 0), (.bool false)]) 32 rfl Try.underlying63 info108 rfl (by decide) (by omega) u5 x5_1 (⟨(rd_T108 l0_0 x6_1).f0, (rd_T108 l0_0 x6_1).f1, (rd_T108 l0_0 x6_1).f2, false⟩ : S108) [.int .i64 ((rd_T108 l0_0 x6_1).f0), .int .i64 ((rd_T108 l0_0 x6_1).f1), .int .i64 ((rd_T108 l0_0 x6_1).f2), .bool false] (fun k_ => some k_ ≠ (u117000 : Value).ownBlock) (fun _ => False) rfl rfl ?aP (fun _ hk => hk.elim) ?aF ?aO ?aB ?aS ?aL ?_; (case aP => exact k108_mkM _ _ _ (⟨(rd_T108 l0_0 x6_1).f0, (rd_T108 l0_0 x6_1).f1, (rd_T108 l0_0 x6_1).f2, false⟩ : S108)); (case aB => exact tB); (case aF => exact (fun k_ hk => Kd.fresh' (Kd.R_lt (tR HO_117000)) k_ hk)); (case aO => exact (tR HO_5)); (case aS => exact (below_size tB)); (case aL => have := LMc28.out; omega); intro v124 w34 ho hb hg hat; rw [← Ny123.out] at ho; replace HO_117000 := Aside0.mk (Kd.R_after (ok := (fun _ => True)) (by (with_reducible repeat (first | apply Kd.R_alloc | apply Kd.R_drewN | apply Kd.R_drew)); exact Kd.R_mono HO_117000.out (fun _ hk => ⟨trivial, hk⟩)) hg hat); replace BK111 := Aside0.mk (blk_grown (g := gb111) (o := .cells #[.slice (some ad120) l0_0.length c0_0] 65 (0, 0)) (tK BK111) hg (Kd.R_ne HO_5.out BK111.out (by decide))); replace BK112 := Aside0.mk (blk_grown (g := gb112) (o := .cells #[.slice none 0 0] 65 (0, 0)) (tK BK112) hg (Kd.R_ne HO_5.out BK112.out (by decide))); replace BK116 := Aside0.mk (blk_grown (g := gb116) (o := .cells #[u117000] 65 (0, 0)) (tK BK116) hg (Kd.R_ne HO_5.out BK116.out (by decide))); replace HB := Aside0.mk (hb); have HO125 := Aside0.mk (ho); clear HO_5; clear ho hb hg hat; have hnb35 := NB116_112.out; have hnc35 := NB112_116.out; obtain ⟨hcz36_0, hfz36_0⟩ := bc1 BK116.out; have p30 : 0 ≤ (x6_1 : Int) := of_decide_eq_true tA; have q30 : (x6_1 : Int) < ((x117000_1.length : Int) : Int) := of_decide_eq_true tA; obtain ⟨go30, co30, eo30, gb30, gl30, cl30, HG30⟩ := Kd.R_form HO_117000.out (by omega); (first | cases eo30 | (injection eo30 with ea_ en_ ec_; (first | subst ea_ | (injection ea_ with ea_; subst ea_)); subst ec_; clear en_)); have GB30 := Aside0.mk gb30; have GG30 := Aside0.mk HG30; clear gb30 gl30 HG30; obtain ⟨ce30, hcl30, hM30, hcc30, hfr30⟩ := Kd.R_elem HO_117000.out z108 (x6_1 : Int) p30 q30; obtain rfl := k108_openM hM30; have hx30_0 : w34.cell? ⟨go30, (x6_1 : Int).toNat * 4, none⟩ = some (.int .i64 ((rd_T108 x117000_1 x6_1).f0)) := hcc30 0 _ rfl; have hx30_1 : w34.cell? ⟨go30, (x6_1 : Int).toNat * 4 + 1, none⟩ = some (.int .i64 ((rd_T108 x117000_1 x6_1).f1)) := hcc30 1 _ rfl; have hx30_2 : w34.cell? ⟨go30, (x6_1 : Int).toNat * 4 + 2, none⟩ = some (.int .i64 ((rd_T108 x117000_1 x6_1).f2)) := hcc30 2 _ rfl; have hx30_3 : w34.cell? ⟨go30, (x6_1 : Int).toNat * 4 + 3, none⟩ = some (.bool ((rd_T108 x117000_1 x6_1).f3)) := hcc30 3 _ rfl; have hf30_0 : w34.frozen? ⟨go30, (x6_1 : Int).toNat * 4, none⟩ = false := hfr30 0; have hf30_1 : w34.frozen? ⟨go30, (x6_1 : Int).toNat * 4 + 1, none⟩ = false := hfr30 1; have hf30_2 : w34.frozen? ⟨go30, (x6_1 : Int).toNat * 4 + 2, none⟩ = false := hfr30 2; have hf30_3 : w34.frozen? ⟨go30, (x6_1 : Int).toNat * 4 + 3, none⟩ = false := hfr30 3; clear hcl30 hcc30 hfr30 hM30; replace p30 := eq_true p30; replace q30 := eq_true q30; have n_ := Aside0.mk (Kd.R_mono (ok' := (fun k_ => some k_ ≠ (v124 : Value).ownBlock)) HO_117000.out (fun k_ hk => hk.2)); clear HO_117000; have HO_117000 := n_; clear n_; have HX37 := Aside0.mk (show Kd.R k108 108 w34 w.heap.size (fun k_ => some k_ ≠ (v124 : Value).ownBlock) (.slice (some ⟨go30, 0, none⟩) x117000_1.length co30) x117000_1 from (tR HO_117000)); obtain ⟨ce37, hcl37, hM37, hcc37, hfr37⟩ := Kd.R_elem HX37.out z108 (x6_1 : Int) (of_decide_eq_true tA) (by have h_ : (x6_1 : Int) < ((x117000_1.length : Int) : Int) := of_decide_eq_true tA; first | exact h_ | (have e_ := (Kd.R_reads' HO_117000.out).1; omega) | simpa using h_); obtain rfl := k108_openM hM37; have HP37 := Kd.R_seg HX37.out (x6_1 : Int) (of_decide_eq_true tA) (by have h_ : (x6_1 : Int) < ((x117000_1.length : Int) : Int) := of_decide_eq_true tA; first | exact h_ | (have e_ := (Kd.R_reads' HO_117000.out).1; omega) | simpa using h_) (seg := [.bool true]) (j := 3) hcl37 hcc37 (show 4 ≤ 4 from by decide) (x' := (⟨(rd_T108 x117000_1 x6_1).f0, (rd_T108 x117000_1 x6_1).f1, (rd_T108 x117000_1 x6_1).f2, true⟩ : S108)) (k108_mkM _ _ _ (⟨(rd_T108 x117000_1 x6_1).f0, (rd_T108 x117000_1 x6_1).f1, (rd_T108 x117000_1 x6_1).f2, true⟩ : S108) ) (fun _ hk => hk); have hx37_3 := hcc37 3 _ rfl; (try simp only [show (k108).sz = 4 from rfl, Nat.mul_one, Nat.add_zero] at hx37_3); have hf37_3 := hfr37 3; (try simp only [show (k108).sz = 4 from rfl, Nat.mul_one, Nat.add_zero] at hf37_3); clear hcl37 hcc37 hfr37 hM37) | ((with_reducible refine gate_store (t := 4) (p := 36) rfl ?_); refine store_event (t := 4) (p := 36) (v := ?vo_w38) (w1 := (w34.setCell ⟨go30, (x6_1 : Int).toNat * 4 + 3, none⟩ (.bool true))) ?hg ?ho ?hn ?hr ?_; (case ho => rfl); (case hg => rfl); (case hn => rfl); (case hr => first | (go_simp; done) | (go_simp; rfl)); intro w38 hw; have hg : w34.grownBy w38 (some go30) := (by rw [hw]; exact HP37.2); have hp_ : Kd.R k108 108 w38 w.heap.size (fun k_ => some k_ ≠ (v124 : Value).ownBlock) (.slice (some ⟨go30, 0, none⟩) x117000_1.length co30) y126 := (by rw [hw, Ny126.out]; exact HP37.1); clear HP37; replace BK111 := Aside0.mk (blk_grown (g := gb111) (o := .cells #[.slice (some ad120) l0_0.length c0_0] 65 (0, 0)) (tK BK111) hg (Kd.R_ne HO_117000.out BK111.out (by decide))); replace BK112 := Aside0.mk (blk_grown (g := gb112) (o := .cells #[.slice none 0 0] 65 (0, 0)) (tK BK112) hg (Kd.R_ne HO_117000.out BK112.out (by decide))); replace BK116 := Aside0.mk (blk_grown (g := gb116) (o := .cells #[.slice (some ⟨go30, 0, none⟩) x117000_1.length co30] 65 (0, 0)) (tK BK116) hg (Kd.R_ne HO_117000.out BK116.out (by decide))); replace HO_117000 := Aside0.mk (hp_); replace HO125 := Aside0.mk (Kd.R_after (v := (.slice (some ⟨go30, 0, none⟩) x117000_1.length co30)) (v1 := (.slice (some ⟨go30, 0, none⟩) x117000_1.length co30)) (ok := (fun _ => True)) (by (with_reducible repeat (first | apply Kd.R_alloc | apply Kd.R_drewN | apply Kd.R_drew)); exact Kd.R_mono HO125.out (fun _ hk => ⟨trivial, hk⟩)) hg (.inl rfl)); replace HB := Aside0.mk ((by rw [hw]; exact below_set (HB.out) GB30.out : Below w.heap.size w w38)); clear hg hw hp_))
       go_roundg k1
       case measure => have := HK1.out; omega
       case rel => exact ⟨(y123), (wrap64 (x6_1 + 1)), (y126), (.slice (some ⟨go30, 0, none⟩) x117000_1.length co30), tS, H', ⟨tI⟩, ⟨by (with_reducible repeat (first | apply Kd.R_alloc | apply Kd.R_drewN | apply Kd.R_drew)); exact Kd.R_mono HO125.out (fun _ hk => hk.2)⟩, ⟨tR HO_117000⟩, ⟨tK BK111⟩, ⟨tK BK112⟩, ⟨tK BK116⟩, ⟨tB⟩⟩
      rw [if_neg c29] at H
      exact absurd H (by simp)
     rw [if_neg c28] at H
     exact absurd H (by simp)
    rw [if_neg c16] at H
    exact absurd H (by simp)
   rw [if_neg c15] at H
   have c15b0 : decide (x6_1 < (l0_0.length : Int)) = false := decide_eq_false c15
   clear c15
   simp only [Option.some.injEq, Prod.mk.injEq] at H
   obtain ⟨rfl, rfl⟩ := H
   have hnb39 := NB111_112.out
   have hnc39 := NB112_111.out
   have hnb40 := NB111_116.out
   have hnc40 := NB116_111.out
   obtain ⟨hcz41_0, hfz41_0⟩ := bc1 BK111.out
   have hnb42 := NB116_112.out
   have hnc42 := NB112_116.out
   obtain ⟨hcz43_0, hfz43_0⟩ := bc1 BK116.out
   obtain ⟨Ao44, co44, eo44⟩ := Kd.R_slice HO_117000.out
   subst eo44
   obtain ⟨hcz45_0, hfz45_0⟩ := bc1 BK112.out
   go_wp2
   refine bodyPost_ret (results_ct rfl _ _ gb112 65 #[.slice Ao44 x117000_1.length co44] (0, 0) _ rfl (by (with_reducible repeat (first | refine blk_drewN ?_ _ | refine blk_drew ?_ | refine blk_alloc ?_ _)); refine blk_put (cs := #[.slice none 0 0]) ?_ 0 _ rfl; (with_reducible repeat (first | refine blk_drewN ?_ _ | refine blk_drew ?_ | refine blk_alloc ?_ _)); exact BK112.out) Try.underlying65 rfl (by kernel_rfl)) rfl ?_
   exact ⟨_, _, tE, by (with_reducible repeat (first | apply Kd.R_alloc | apply Kd.R_drewN | apply Kd.R_drew)); exact Kd.R_mono (Kd.R_far (p := ⟨gb112, 0, none⟩) (Kd.R_types HO_117000.out BK112.out (by decide)) (fun _ hk => hk.2) (.slice Ao44 x117000_1.length co44)) (fun _ hk => hk.1), by (with_reducible repeat (first | apply Kd.R_alloc | apply Kd.R_drewN | apply Kd.R_drew)); exact Kd.R_mono (Kd.R_far (p := ⟨gb112, 0, none⟩) (Kd.R_types HO_5.out BK112.out (by decide)) (fun _ hk => hk.2) (.slice Ao44 x117000_1.length co44)) (fun _ hk => hk.1), tB⟩

/-! ### laws_toNotice: function 120 -/
def laws_toNotice.f (a0_0 : Int) (a0_1 : Int) (a0_2 : Int) (a0_3 : Bool) : Option (Int × Int × Int × Bool) := some (a0_0, a0_1, a0_2, a0_3)
set_option maxHeartbeats 8000000 in
set_option maxRecDepth 100000 in
theorem laws_toNotice.calls (a0_0 : Int) (a0_1 : Int) (a0_2 : Int) (a0_3 : Bool) (r1 : Int) (r2 : Int) (r3 : Int) (r4 : Bool) (w : World) (h : laws_toNotice.f a0_0 a0_1 a0_2 a0_3 = some (r1, r2, r3, r4)) :
  Calls Try.prog 120 #[.agg #[.int .i64 a0_0, .int .i64 a0_1, .int .i64 a0_2, .bool a0_3]] w fun e w' => e = .returned (.agg #[.int .i64 r1, .int .i64 r2, .int .i64 r3, .bool r4]) ∧ Below w.heap.size w w' := by
 have hu153 := Try.underlying153
 have hu108 := Try.underlying108
 have HB := Aside0.mk (Below.refl w.heap.size w)
 have H : (some (a0_0, a0_1, a0_2, a0_3)) = some (r1, r2, r3, r4) := h
 clear h
 simp only [Option.some.injEq, Prod.mk.injEq] at H
 obtain ⟨rfl, rfl, rfl, rfl⟩ := H
 go_enter Try.func120, Try.ntmps120
 go_wp2_with (first | ((with_reducible refine gate_dst (N := 1) rfl ?_); refine box_event ?hg (N := 1) ?hd (cs := #[.int .i64 a0_0, .int .i64 a0_1, .int .i64 a0_2, .bool a0_3]) (t := 153) ?hr ?_; (case hd => rfl); (case hg => rfl); (case hr => exact tG); intro gb127 hg w2 hbox hb; have BK127 := Aside0.mk (hbox); have GW127 := gW HB hg; have GE127 := gW HB hg; replace HB := bH HB hb; clear hb hbox hg) | ((with_reducible refine gate_dst (N := 2) rfl ?_); refine box_event ?hg (N := 2) ?hd (cs := #[.int .i64 0, .int .i64 0, .int .i64 0, .bool false]) (t := 108) ?hr ?_; (case hd => rfl); (case hg => rfl); (case hr => exact tG); intro gb128 hg w3 hbox hb; have BK128 := Aside0.mk (hbox); have GW128 := gW HB hg; have GE128 := gW HB hg; replace HB := bH HB hb; have NB127_128 := nL BK127 hg; have NB128_127 := nR BK127 hg; replace BK127 := bB BK127 hb; clear hb hbox hg) | ((with_reducible refine gate_dst (N := 3) rfl ?_); refine box_event ?hg (N := 3) ?hd (cs := #[.int .i64 0, .int .i64 0, .int .i64 0, .bool false]) (t := 108) ?hr ?_; (case hd => rfl); (case hg => rfl); (case hr => exact tG); intro gb129 hg w4 hbox hb; have BK129 := Aside0.mk (hbox); have GW129 := gW HB hg; have GE129 := gW HB hg; replace HB := bH HB hb; have NB127_129 := nL BK127 hg; have NB129_127 := nR BK127 hg; replace BK127 := bB BK127 hb; have NB128_129 := nL BK128 hg; have NB129_128 := nR BK128 hg; replace BK128 := bB BK128 hb; clear hb hbox hg; have hnb5 := NB127_128.out; have hnc5 := NB128_127.out; have hnb6 := NB127_129.out; have hnc6 := NB129_127.out; obtain ⟨hcz7_0, hcz7_1, hcz7_2, hcz7_3, hfz7_0, hfz7_1, hfz7_2, hfz7_3⟩ := bc4 BK127.out; have hnb8 := NB129_128.out; have hnc8 := NB128_129.out; obtain ⟨hcz9_0, hcz9_1, hcz9_2, hcz9_3, hfz9_0, hfz9_1, hfz9_2, hfz9_3⟩ := bc4 BK129.out; obtain ⟨hcz10_0, hcz10_1, hcz10_2, hcz10_3, hfz10_0, hfz10_1, hfz10_2, hfz10_3⟩ := bc4 BK128.out))
 refine bodyPost_ret (results_cell_row rfl _ _ gb128 108 #[.int .i64 a0_0, .int .i64 a0_1, .int .i64 a0_2, .bool a0_3] (0, 0) _ rfl (by (with_reducible repeat (first | refine blk_drewN ?_ _ | refine blk_drew ?_ | refine blk_alloc ?_ _)); refine blk_put (cs := #[.int .i64 a0_0, .int .i64 a0_1, .int .i64 a0_2, .bool false]) ?_ 3 _ rfl; (with_reducible repeat (first | refine blk_drewN ?_ _ | refine blk_drew ?_ | refine blk_alloc ?_ _)); refine blk_put (cs := #[.int .i64 a0_0, .int .i64 a0_1, .int .i64 0, .bool false]) ?_ 2 _ rfl; (with_reducible repeat (first | refine blk_drewN ?_ _ | refine blk_drew ?_ | refine blk_alloc ?_ _)); refine blk_put (cs := #[.int .i64 a0_0, .int .i64 0, .int .i64 0, .bool false]) ?_ 1 _ rfl; (with_reducible repeat (first | refine blk_drewN ?_ _ | refine blk_drew ?_ | refine blk_alloc ?_ _)); refine blk_put (cs := #[.int .i64 0, .int .i64 0, .int .i64 0, .bool false]) ?_ 0 _ rfl; exact kF NB128_129 BK128) Try.underlying108 rfl (by kernel_rfl)) rfl ?_
 exact ⟨tE, tB⟩

/-! ### laws_toNoticeS: function 94 -/
def laws_toNoticeS.l0 : Nat → List (S153) → Int → List (S108) → Option ((List (S108)))
 | 0, _, _, _ => none
 | k + 1, x0, x4, x7 => if x4 < (x0.length : Int) then (if 0 ≤ x4 then ((laws_toNotice.f ((rd_T153 x0 x4).f0) ((rd_T153 x0 x4).f1) ((rd_T153 x0 x4).f2) ((rd_T153 x0 x4).f3)).bind fun bt134 => (if x4 < (x7.length : Int) then (laws_toNoticeS.l0 k x0 (wrap64 (x4 + 1)) (x7.set (x4 : Int).toNat (⟨bt134.1, bt134.2.1, bt134.2.2.1, bt134.2.2.2⟩ : S108))) else (none))) else (none)) else (some x7)
def laws_toNoticeS.f (k : Nat) (l0 : List (S153)) : Option ((List (S108))) := if 0 ≤ (l0.length : Int) then (if ((l0.length : Int) : Int).toNat ≤ 8796093022208 then (laws_toNoticeS.l0 k l0 0 (List.replicate ((l0.length : Int) : Int).toNat z108)) else (none)) else (none)
theorem laws_toNoticeS.mono_l : ∀ k, (∀ y0 y1 y2, LeO (laws_toNoticeS.l0 k y0 y1 y2) (laws_toNoticeS.l0 (k + 1) y0 y1 y2))
 | 0 => fun _ _ _ r h => by simp [laws_toNoticeS.l0] at h
 | k + 1 => by
  have ih0 := laws_toNoticeS.mono_l k
  ·intro y0 y1 y2
   unfold laws_toNoticeS.l0
   repeat' first
   | (with_reducible exact ih0 _ _ _)
   | (with_reducible exact LeO.refl _)
   | (with_reducible exact LeO.none _)
   | (with_reducible refine LeO.ite ?_ ?_)
   | (with_reducible refine LeO.bind ?_ (fun _ => ?_))
   | exact ih0 _ _ _
   | exact LeO.none _
   | refine LeO.ite ?_ ?_
   | refine LeO.bind ?_ (fun _ => ?_)
theorem laws_toNoticeS.mono : ∀ a0 k, LeO (laws_toNoticeS.f k a0) (laws_toNoticeS.f (k + 1) a0) := by
 intro a0 k
 have ih0 := laws_toNoticeS.mono_l k
 unfold laws_toNoticeS.f
 repeat' first
   | (with_reducible exact ih0 _ _ _)
   | (with_reducible exact LeO.refl _)
   | (with_reducible exact LeO.none _)
   | (with_reducible refine LeO.ite ?_ ?_)
   | (with_reducible refine LeO.bind ?_ (fun _ => ?_))
   | exact ih0 _ _ _
   | exact LeO.none _
   | refine LeO.ite ?_ ?_
   | refine LeO.bind ?_ (fun _ => ?_)
set_option maxHeartbeats 8000000 in
set_option maxRecDepth 100000 in
theorem laws_toNoticeS.calls (k : Nat) (A0 : Option Addr) (c0 : Nat) (l0 : List (S153)) (r : List (S108)) (w : World) (hr0 : Kd.C k153 w A0 l0.length l0) (hc0 : l0.length ≤ c0) (h : laws_toNoticeS.f k l0 = some r) :
  Calls Try.prog 94 #[.slice A0 l0.length c0] w fun e w' => ∃ v0_ : Value, e = .returned (v0_) ∧ Kd.R k108 108 w' w.heap.size (fun _ => True) v0_ r ∧ Below w.heap.size w w' := by
 have hu153 := Try.underlying153
 have hu108 := Try.underlying108
 have HR0 := Aside0.mk hr0
 have HC0 := Aside0.mk hc0
 clear hr0 hc0
 have HB := Aside0.mk (Below.refl w.heap.size w)
 have H : (if 0 ≤ (l0.length : Int) then (if ((l0.length : Int) : Int).toNat ≤ 8796093022208 then (laws_toNoticeS.l0 k l0 0 (List.replicate ((l0.length : Int) : Int).toNat z108)) else (none)) else (none)) = some r := h
 clear h
 by_cases c2 : 0 ≤ (l0.length : Int)
 ·rw [if_pos c2] at H
  have c2b0 := eq_true c2
  have c2b1 : decide (0 ≤ (l0.length : Int)) = true := decide_eq_true c2
  clear c2
  by_cases c3 : ((l0.length : Int) : Int).toNat ≤ 8796093022208
  ·rw [if_pos c3] at H
   have c3b0 := eq_true c3
   have c3b1 : decide (((l0.length : Int) : Int).toNat ≤ 8796093022208) = true := decide_eq_true c3
   clear c3
   obtain ⟨y130, hy130⟩ : ∃ y_ : List (S108), y_ = (List.replicate ((l0.length : Int) : Int).toNat z108) := ⟨_, rfl⟩
   replace H : (laws_toNoticeS.l0 k l0 0 y130) = some r := by first | (rw [hy130]; with_reducible exact H) | (have H2_ := (Option.bind_some _ _).symm.trans H; rw [hy130]; with_reducible exact H2_) | (have H2_ := (Option.bind_some _ _).symm.trans H; with_reducible exact H2_) | with_reducible exact H | (rw [hy130]; exact H) | exact H
   have Ny130 := Aside0.mk hy130
   clear hy130
   have H' := Aside0.mk H
   clear H
   go_enter Try.func94, Try.ntmps94
   go_wp2_with (first | ((with_reducible refine gate_dst (N := 7) rfl ?_); refine Kd.R_make k108 _ 108 rfl (N := 7) rfl 63 _ _ rfl (l0.length : Int) rfl rfl Try.underlying63 (.agg #[(.int .i64 0), (.int .i64 0), (.int .i64 0), (.bool false)]) 32 info108 rfl (by decide) (by omega) z108 (ok := fun _ => True) (okp := fun _ => True) (k108_mkM _ _ _ z108 ) (fun _ hk => hk) trivial (of_decide_eq_true tA) (Nat.le_trans (Nat.mul_le_mul_right _ (of_decide_eq_true tA : (l0.length : Int).toNat ≤ 8796093022208)) (by omega)) (Below.refl _ _) (Nat.le_refl _) ?_; intro v131 w4 ho5 hb hg_ hnew_; clear hg_ hnew_; (first | rw [← Ny130.out] at ho5 | (simp only [Int.reduceToNat] at ho5; rw [← Ny130.out] at ho5)); have HO132 := Aside0.mk (Kd.R_lower ho5 (below_size tB)); replace HB := bH HB hb; clear hb ho5))
   go_loopg [4] k (fun kq v4 w' => ∃ (x4_1 : Int) (x7_1 : List (S108)), v4 = .int .i64 x4_1 ∧ Aside0 (laws_toNoticeS.l0 kq l0 x4_1 x7_1 = some r) ∧ Aside0 (kq ≤ k) ∧ Aside0 (Kd.R k108 108 w' w.heap.size (fun _ => True) v131 x7_1) ∧ Aside0 (Below w.heap.size w w'))
   case atStart => exact ⟨(0), (y130), tS, H', ⟨Nat.le_refl _⟩, ⟨tR HO132⟩, ⟨tB⟩⟩
   case round =>
    clear H'
    try clear c2
    try clear c2b0
    try clear c2b1
    try clear p2
    try clear c3
    try clear c3b0
    try clear c3b1
    obtain ⟨x4_1, x7_1, rfl, HA, HK1, HO_7, HB⟩ := hrel
    cases gk with
    | zero => exact absurd HA.out (by simp [laws_toNoticeS.l0])
    | succ k1 =>
     have H := HA.out
     clear HA
     simp only [laws_toNoticeS.l0] at H
     by_cases c6 : x4_1 < (l0.length : Int)
     ·rw [if_pos c6] at H
      have c6b0 : decide (x4_1 < (l0.length : Int)) = true := decide_eq_true c6
      clear c6
      by_cases c7 : 0 ≤ x4_1
      ·rw [if_pos c7] at H
       have c7b0 : decide (0 ≤ x4_1) = true := decide_eq_true c7
       clear c7
       replace H := Option.bind_eq_some_iff.mp H
       obtain ⟨⟨t134, t135, t136, t137⟩, A80, H⟩ := H
       try dsimp only at H
       have A8 := Aside0.mk A80
       clear A80
       by_cases c9 : x4_1 < (x7_1.length : Int)
       ·rw [if_pos c9] at H
        have c9b0 : decide (x4_1 < (x7_1.length : Int)) = true := decide_eq_true c9
        clear c9
        obtain ⟨y138, hy138⟩ : ∃ y_ : List (S108), y_ = (x7_1.set (x4_1 : Int).toNat (⟨t134, t135, t136, t137⟩ : S108)) := ⟨_, rfl⟩
        replace H : (laws_toNoticeS.l0 k1 l0 (wrap64 (x4_1 + 1)) y138) = some r := by first | (rw [hy138]; with_reducible exact H) | (have H2_ := (Option.bind_some _ _).symm.trans H; rw [hy138]; with_reducible exact H2_) | (have H2_ := (Option.bind_some _ _).symm.trans H; with_reducible exact H2_) | with_reducible exact H | (rw [hy138]; exact H) | exact H
        have Ny138 := Aside0.mk hy138
        clear hy138
        have H' := Aside0.mk H
        clear H
        have p133 : 0 ≤ (x4_1 : Int) := of_decide_eq_true tA
        have q133 : x4_1 < (l0.length : Int) := of_decide_eq_true tA
        obtain ⟨ad133, e133, hx133_0, hx133_1, hx133_2, hx133_3⟩ := at_T153 HR0.out x4_1 p133 q133
        cases e133
        replace hx133_0 := hbc HB hx133_0
        replace hx133_1 := hbc HB hx133_1
        replace hx133_2 := hbc HB hx133_2
        replace hx133_3 := hbc HB hx133_3
        replace p133 := eq_true p133
        replace q133 := eq_true q133
        go_wp2_with (first | ((with_reducible refine gate_callee (f := 120) rfl ?_); refine goesL_ (some 20) rfl rfl Try.func120 (by kernel_rfl) rfl #[.agg #[.int .i64 ((rd_T153 l0 x4_1).f0), .int .i64 ((rd_T153 l0 x4_1).f1), .int .i64 ((rd_T153 l0 x4_1).f2), .bool ((rd_T153 l0 x4_1).f3)]] rfl tL ?_; (with_reducible refine (laws_toNotice.calls ((rd_T153 l0 x4_1).f0) ((rd_T153 l0 x4_1).f1) ((rd_T153 l0 x4_1).f2) ((rd_T153 l0 x4_1).f3) t134 t135 t136 t137 _ A8.out).mono ?_); rintro e w11 ⟨rfl, hb⟩; refine ⟨_, rfl, ?_⟩; replace HO_7 := Aside0.mk (Kd.R_below (tR HO_7) hb); replace HB := bH HB hb; (try clear hb); (try clear hb2); (try clear hk); (try clear hi); have p10 : 0 ≤ (x4_1 : Int) := of_decide_eq_true tA; have q10 : (x4_1 : Int) < ((x7_1.length : Int) : Int) := of_decide_eq_true tA; obtain ⟨go10, co10, eo10, gb10, gl10, cl10, HG10⟩ := Kd.R_form HO_7.out (by omega); (first | cases eo10 | (injection eo10 with ea_ en_ ec_; (first | subst ea_ | (injection ea_ with ea_; subst ea_)); subst ec_; clear en_)); have GB10 := Aside0.mk gb10; have GG10 := Aside0.mk HG10; clear gb10 gl10 HG10; obtain ⟨ce10, hcl10, hM10, hcc10, hfr10⟩ := Kd.R_elem HO_7.out z108 (x4_1 : Int) p10 q10; obtain rfl := k108_openM hM10; have hx10_0 : w11.cell? ⟨go10, (x4_1 : Int).toNat * 4, none⟩ = some (.int .i64 ((rd_T108 x7_1 x4_1).f0)) := hcc10 0 _ rfl; have hx10_1 : w11.cell? ⟨go10, (x4_1 : Int).toNat * 4 + 1, none⟩ = some (.int .i64 ((rd_T108 x7_1 x4_1).f1)) := hcc10 1 _ rfl; have hx10_2 : w11.cell? ⟨go10, (x4_1 : Int).toNat * 4 + 2, none⟩ = some (.int .i64 ((rd_T108 x7_1 x4_1).f2)) := hcc10 2 _ rfl; have hx10_3 : w11.cell? ⟨go10, (x4_1 : Int).toNat * 4 + 3, none⟩ = some (.bool ((rd_T108 x7_1 x4_1).f3)) := hcc10 3 _ rfl; have hf10_0 : w11.frozen? ⟨go10, (x4_1 : Int).toNat * 4, none⟩ = false := hfr10 0; have hf10_1 : w11.frozen? ⟨go10, (x4_1 : Int).toNat * 4 + 1, none⟩ = false := hfr10 1; have hf10_2 : w11.frozen? ⟨go10, (x4_1 : Int).toNat * 4 + 2, none⟩ = false := hfr10 2; have hf10_3 : w11.frozen? ⟨go10, (x4_1 : Int).toNat * 4 + 3, none⟩ = false := hfr10 3; clear hcl10 hcc10 hfr10 hM10; replace p10 := eq_true p10; replace q10 := eq_true q10; have HX12 := Aside0.mk (show Kd.R k108 108 w11 w.heap.size (fun _ => True) (.slice (some ⟨go10, 0, none⟩) x7_1.length co10) x7_1 from (tR HO_7)); obtain ⟨ce12, hcl12, hM12, hcc12, hfr12⟩ := Kd.R_elem HX12.out z108 (x4_1 : Int) (of_decide_eq_true tA) (by have h_ : (x4_1 : Int) < ((x7_1.length : Int) : Int) := of_decide_eq_true tA; first | exact h_ | (have e_ := (Kd.R_reads' HO_7.out).1; omega) | simpa using h_); obtain rfl := k108_openM hM12; have HP12 := Kd.R_seg HX12.out (x4_1 : Int) (of_decide_eq_true tA) (by have h_ : (x4_1 : Int) < ((x7_1.length : Int) : Int) := of_decide_eq_true tA; first | exact h_ | (have e_ := (Kd.R_reads' HO_7.out).1; omega) | simpa using h_) (seg := [.int .i64 t134, .int .i64 t135, .int .i64 t136, .bool t137]) (j := 0) hcl12 hcc12 (show 4 ≤ 4 from by decide) (x' := (⟨t134, t135, t136, t137⟩ : S108)) (k108_mkM _ _ _ (⟨t134, t135, t136, t137⟩ : S108) ) (fun _ hk => hk); have hx12_0 := hcc12 0 _ rfl; (try simp only [show (k108).sz = 4 from rfl, Nat.mul_one, Nat.add_zero] at hx12_0); have hf12_0 := hfr12 0; (try simp only [show (k108).sz = 4 from rfl, Nat.mul_one, Nat.add_zero] at hf12_0); have hx12_1 := hcc12 1 _ rfl; (try simp only [show (k108).sz = 4 from rfl, Nat.mul_one, Nat.add_zero] at hx12_1); have hf12_1 := hfr12 1; (try simp only [show (k108).sz = 4 from rfl, Nat.mul_one, Nat.add_zero] at hf12_1); have hx12_2 := hcc12 2 _ rfl; (try simp only [show (k108).sz = 4 from rfl, Nat.mul_one, Nat.add_zero] at hx12_2); have hf12_2 := hfr12 2; (try simp only [show (k108).sz = 4 from rfl, Nat.mul_one, Nat.add_zero] at hf12_2); have hx12_3 := hcc12 3 _ rfl; (try simp only [show (k108).sz = 4 from rfl, Nat.mul_one, Nat.add_zero] at hx12_3); have hf12_3 := hfr12 3; (try simp only [show (k108).sz = 4 from rfl, Nat.mul_one, Nat.add_zero] at hf12_3); clear hcl12 hcc12 hfr12 hM12) | ((with_reducible refine gate_store (t := 108) (p := 21) rfl ?_); refine store_event (t := 108) (p := 21) (v := ?vo_w13) (w1 := ((((w11.setCell ⟨go10, (x4_1 : Int).toNat * 4, none⟩ (.int .i64 t134)).setCell ⟨go10, (x4_1 : Int).toNat * 4 + 1, none⟩ (.int .i64 t135)).setCell ⟨go10, (x4_1 : Int).toNat * 4 + 2, none⟩ (.int .i64 t136)).setCell ⟨go10, (x4_1 : Int).toNat * 4 + 3, none⟩ (.bool t137))) ?hg ?ho ?hn ?hr ?_; (case ho => rfl); (case hg => rfl); (case hn => rfl); (case hr => first | (go_simp; done) | (go_simp; rfl)); intro w13 hw; have hg : w11.grownBy w13 (some go10) := (by rw [hw]; exact HP12.2); have hp_ : Kd.R k108 108 w13 w.heap.size (fun _ => True) (.slice (some ⟨go10, 0, none⟩) x7_1.length co10) y138 := (by rw [hw, Ny138.out]; exact HP12.1); clear HP12; replace HO_7 := Aside0.mk (hp_); replace HB := Aside0.mk ((by rw [hw]; exact below_set (below_set (below_set (below_set (HB.out) GB10.out) GB10.out) GB10.out) GB10.out : Below w.heap.size w w13)); clear hg hw hp_))
        go_roundg k1
        case measure => have := HK1.out; omega
        case rel => exact ⟨(wrap64 (x4_1 + 1)), (y138), tS, H', ⟨tI⟩, ⟨tR HO_7⟩, ⟨tB⟩⟩
       rw [if_neg c9] at H
       exact absurd H (by simp)
      rw [if_neg c7] at H
      exact absurd H (by simp)
     rw [if_neg c6] at H
     have c6b0 : decide (x4_1 < (l0.length : Int)) = false := decide_eq_false c6
     clear c6
     obtain rfl := Option.some.inj H
     go_wp2
     go_ret
     exact ⟨_, tE, tR HO_7, tB⟩
  rw [if_neg c3] at H
  exact absurd H (by simp)
 rw [if_neg c2] at H
 exact absurd H (by simp)

/-! ### laws_toMailbox: function 41 -/
def laws_toMailbox.f (k : Nat) (l0_0 : List (S153)) : Option ((List (S108))) := (laws_toNoticeS.f k l0_0).bind fun t142 => (some t142)
theorem laws_toMailbox.mono : ∀ a0 k, LeO (laws_toMailbox.f k a0) (laws_toMailbox.f (k + 1) a0) := by
 intro a0 k
 unfold laws_toMailbox.f
 repeat' first
   | (with_reducible exact laws_toNoticeS.mono _ _)
   | (with_reducible exact LeO.refl _)
   | (with_reducible exact LeO.none _)
   | (with_reducible refine LeO.ite ?_ ?_)
   | (with_reducible refine LeO.bind ?_ (fun _ => ?_))
   | exact laws_toNoticeS.mono _ _
   | exact LeO.none _
   | refine LeO.ite ?_ ?_
   | refine LeO.bind ?_ (fun _ => ?_)
set_option maxHeartbeats 8000000 in
set_option maxRecDepth 100000 in
theorem laws_toMailbox.calls (k : Nat) (A0_0 : Option Addr) (c0_0 : Nat) (l0_0 : List (S153)) (r : List (S108)) (w : World) (hr0_0 : Kd.C k153 w A0_0 l0_0.length l0_0) (hc0_0 : l0_0.length ≤ c0_0) (h : laws_toMailbox.f k l0_0 = some r) :
  Calls Try.prog 41 #[.agg #[.slice A0_0 l0_0.length c0_0]] w fun e w' => ∃ v0_ : Value, e = .returned (.agg #[v0_]) ∧ Kd.R k108 108 w' w.heap.size (fun _ => True) v0_ r ∧ Below w.heap.size w w' := by
 have hu61 := Try.underlying61
 have hu65 := Try.underlying65
 have HR0_0 := Aside0.mk hr0_0
 have HC0_0 := Aside0.mk hc0_0
 clear hr0_0 hc0_0
 have HB := Aside0.mk (Below.refl w.heap.size w)
 have H : ((laws_toNoticeS.f k l0_0).bind fun t142 => (some t142)) = some r := h
 clear h
 replace H := Option.bind_eq_some_iff.mp H
 obtain ⟨t142, A20, H⟩ := H
 try dsimp only at H
 have A2 := Aside0.mk A20
 clear A20
 obtain rfl := Option.some.inj H
 go_enter Try.func41, Try.ntmps41
 go_wp2_with (first | ((with_reducible refine gate_dst (N := 1) rfl ?_); refine box_event ?hg (N := 1) ?hd (cs := #[.slice A0_0 l0_0.length c0_0]) (t := 61) ?hr ?_; (case hd => rfl); (case hg => rfl); (case hr => exact tG); intro gb139 hg w3 hbox hb; have BK139 := Aside0.mk (hbox); have GW139 := gW HB hg; have GE139 := gW HB hg; replace HB := bH HB hb; clear hb hbox hg) | ((with_reducible refine gate_dst (N := 2) rfl ?_); refine box_event ?hg (N := 2) ?hd (cs := #[.slice none 0 0]) (t := 65) ?hr ?_; (case hd => rfl); (case hg => rfl); (case hr => exact tG); intro gb140 hg w4 hbox hb; have BK140 := Aside0.mk (hbox); have GW140 := gW HB hg; have GE140 := gW HB hg; replace HB := bH HB hb; have NB139_140 := nL BK139 hg; have NB140_139 := nR BK139 hg; replace BK139 := bB BK139 hb; clear hb hbox hg) | ((with_reducible refine gate_dst (N := 3) rfl ?_); refine box_event ?hg (N := 3) ?hd (cs := #[.slice none 0 0]) (t := 65) ?hr ?_; (case hd => rfl); (case hg => rfl); (case hr => exact tG); intro gb141 hg w5 hbox hb; have BK141 := Aside0.mk (hbox); have GW141 := gW HB hg; have GE141 := gW HB hg; replace HB := bH HB hb; have NB139_141 := nL BK139 hg; have NB141_139 := nR BK139 hg; replace BK139 := bB BK139 hb; have NB140_141 := nL BK140 hg; have NB141_140 := nR BK140 hg; replace BK140 := bB BK140 hb; clear hb hbox hg; have hnb6 := NB139_140.out; have hnc6 := NB140_139.out; have hnb7 := NB139_141.out; have hnc7 := NB141_139.out; obtain ⟨hcz8_0, hfz8_0⟩ := bc1 BK139.out) | ((with_reducible refine gate_callee (f := 94) rfl ?_); refine goesL_ (some 6) rfl rfl Try.func94 (by kernel_rfl) rfl #[.slice A0_0 l0_0.length c0_0] rfl tL ?_; (with_reducible refine (laws_toNoticeS.calls k _ _ l0_0 t142 _ ?side1 ?side2 A2.out).mono ?_); (case side1 => repeat (first | exact (Kd.C_below HR0_0.out HB.out) | (with_reducible refine Kd.C_alloc ?_ _) | (with_reducible refine Kd.C_drewN ?_ _) | (with_reducible refine Kd.C_drew ?_))); (case side2 => exact HC0_0.out); rintro e w9 ⟨v143, rfl, ho0, hb⟩; refine ⟨_, rfl, ?_⟩; have HO144 := Aside0.mk (Kd.R_lower ho0 (below_size tB)); replace BK139 := bB BK139 hb; replace BK140 := bB BK140 hb; replace BK141 := bB BK141 hb; replace HB := bH HB hb; (try clear hb); (try clear hb2); (try clear hk); (try clear hi); (try clear ho0); obtain ⟨Ao10, co10, eo10⟩ := Kd.R_slice HO144.out; subst eo10; have hnb11 := NB141_140.out; have hnc11 := NB140_141.out; obtain ⟨hcz12_0, hfz12_0⟩ := bc1 BK141.out; obtain ⟨hcz13_0, hfz13_0⟩ := bc1 BK140.out))
 refine bodyPost_ret (results_cell_row rfl _ _ gb140 65 #[.slice Ao10 t142.length co10] (0, 0) _ rfl (by (with_reducible repeat (first | refine blk_drewN ?_ _ | refine blk_drew ?_ | refine blk_alloc ?_ _)); refine blk_put (cs := #[.slice none 0 0]) ?_ 0 _ rfl; exact kF NB140_141 BK140) Try.underlying65 rfl (by kernel_rfl)) rfl ?_
 exact ⟨_, tE, by (with_reducible repeat (first | apply Kd.R_alloc | apply Kd.R_drewN | apply Kd.R_drew)); exact Kd.R_mono (Kd.R_far (p := ⟨gb140, 0, none⟩) (Kd.R_far (p := ⟨gb141, 0, none⟩) (Kd.R_types (Kd.R_types HO144.out BK141.out (by decide)) BK140.out (by decide)) (fun _ hk => hk.1.2) (.slice Ao10 t142.length co10)) (fun _ hk => hk.2) (.slice Ao10 t142.length co10)) (fun _ hk => trivial), tB⟩

/-! ### impl_copyMail: function 95 -/
def impl_copyMail.f (l0_0 : List (S108)) : Option ((List (S108))) := (some (([] : List (S108)) : List (S108))).bind fun y147 => (if y147.length + l0_0.length < 4398046511104 then (some (y147 ++ l0_0)) else (none))
set_option maxHeartbeats 8000000 in
set_option maxRecDepth 100000 in
theorem impl_copyMail.calls (A0_0 : Option Addr) (c0_0 : Nat) (l0_0 : List (S108)) (r : List (S108)) (w : World) (hr0_0 : Kd.C k108 w A0_0 l0_0.length l0_0) (hc0_0 : l0_0.length ≤ c0_0) (h : impl_copyMail.f l0_0 = some r) :
  Calls Try.prog 95 #[.agg #[.slice A0_0 l0_0.length c0_0]] w fun e w' => ∃ v0_ : Value, e = .returned (.agg #[v0_]) ∧ Kd.R k108 108 w' w.heap.size (fun _ => True) v0_ r ∧ Below w.heap.size w w' := by
 have hu65 := Try.underlying65
 have HR0_0 := Aside0.mk hr0_0
 have HC0_0 := Aside0.mk hc0_0
 clear hr0_0 hc0_0
 have HB := Aside0.mk (Below.refl w.heap.size w)
 have H : ((some (([] : List (S108)) : List (S108))).bind fun y147 => (if y147.length + l0_0.length < 4398046511104 then (some (y147 ++ l0_0)) else (none))) = some r := h
 clear h
 obtain ⟨y147, hy147⟩ : ∃ y_ : List (S108), y_ = (([] : List (S108))) := ⟨_, rfl⟩
 replace H : (if y147.length + l0_0.length < 4398046511104 then (some (y147 ++ l0_0)) else (none)) = some r := by first | (rw [hy147]; with_reducible exact H) | (have H2_ := (Option.bind_some _ _).symm.trans H; rw [hy147]; with_reducible exact H2_) | (have H2_ := (Option.bind_some _ _).symm.trans H; with_reducible exact H2_) | with_reducible exact H | (rw [hy147]; exact H) | exact H
 have Ny147 := Aside0.mk hy147
 clear hy147
 by_cases c2 : y147.length + l0_0.length < 4398046511104
 ·rw [if_pos c2] at H
  have LMc2 := Aside0.mk c2
  clear c2
  obtain ⟨y150, hy150⟩ : ∃ y_ : List (S108), y_ = (y147 ++ l0_0) := ⟨_, rfl⟩
  replace H : (some y150) = some r := by first | (rw [hy150]; with_reducible exact H) | (have H2_ := (Option.bind_some _ _).symm.trans H; rw [hy150]; with_reducible exact H2_) | (have H2_ := (Option.bind_some _ _).symm.trans H; with_reducible exact H2_) | with_reducible exact H | (rw [hy150]; exact H) | exact H
  have Ny150 := Aside0.mk hy150
  clear hy150
  obtain rfl := Option.some.inj H
  go_enter Try.func95, Try.ntmps95
  go_wp2_with (first | ((with_reducible refine gate_dst (N := 1) rfl ?_); refine box_event ?hg (N := 1) ?hd (cs := #[.slice A0_0 l0_0.length c0_0]) (t := 65) ?hr ?_; (case hd => rfl); (case hg => rfl); (case hr => exact tG); intro gb145 hg w3 hbox hb; have BK145 := Aside0.mk (hbox); have GW145 := gW HB hg; have GE145 := gW HB hg; replace HB := bH HB hb; clear hb hbox hg) | ((with_reducible refine gate_dst (N := 2) rfl ?_); refine box_event ?hg (N := 2) ?hd (cs := #[.slice none 0 0]) (t := 65) ?hr ?_; (case hd => rfl); (case hg => rfl); (case hr => exact tG); intro gb146 hg w4 hbox hb; have BK146 := Aside0.mk (hbox); have GW146 := gW HB hg; have GE146 := gW HB hg; replace HB := bH HB hb; have NB145_146 := nL BK145 hg; have NB146_145 := nR BK145 hg; replace BK145 := bB BK145 hb; clear hb hbox hg) | ((with_reducible refine gate_dst (N := 3) rfl ?_); refine Kd.R_lit k108 _ 108 ?hg (N := 3) ?hd (xs := ([] : List (S108))) (inner := []) (ok := fun _ => True) (okp := fun _ => True) ?hr ?hp (fun _ hk => hk) trivial (Below.refl _ _) (Nat.le_refl _) (by simp) ?_; (case hd => rfl); (case hg => rfl); (case hr => exact tG); (case hp => exact (Reps.none _ _)); intro v148 w5 ho6 hb hg_ hnew_; clear hg_ hnew_; (first | rw [← Ny147.out] at ho6 | (simp only [Int.reduceToNat] at ho6; rw [← Ny147.out] at ho6)); have HO149 := Aside0.mk (Kd.R_lower ho6 (below_size tB)); replace BK145 := bB BK145 hb; replace BK146 := bB BK146 hb; replace HB := bH HB hb; clear hb ho6; have hnb7 := NB145_146.out; have hnc7 := NB146_145.out; obtain ⟨hcz8_0, hfz8_0⟩ := bc1 BK145.out) | ((with_reducible refine gate_builtin (b := .append) (xs := #[.tmp 3, .tmp 5]) rfl ?_); at_builtin; refine Kd.R_append_rows k108 (w0 := w) w.heap.size rfl (.tmp 3) (.tmp 5) 63 108 (.agg #[(.int .i64 0), (.int .i64 0), (.int .i64 0), (.bool false)]) 32 rfl Try.underlying63 info108 rfl (by decide) (by omega) v148 y147 l0_0 _ _ _ (fun _ => True) (fun _ => False) rfl rfl ?aO ?aR (fun _ _ h => h) (fun _ h => h.elim) ?aF ?aB ?aS ?aL ?_; (case aR => repeat (first | exact (Kd.C_below HR0_0.out HB.out) | (with_reducible refine Kd.C_alloc ?_ _) | (with_reducible refine Kd.C_drewN ?_ _) | (with_reducible refine Kd.C_drew ?_))); (case aB => exact tB); (case aF => exact (fun _ _ => trivial)); (case aO => exact (tR HO149)); (case aS => exact (below_size tB)); (case aL => have := LMc2.out; omega); intro v151 w9 ho hb hg hat; rw [← Ny150.out] at ho; replace BK145 := Aside0.mk (blk_grown (g := gb145) (o := .cells #[.slice A0_0 l0_0.length c0_0] 65 (0, 0)) (tK BK145) hg (Kd.R_ne HO149.out BK145.out (by decide))); replace BK146 := Aside0.mk (blk_grown (g := gb146) (o := .cells #[.slice none 0 0] 65 (0, 0)) (tK BK146) hg (Kd.R_ne HO149.out BK146.out (by decide))); replace HB := Aside0.mk (hb); have HO152 := Aside0.mk (ho); clear HO149; clear ho hb hg hat; obtain ⟨Ao10, co10, eo10⟩ := Kd.R_slice HO152.out; subst eo10; obtain ⟨hcz11_0, hfz11_0⟩ := bc1 BK146.out))
  refine bodyPost_ret (results_cell_row rfl _ _ gb146 65 #[.slice Ao10 y150.length co10] (0, 0) _ rfl (by (with_reducible repeat (first | refine blk_drewN ?_ _ | refine blk_drew ?_ | refine blk_alloc ?_ _)); refine blk_put (cs := #[.slice none 0 0]) ?_ 0 _ rfl; (with_reducible repeat (first | refine blk_drewN ?_ _ | refine blk_drew ?_ | refine blk_alloc ?_ _)); exact BK146.out) Try.underlying65 rfl (by kernel_rfl)) rfl ?_
  exact ⟨_, tE, by (with_reducible repeat (first | apply Kd.R_alloc | apply Kd.R_drewN | apply Kd.R_drew)); exact Kd.R_mono (Kd.R_far (p := ⟨gb146, 0, none⟩) (Kd.R_types HO152.out BK146.out (by decide)) (fun _ hk => hk.2) (.slice Ao10 y150.length co10)) (fun _ hk => trivial), tB⟩
 rw [if_neg c2] at H
 exact absurd H (by simp)

/-! ### impl_ReadNotices: function 42 -/
def impl_ReadNotices.l0 : Nat → List (S108) → Int → Int → List (S108) → Option ((List (S108)) × (List (S108)))
 | 0, _, _, _, _ => none
 | k + 1, x5, x13, x14, x159000 => if x14 < x13 then (if 0 ≤ x14 then (if x14 < (x159000.length : Int) then (if ((rd_T108 x159000 x14).f3 = true) then (impl_ReadNotices.l0 k x5 x13 (wrap64 (x14 + 1)) (x159000.set (x14 : Int).toNat (⟨(rd_T108 x159000 x14).f0, (rd_T108 x159000 x14).f1, (rd_T108 x159000 x14).f2, true⟩ : S108))) else (if x5.length < 4398046511104 then (impl_ReadNotices.l0 k (x5 ++ [(⟨(rd_T108 x159000 x14).f0, (rd_T108 x159000 x14).f1, (rd_T108 x159000 x14).f2, (rd_T108 x159000 x14).f3⟩ : S108)]) x13 (wrap64 (x14 + 1)) (x159000.set (x14 : Int).toNat (⟨(rd_T108 x159000 x14).f0, (rd_T108 x159000 x14).f1, (rd_T108 x159000 x14).f2, true⟩ : S108))) else (none))) else (none)) else (none)) else (some (x159000, x5))
def impl_ReadNotices.f (k : Nat) (l0_0 : List (S108)) : Option ((List (S108)) × (List (S108))) := (impl_copyMail.f l0_0).bind fun t155 => (impl_ReadNotices.l0 k (([] : List (S108))) (t155.length : Int) 0 t155)
theorem impl_ReadNotices.mono_l : ∀ k, (∀ y0 y1 y2 y3, LeO (impl_ReadNotices.l0 k y0 y1 y2 y3) (impl_ReadNotices.l0 (k + 1) y0 y1 y2 y3))
 | 0 => fun _ _ _ _ r h => by simp [impl_ReadNotices.l0] at h
 | k + 1 => by
  have ih0 := impl_ReadNotices.mono_l k
  ·intro y0 y1 y2 y3
   unfold impl_ReadNotices.l0
   repeat' first
   | (with_reducible exact ih0 _ _ _ _)
   | (with_reducible exact LeO.refl _)
   | (with_reducible exact LeO.none _)
   | (with_reducible refine LeO.ite ?_ ?_)
   | (with_reducible refine LeO.bind ?_ (fun _ => ?_))
   | exact ih0 _ _ _ _
   | exact LeO.none _
   | refine LeO.ite ?_ ?_
   | refine LeO.bind ?_ (fun _ => ?_)
theorem impl_ReadNotices.mono : ∀ a0 k, LeO (impl_ReadNotices.f k a0) (impl_ReadNotices.f (k + 1) a0) := by
 intro a0 k
 have ih0 := impl_ReadNotices.mono_l k
 unfold impl_ReadNotices.f
 repeat' first
   | (with_reducible exact ih0 _ _ _ _)
   | (with_reducible exact LeO.refl _)
   | (with_reducible exact LeO.none _)
   | (with_reducible refine LeO.ite ?_ ?_)
   | (with_reducible refine LeO.bind ?_ (fun _ => ?_))
   | exact ih0 _ _ _ _
   | exact LeO.none _
   | refine LeO.ite ?_ ?_
   | refine LeO.bind ?_ (fun _ => ?_)
set_option maxHeartbeats 8000000 in
set_option maxRecDepth 100000 in
theorem impl_ReadNotices.calls (k : Nat) (A0_0 : Option Addr) (c0_0 : Nat) (l0_0 : List (S108)) (r1 : List (S108)) (r2 : List (S108)) (w : World) (hr0_0 : Kd.C k108 w A0_0 l0_0.length l0_0) (hc0_0 : l0_0.length ≤ c0_0) (h : impl_ReadNotices.f k l0_0 = some (r1, r2)) :
  Calls Try.prog 42 #[.agg #[.slice A0_0 l0_0.length c0_0]] w fun e w' => ∃ v0_ v1_ : Value, e = .returned (.tuple #[.agg #[v0_], v1_]) ∧ Kd.R k108 108 w' w.heap.size (fun k_ => some k_ ≠ (v1_ : Value).ownBlock) v0_ r1 ∧ Kd.R k108 108 w' w.heap.size (fun k_ => some k_ ≠ (v0_ : Value).ownBlock) v1_ r2 ∧ Below w.heap.size w w' := by
 have hu65 := Try.underlying65
 have hu108 := Try.underlying108
 have HR0_0 := Aside0.mk hr0_0
 have HC0_0 := Aside0.mk hc0_0
 clear hr0_0 hc0_0
 have HB := Aside0.mk (Below.refl w.heap.size w)
 have H : ((impl_copyMail.f l0_0).bind fun t155 => (impl_ReadNotices.l0 k (([] : List (S108))) (t155.length : Int) 0 t155)) = some (r1, r2) := h
 clear h
 replace H := Option.bind_eq_some_iff.mp H
 obtain ⟨t155, A20, H⟩ := H
 try dsimp only at H
 have A2 := Aside0.mk A20
 clear A20
 obtain ⟨y159, hy159⟩ : ∃ y_ : List (S108), y_ = (([] : List (S108))) := ⟨_, rfl⟩
 replace H : (impl_ReadNotices.l0 k y159 (t155.length : Int) 0 t155) = some (r1, r2) := by first | (rw [hy159]; with_reducible exact H) | (have H2_ := (Option.bind_some _ _).symm.trans H; rw [hy159]; with_reducible exact H2_) | (have H2_ := (Option.bind_some _ _).symm.trans H; with_reducible exact H2_) | with_reducible exact H | (rw [hy159]; exact H) | exact H
 have Ny159 := Aside0.mk hy159
 clear hy159
 have H' := Aside0.mk H
 clear H
 go_enter Try.func42, Try.ntmps42
 go_wp2_with (first | ((with_reducible refine gate_dst (N := 1) rfl ?_); refine box_event ?hg (N := 1) ?hd (cs := #[.slice A0_0 l0_0.length c0_0]) (t := 65) ?hr ?_; (case hd => rfl); (case hg => rfl); (case hr => exact tG); intro gb153 hg w3 hbox hb; have BK153 := Aside0.mk (hbox); have GW153 := gW HB hg; have GE153 := gW HB hg; replace HB := bH HB hb; clear hb hbox hg) | ((with_reducible refine gate_dst (N := 2) rfl ?_); refine box_event ?hg (N := 2) ?hd (cs := #[.slice none 0 0]) (t := 65) ?hr ?_; (case hd => rfl); (case hg => rfl); (case hr => exact tG); intro gb154 hg w4 hbox hb; have BK154 := Aside0.mk (hbox); have GW154 := gW HB hg; have GE154 := gW HB hg; replace HB := bH HB hb; have NB153_154 := nL BK153 hg; have NB154_153 := nR BK153 hg; replace BK153 := bB BK153 hb; clear hb hbox hg; have hnb5 := NB153_154.out; have hnc5 := NB154_153.out; obtain ⟨hcz6_0, hfz6_0⟩ := bc1 BK153.out) | ((with_reducible refine gate_callee (f := 95) rfl ?_); refine goesL_ (some 9) rfl rfl Try.func95 (by kernel_rfl) rfl #[.agg #[.slice A0_0 l0_0.length c0_0]] rfl tL ?_; (with_reducible refine (impl_copyMail.calls _ _ l0_0 t155 _ ?side1 ?side2 A2.out).mono ?_); (case side1 => repeat (first | exact (Kd.C_below HR0_0.out HB.out) | (with_reducible refine Kd.C_alloc ?_ _) | (with_reducible refine Kd.C_drewN ?_ _) | (with_reducible refine Kd.C_drew ?_))); (case side2 => exact HC0_0.out); rintro e w7 ⟨v156, rfl, ho0, hb⟩; refine ⟨_, rfl, ?_⟩; have HO157 := Aside0.mk (Kd.R_lower ho0 (below_size tB)); replace BK153 := bB BK153 hb; replace BK154 := bB BK154 hb; replace HB := bH HB hb; (try clear hb); (try clear hb2); (try clear hk); (try clear hi); (try clear ho0)) | ((with_reducible refine gate_dst (N := 4) rfl ?_); refine box_event ?hg (N := 4) ?hd (cs := #[.slice none 0 0]) (t := 65) ?hr ?_; (case hd => rfl); (case hg => rfl); (case hr => exact tG); intro gb158 hg w8 hbox hb; replace HO157 := Aside0.mk (Kd.R_below (tR HO157) hb); have BK158 := Aside0.mk (hbox); have GW158 := gW HB hg; have GE158 := gW HB hg; replace HB := bH HB hb; have NB153_158 := nL BK153 hg; have NB158_153 := nR BK153 hg; replace BK153 := bB BK153 hb; have NB154_158 := nL BK154 hg; have NB158_154 := nR BK154 hg; replace BK154 := bB BK154 hb; clear hb hbox hg; obtain ⟨Ao9, co9, eo9⟩ := Kd.R_slice HO157.out; subst eo9; have hnb10 := NB158_153.out; have hnc10 := NB153_158.out; have hnb11 := NB158_154.out; have hnc11 := NB154_158.out; obtain ⟨hcz12_0, hfz12_0⟩ := bc1 BK158.out) | ((with_reducible refine gate_dst (N := 10) rfl ?_); refine Kd.R_lit k108 _ 108 ?hg (N := 10) ?hd (xs := ([] : List (S108))) (inner := []) (ok := fun _ => True) (okp := fun _ => True) ?hr ?hp (fun _ hk => hk) trivial (Below.refl _ _) (Nat.le_refl _) (by simp) ?_; (case hd => rfl); (case hg => rfl); (case hr => exact tG); (case hp => exact (Reps.none _ _)); intro v160 w13 ho14 hb hg_ hnew_; clear hg_ hnew_; (first | rw [← Ny159.out] at ho14 | (simp only [Int.reduceToNat] at ho14; rw [← Ny159.out] at ho14)); have HO161 := Aside0.mk (Kd.R_lower (Kd.R_new' ho14 (Kd.R_lt (by (with_reducible repeat (first | apply Kd.R_alloc | apply Kd.R_drewN | apply Kd.R_drew)); exact (Kd.R_mono (Kd.R_far (p := ⟨gb158, 0, none⟩) (Kd.R_types HO157.out BK158.out (by decide)) (fun _ hk => hk.2) (.slice Ao9 t155.length co9)) (fun _ h_ => h_.1))))) (below_size tB)); replace HO157 := Aside0.mk (Kd.R_elder' (by (with_reducible repeat (first | apply Kd.R_alloc | apply Kd.R_drewN | apply Kd.R_drew)); exact (Kd.R_mono (Kd.R_far (p := ⟨gb158, 0, none⟩) (Kd.R_types HO157.out BK158.out (by decide)) (fun _ hk => hk.2) (.slice Ao9 t155.length co9)) (fun _ h_ => h_.1))) (Kd.R_base ho14) hb); replace BK153 := Aside0.mk (blk_below (g := gb153) (o := .cells #[.slice A0_0 l0_0.length c0_0] 65 (0, 0)) (kF NB153_158 BK153) hb); replace BK154 := Aside0.mk (blk_below (g := gb154) (o := .cells #[.slice none 0 0] 65 (0, 0)) (kF NB154_158 BK154) hb); replace BK158 := Aside0.mk (blk_below (g := gb158) (o := .cells #[.slice Ao9 t155.length co9] 65 (0, 0)) (by (with_reducible repeat (first | refine blk_drewN ?_ _ | refine blk_drew ?_ | refine blk_alloc ?_ _)); refine blk_put (cs := #[.slice none 0 0]) ?_ 0 _ rfl; (with_reducible repeat (first | refine blk_drewN ?_ _ | refine blk_drew ?_ | refine blk_alloc ?_ _)); exact BK158.out) hb); replace HB := bH HB hb; clear hb ho14; obtain ⟨hcz15_0, hfz15_0⟩ := bc1 BK158.out))
 go_loopg [5, 14] k (fun kq v5 v14 w' => ∃ (x5_1 : List (S108)) (x14_1 : Int) (x159000_1 : List (S108)), v14 = .int .i64 x14_1 ∧ Aside0 (impl_ReadNotices.l0 kq x5_1 (t155.length : Int) x14_1 x159000_1 = some (r1, r2)) ∧ Aside0 (kq ≤ k) ∧ Aside0 (Kd.R k108 108 w' w.heap.size (fun k_ => some k_ ≠ ((.slice Ao9 t155.length co9) : Value).ownBlock) v5 x5_1) ∧ Aside0 (Kd.R k108 108 w' w.heap.size (fun k_ => some k_ ≠ (v5 : Value).ownBlock) (.slice Ao9 t155.length co9) x159000_1) ∧ Aside0 (w'.heap[gb153]? = some (.cells #[(.slice A0_0 l0_0.length c0_0)] 65 (0, 0))) ∧ Aside0 (w'.heap[gb154]? = some (.cells #[(.slice none 0 0)] 65 (0, 0))) ∧ Aside0 (w'.heap[gb158]? = some (.cells #[(.slice Ao9 t155.length co9)] 65 (0, 0))) ∧ Aside0 (Below w.heap.size w w'))
 case atStart => exact ⟨(y159), (0), (t155), tS, H', ⟨Nat.le_refl _⟩, ⟨by (with_reducible repeat (first | apply Kd.R_alloc | apply Kd.R_drewN | apply Kd.R_drew)); exact Kd.R_mono HO161.out (fun _ hk => hk.2)⟩, ⟨by (with_reducible repeat (first | apply Kd.R_alloc | apply Kd.R_drewN | apply Kd.R_drew)); exact Kd.R_mono HO157.out (fun _ hk => hk.2)⟩, ⟨tK BK153⟩, ⟨tK BK154⟩, ⟨tK BK158⟩, ⟨tB⟩⟩
 case round =>
  clear H'
  try clear c1
  try clear p2
  try clear c4
  try clear c5
  try clear c9
  try clear c10
  try clear c11
  try clear hcz12_0
  try clear hcz15_0
  try clear hcz6_0
  try clear hfz12_0
  try clear hfz15_0
  try clear hfz6_0
  obtain ⟨x5_1, x14_1, x159000_1, rfl, HA, HK1, HO_5, HO_159000, BK153, BK154, BK158, HB⟩ := hrel
  have hl159000_1 := (Kd.R_reads' HO_159000.out).1
  rw [hl159000_1] at HO_159000
  (try simp only [hl159000_1])
  (try simp only [hl159000_1] at BK153)
  (try simp only [hl159000_1] at BK154)
  (try simp only [hl159000_1] at BK158)
  (try simp only [hl159000_1] at HO_5)
  cases gk with
  | zero => exact absurd HA.out (by simp [impl_ReadNotices.l0])
  | succ k1 =>
   have H := HA.out
   clear HA
   simp only [impl_ReadNotices.l0] at H
   by_cases c16 : x14_1 < (t155.length : Int)
   ·rw [if_pos c16] at H
    have c16b0 : decide (x14_1 < (t155.length : Int)) = true := decide_eq_true c16
    clear c16
    by_cases c17 : 0 ≤ x14_1
    ·rw [if_pos c17] at H
     have c17b0 : decide (0 ≤ x14_1) = true := decide_eq_true c17
     clear c17
     by_cases c18 : x14_1 < (x159000_1.length : Int)
     ·rw [if_pos c18] at H
      have c18b0 : decide (x14_1 < (x159000_1.length : Int)) = true := decide_eq_true c18
      clear c18
      obtain ⟨bq19, hbq19⟩ : ∃ b_ : Bool, b_ = ((rd_T108 x159000_1 x14_1).f3) := ⟨_, rfl⟩
      replace H : (if (bq19 = true) then (impl_ReadNotices.l0 k1 x5_1 (t155.length : Int) (wrap64 (x14_1 + 1)) (x159000_1.set (x14_1 : Int).toNat (⟨(rd_T108 x159000_1 x14_1).f0, (rd_T108 x159000_1 x14_1).f1, (rd_T108 x159000_1 x14_1).f2, true⟩ : S108))) else (if x5_1.length < 4398046511104 then (impl_ReadNotices.l0 k1 (x5_1 ++ [(⟨(rd_T108 x159000_1 x14_1).f0, (rd_T108 x159000_1 x14_1).f1, (rd_T108 x159000_1 x14_1).f2, bq19⟩ : S108)]) (t155.length : Int) (wrap64 (x14_1 + 1)) (x159000_1.set (x14_1 : Int).toNat (⟨(rd_T108 x159000_1 x14_1).f0, (rd_T108 x159000_1 x14_1).f1, (rd_T108 x159000_1 x14_1).f2, true⟩ : S108))) else (none))) = some (r1, r2) := by rw [← hbq19] at H; exact H
      have Nbq19 := Aside0.mk hbq19
      clear hbq19
      by_cases c20 : (bq19 = true)
      ·subst c20
       have H1 : (impl_ReadNotices.l0 k1 x5_1 (t155.length : Int) (wrap64 (x14_1 + 1)) (x159000_1.set (x14_1 : Int).toNat (⟨(rd_T108 x159000_1 x14_1).f0, (rd_T108 x159000_1 x14_1).f1, (rd_T108 x159000_1 x14_1).f2, true⟩ : S108))) = some (r1, r2) := by rw [if_pos rfl] at H; exact H
       clear H
       have H := H1
       clear H1
       obtain ⟨y164, hy164⟩ : ∃ y_ : List (S108), y_ = (x159000_1.set (x14_1 : Int).toNat (⟨(rd_T108 x159000_1 x14_1).f0, (rd_T108 x159000_1 x14_1).f1, (rd_T108 x159000_1 x14_1).f2, true⟩ : S108)) := ⟨_, rfl⟩
       replace H : (impl_ReadNotices.l0 k1 x5_1 (t155.length : Int) (wrap64 (x14_1 + 1)) y164) = some (r1, r2) := by first | (rw [hy164]; with_reducible exact H) | (have H2_ := (Option.bind_some _ _).symm.trans H; rw [hy164]; with_reducible exact H2_) | (have H2_ := (Option.bind_some _ _).symm.trans H; with_reducible exact H2_) | with_reducible exact H | (rw [hy164]; exact H) | exact H
       have Ny164 := Aside0.mk hy164
       clear hy164
       have H' := Aside0.mk H
       clear H
       have p162 : 0 ≤ (x14_1 : Int) := of_decide_eq_true tA
       have q162 : x14_1 < (x159000_1.length : Int) := of_decide_eq_true tA
       obtain ⟨ad162, e162, hx162_0, hx162_1, hx162_2, hx162_3⟩ := at_T108 (Kd.R_reads' HO_159000.out).2.2 x14_1 p162 q162
       (try rw [← Nbq19.out] at hx162_3)
       cases e162
       replace p162 := eq_true p162
       replace q162 := eq_true q162
       go_wp2_with (first | ((with_reducible refine gate_dst (N := 7) rfl ?_); refine box_event ?hg (N := 7) ?hd (cs := #[.int .i64 0, .int .i64 0, .int .i64 0, .bool false]) (t := 108) ?hr ?_; (case hd => rfl); (case hg => rfl); (case hr => exact tG); intro gb163 hg w22 hbox hb; replace HO_5 := Aside0.mk (Kd.R_below (Kd.R_elderB (tR HO_5) gb163 (Nat.le_of_eq hg.symm)) hb); replace HO_159000 := Aside0.mk (Kd.R_below (Kd.R_elderB (tR HO_159000) gb163 (Nat.le_of_eq hg.symm)) hb); have BK163 := Aside0.mk (hbox); have GW163 := gW HB hg; have GE163 := gW HB hg; replace HB := bH HB hb; have NB153_163 := nL BK153 hg; have NB163_153 := nR BK153 hg; replace BK153 := bB BK153 hb; have NB154_163 := nL BK154 hg; have NB163_154 := nR BK154 hg; replace BK154 := bB BK154 hb; have NB158_163 := nL BK158 hg; have NB163_158 := nR BK158 hg; replace BK158 := bB BK158 hb; clear hb hbox hg; have hnb23 := NB163_153.out; have hnc23 := NB153_163.out; have hnb24 := NB163_154.out; have hnc24 := NB154_163.out; have hnb25 := NB163_158.out; have hnc25 := NB158_163.out; obtain ⟨hcz26_0, hcz26_1, hcz26_2, hcz26_3, hfz26_0, hfz26_1, hfz26_2, hfz26_3⟩ := bc4 BK163.out) | ((with_reducible refine gate_store (t := 108) (p := 7) rfl ?_); refine store_event (t := 108) (p := 7) (v := ?vo_w27) (w1 := ((((w22.setCell ⟨gb163, 0, none⟩ (.int .i64 ((rd_T108 x159000_1 x14_1).f0))).setCell ⟨gb163, 1, none⟩ (.int .i64 ((rd_T108 x159000_1 x14_1).f1))).setCell ⟨gb163, 2, none⟩ (.int .i64 ((rd_T108 x159000_1 x14_1).f2))).setCell ⟨gb163, 3, none⟩ (.bool true))) ?hg ?ho ?hn ?hr ?_; (case ho => rfl); (case hg => rfl); (case hn => rfl); (case hr => first | (go_simp; done) | (go_simp; rfl)); intro w27 hw; replace HO_5 : Aside0 (Kd.R k108 108 w27 w.heap.size (fun k_ => some k_ ≠ (.slice (some ad162) x159000_1.length co9 : Value).ownBlock ∧ k_ ≠ gb163) u5 x5_1) := ⟨(by rw [hw]; exact (by (with_reducible repeat (first | apply Kd.R_alloc | apply Kd.R_drewN | apply Kd.R_drew)); exact Kd.R_mono (Kd.R_far (p := ⟨gb163, 3, none⟩) (Kd.R_far (p := ⟨gb163, 2, none⟩) (Kd.R_far (p := ⟨gb163, 1, none⟩) (Kd.R_far (p := ⟨gb163, 0, none⟩) (Kd.R_mono HO_5.out (fun k_ hk => (⟨hk, hk.2⟩ : _ ∧ k_ ≠ gb163))) (fun _ hk => hk.2) (.int .i64 ((rd_T108 x159000_1 x14_1).f0))) (fun _ hk => hk.2) (.int .i64 ((rd_T108 x159000_1 x14_1).f1))) (fun _ hk => hk.2) (.int .i64 ((rd_T108 x159000_1 x14_1).f2))) (fun _ hk => hk.2) (.bool true)) (fun _ hk => ⟨hk.1.1, hk.1.2⟩)))⟩; replace HO_159000 : Aside0 (Kd.R k108 108 w27 w.heap.size (fun k_ => some k_ ≠ (u5 : Value).ownBlock ∧ k_ ≠ gb163) (.slice (some ad162) x159000_1.length co9) x159000_1) := ⟨(by rw [hw]; exact (by (with_reducible repeat (first | apply Kd.R_alloc | apply Kd.R_drewN | apply Kd.R_drew)); exact Kd.R_mono (Kd.R_far (p := ⟨gb163, 3, none⟩) (Kd.R_far (p := ⟨gb163, 2, none⟩) (Kd.R_far (p := ⟨gb163, 1, none⟩) (Kd.R_far (p := ⟨gb163, 0, none⟩) (Kd.R_mono HO_159000.out (fun k_ hk => (⟨hk, hk.2⟩ : _ ∧ k_ ≠ gb163))) (fun _ hk => hk.2) (.int .i64 ((rd_T108 x159000_1 x14_1).f0))) (fun _ hk => hk.2) (.int .i64 ((rd_T108 x159000_1 x14_1).f1))) (fun _ hk => hk.2) (.int .i64 ((rd_T108 x159000_1 x14_1).f2))) (fun _ hk => hk.2) (.bool true)) (fun _ hk => ⟨hk.1.1, hk.1.2⟩)))⟩; replace BK153 : Aside0 (w27.heap[gb153]? = some (.cells #[.slice A0_0 l0_0.length c0_0] 65 (0, 0))) := ⟨(by rw [hw]; exact (kF NB153_163 BK153))⟩; replace BK154 : Aside0 (w27.heap[gb154]? = some (.cells #[.slice none 0 0] 65 (0, 0))) := ⟨(by rw [hw]; exact (kF NB154_163 BK154))⟩; replace BK158 : Aside0 (w27.heap[gb158]? = some (.cells #[.slice (some ad162) x159000_1.length co9] 65 (0, 0))) := ⟨(by rw [hw]; exact (kF NB158_163 BK158))⟩; replace BK163 : Aside0 (w27.heap[gb163]? = some (.cells #[.int .i64 ((rd_T108 x159000_1 x14_1).f0), .int .i64 ((rd_T108 x159000_1 x14_1).f1), .int .i64 ((rd_T108 x159000_1 x14_1).f2), .bool true] 108 (0, 0))) := ⟨(by rw [hw]; exact (by (with_reducible repeat (first | refine blk_drewN ?_ _ | refine blk_drew ?_ | refine blk_alloc ?_ _)); refine blk_put (cs := #[.int .i64 ((rd_T108 x159000_1 x14_1).f0), .int .i64 ((rd_T108 x159000_1 x14_1).f1), .int .i64 ((rd_T108 x159000_1 x14_1).f2), .bool false]) ?_ 3 _ rfl; (with_reducible repeat (first | refine blk_drewN ?_ _ | refine blk_drew ?_ | refine blk_alloc ?_ _)); refine blk_put (cs := #[.int .i64 ((rd_T108 x159000_1 x14_1).f0), .int .i64 ((rd_T108 x159000_1 x14_1).f1), .int .i64 0, .bool false]) ?_ 2 _ rfl; (with_reducible repeat (first | refine blk_drewN ?_ _ | refine blk_drew ?_ | refine blk_alloc ?_ _)); refine blk_put (cs := #[.int .i64 ((rd_T108 x159000_1 x14_1).f0), .int .i64 0, .int .i64 0, .bool false]) ?_ 1 _ rfl; (with_reducible repeat (first | refine blk_drewN ?_ _ | refine blk_drew ?_ | refine blk_alloc ?_ _)); refine blk_put (cs := #[.int .i64 0, .int .i64 0, .int .i64 0, .bool false]) ?_ 0 _ rfl; (with_reducible repeat (first | refine blk_drewN ?_ _ | refine blk_drew ?_ | refine blk_alloc ?_ _)); exact BK163.out))⟩; replace HB : Aside0 (Below w.heap.size w w27) := ⟨(by rw [hw]; exact tB)⟩; clear hw; obtain ⟨hcz28_0, hcz28_1, hcz28_2, hcz28_3, hfz28_0, hfz28_1, hfz28_2, hfz28_3⟩ := bc4 BK163.out; have hnb29 := NB158_153.out; have hnc29 := NB153_158.out; have hnb30 := NB158_154.out; have hnc30 := NB154_158.out; obtain ⟨hcz31_0, hfz31_0⟩ := bc1 BK158.out; have p21 : 0 ≤ (x14_1 : Int) := of_decide_eq_true tA; have q21 : (x14_1 : Int) < ((x159000_1.length : Int) : Int) := of_decide_eq_true tA; obtain ⟨go21, co21, eo21, gb21, gl21, cl21, HG21⟩ := Kd.R_form HO_159000.out (by omega); (first | cases eo21 | (injection eo21 with ea_ en_ ec_; (first | subst ea_ | (injection ea_ with ea_; subst ea_)); subst ec_; clear en_)); have GB21 := Aside0.mk gb21; have GG21 := Aside0.mk HG21; clear gb21 gl21 HG21; (first | simp only [add_plain] at hx162_0 | skip); (first | simp only [add_plain] at hx162_1 | skip); (first | simp only [add_plain] at hx162_2 | skip); (first | simp only [add_plain] at hx162_3 | skip); obtain ⟨ce21, hcl21, hM21, hcc21, hfr21⟩ := Kd.R_elem HO_159000.out z108 (x14_1 : Int) p21 q21; obtain rfl := k108_openM hM21; have hx21_0 : w27.cell? ⟨go21, (x14_1 : Int).toNat * 4, none⟩ = some (.int .i64 ((rd_T108 x159000_1 x14_1).f0)) := hcc21 0 _ rfl; have hx21_1 : w27.cell? ⟨go21, (x14_1 : Int).toNat * 4 + 1, none⟩ = some (.int .i64 ((rd_T108 x159000_1 x14_1).f1)) := hcc21 1 _ rfl; have hx21_2 : w27.cell? ⟨go21, (x14_1 : Int).toNat * 4 + 2, none⟩ = some (.int .i64 ((rd_T108 x159000_1 x14_1).f2)) := hcc21 2 _ rfl; have hx21_3 : w27.cell? ⟨go21, (x14_1 : Int).toNat * 4 + 3, none⟩ = some (.bool ((rd_T108 x159000_1 x14_1).f3)) := hcc21 3 _ rfl; have hf21_0 : w27.frozen? ⟨go21, (x14_1 : Int).toNat * 4, none⟩ = false := hfr21 0; have hf21_1 : w27.frozen? ⟨go21, (x14_1 : Int).toNat * 4 + 1, none⟩ = false := hfr21 1; have hf21_2 : w27.frozen? ⟨go21, (x14_1 : Int).toNat * 4 + 2, none⟩ = false := hfr21 2; have hf21_3 : w27.frozen? ⟨go21, (x14_1 : Int).toNat * 4 + 3, none⟩ = false := hfr21 3; clear hcl21 hcc21 hfr21 hM21; replace p21 := eq_true p21; replace q21 := eq_true q21; have HX32 := Aside0.mk (show Kd.R k108 108 w27 w.heap.size (fun k_ => some k_ ≠ (u5 : Value).ownBlock ∧ k_ ≠ gb163) (.slice (some ⟨go21, 0, none⟩) x159000_1.length co9) x159000_1 from (tR HO_159000)); obtain ⟨ce32, hcl32, hM32, hcc32, hfr32⟩ := Kd.R_elem HX32.out z108 (x14_1 : Int) (of_decide_eq_true tA) (by have h_ : (x14_1 : Int) < ((x159000_1.length : Int) : Int) := of_decide_eq_true tA; first | exact h_ | (have e_ := (Kd.R_reads' HO_159000.out).1; omega) | simpa using h_); obtain rfl := k108_openM hM32; have HP32 := Kd.R_seg HX32.out (x14_1 : Int) (of_decide_eq_true tA) (by have h_ : (x14_1 : Int) < ((x159000_1.length : Int) : Int) := of_decide_eq_true tA; first | exact h_ | (have e_ := (Kd.R_reads' HO_159000.out).1; omega) | simpa using h_) (seg := [.bool true]) (j := 3) hcl32 hcc32 (show 4 ≤ 4 from by decide) (x' := (⟨(rd_T108 x159000_1 x14_1).f0, (rd_T108 x159000_1 x14_1).f1, (rd_T108 x159000_1 x14_1).f2, true⟩ : S108)) (k108_mkM _ _ _ (⟨(rd_T108 x159000_1 x14_1).f0, (rd_T108 x159000_1 x14_1).f1, (rd_T108 x159000_1 x14_1).f2, true⟩ : S108) ) (fun _ hk => hk); have hx32_3 := hcc32 3 _ rfl; (try simp only [show (k108).sz = 4 from rfl, Nat.mul_one, Nat.add_zero] at hx32_3); have hf32_3 := hfr32 3; (try simp only [show (k108).sz = 4 from rfl, Nat.mul_one, Nat.add_zero] at hf32_3); clear hcl32 hcc32 hfr32 hM32) | ((with_reducible refine gate_store (t := 4) (p := 30) rfl ?_); refine store_event (t := 4) (p := 30) (v := ?vo_w33) (w1 := (w27.setCell ⟨go21, (x14_1 : Int).toNat * 4 + 3, none⟩ (.bool true))) ?hg ?ho ?hn ?hr ?_; (case ho => rfl); (case hg => rfl); (case hn => rfl); (case hr => first | (go_simp; done) | (go_simp; rfl)); intro w33 hw; have hg : w27.grownBy w33 (some go21) := (by rw [hw]; exact HP32.2); have hp_ : Kd.R k108 108 w33 w.heap.size (fun k_ => some k_ ≠ (u5 : Value).ownBlock ∧ k_ ≠ gb163) (.slice (some ⟨go21, 0, none⟩) x159000_1.length co9) y164 := (by rw [hw, Ny164.out]; exact HP32.1); clear HP32; replace HO_5 := Aside0.mk (Kd.R_after (v := (.slice (some ⟨go21, 0, none⟩) x159000_1.length co9)) (v1 := (.slice (some ⟨go21, 0, none⟩) x159000_1.length co9)) (ok := (fun k_ => k_ ≠ gb163)) (by (with_reducible repeat (first | apply Kd.R_alloc | apply Kd.R_drewN | apply Kd.R_drew)); exact Kd.R_mono HO_5.out (fun _ hk => ⟨hk.2, hk.1⟩)) hg (.inl rfl)); replace BK153 := Aside0.mk (blk_grown (g := gb153) (o := .cells #[.slice A0_0 l0_0.length c0_0] 65 (0, 0)) (tK BK153) hg (Kd.R_ne HO_159000.out BK153.out (by decide))); replace BK154 := Aside0.mk (blk_grown (g := gb154) (o := .cells #[.slice none 0 0] 65 (0, 0)) (tK BK154) hg (Kd.R_ne HO_159000.out BK154.out (by decide))); replace BK158 := Aside0.mk (blk_grown (g := gb158) (o := .cells #[.slice (some ⟨go21, 0, none⟩) x159000_1.length co9] 65 (0, 0)) (tK BK158) hg (Kd.R_ne HO_159000.out BK158.out (by decide))); replace BK163 := Aside0.mk (blk_grown (g := gb163) (o := .cells #[.int .i64 ((rd_T108 x159000_1 x14_1).f0), .int .i64 ((rd_T108 x159000_1 x14_1).f1), .int .i64 ((rd_T108 x159000_1 x14_1).f2), .bool true] 108 (0, 0)) (tK BK163) hg (Kd.R_away HO_159000.out (fun _ hk => hk.2))); replace HO_159000 := Aside0.mk (hp_); replace HB := Aside0.mk ((by rw [hw]; exact below_set (HB.out) GB21.out : Below w.heap.size w w33)); clear hg hw hp_))
       (try simp only [← hl159000_1])
       go_roundg k1
       case measure => have := HK1.out; omega
       case rel => exact ⟨(x5_1), (wrap64 (x14_1 + 1)), (y164), tS, H', ⟨tI⟩, ⟨by (try simp only [hl159000_1]); (with_reducible repeat (first | apply Kd.R_alloc | apply Kd.R_drewN | apply Kd.R_drew)); exact Kd.R_mono HO_5.out (fun _ hk => hk.2)⟩, ⟨by (try simp only [hl159000_1]); (with_reducible repeat (first | apply Kd.R_alloc | apply Kd.R_drewN | apply Kd.R_drew)); exact Kd.R_mono HO_159000.out (fun _ hk => hk.1)⟩, ⟨by (try simp only [hl159000_1]); (with_reducible repeat (first | refine blk_drewN ?_ _ | refine blk_drew ?_ | refine blk_alloc ?_ _)); exact BK153.out⟩, ⟨by (try simp only [hl159000_1]); (with_reducible repeat (first | refine blk_drewN ?_ _ | refine blk_drew ?_ | refine blk_alloc ?_ _)); exact BK154.out⟩, ⟨by (try simp only [hl159000_1]); (with_reducible repeat (first | refine blk_drewN ?_ _ | refine blk_drew ?_ | refine blk_alloc ?_ _)); exact BK158.out⟩, ⟨tB⟩⟩
      replace c20 := Bool.eq_false_iff.mpr c20
      subst c20
      have H1 : (if x5_1.length < 4398046511104 then (impl_ReadNotices.l0 k1 (x5_1 ++ [(⟨(rd_T108 x159000_1 x14_1).f0, (rd_T108 x159000_1 x14_1).f1, (rd_T108 x159000_1 x14_1).f2, false⟩ : S108)]) (t155.length : Int) (wrap64 (x14_1 + 1)) (x159000_1.set (x14_1 : Int).toNat (⟨(rd_T108 x159000_1 x14_1).f0, (rd_T108 x159000_1 x14_1).f1, (rd_T108 x159000_1 x14_1).f2, true⟩ : S108))) else (none)) = some (r1, r2) := by rw [if_neg (show ¬ (false = true) by decide)] at H; exact H
      clear H
      have H := H1
      clear H1
      by_cases c34 : x5_1.length < 4398046511104
      ·rw [if_pos c34] at H
       have LMc34 := Aside0.mk c34
       clear c34
       obtain ⟨y165, hy165⟩ : ∃ y_ : List (S108), y_ = (x5_1 ++ [(⟨(rd_T108 x159000_1 x14_1).f0, (rd_T108 x159000_1 x14_1).f1, (rd_T108 x159000_1 x14_1).f2, false⟩ : S108)]) := ⟨_, rfl⟩
       replace H : (impl_ReadNotices.l0 k1 y165 (t155.length : Int) (wrap64 (x14_1 + 1)) (x159000_1.set (x14_1 : Int).toNat (⟨(rd_T108 x159000_1 x14_1).f0, (rd_T108 x159000_1 x14_1).f1, (rd_T108 x159000_1 x14_1).f2, true⟩ : S108))) = some (r1, r2) := by first | (rw [hy165]; with_reducible exact H) | (have H2_ := (Option.bind_some _ _).symm.trans H; rw [hy165]; with_reducible exact H2_) | (have H2_ := (Option.bind_some _ _).symm.trans H; with_reducible exact H2_) | with_reducible exact H | (rw [hy165]; exact H) | exact H
       have Ny165 := Aside0.mk hy165
       clear hy165
       obtain ⟨y168, hy168⟩ : ∃ y_ : List (S108), y_ = (x159000_1.set (x14_1 : Int).toNat (⟨(rd_T108 x159000_1 x14_1).f0, (rd_T108 x159000_1 x14_1).f1, (rd_T108 x159000_1 x14_1).f2, true⟩ : S108)) := ⟨_, rfl⟩
       replace H : (impl_ReadNotices.l0 k1 y165 (t155.length : Int) (wrap64 (x14_1 + 1)) y168) = some (r1, r2) := by first | (rw [hy168]; with_reducible exact H) | (have H2_ := (Option.bind_some _ _).symm.trans H; rw [hy168]; with_reducible exact H2_) | (have H2_ := (Option.bind_some _ _).symm.trans H; with_reducible exact H2_) | with_reducible exact H | (rw [hy168]; exact H) | exact H
       have Ny168 := Aside0.mk hy168
       clear hy168
       have H' := Aside0.mk H
       clear H
       have p162 : 0 ≤ (x14_1 : Int) := of_decide_eq_true tA
       have q162 : x14_1 < (x159000_1.length : Int) := of_decide_eq_true tA
       obtain ⟨ad162, e162, hx162_0, hx162_1, hx162_2, hx162_3⟩ := at_T108 (Kd.R_reads' HO_159000.out).2.2 x14_1 p162 q162
       (try rw [← Nbq19.out] at hx162_3)
       cases e162
       replace p162 := eq_true p162
       replace q162 := eq_true q162
       go_wp2_with (first | ((with_reducible refine gate_dst (N := 7) rfl ?_); refine box_event ?hg (N := 7) ?hd (cs := #[.int .i64 0, .int .i64 0, .int .i64 0, .bool false]) (t := 108) ?hr ?_; (case hd => rfl); (case hg => rfl); (case hr => exact tG); intro gb163 hg w36 hbox hb; replace HO_5 := Aside0.mk (Kd.R_below (Kd.R_elderB (tR HO_5) gb163 (Nat.le_of_eq hg.symm)) hb); replace HO_159000 := Aside0.mk (Kd.R_below (Kd.R_elderB (tR HO_159000) gb163 (Nat.le_of_eq hg.symm)) hb); have BK163 := Aside0.mk (hbox); have GW163 := gW HB hg; have GE163 := gW HB hg; replace HB := bH HB hb; have NB153_163 := nL BK153 hg; have NB163_153 := nR BK153 hg; replace BK153 := bB BK153 hb; have NB154_163 := nL BK154 hg; have NB163_154 := nR BK154 hg; replace BK154 := bB BK154 hb; have NB158_163 := nL BK158 hg; have NB163_158 := nR BK158 hg; replace BK158 := bB BK158 hb; clear hb hbox hg; have hnb37 := NB163_153.out; have hnc37 := NB153_163.out; have hnb38 := NB163_154.out; have hnc38 := NB154_163.out; have hnb39 := NB163_158.out; have hnc39 := NB158_163.out; obtain ⟨hcz40_0, hcz40_1, hcz40_2, hcz40_3, hfz40_0, hfz40_1, hfz40_2, hfz40_3⟩ := bc4 BK163.out) | ((with_reducible refine gate_builtin (b := .append) (xs := #[.tmp 22, .tmp 24]) rfl ?_); at_builtin; refine Kd.R_append k108 (w0 := w) w.heap.size rfl (.tmp 22) (.tmp 24) 63 108 (.agg #[(.int .i64 0), (.int .i64 0), (.int .i64 0), (.bool false)]) 32 rfl Try.underlying63 info108 rfl (by decide) (by omega) u5 x5_1 (⟨(rd_T108 x159000_1 x14_1).f0, (rd_T108 x159000_1 x14_1).f1, (rd_T108 x159000_1 x14_1).f2, false⟩ : S108) [.int .i64 ((rd_T108 x159000_1 x14_1).f0), .int .i64 ((rd_T108 x159000_1 x14_1).f1), .int .i64 ((rd_T108 x159000_1 x14_1).f2), .bool false] (fun k_ => some k_ ≠ (.slice (some ad162) x159000_1.length co9 : Value).ownBlock ∧ k_ ≠ gb163) (fun _ => False) rfl (by first | (go_simp; done) | (go_simp; rfl)) ?aP (fun _ hk => hk.elim) ?aF ?aO ?aB ?aS ?aL ?_; (case aP => exact k108_mkM _ _ _ (⟨(rd_T108 x159000_1 x14_1).f0, (rd_T108 x159000_1 x14_1).f1, (rd_T108 x159000_1 x14_1).f2, false⟩ : S108)); (case aB => exact tB); (case aF => exact (fun k_ hk => ⟨Kd.fresh' (Kd.R_lt (by (with_reducible repeat (first | apply Kd.R_alloc | apply Kd.R_drewN | apply Kd.R_drew)); exact (Kd.R_mono (Kd.R_far (p := ⟨gb163, 3, none⟩) (Kd.R_far (p := ⟨gb163, 2, none⟩) (Kd.R_far (p := ⟨gb163, 1, none⟩) (Kd.R_far (p := ⟨gb163, 0, none⟩) (Kd.R_mono HO_159000.out (fun k_ hk => (⟨hk, hk.2⟩ : _ ∧ k_ ≠ gb163))) (fun _ hk => hk.2) (.int .i64 ((rd_T108 x159000_1 x14_1).f0))) (fun _ hk => hk.2) (.int .i64 ((rd_T108 x159000_1 x14_1).f1))) (fun _ hk => hk.2) (.int .i64 ((rd_T108 x159000_1 x14_1).f2))) (fun _ hk => hk.2) (.bool false)) (fun _ h_ => h_.1)))) k_ hk, Kd.freshB (g := gb163) (o := .cells #[.int .i64 ((rd_T108 x159000_1 x14_1).f0), .int .i64 ((rd_T108 x159000_1 x14_1).f1), .int .i64 ((rd_T108 x159000_1 x14_1).f2), .bool false] 108 (0, 0)) (by (with_reducible repeat (first | refine blk_drewN ?_ _ | refine blk_drew ?_ | refine blk_alloc ?_ _)); refine blk_put (cs := #[.int .i64 ((rd_T108 x159000_1 x14_1).f0), .int .i64 ((rd_T108 x159000_1 x14_1).f1), .int .i64 ((rd_T108 x159000_1 x14_1).f2), .bool false]) ?_ 3 _ rfl; (with_reducible repeat (first | refine blk_drewN ?_ _ | refine blk_drew ?_ | refine blk_alloc ?_ _)); refine blk_put (cs := #[.int .i64 ((rd_T108 x159000_1 x14_1).f0), .int .i64 ((rd_T108 x159000_1 x14_1).f1), .int .i64 0, .bool false]) ?_ 2 _ rfl; (with_reducible repeat (first | refine blk_drewN ?_ _ | refine blk_drew ?_ | refine blk_alloc ?_ _)); refine blk_put (cs := #[.int .i64 ((rd_T108 x159000_1 x14_1).f0), .int .i64 0, .int .i64 0, .bool false]) ?_ 1 _ rfl; (with_reducible repeat (first | refine blk_drewN ?_ _ | refine blk_drew ?_ | refine blk_alloc ?_ _)); refine blk_put (cs := #[.int .i64 0, .int .i64 0, .int .i64 0, .bool false]) ?_ 0 _ rfl; (with_reducible repeat (first | refine blk_drewN ?_ _ | refine blk_drew ?_ | refine blk_alloc ?_ _)); exact BK163.out) k_ hk⟩)); (case aO => exact (by (with_reducible repeat (first | apply Kd.R_alloc | apply Kd.R_drewN | apply Kd.R_drew)); exact Kd.R_mono (Kd.R_far (p := ⟨gb163, 3, none⟩) (Kd.R_far (p := ⟨gb163, 2, none⟩) (Kd.R_far (p := ⟨gb163, 1, none⟩) (Kd.R_far (p := ⟨gb163, 0, none⟩) (Kd.R_mono HO_5.out (fun k_ hk => (⟨hk, hk.2⟩ : _ ∧ k_ ≠ gb163))) (fun _ hk => hk.2) (.int .i64 ((rd_T108 x159000_1 x14_1).f0))) (fun _ hk => hk.2) (.int .i64 ((rd_T108 x159000_1 x14_1).f1))) (fun _ hk => hk.2) (.int .i64 ((rd_T108 x159000_1 x14_1).f2))) (fun _ hk => hk.2) (.bool false)) (fun _ hk => ⟨hk.1.1, hk.1.2⟩))); (case aS => exact (below_size tB)); (case aL => have := LMc34.out; omega); intro v166 w41 ho hb hg hat; rw [← Ny165.out] at ho; replace HO_159000 := Aside0.mk (Kd.R_after (ok := (fun k_ => k_ ≠ gb163)) (by (with_reducible repeat (first | apply Kd.R_alloc | apply Kd.R_drewN | apply Kd.R_drew)); exact Kd.R_mono (Kd.R_far (p := ⟨gb163, 3, none⟩) (Kd.R_far (p := ⟨gb163, 2, none⟩) (Kd.R_far (p := ⟨gb163, 1, none⟩) (Kd.R_far (p := ⟨gb163, 0, none⟩) (Kd.R_mono HO_159000.out (fun k_ hk => (⟨hk, hk.2⟩ : _ ∧ k_ ≠ gb163))) (fun _ hk => hk.2) (.int .i64 ((rd_T108 x159000_1 x14_1).f0))) (fun _ hk => hk.2) (.int .i64 ((rd_T108 x159000_1 x14_1).f1))) (fun _ hk => hk.2) (.int .i64 ((rd_T108 x159000_1 x14_1).f2))) (fun _ hk => hk.2) (.bool false)) (fun _ hk => ⟨hk.1.2, hk.1.1⟩)) hg hat); replace BK153 := Aside0.mk (blk_grown (g := gb153) (o := .cells #[.slice A0_0 l0_0.length c0_0] 65 (0, 0)) (kF NB153_163 BK153) hg (Kd.R_ne HO_5.out BK153.out (by decide))); replace BK154 := Aside0.mk (blk_grown (g := gb154) (o := .cells #[.slice none 0 0] 65 (0, 0)) (kF NB154_163 BK154) hg (Kd.R_ne HO_5.out BK154.out (by decide))); replace BK158 := Aside0.mk (blk_grown (g := gb158) (o := .cells #[.slice (some ad162) x159000_1.length co9] 65 (0, 0)) (kF NB158_163 BK158) hg (Kd.R_ne HO_5.out BK158.out (by decide))); replace BK163 := Aside0.mk (blk_grown (g := gb163) (o := .cells #[.int .i64 ((rd_T108 x159000_1 x14_1).f0), .int .i64 ((rd_T108 x159000_1 x14_1).f1), .int .i64 ((rd_T108 x159000_1 x14_1).f2), .bool false] 108 (0, 0)) (by (with_reducible repeat (first | refine blk_drewN ?_ _ | refine blk_drew ?_ | refine blk_alloc ?_ _)); refine blk_put (cs := #[.int .i64 ((rd_T108 x159000_1 x14_1).f0), .int .i64 ((rd_T108 x159000_1 x14_1).f1), .int .i64 ((rd_T108 x159000_1 x14_1).f2), .bool false]) ?_ 3 _ rfl; (with_reducible repeat (first | refine blk_drewN ?_ _ | refine blk_drew ?_ | refine blk_alloc ?_ _)); refine blk_put (cs := #[.int .i64 ((rd_T108 x159000_1 x14_1).f0), .int .i64 ((rd_T108 x159000_1 x14_1).f1), .int .i64 0, .bool false]) ?_ 2 _ rfl; (with_reducible repeat (first | refine blk_drewN ?_ _ | refine blk_drew ?_ | refine blk_alloc ?_ _)); refine blk_put (cs := #[.int .i64 ((rd_T108 x159000_1 x14_1).f0), .int .i64 0, .int .i64 0, .bool false]) ?_ 1 _ rfl; (with_reducible repeat (first | refine blk_drewN ?_ _ | refine blk_drew ?_ | refine blk_alloc ?_ _)); refine blk_put (cs := #[.int .i64 0, .int .i64 0, .int .i64 0, .bool false]) ?_ 0 _ rfl; (with_reducible repeat (first | refine blk_drewN ?_ _ | refine blk_drew ?_ | refine blk_alloc ?_ _)); exact BK163.out) hg (Kd.R_away HO_5.out (fun _ hk => hk.2))); replace HB := Aside0.mk (hb); have HO167 := Aside0.mk (ho); clear HO_5; clear ho hb hg hat; have hnb42 := NB158_153.out; have hnc42 := NB153_158.out; have hnb43 := NB158_154.out; have hnc43 := NB154_158.out; obtain ⟨hcz44_0, hfz44_0⟩ := bc1 BK158.out; have p35 : 0 ≤ (x14_1 : Int) := of_decide_eq_true tA; have q35 : (x14_1 : Int) < ((x159000_1.length : Int) : Int) := of_decide_eq_true tA; obtain ⟨go35, co35, eo35, gb35, gl35, cl35, HG35⟩ := Kd.R_form HO_159000.out (by omega); (first | cases eo35 | (injection eo35 with ea_ en_ ec_; (first | subst ea_ | (injection ea_ with ea_; subst ea_)); subst ec_; clear en_)); have GB35 := Aside0.mk gb35; have GG35 := Aside0.mk HG35; clear gb35 gl35 HG35; (first | simp only [add_plain] at hx162_0 | skip); (first | simp only [add_plain] at hx162_1 | skip); (first | simp only [add_plain] at hx162_2 | skip); (first | simp only [add_plain] at hx162_3 | skip); obtain ⟨ce35, hcl35, hM35, hcc35, hfr35⟩ := Kd.R_elem HO_159000.out z108 (x14_1 : Int) p35 q35; obtain rfl := k108_openM hM35; have hx35_0 : w41.cell? ⟨go35, (x14_1 : Int).toNat * 4, none⟩ = some (.int .i64 ((rd_T108 x159000_1 x14_1).f0)) := hcc35 0 _ rfl; have hx35_1 : w41.cell? ⟨go35, (x14_1 : Int).toNat * 4 + 1, none⟩ = some (.int .i64 ((rd_T108 x159000_1 x14_1).f1)) := hcc35 1 _ rfl; have hx35_2 : w41.cell? ⟨go35, (x14_1 : Int).toNat * 4 + 2, none⟩ = some (.int .i64 ((rd_T108 x159000_1 x14_1).f2)) := hcc35 2 _ rfl; have hx35_3 : w41.cell? ⟨go35, (x14_1 : Int).toNat * 4 + 3, none⟩ = some (.bool ((rd_T108 x159000_1 x14_1).f3)) := hcc35 3 _ rfl; have hf35_0 : w41.frozen? ⟨go35, (x14_1 : Int).toNat * 4, none⟩ = false := hfr35 0; have hf35_1 : w41.frozen? ⟨go35, (x14_1 : Int).toNat * 4 + 1, none⟩ = false := hfr35 1; have hf35_2 : w41.frozen? ⟨go35, (x14_1 : Int).toNat * 4 + 2, none⟩ = false := hfr35 2; have hf35_3 : w41.frozen? ⟨go35, (x14_1 : Int).toNat * 4 + 3, none⟩ = false := hfr35 3; clear hcl35 hcc35 hfr35 hM35; replace p35 := eq_true p35; replace q35 := eq_true q35; have HX45 := Aside0.mk (show Kd.R k108 108 w41 w.heap.size (fun k_ => some k_ ≠ (v166 : Value).ownBlock ∧ k_ ≠ gb163) (.slice (some ⟨go35, 0, none⟩) x159000_1.length co9) x159000_1 from (by (with_reducible repeat (first | apply Kd.R_alloc | apply Kd.R_drewN | apply Kd.R_drew)); exact Kd.R_mono HO_159000.out (fun _ hk => ⟨hk.2, hk.1⟩))); obtain ⟨ce45, hcl45, hM45, hcc45, hfr45⟩ := Kd.R_elem HX45.out z108 (x14_1 : Int) (of_decide_eq_true tA) (by have h_ : (x14_1 : Int) < ((x159000_1.length : Int) : Int) := of_decide_eq_true tA; first | exact h_ | (have e_ := (Kd.R_reads' HO_159000.out).1; omega) | simpa using h_); obtain rfl := k108_openM hM45; have HP45 := Kd.R_seg HX45.out (x14_1 : Int) (of_decide_eq_true tA) (by have h_ : (x14_1 : Int) < ((x159000_1.length : Int) : Int) := of_decide_eq_true tA; first | exact h_ | (have e_ := (Kd.R_reads' HO_159000.out).1; omega) | simpa using h_) (seg := [.bool true]) (j := 3) hcl45 hcc45 (show 4 ≤ 4 from by decide) (x' := (⟨(rd_T108 x159000_1 x14_1).f0, (rd_T108 x159000_1 x14_1).f1, (rd_T108 x159000_1 x14_1).f2, true⟩ : S108)) (k108_mkM _ _ _ (⟨(rd_T108 x159000_1 x14_1).f0, (rd_T108 x159000_1 x14_1).f1, (rd_T108 x159000_1 x14_1).f2, true⟩ : S108) ) (fun _ hk => hk); have hx45_3 := hcc45 3 _ rfl; (try simp only [show (k108).sz = 4 from rfl, Nat.mul_one, Nat.add_zero] at hx45_3); have hf45_3 := hfr45 3; (try simp only [show (k108).sz = 4 from rfl, Nat.mul_one, Nat.add_zero] at hf45_3); clear hcl45 hcc45 hfr45 hM45) | ((with_reducible refine gate_store (t := 4) (p := 30) rfl ?_); refine store_event (t := 4) (p := 30) (v := ?vo_w46) (w1 := (w41.setCell ⟨go35, (x14_1 : Int).toNat * 4 + 3, none⟩ (.bool true))) ?hg ?ho ?hn ?hr ?_; (case ho => rfl); (case hg => rfl); (case hn => rfl); (case hr => first | (go_simp; done) | (go_simp; rfl)); intro w46 hw; have hg : w41.grownBy w46 (some go35) := (by rw [hw]; exact HP45.2); have hp_ : Kd.R k108 108 w46 w.heap.size (fun k_ => some k_ ≠ (v166 : Value).ownBlock ∧ k_ ≠ gb163) (.slice (some ⟨go35, 0, none⟩) x159000_1.length co9) y168 := (by rw [hw, Ny168.out]; exact HP45.1); clear HP45; replace BK153 := Aside0.mk (blk_grown (g := gb153) (o := .cells #[.slice A0_0 l0_0.length c0_0] 65 (0, 0)) (tK BK153) hg (Kd.R_ne HO_159000.out BK153.out (by decide))); replace BK154 := Aside0.mk (blk_grown (g := gb154) (o := .cells #[.slice none 0 0] 65 (0, 0)) (tK BK154) hg (Kd.R_ne HO_159000.out BK154.out (by decide))); replace BK158 := Aside0.mk (blk_grown (g := gb158) (o := .cells #[.slice (some ⟨go35, 0, none⟩) x159000_1.length co9] 65 (0, 0)) (tK BK158) hg (Kd.R_ne HO_159000.out BK158.out (by decide))); replace BK163 := Aside0.mk (blk_grown (g := gb163) (o := .cells #[.int .i64 ((rd_T108 x159000_1 x14_1).f0), .int .i64 ((rd_T108 x159000_1 x14_1).f1), .int .i64 ((rd_T108 x159000_1 x14_1).f2), .bool false] 108 (0, 0)) (tK BK163) hg (Kd.R_away HO_159000.out (fun _ hk => hk.1))); replace HO_159000 := Aside0.mk (hp_); replace HO167 := Aside0.mk (Kd.R_after (v := (.slice (some ⟨go35, 0, none⟩) x159000_1.length co9)) (v1 := (.slice (some ⟨go35, 0, none⟩) x159000_1.length co9)) (ok := (fun k_ => k_ ≠ gb163)) (by (with_reducible repeat (first | apply Kd.R_alloc | apply Kd.R_drewN | apply Kd.R_drew)); exact Kd.R_mono HO167.out (fun _ hk => ⟨hk.2, hk.1⟩)) hg (.inl rfl)); replace HB := Aside0.mk ((by rw [hw]; exact below_set (HB.out) GB35.out : Below w.heap.size w w46)); clear hg hw hp_))
       (try simp only [← hl159000_1])
       go_roundg k1
       case measure => have := HK1.out; omega
       case rel => exact ⟨(y165), (wrap64 (x14_1 + 1)), (y168), tS, H', ⟨tI⟩, ⟨by (try simp only [hl159000_1]); (with_reducible repeat (first | apply Kd.R_alloc | apply Kd.R_drewN | apply Kd.R_drew)); exact Kd.R_mono HO167.out (fun _ hk => hk.2)⟩, ⟨by (try simp only [hl159000_1]); (with_reducible repeat (first | apply Kd.R_alloc | apply Kd.R_drewN | apply Kd.R_drew)); exact Kd.R_mono HO_159000.out (fun _ hk => hk.1)⟩, ⟨by (try simp only [hl159000_1]); (with_reducible repeat (first | refine blk_drewN ?_ _ | refine blk_drew ?_ | refine blk_alloc ?_ _)); exact BK153.out⟩, ⟨by (try simp only [hl159000_1]); (with_reducible repeat (first | refine blk_drewN ?_ _ | refine blk_drew ?_ | refine blk_alloc ?_ _)); exact BK154.out⟩, ⟨by (try simp only [hl159000_1]); (with_reducible repeat (first | refine blk_drewN ?_ _ | refine blk_drew ?_ | refine blk_alloc ?_ _)); exact BK158.out⟩, ⟨tB⟩⟩
      rw [if_neg c34] at H
      exact absurd H (by simp)
     rw [if_neg c18] at H
     exact absurd H (by simp)
    rw [if_neg c17] at H
    exact absurd H (by simp)
   rw [if_neg c16] at H
   have c16b0 : decide (x14_1 < (t155.length : Int)) = false := decide_eq_false c16
   try simp only [hl159000_1] at c16b0
   clear c16
   simp only [Option.some.injEq, Prod.mk.injEq] at H
   obtain ⟨rfl, rfl⟩ := H
   have hnb47 := NB158_153.out
   have hnc47 := NB153_158.out
   have hnb48 := NB158_154.out
   have hnc48 := NB154_158.out
   obtain ⟨hcz49_0, hfz49_0⟩ := bc1 BK158.out
   have hnb50 := NB154_153.out
   have hnc50 := NB153_154.out
   obtain ⟨hcz51_0, hfz51_0⟩ := bc1 BK154.out
   go_wp2
   refine bodyPost_ret (results_ct rfl _ _ gb154 65 #[.slice Ao9 x159000_1.length co9] (0, 0) _ rfl (by (with_reducible repeat (first | refine blk_drewN ?_ _ | refine blk_drew ?_ | refine blk_alloc ?_ _)); refine blk_put (cs := #[.slice none 0 0]) ?_ 0 _ rfl; (with_reducible repeat (first | refine blk_drewN ?_ _ | refine blk_drew ?_ | refine blk_alloc ?_ _)); exact BK154.out) Try.underlying65 rfl (by kernel_rfl)) rfl ?_
   exact ⟨_, _, tE, by (with_reducible repeat (first | apply Kd.R_alloc | apply Kd.R_drewN | apply Kd.R_drew)); exact Kd.R_mono (Kd.R_far (p := ⟨gb154, 0, none⟩) (Kd.R_types HO_159000.out BK154.out (by decide)) (fun _ hk => hk.2) (.slice Ao9 x159000_1.length co9)) (fun _ hk => hk.1), by (with_reducible repeat (first | apply Kd.R_alloc | apply Kd.R_drewN | apply Kd.R_drew)); exact Kd.R_mono (Kd.R_far (p := ⟨gb154, 0, none⟩) (Kd.R_types HO_5.out BK154.out (by decide)) (fun _ hk => hk.2) (.slice Ao9 x159000_1.length co9)) (fun _ hk => hk.1), tB⟩

/-! ### laws_eqNotice: function 96 -/
def laws_eqNotice.f (a0_0 : Int) (a0_1 : Int) (a0_2 : Int) (a0_3 : Bool) (a1_0 : Int) (a1_1 : Int) (a1_2 : Int) (a1_3 : Bool) : Option (Bool) := if a0_0 = a1_0 then (if a0_1 = a1_1 then (if a0_2 = a1_2 then (if (a0_3 != a1_3) = true then (some false) else (some true)) else (some false)) else (some false)) else (some false)
set_option maxHeartbeats 8000000 in
set_option maxRecDepth 100000 in
theorem laws_eqNotice.calls (a0_0 : Int) (a0_1 : Int) (a0_2 : Int) (a0_3 : Bool) (a1_0 : Int) (a1_1 : Int) (a1_2 : Int) (a1_3 : Bool) (r : Bool) (w : World) (h : laws_eqNotice.f a0_0 a0_1 a0_2 a0_3 a1_0 a1_1 a1_2 a1_3 = some r) :
  Calls Try.prog 96 #[.agg #[.int .i64 a0_0, .int .i64 a0_1, .int .i64 a0_2, .bool a0_3], .agg #[.int .i64 a1_0, .int .i64 a1_1, .int .i64 a1_2, .bool a1_3]] w fun e w' => e = .returned (.bool r) ∧ Below w.heap.size w w' := by
 have hu108 := Try.underlying108
 have HB := Aside0.mk (Below.refl w.heap.size w)
 have H : (if a0_0 = a1_0 then (if a0_1 = a1_1 then (if a0_2 = a1_2 then (if (a0_3 != a1_3) = true then (some false) else (some true)) else (some false)) else (some false)) else (some false)) = some r := h
 clear h
 by_cases c3 : a0_0 = a1_0
 ·rw [if_pos c3] at H
  have c3b0 : (a0_0 == a1_0) = true := beq_iff_eq.mpr c3
  have c3b1 : (a0_0 != a1_0) = false := bne_eq_false_iff_eq.mpr c3
  clear c3
  by_cases c4 : a0_1 = a1_1
  ·rw [if_pos c4] at H
   have c4b0 : (a0_1 == a1_1) = true := beq_iff_eq.mpr c4
   have c4b1 : (a0_1 != a1_1) = false := bne_eq_false_iff_eq.mpr c4
   clear c4
   by_cases c5 : a0_2 = a1_2
   ·rw [if_pos c5] at H
    have c5b0 : (a0_2 == a1_2) = true := beq_iff_eq.mpr c5
    have c5b1 : (a0_2 != a1_2) = false := bne_eq_false_iff_eq.mpr c5
    clear c5
    by_cases c6 : (a0_3 != a1_3) = true
    ·rw [if_pos c6] at H
     have c6b0 : (a0_3 != a1_3) = true := c6
     (try (have c6b1 : decide (a0_3 = a1_3) = false := by simpa using c6))
     (try (have c6b2 : (a0_3 == a1_3) = false := by simpa using c6))
     (try (have c6b3 : ¬ (a0_3 = a1_3) := by simpa using c6))
     clear c6
     obtain rfl := Option.some.inj H
     go_enter Try.func96, Try.ntmps96
     go_wp2_with (first | ((with_reducible refine gate_dst (N := 2) rfl ?_); refine box_event ?hg (N := 2) ?hd (cs := #[.int .i64 a0_0, .int .i64 a0_1, .int .i64 a0_2, .bool a0_3]) (t := 108) ?hr ?_; (case hd => rfl); (case hg => rfl); (case hr => exact tG); intro gb169 hg w7 hbox hb; have BK169 := Aside0.mk (hbox); have GW169 := gW HB hg; have GE169 := gW HB hg; replace HB := bH HB hb; clear hb hbox hg) | ((with_reducible refine gate_dst (N := 3) rfl ?_); refine box_event ?hg (N := 3) ?hd (cs := #[.int .i64 a1_0, .int .i64 a1_1, .int .i64 a1_2, .bool a1_3]) (t := 108) ?hr ?_; (case hd => rfl); (case hg => rfl); (case hr => exact tG); intro gb170 hg w8 hbox hb; have BK170 := Aside0.mk (hbox); have GW170 := gW HB hg; have GE170 := gW HB hg; replace HB := bH HB hb; have NB169_170 := nL BK169 hg; have NB170_169 := nR BK169 hg; replace BK169 := bB BK169 hb; clear hb hbox hg; have hnb9 := NB169_170.out; have hnc9 := NB170_169.out; obtain ⟨hcz10_0, hcz10_1, hcz10_2, hcz10_3, hfz10_0, hfz10_1, hfz10_2, hfz10_3⟩ := bc4 BK169.out; obtain ⟨hcz11_0, hcz11_1, hcz11_2, hcz11_3, hfz11_0, hfz11_1, hfz11_2, hfz11_3⟩ := bc4 BK170.out))
     go_ret
     exact ⟨tE, tB⟩
    rw [if_neg c6] at H
    have c6b0 : (a0_3 != a1_3) = false := by simpa using c6
    (try (have c6b1 : decide (a0_3 = a1_3) = true := by simpa using c6))
    (try (have c6b2 : (a0_3 == a1_3) = true := by simpa using c6))
    clear c6
    obtain rfl := Option.some.inj H
    go_enter Try.func96, Try.ntmps96
    go_wp2_with (first | ((with_reducible refine gate_dst (N := 2) rfl ?_); refine box_event ?hg (N := 2) ?hd (cs := #[.int .i64 a0_0, .int .i64 a0_1, .int .i64 a0_2, .bool a0_3]) (t := 108) ?hr ?_; (case hd => rfl); (case hg => rfl); (case hr => exact tG); intro gb169 hg w12 hbox hb; have BK169 := Aside0.mk (hbox); have GW169 := gW HB hg; have GE169 := gW HB hg; replace HB := bH HB hb; clear hb hbox hg) | ((with_reducible refine gate_dst (N := 3) rfl ?_); refine box_event ?hg (N := 3) ?hd (cs := #[.int .i64 a1_0, .int .i64 a1_1, .int .i64 a1_2, .bool a1_3]) (t := 108) ?hr ?_; (case hd => rfl); (case hg => rfl); (case hr => exact tG); intro gb170 hg w13 hbox hb; have BK170 := Aside0.mk (hbox); have GW170 := gW HB hg; have GE170 := gW HB hg; replace HB := bH HB hb; have NB169_170 := nL BK169 hg; have NB170_169 := nR BK169 hg; replace BK169 := bB BK169 hb; clear hb hbox hg; have hnb14 := NB169_170.out; have hnc14 := NB170_169.out; obtain ⟨hcz15_0, hcz15_1, hcz15_2, hcz15_3, hfz15_0, hfz15_1, hfz15_2, hfz15_3⟩ := bc4 BK169.out; obtain ⟨hcz16_0, hcz16_1, hcz16_2, hcz16_3, hfz16_0, hfz16_1, hfz16_2, hfz16_3⟩ := bc4 BK170.out))
    go_ret
    exact ⟨tE, tB⟩
   rw [if_neg c5] at H
   have c5b0 : (a0_2 == a1_2) = false := beq_eq_false_iff_ne.mpr c5
   have c5b1 : (a0_2 != a1_2) = true := bne_iff_ne.mpr c5
   obtain rfl := Option.some.inj H
   go_enter Try.func96, Try.ntmps96
   go_wp2_with (first | ((with_reducible refine gate_dst (N := 2) rfl ?_); refine box_event ?hg (N := 2) ?hd (cs := #[.int .i64 a0_0, .int .i64 a0_1, .int .i64 a0_2, .bool a0_3]) (t := 108) ?hr ?_; (case hd => rfl); (case hg => rfl); (case hr => exact tG); intro gb169 hg w17 hbox hb; have BK169 := Aside0.mk (hbox); have GW169 := gW HB hg; have GE169 := gW HB hg; replace HB := bH HB hb; clear hb hbox hg) | ((with_reducible refine gate_dst (N := 3) rfl ?_); refine box_event ?hg (N := 3) ?hd (cs := #[.int .i64 a1_0, .int .i64 a1_1, .int .i64 a1_2, .bool a1_3]) (t := 108) ?hr ?_; (case hd => rfl); (case hg => rfl); (case hr => exact tG); intro gb170 hg w18 hbox hb; have BK170 := Aside0.mk (hbox); have GW170 := gW HB hg; have GE170 := gW HB hg; replace HB := bH HB hb; have NB169_170 := nL BK169 hg; have NB170_169 := nR BK169 hg; replace BK169 := bB BK169 hb; clear hb hbox hg; have hnb19 := NB169_170.out; have hnc19 := NB170_169.out; obtain ⟨hcz20_0, hcz20_1, hcz20_2, hcz20_3, hfz20_0, hfz20_1, hfz20_2, hfz20_3⟩ := bc4 BK169.out; obtain ⟨hcz21_0, hcz21_1, hcz21_2, hcz21_3, hfz21_0, hfz21_1, hfz21_2, hfz21_3⟩ := bc4 BK170.out))
   go_ret
   exact ⟨tE, tB⟩
  rw [if_neg c4] at H
  have c4b0 : (a0_1 == a1_1) = false := beq_eq_false_iff_ne.mpr c4
  have c4b1 : (a0_1 != a1_1) = true := bne_iff_ne.mpr c4
  obtain rfl := Option.some.inj H
  go_enter Try.func96, Try.ntmps96
  go_wp2_with (first | ((with_reducible refine gate_dst (N := 2) rfl ?_); refine box_event ?hg (N := 2) ?hd (cs := #[.int .i64 a0_0, .int .i64 a0_1, .int .i64 a0_2, .bool a0_3]) (t := 108) ?hr ?_; (case hd => rfl); (case hg => rfl); (case hr => exact tG); intro gb169 hg w22 hbox hb; have BK169 := Aside0.mk (hbox); have GW169 := gW HB hg; have GE169 := gW HB hg; replace HB := bH HB hb; clear hb hbox hg) | ((with_reducible refine gate_dst (N := 3) rfl ?_); refine box_event ?hg (N := 3) ?hd (cs := #[.int .i64 a1_0, .int .i64 a1_1, .int .i64 a1_2, .bool a1_3]) (t := 108) ?hr ?_; (case hd => rfl); (case hg => rfl); (case hr => exact tG); intro gb170 hg w23 hbox hb; have BK170 := Aside0.mk (hbox); have GW170 := gW HB hg; have GE170 := gW HB hg; replace HB := bH HB hb; have NB169_170 := nL BK169 hg; have NB170_169 := nR BK169 hg; replace BK169 := bB BK169 hb; clear hb hbox hg; have hnb24 := NB169_170.out; have hnc24 := NB170_169.out; obtain ⟨hcz25_0, hcz25_1, hcz25_2, hcz25_3, hfz25_0, hfz25_1, hfz25_2, hfz25_3⟩ := bc4 BK169.out; obtain ⟨hcz26_0, hcz26_1, hcz26_2, hcz26_3, hfz26_0, hfz26_1, hfz26_2, hfz26_3⟩ := bc4 BK170.out))
  go_ret
  exact ⟨tE, tB⟩
 rw [if_neg c3] at H
 have c3b0 : (a0_0 == a1_0) = false := beq_eq_false_iff_ne.mpr c3
 have c3b1 : (a0_0 != a1_0) = true := bne_iff_ne.mpr c3
 obtain rfl := Option.some.inj H
 go_enter Try.func96, Try.ntmps96
 go_wp2_with (first | ((with_reducible refine gate_dst (N := 2) rfl ?_); refine box_event ?hg (N := 2) ?hd (cs := #[.int .i64 a0_0, .int .i64 a0_1, .int .i64 a0_2, .bool a0_3]) (t := 108) ?hr ?_; (case hd => rfl); (case hg => rfl); (case hr => exact tG); intro gb169 hg w27 hbox hb; have BK169 := Aside0.mk (hbox); have GW169 := gW HB hg; have GE169 := gW HB hg; replace HB := bH HB hb; clear hb hbox hg) | ((with_reducible refine gate_dst (N := 3) rfl ?_); refine box_event ?hg (N := 3) ?hd (cs := #[.int .i64 a1_0, .int .i64 a1_1, .int .i64 a1_2, .bool a1_3]) (t := 108) ?hr ?_; (case hd => rfl); (case hg => rfl); (case hr => exact tG); intro gb170 hg w28 hbox hb; have BK170 := Aside0.mk (hbox); have GW170 := gW HB hg; have GE170 := gW HB hg; replace HB := bH HB hb; have NB169_170 := nL BK169 hg; have NB170_169 := nR BK169 hg; replace BK169 := bB BK169 hb; clear hb hbox hg; have hnb29 := NB169_170.out; have hnc29 := NB170_169.out; obtain ⟨hcz30_0, hcz30_1, hcz30_2, hcz30_3, hfz30_0, hfz30_1, hfz30_2, hfz30_3⟩ := bc4 BK169.out; obtain ⟨hcz31_0, hcz31_1, hcz31_2, hcz31_3, hfz31_0, hfz31_1, hfz31_2, hfz31_3⟩ := bc4 BK170.out))
 go_ret
 exact ⟨tE, tB⟩

end Go.Proofs.Ytanoaneoanpkkaa.ZFnExactReadNotices
