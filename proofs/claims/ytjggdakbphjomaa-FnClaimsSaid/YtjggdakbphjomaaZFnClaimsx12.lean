/- The machine side: for each Go function a Lean function and the contract that the Go code answers as it does; printed by program (wip/tmpl/pprint.sh). -/
import Derived.Test.YtjggdakbphjomaaZFnClaimsx0
import Derived.Test.YtjggdakbphjomaaZFnClaimsx7
import Derived.Test.YtjggdakbphjomaaZFnClaimsx8
import Derived.Test.YtjggdakbphjomaaZFnClaimsx10
namespace Go.Proofs.Ytjggdakbphjomaa.ZFnClaims
open Go.RowKit Go.Proofs.YtjggdakbphjomaaW.PrintWords Go.Proofs.YtjggdakbphjomaaW.PrintLast Go.Proofs.YtjggdakbphjomaaW.PrintMore
attribute [local go_sem] max2_int min2_int max_two min_two max_three min_three max_four min_four   -- for this text's walks alone
set_option linter.unusedVariables false
set_option linter.unusedSimpArgs false

/-! ### spec_ObjectTo: function 27 -/
def spec_ObjectTo.f (k : Nat) (a0_0 : Int) (l0_1 : List (S104)) (a1 : Int) (a2 : Int) : Option (Int × (List (S104)) × Bool) := (spec_l28Copy.f a0_0 l0_1).bind fun bt288 => ((spec_l28Find.f k a0_0 l0_1 a1).bind fun t293 => ((spec_IsValidClaims.f k a0_0 l0_1).bind fun t294 => (if t294 = true then (if t293 < 0 then (some (bt288.1, bt288.2, false)) else (if 0 ≤ t293 then (if t293 < (l0_1.length : Int) then (if ((rd_T104 l0_1 t293).f5) = 1 then ((spec_l1In.f a2 ((rd_T104 l0_1 t293).f3) (wrap64 (((rd_T104 l0_1 t293).f3) + ((rd_T104 l0_1 t293).f4)))).bind fun t299 => (if t299 = true then (if t293 < (bt288.2.length : Int) then (some (bt288.1, (bt288.2.set (t293 : Int).toNat (⟨(rd_T104 bt288.2 t293).f0, (rd_T104 bt288.2 t293).f1, (rd_T104 bt288.2 t293).f2, (rd_T104 bt288.2 t293).f3, (rd_T104 bt288.2 t293).f4, 2⟩ : S104)), true)) else (none)) else (some (bt288.1, bt288.2, false)))) else (some (bt288.1, bt288.2, false))) else (none)) else (none))) else (some (bt288.1, bt288.2, false)))))
theorem spec_ObjectTo.mono : ∀ a0 a1 a2 a3 k, LeO (spec_ObjectTo.f k a0 a1 a2 a3) (spec_ObjectTo.f (k + 1) a0 a1 a2 a3) := by
 intro a0 a1 a2 a3 k
 unfold spec_ObjectTo.f
 repeat' first
   | (with_reducible exact spec_IsValidClaims.mono _ _ _)
   | (with_reducible exact spec_l28Find.mono _ _ _ _)
   | (with_reducible exact LeO.refl _)
   | (with_reducible exact LeO.none _)
   | (with_reducible refine LeO.ite ?_ ?_)
   | (with_reducible refine LeO.bind ?_ (fun _ => ?_))
   | exact spec_IsValidClaims.mono _ _ _
   | exact spec_l28Find.mono _ _ _ _
   | exact LeO.none _
   | refine LeO.ite ?_ ?_
   | refine LeO.bind ?_ (fun _ => ?_)
def spec_ObjectTo.T3 : Bool × List (List Nat × List Nat) := (true, [([], []), ([0], [0]), ([1], [1]), ([2, 1], [2]), ([3], [3]), ([4, 3], [3, 4]), ([3, 5], [3, 5]), ([6, 3], [6]), ([7], [7]), ([8, 7], [7, 8]), ([7], [7]), ([9, 10, 7], [7, 9, 10]), ([11, 7], [7, 11]), ([12, 7], [7, 12]), ([13, 7], [7, 13]), ([7, 14], [7, 14]), ([15, 7], [15]), ([16], [16]), ([16], [16]), ([18, 16], [16, 18]), ([16], [16]), ([19, 20, 16], [16, 19, 20]), ([21, 16], [16, 21]), ([22, 16], [16, 22]), ([16], [16]), ([24, 16], [16, 24]), ([16], [16]), ([25, 26, 16], [16, 25, 26]), ([27, 16], [16, 27]), ([28, 16], [16, 28]), ([16], [16]), ([30, 16], [16, 30]), ([16], [16]), ([31, 32, 16], [16, 31, 32]), ([33, 16], [16, 33]), ([34, 16], [16, 34]), ([29, 35, 16], [16, 29, 35]), ([17, 23, 36, 16, 16], [16, 17, 23, 36]), ([37, 16], [16, 37]), ([16, 38], [16, 38])])
def spec_ObjectTo.B3 : List Nat := [0, 1, 3, 7, 15, 31, 63, 127, 255, 511, 255, 2047, 4095, 8191, 16383, 32767, 65535, 131071, 131071, 393215, 131071, 1966079, 4063231, 8257535, 131071, 16908287, 131071, 117571583, 251789311, 520224767, 131071, 1073872895, 131071, 7516323839, 16106258431, 33286127615, 68702830591, 137438953471, 274877906943, 549755813887]
theorem spec_ObjectTo.tab3 : rtab .any (opsOf Try.f27 3) = spec_ObjectTo.T3 := by kernel_rfl
theorem spec_ObjectTo.bits3 : waitsOk spec_ObjectTo.T3.2 spec_ObjectTo.B3 = true := by kernel_rfl
set_option maxHeartbeats 8000000 in
set_option maxRecDepth 100000 in
theorem spec_ObjectTo.calls (k : Nat) (a0_0 : Int) (A0_1 : Option Addr) (c0_1 : Nat) (l0_1 : List (S104)) (a1 : Int) (a2 : Int) (r1 : Int) (r2 : List (S104)) (r3 : Bool) (w : World) (hr0_1 : Kd.C k104 w A0_1 l0_1.length l0_1) (hc0_1 : l0_1.length ≤ c0_1) (h : spec_ObjectTo.f k a0_0 l0_1 a1 a2 = some (r1, r2, r3)) :
  Calls Try.prog 27 #[.agg #[.int .i64 a0_0, .slice A0_1 l0_1.length c0_1], .int .i64 a1, .int .i64 a2] w fun e w' => ∃ v1_ : Value, e = .returned (.tuple #[.agg #[.int .i64 r1, v1_], .bool r3]) ∧ Kd.R k104 104 w' w.heap.size (fun _ => True) v1_ r2 ∧ Below w.heap.size w w' := by
 have hu35 := Try.underlying35
 have HR0_1 := Aside0.mk hr0_1
 have HC0_1 := Aside0.mk hc0_1
 clear hr0_1 hc0_1
 have HB := Aside0.mk (Below.refl w.heap.size w)
 have H : ((spec_l28Copy.f a0_0 l0_1).bind fun bt288 => ((spec_l28Find.f k a0_0 l0_1 a1).bind fun t293 => ((spec_IsValidClaims.f k a0_0 l0_1).bind fun t294 => (if t294 = true then (if t293 < 0 then (some (bt288.1, bt288.2, false)) else (if 0 ≤ t293 then (if t293 < (l0_1.length : Int) then (if ((rd_T104 l0_1 t293).f5) = 1 then ((spec_l1In.f a2 ((rd_T104 l0_1 t293).f3) (wrap64 (((rd_T104 l0_1 t293).f3) + ((rd_T104 l0_1 t293).f4)))).bind fun t299 => (if t299 = true then (if t293 < (bt288.2.length : Int) then (some (bt288.1, (bt288.2.set (t293 : Int).toNat (⟨(rd_T104 bt288.2 t293).f0, (rd_T104 bt288.2 t293).f1, (rd_T104 bt288.2 t293).f2, (rd_T104 bt288.2 t293).f3, (rd_T104 bt288.2 t293).f4, 2⟩ : S104)), true)) else (none)) else (some (bt288.1, bt288.2, false)))) else (some (bt288.1, bt288.2, false))) else (none)) else (none))) else (some (bt288.1, bt288.2, false)))))) = some (r1, r2, r3) := h
 clear h
 replace H := Option.bind_eq_some_iff.mp H
 obtain ⟨⟨t288, t289⟩, A40, H⟩ := H
 try dsimp only at H
 have A4 := Aside0.mk A40
 clear A40
 replace H := Option.bind_eq_some_iff.mp H
 obtain ⟨t293, A50, H⟩ := H
 try dsimp only at H
 have A5 := Aside0.mk A50
 clear A50
 replace H := Option.bind_eq_some_iff.mp H
 obtain ⟨t294, A60, H⟩ := H
 try dsimp only at H
 have A6 := Aside0.mk A60
 clear A60
 by_cases c7 : t294 = true
 ·subst c7
  have H1 : (if t293 < 0 then (some (t288, t289, false)) else (if 0 ≤ t293 then (if t293 < (l0_1.length : Int) then (if ((rd_T104 l0_1 t293).f5) = 1 then ((spec_l1In.f a2 ((rd_T104 l0_1 t293).f3) (wrap64 (((rd_T104 l0_1 t293).f3) + ((rd_T104 l0_1 t293).f4)))).bind fun t299 => (if t299 = true then (if t293 < (t289.length : Int) then (some (t288, (t289.set (t293 : Int).toNat (⟨(rd_T104 t289 t293).f0, (rd_T104 t289 t293).f1, (rd_T104 t289 t293).f2, (rd_T104 t289 t293).f3, (rd_T104 t289 t293).f4, 2⟩ : S104)), true)) else (none)) else (some (t288, t289, false)))) else (some (t288, t289, false))) else (none)) else (none))) = some (r1, r2, r3) := by rw [if_pos rfl] at H; exact H
  clear H
  have H := H1
  clear H1
  by_cases c8 : t293 < 0
  ·rw [if_pos c8] at H
   have c8b0 : decide (t293 < 0) = true := decide_eq_true c8
   clear c8
   simp only [Option.some.injEq, Prod.mk.injEq] at H
   obtain ⟨rfl, rfl, rfl⟩ := H
   go_enter Try.func27, Try.ntmps27
   try go_wp2_with (first | ((with_reducible refine gate_dst (N := 3) rfl ?_); refine box_event ?hg (N := 3) ?hd (cs := #[.int .i64 a0_0, .slice A0_1 l0_1.length c0_1]) (t := 35) ?hr ?_; (case hd => rfl); (case hg => rfl); (case hr => exact tG); intro gb286 hg w9 hbox hb; have BK286 := Aside0.mk (hbox); have GW286 := gW HB hg; have GE286 := gW HB hg; replace HB := bH HB hb; clear hb hbox hg) | ((with_reducible refine gate_dst (N := 6) rfl ?_); refine box_event ?hg (N := 6) ?hd (cs := #[.int .i64 0, .slice none 0 0]) (t := 35) ?hr ?_; (case hd => rfl); (case hg => rfl); (case hr => exact tG); intro gb287 hg w10 hbox hb; have BK287 := Aside0.mk (hbox); have GW287 := gW HB hg; have GE287 := gW HB hg; replace HB := bH HB hb; have NB286_287 := nL BK286 hg; have NB287_286 := nR BK286 hg; replace BK286 := bB BK286 hb; clear hb hbox hg; have hnb11 := NB286_287.out; have hnc11 := NB287_286.out; obtain ⟨hcz12_0, hcz12_1, hfz12_0, hfz12_1⟩ := bc2 BK286.out) | ((with_reducible refine gate_callee (f := 72) rfl ?_); refine goesL_ (some 11) rfl rfl Try.func72 (by kernel_rfl) rfl #[.agg #[.int .i64 a0_0, .slice A0_1 l0_1.length c0_1]] rfl tL ?_; (with_reducible refine (spec_l28Copy.calls a0_0 _ _ l0_1 t288 t289 _ ?side1 ?side2 A4.out).mono ?_); (case side1 => exact tC (Kd.C_below HR0_1.out HB.out)); (case side2 => exact HC0_1.out); rintro e w13 ⟨v290, rfl, ho0, hb⟩; refine ⟨_, rfl, ?_⟩; have HO291 := Aside0.mk (Kd.R_lower ho0 (below_size tB)); replace BK286 := bB BK286 hb; replace BK287 := bB BK287 hb; replace HB := bH HB hb; (try clear hb); (try clear hb2); (try clear hk); (try clear hi); (try clear ho0)) | ((with_reducible refine gate_dst (N := 8) rfl ?_); refine box_event ?hg (N := 8) ?hd (cs := #[.int .i64 0, .slice none 0 0]) (t := 35) ?hr ?_; (case hd => rfl); (case hg => rfl); (case hr => exact tG); intro gb292 hg w14 hbox hb; replace HO291 := Aside0.mk (Kd.R_below (tR HO291) hb); have BK292 := Aside0.mk (hbox); have GW292 := gW HB hg; have GE292 := gW HB hg; replace HB := bH HB hb; have NB286_292 := nL BK286 hg; have NB292_286 := nR BK286 hg; replace BK286 := bB BK286 hb; have NB287_292 := nL BK287 hg; have NB292_287 := nR BK287 hg; replace BK287 := bB BK287 hb; clear hb hbox hg; have hnb15 := NB292_286.out; have hnc15 := NB286_292.out; have hnb16 := NB292_287.out; have hnc16 := NB287_292.out; obtain ⟨hcz17_0, hcz17_1, hfz17_0, hfz17_1⟩ := bc2 BK292.out; obtain ⟨Ao18, co18, eo18⟩ := Kd.R_slice HO291.out; subst eo18; obtain ⟨hcz19_0, hcz19_1, hfz19_0, hfz19_1⟩ := bc2 BK286.out) | ((with_reducible refine gate_callee (f := 73) rfl ?_); refine goesL_ (some 14) rfl rfl Try.func73 (by kernel_rfl) rfl #[.agg #[.int .i64 a0_0, .slice A0_1 l0_1.length c0_1], .int .i64 a1] rfl tL ?_; (with_reducible refine (spec_l28Find.calls k a0_0 _ _ l0_1 a1 t293 _ ?side1 ?side2 A5.out).mono ?_); (case side1 => exact Kd.C_below HR0_1.out tB); (case side2 => exact HC0_1.out); rintro e w20 ⟨rfl, hb⟩; refine ⟨_, rfl, ?_⟩; replace HO291 := Aside0.mk (Kd.R_below (kR HO291 BK292) hb); replace BK286 := bF NB286_292 BK286 hb; replace BK287 := bF NB287_292 BK287 hb; replace BK292 := Aside0.mk (blk_below (g := gb292) (o := .cells #[.int .i64 t288, .slice Ao18 t289.length co18] 35 (0, 0)) (by (with_reducible repeat (first | refine blk_drewN ?_ _ | refine blk_drew ?_ | refine blk_alloc ?_ _)); refine blk_put (cs := #[.int .i64 t288, .slice none 0 0]) ?_ 1 _ rfl; (with_reducible repeat (first | refine blk_drewN ?_ _ | refine blk_drew ?_ | refine blk_alloc ?_ _)); refine blk_put (cs := #[.int .i64 0, .slice none 0 0]) ?_ 0 _ rfl; (with_reducible repeat (first | refine blk_drewN ?_ _ | refine blk_drew ?_ | refine blk_alloc ?_ _)); exact BK292.out) hb); replace HB := bH HB hb; (try clear hb); (try clear hb2); (try clear hk); (try clear hi)))
   replace HO291 := Aside0.mk (Kd.R_drew HO291.out)
   replace BK286 := Aside0.mk (blk_drew BK286.out)
   replace BK287 := Aside0.mk (blk_drew BK287.out)
   replace BK292 := Aside0.mk (blk_drew BK292.out)
   replace HB := Aside0.mk (below_drew1 HB.out)
   refine start_ (n := 40) (S := fun w' => w'.cell? ⟨gb286, 0, none⟩ = some (.int .i64 a0_0) ∧ w'.cell? ⟨gb286, 1, none⟩ = some (.slice A0_1 l0_1.length c0_1)) (ds := []) (bm 40 0) (by kernel_rfl) rfl (by kernel_rfl) tH (fun hHeld => ?_); refine with_tabW spec_ObjectTo.tab3 spec_ObjectTo.bits3 (fun HT_ HW_ => ?_)
   generalize w20.drew = w21 at HO291 BK286 BK287 BK292 HB hHeld ⊢
   refine pT 0 15 (bm 40 1) hHeld ?_
   refine one_ (i := 1) (N := some 16) (bm 40 3) rfl rfl (one_of HT_.out (by kernel_rfl)) (by decide) (fun K hK => ?_)
   refine goes_ Try.func74 (by kernel_rfl) rfl #[.agg #[.int .i64 a0_0, .slice A0_1 l0_1.length c0_1]] (by rfl) rfl rfl tL ?_
   with_reducible refine (spec_IsValidClaims.calls k a0_0 _ _ l0_1 true _ ?side1 ?side2 A6.out).mono ?_
   (case side1 => exact tC (Kd.C_below HR0_1.out HB.out))
   (case side2 => exact HC0_1.out)
   rintro e w22 ⟨rfl, hb⟩
   refine ⟨_, rfl, ?_⟩
   replace HO291 := Aside0.mk (Kd.R_below (tR HO291) hb)
   replace BK286 := bB BK286 hb
   replace BK287 := bB BK287 hb
   replace BK292 := bB BK292 hb
   replace HB := bH HB hb
   (try clear hb)
   (try clear hb2)
   (try clear hk)
   (try clear hi)
   refine hK.out _ _ tH (fun hHeld => ?_)
   clear hK K
   refine norm_ (tV : Act.put _ (some 16) _ = _) ?_
   refine pI 2 17 (bm 40 7) ?_
   refine pI 3 18 (bm 40 15) ?_
   refine pI 4 19 (bm 40 31) ?_
   refine pI 5 20 (bm 40 63) ?_
   refine pI 6 21 (bm 40 127) ?_
   refine pI 7 22 (bm 40 255) ?_
   refine pO 8 23 (bm 40 511) ?_
   refine pO 9 24 (bm 40 1023) ?_
   refine pO 10 25 (bm 40 2047) ?_
   refine pO 11 26 (bm 40 4095) ?_
   refine pO 12 27 (bm 40 8191) ?_
   refine pO 13 28 (bm 40 16383) ?_
   refine pO 14 29 (bm 40 32767) ?_
   refine pI 15 30 (bm 40 65535) ?_
   refine pI 16 31 (bm 40 131071) ?_
   refine pO 17 32 (bm 40 262143) ?_
   refine pO 18 33 (bm 40 524287) ?_
   refine pO 19 34 (bm 40 1048575) ?_
   refine pO 20 35 (bm 40 2097151) ?_
   refine pO 21 36 (bm 40 4194303) ?_
   refine pO 22 37 (bm 40 8388607) ?_
   refine pO 23 38 (bm 40 16777215) ?_
   refine pO 24 39 (bm 40 33554431) ?_
   refine pO 25 40 (bm 40 67108863) ?_
   refine pO 26 41 (bm 40 134217727) ?_
   refine pO 27 42 (bm 40 268435455) ?_
   refine pO 28 43 (bm 40 536870911) ?_
   refine pO 29 44 (bm 40 1073741823) ?_
   refine pO 30 45 (bm 40 2147483647) ?_
   refine pO 31 46 (bm 40 4294967295) ?_
   refine pO 32 47 (bm 40 8589934591) ?_
   refine pO 33 48 (bm 40 17179869183) ?_
   refine pO 34 49 (bm 40 34359738367) ?_
   refine pO 35 50 (bm 40 68719476735) ?_
   refine pO 36 51 (bm 40 137438953471) ?_
   refine pO 37 52 (bm 40 274877906943) ?_
   refine pO 38 53 (bm 40 549755813887) ?_
   refine pI 39 54 (bm 40 1099511627775) ?_
   refine done_ (done_of HT_.out (by kernel_rfl)) ?_
   obtain ⟨hcz23_0, hcz23_1, hfz23_0, hfz23_1⟩ := bc2 BK292.out
   obtain ⟨hcz24_0, hcz24_1, hfz24_0, hfz24_1⟩ := bc2 BK287.out
   try go_wp2
   refine bodyPost_ret (results_ct rfl _ _ gb287 35 #[.int .i64 t288, .slice Ao18 t289.length co18] (0, 0) _ rfl (by (with_reducible repeat (first | refine blk_drewN ?_ _ | refine blk_drew ?_ | refine blk_alloc ?_ _)); refine blk_put (cs := #[.int .i64 t288, .slice none 0 0]) ?_ 1 _ rfl; (with_reducible repeat (first | refine blk_drewN ?_ _ | refine blk_drew ?_ | refine blk_alloc ?_ _)); refine blk_put (cs := #[.int .i64 0, .slice none 0 0]) ?_ 0 _ rfl; (with_reducible repeat (first | refine blk_drewN ?_ _ | refine blk_drew ?_ | refine blk_alloc ?_ _)); exact BK287.out) Try.underlying35 rfl (by kernel_rfl)) rfl ?_
   exact ⟨_, tE, by (with_reducible repeat (first | apply Kd.R_alloc | apply Kd.R_drewN | apply Kd.R_drew)); exact Kd.R_mono (Kd.R_far (p := ⟨gb287, 1, none⟩) (Kd.R_far (p := ⟨gb287, 0, none⟩) (Kd.R_types HO291.out BK287.out (by decide)) (fun _ hk => hk.2) (.int .i64 t288)) (fun _ hk => hk.2) (.slice Ao18 t289.length co18)) (fun _ hk => trivial), tB⟩
  rw [if_neg c8] at H
  have c8b0 : decide (t293 < 0) = false := decide_eq_false c8
  clear c8
  by_cases c25 : 0 ≤ t293
  ·rw [if_pos c25] at H
   have c25b0 : decide (0 ≤ t293) = true := decide_eq_true c25
   clear c25
   by_cases c26 : t293 < (l0_1.length : Int)
   ·rw [if_pos c26] at H
    have c26b0 : decide (t293 < (l0_1.length : Int)) = true := decide_eq_true c26
    clear c26
    by_cases c27 : ((rd_T104 l0_1 t293).f5) = 1
    ·rw [if_pos c27] at H
     have c27b0 : (((rd_T104 l0_1 t293).f5) == 1) = true := beq_iff_eq.mpr c27
     have c27b1 : (((rd_T104 l0_1 t293).f5) != 1) = false := bne_eq_false_iff_eq.mpr c27
     clear c27
     replace H := Option.bind_eq_some_iff.mp H
     obtain ⟨t299, A280, H⟩ := H
     try dsimp only at H
     have A28 := Aside0.mk A280
     clear A280
     by_cases c29 : t299 = true
     ·subst c29
      have H1 : (if t293 < (t289.length : Int) then (some (t288, (t289.set (t293 : Int).toNat (⟨(rd_T104 t289 t293).f0, (rd_T104 t289 t293).f1, (rd_T104 t289 t293).f2, (rd_T104 t289 t293).f3, (rd_T104 t289 t293).f4, 2⟩ : S104)), true)) else (none)) = some (r1, r2, r3) := by rw [if_pos rfl] at H; exact H
      clear H
      have H := H1
      clear H1
      by_cases c30 : t293 < (t289.length : Int)
      ·rw [if_pos c30] at H
       have c30b0 : decide (t293 < (t289.length : Int)) = true := decide_eq_true c30
       clear c30
       obtain ⟨y300, hy300⟩ : ∃ y_ : List (S104), y_ = (t289.set (t293 : Int).toNat (⟨(rd_T104 t289 t293).f0, (rd_T104 t289 t293).f1, (rd_T104 t289 t293).f2, (rd_T104 t289 t293).f3, (rd_T104 t289 t293).f4, 2⟩ : S104)) := ⟨_, rfl⟩
       replace H : (some (t288, y300, true)) = some (r1, r2, r3) := by first | (rw [hy300]; with_reducible exact H) | (have H2_ := (Option.bind_some _ _).symm.trans H; rw [hy300]; with_reducible exact H2_) | (have H2_ := (Option.bind_some _ _).symm.trans H; with_reducible exact H2_) | with_reducible exact H | (rw [hy300]; exact H) | exact H
       have Ny300 := Aside0.mk hy300
       clear hy300
       simp only [Option.some.injEq, Prod.mk.injEq] at H
       obtain ⟨rfl, rfl, rfl⟩ := H
       go_enter Try.func27, Try.ntmps27
       try go_wp2_with (first | ((with_reducible refine gate_dst (N := 3) rfl ?_); refine box_event ?hg (N := 3) ?hd (cs := #[.int .i64 a0_0, .slice A0_1 l0_1.length c0_1]) (t := 35) ?hr ?_; (case hd => rfl); (case hg => rfl); (case hr => exact tG); intro gb286 hg w32 hbox hb; have BK286 := Aside0.mk (hbox); have GW286 := gW HB hg; have GE286 := gW HB hg; replace HB := bH HB hb; clear hb hbox hg) | ((with_reducible refine gate_dst (N := 6) rfl ?_); refine box_event ?hg (N := 6) ?hd (cs := #[.int .i64 0, .slice none 0 0]) (t := 35) ?hr ?_; (case hd => rfl); (case hg => rfl); (case hr => exact tG); intro gb287 hg w33 hbox hb; have BK287 := Aside0.mk (hbox); have GW287 := gW HB hg; have GE287 := gW HB hg; replace HB := bH HB hb; have NB286_287 := nL BK286 hg; have NB287_286 := nR BK286 hg; replace BK286 := bB BK286 hb; clear hb hbox hg; have hnb34 := NB286_287.out; have hnc34 := NB287_286.out; obtain ⟨hcz35_0, hcz35_1, hfz35_0, hfz35_1⟩ := bc2 BK286.out) | ((with_reducible refine gate_callee (f := 72) rfl ?_); refine goesL_ (some 11) rfl rfl Try.func72 (by kernel_rfl) rfl #[.agg #[.int .i64 a0_0, .slice A0_1 l0_1.length c0_1]] rfl tL ?_; (with_reducible refine (spec_l28Copy.calls a0_0 _ _ l0_1 t288 t289 _ ?side1 ?side2 A4.out).mono ?_); (case side1 => exact tC (Kd.C_below HR0_1.out HB.out)); (case side2 => exact HC0_1.out); rintro e w36 ⟨v290, rfl, ho0, hb⟩; refine ⟨_, rfl, ?_⟩; have HO291 := Aside0.mk (Kd.R_lower ho0 (below_size tB)); replace BK286 := bB BK286 hb; replace BK287 := bB BK287 hb; replace HB := bH HB hb; (try clear hb); (try clear hb2); (try clear hk); (try clear hi); (try clear ho0)) | ((with_reducible refine gate_dst (N := 8) rfl ?_); refine box_event ?hg (N := 8) ?hd (cs := #[.int .i64 0, .slice none 0 0]) (t := 35) ?hr ?_; (case hd => rfl); (case hg => rfl); (case hr => exact tG); intro gb292 hg w37 hbox hb; replace HO291 := Aside0.mk (Kd.R_below (tR HO291) hb); have BK292 := Aside0.mk (hbox); have GW292 := gW HB hg; have GE292 := gW HB hg; replace HB := bH HB hb; have NB286_292 := nL BK286 hg; have NB292_286 := nR BK286 hg; replace BK286 := bB BK286 hb; have NB287_292 := nL BK287 hg; have NB292_287 := nR BK287 hg; replace BK287 := bB BK287 hb; clear hb hbox hg; have hnb38 := NB292_286.out; have hnc38 := NB286_292.out; have hnb39 := NB292_287.out; have hnc39 := NB287_292.out; obtain ⟨hcz40_0, hcz40_1, hfz40_0, hfz40_1⟩ := bc2 BK292.out; obtain ⟨Ao41, co41, eo41⟩ := Kd.R_slice HO291.out; subst eo41; obtain ⟨hcz42_0, hcz42_1, hfz42_0, hfz42_1⟩ := bc2 BK286.out) | ((with_reducible refine gate_callee (f := 73) rfl ?_); refine goesL_ (some 14) rfl rfl Try.func73 (by kernel_rfl) rfl #[.agg #[.int .i64 a0_0, .slice A0_1 l0_1.length c0_1], .int .i64 a1] rfl tL ?_; (with_reducible refine (spec_l28Find.calls k a0_0 _ _ l0_1 a1 t293 _ ?side1 ?side2 A5.out).mono ?_); (case side1 => exact Kd.C_below HR0_1.out tB); (case side2 => exact HC0_1.out); rintro e w43 ⟨rfl, hb⟩; refine ⟨_, rfl, ?_⟩; replace HO291 := Aside0.mk (Kd.R_below (kR HO291 BK292) hb); replace BK286 := bF NB286_292 BK286 hb; replace BK287 := bF NB287_292 BK287 hb; replace BK292 := Aside0.mk (blk_below (g := gb292) (o := .cells #[.int .i64 t288, .slice Ao41 t289.length co41] 35 (0, 0)) (by (with_reducible repeat (first | refine blk_drewN ?_ _ | refine blk_drew ?_ | refine blk_alloc ?_ _)); refine blk_put (cs := #[.int .i64 t288, .slice none 0 0]) ?_ 1 _ rfl; (with_reducible repeat (first | refine blk_drewN ?_ _ | refine blk_drew ?_ | refine blk_alloc ?_ _)); refine blk_put (cs := #[.int .i64 0, .slice none 0 0]) ?_ 0 _ rfl; (with_reducible repeat (first | refine blk_drewN ?_ _ | refine blk_drew ?_ | refine blk_alloc ?_ _)); exact BK292.out) hb); replace HB := bH HB hb; (try clear hb); (try clear hb2); (try clear hk); (try clear hi)))
       replace HO291 := Aside0.mk (Kd.R_drew HO291.out)
       replace BK286 := Aside0.mk (blk_drew BK286.out)
       replace BK287 := Aside0.mk (blk_drew BK287.out)
       replace BK292 := Aside0.mk (blk_drew BK292.out)
       replace HB := Aside0.mk (below_drew1 HB.out)
       have p295 : 0 ≤ (t293 : Int) := of_decide_eq_true tA
       have q295 : t293 < (l0_1.length : Int) := of_decide_eq_true tA
       obtain ⟨ad295, e295, hx295_0, hx295_1, hx295_2, hx295_3, hx295_4, hx295_5⟩ := at_T104 HR0_1.out t293 p295 q295
       have hw295_5 := hx295_5
       have hw295_4 := hx295_4
       have hw295_3 := hx295_3
       have hw295_2 := hx295_2
       have hw295_1 := hx295_1
       have hw295_0 := hx295_0
       cases e295
       replace hx295_0 := hbc HB hx295_0
       replace hx295_1 := hbc HB hx295_1
       replace hx295_2 := hbc HB hx295_2
       replace hx295_3 := hbc HB hx295_3
       replace hx295_4 := hbc HB hx295_4
       replace hx295_5 := hbc HB hx295_5
       replace p295 := eq_true p295
       replace q295 := eq_true q295
       have p296 : 0 ≤ (t293 : Int) := of_decide_eq_true tA
       have q296 : t293 < (l0_1.length : Int) := of_decide_eq_true tA
       obtain ⟨ad296, e296, hx296_0, hx296_1, hx296_2, hx296_3, hx296_4, hx296_5⟩ := at_T104 HR0_1.out t293 p296 q296
       have hw296_5 := hx296_5
       have hw296_4 := hx296_4
       have hw296_3 := hx296_3
       have hw296_2 := hx296_2
       have hw296_1 := hx296_1
       have hw296_0 := hx296_0
       obtain rfl : ad295 = ad296 := (by injection e296)
       replace hx296_0 := hbc HB hx296_0
       replace hx296_1 := hbc HB hx296_1
       replace hx296_2 := hbc HB hx296_2
       replace hx296_3 := hbc HB hx296_3
       replace hx296_4 := hbc HB hx296_4
       replace hx296_5 := hbc HB hx296_5
       replace p296 := eq_true p296
       replace q296 := eq_true q296
       have p297 : 0 ≤ (t293 : Int) := of_decide_eq_true tA
       have q297 : t293 < (l0_1.length : Int) := of_decide_eq_true tA
       obtain ⟨ad297, e297, hx297_0, hx297_1, hx297_2, hx297_3, hx297_4, hx297_5⟩ := at_T104 HR0_1.out t293 p297 q297
       have hw297_5 := hx297_5
       have hw297_4 := hx297_4
       have hw297_3 := hx297_3
       have hw297_2 := hx297_2
       have hw297_1 := hx297_1
       have hw297_0 := hx297_0
       obtain rfl : ad295 = ad297 := (by injection e297)
       replace hx297_0 := hbc HB hx297_0
       replace hx297_1 := hbc HB hx297_1
       replace hx297_2 := hbc HB hx297_2
       replace hx297_3 := hbc HB hx297_3
       replace hx297_4 := hbc HB hx297_4
       replace hx297_5 := hbc HB hx297_5
       replace p297 := eq_true p297
       replace q297 := eq_true q297
       have p298 : 0 ≤ (t293 : Int) := of_decide_eq_true tA
       have q298 : t293 < (l0_1.length : Int) := of_decide_eq_true tA
       obtain ⟨ad298, e298, hx298_0, hx298_1, hx298_2, hx298_3, hx298_4, hx298_5⟩ := at_T104 HR0_1.out t293 p298 q298
       have hw298_5 := hx298_5
       have hw298_4 := hx298_4
       have hw298_3 := hx298_3
       have hw298_2 := hx298_2
       have hw298_1 := hx298_1
       have hw298_0 := hx298_0
       obtain rfl : ad295 = ad298 := (by injection e298)
       replace hx298_0 := hbc HB hx298_0
       replace hx298_1 := hbc HB hx298_1
       replace hx298_2 := hbc HB hx298_2
       replace hx298_3 := hbc HB hx298_3
       replace hx298_4 := hbc HB hx298_4
       replace hx298_5 := hbc HB hx298_5
       replace p298 := eq_true p298
       replace q298 := eq_true q298
       refine start_ (n := 40) (S := fun w' => w'.cell? ⟨gb286, 0, none⟩ = some (.int .i64 a0_0) ∧ w'.cell? ⟨gb286, 1, none⟩ = some (.slice (some ad295) l0_1.length c0_1) ∧ w'.cell? (ad295.add ((t293).toNat * 6)) = some (.int .i64 ((rd_T104 l0_1 t293).f0)) ∧ w'.cell? ⟨(ad295.add ((t293).toNat * 6)).block, (ad295.add ((t293).toNat * 6)).off + 1, none⟩ = some (.int .i64 ((rd_T104 l0_1 t293).f1)) ∧ w'.cell? ⟨(ad295.add ((t293).toNat * 6)).block, (ad295.add ((t293).toNat * 6)).off + 2, none⟩ = some (.int .i64 ((rd_T104 l0_1 t293).f2)) ∧ w'.cell? ⟨(ad295.add ((t293).toNat * 6)).block, (ad295.add ((t293).toNat * 6)).off + 3, none⟩ = some (.int .i64 ((rd_T104 l0_1 t293).f3)) ∧ w'.cell? ⟨(ad295.add ((t293).toNat * 6)).block, (ad295.add ((t293).toNat * 6)).off + 4, none⟩ = some (.int .i64 ((rd_T104 l0_1 t293).f4)) ∧ w'.cell? ⟨(ad295.add ((t293).toNat * 6)).block, (ad295.add ((t293).toNat * 6)).off + 5, none⟩ = some (.int .i64 ((rd_T104 l0_1 t293).f5)) ∧ w'.cell? (ad295.add ((t293).toNat * 6)) = some (.int .i64 ((rd_T104 l0_1 t293).f0)) ∧ w'.cell? ⟨(ad295.add ((t293).toNat * 6)).block, (ad295.add ((t293).toNat * 6)).off + 1, none⟩ = some (.int .i64 ((rd_T104 l0_1 t293).f1)) ∧ w'.cell? ⟨(ad295.add ((t293).toNat * 6)).block, (ad295.add ((t293).toNat * 6)).off + 2, none⟩ = some (.int .i64 ((rd_T104 l0_1 t293).f2)) ∧ w'.cell? ⟨(ad295.add ((t293).toNat * 6)).block, (ad295.add ((t293).toNat * 6)).off + 3, none⟩ = some (.int .i64 ((rd_T104 l0_1 t293).f3)) ∧ w'.cell? ⟨(ad295.add ((t293).toNat * 6)).block, (ad295.add ((t293).toNat * 6)).off + 4, none⟩ = some (.int .i64 ((rd_T104 l0_1 t293).f4)) ∧ w'.cell? ⟨(ad295.add ((t293).toNat * 6)).block, (ad295.add ((t293).toNat * 6)).off + 5, none⟩ = some (.int .i64 ((rd_T104 l0_1 t293).f5)) ∧ w'.cell? (ad295.add ((t293).toNat * 6)) = some (.int .i64 ((rd_T104 l0_1 t293).f0)) ∧ w'.cell? ⟨(ad295.add ((t293).toNat * 6)).block, (ad295.add ((t293).toNat * 6)).off + 1, none⟩ = some (.int .i64 ((rd_T104 l0_1 t293).f1)) ∧ w'.cell? ⟨(ad295.add ((t293).toNat * 6)).block, (ad295.add ((t293).toNat * 6)).off + 2, none⟩ = some (.int .i64 ((rd_T104 l0_1 t293).f2)) ∧ w'.cell? ⟨(ad295.add ((t293).toNat * 6)).block, (ad295.add ((t293).toNat * 6)).off + 3, none⟩ = some (.int .i64 ((rd_T104 l0_1 t293).f3)) ∧ w'.cell? ⟨(ad295.add ((t293).toNat * 6)).block, (ad295.add ((t293).toNat * 6)).off + 4, none⟩ = some (.int .i64 ((rd_T104 l0_1 t293).f4)) ∧ w'.cell? ⟨(ad295.add ((t293).toNat * 6)).block, (ad295.add ((t293).toNat * 6)).off + 5, none⟩ = some (.int .i64 ((rd_T104 l0_1 t293).f5)) ∧ w'.cell? (ad295.add ((t293).toNat * 6)) = some (.int .i64 ((rd_T104 l0_1 t293).f0)) ∧ w'.cell? ⟨(ad295.add ((t293).toNat * 6)).block, (ad295.add ((t293).toNat * 6)).off + 1, none⟩ = some (.int .i64 ((rd_T104 l0_1 t293).f1)) ∧ w'.cell? ⟨(ad295.add ((t293).toNat * 6)).block, (ad295.add ((t293).toNat * 6)).off + 2, none⟩ = some (.int .i64 ((rd_T104 l0_1 t293).f2)) ∧ w'.cell? ⟨(ad295.add ((t293).toNat * 6)).block, (ad295.add ((t293).toNat * 6)).off + 3, none⟩ = some (.int .i64 ((rd_T104 l0_1 t293).f3)) ∧ w'.cell? ⟨(ad295.add ((t293).toNat * 6)).block, (ad295.add ((t293).toNat * 6)).off + 4, none⟩ = some (.int .i64 ((rd_T104 l0_1 t293).f4)) ∧ w'.cell? ⟨(ad295.add ((t293).toNat * 6)).block, (ad295.add ((t293).toNat * 6)).off + 5, none⟩ = some (.int .i64 ((rd_T104 l0_1 t293).f5))) (ds := []) (bm 40 0) (by kernel_rfl) rfl (by kernel_rfl) ⟨(blk_cell BK286.out 0).trans rfl, (blk_cell BK286.out 1).trans rfl, (hbc HB hw295_0 :), (hbc HB hw295_1 :), (hbc HB hw295_2 :), (hbc HB hw295_3 :), (hbc HB hw295_4 :), (hbc HB hw295_5 :), (hbc HB hw296_0 :), (hbc HB hw296_1 :), (hbc HB hw296_2 :), (hbc HB hw296_3 :), (hbc HB hw296_4 :), (hbc HB hw296_5 :), (hbc HB hw297_0 :), (hbc HB hw297_1 :), (hbc HB hw297_2 :), (hbc HB hw297_3 :), (hbc HB hw297_4 :), (hbc HB hw297_5 :), (hbc HB hw298_0 :), (hbc HB hw298_1 :), (hbc HB hw298_2 :), (hbc HB hw298_3 :), (hbc HB hw298_4 :), (hbc HB hw298_5 :)⟩ (fun hHeld => ?_); refine with_tabW spec_ObjectTo.tab3 spec_ObjectTo.bits3 (fun HT_ HW_ => ?_)
       generalize w43.drew = w44 at HO291 BK286 BK287 BK292 HB hx295_0 hx295_1 hx295_2 hx295_3 hx295_4 hx295_5 hx296_0 hx296_1 hx296_2 hx296_3 hx296_4 hx296_5 hx297_0 hx297_1 hx297_2 hx297_3 hx297_4 hx297_5 hx298_0 hx298_1 hx298_2 hx298_3 hx298_4 hx298_5 hHeld ⊢
       refine pT 0 15 (bm 40 1) hHeld ?_
       refine one_ (i := 1) (N := some 16) (bm 40 3) rfl rfl (one_of HT_.out (by kernel_rfl)) (by decide) (fun K hK => ?_)
       refine goes_ Try.func74 (by kernel_rfl) rfl #[.agg #[.int .i64 a0_0, .slice (some ad295) l0_1.length c0_1]] (by rfl) rfl rfl tL ?_
       with_reducible refine (spec_IsValidClaims.calls k a0_0 _ _ l0_1 true _ ?side1 ?side2 A6.out).mono ?_
       (case side1 => exact tC (Kd.C_below HR0_1.out HB.out))
       (case side2 => exact HC0_1.out)
       rintro e w45 ⟨rfl, hb⟩
       refine ⟨_, rfl, ?_⟩
       replace HO291 := Aside0.mk (Kd.R_below (tR HO291) hb)
       replace BK286 := bB BK286 hb
       replace BK287 := bB BK287 hb
       replace BK292 := bB BK292 hb
       replace HB := bH HB hb
       (try clear hb)
       (try clear hb2)
       (try clear hk)
       (try clear hi)
       refine hK.out _ _ ⟨(blk_cell BK286.out 0).trans rfl, (blk_cell BK286.out 1).trans rfl, (hbc HB hw295_0 :), (hbc HB hw295_1 :), (hbc HB hw295_2 :), (hbc HB hw295_3 :), (hbc HB hw295_4 :), (hbc HB hw295_5 :), (hbc HB hw296_0 :), (hbc HB hw296_1 :), (hbc HB hw296_2 :), (hbc HB hw296_3 :), (hbc HB hw296_4 :), (hbc HB hw296_5 :), (hbc HB hw297_0 :), (hbc HB hw297_1 :), (hbc HB hw297_2 :), (hbc HB hw297_3 :), (hbc HB hw297_4 :), (hbc HB hw297_5 :), (hbc HB hw298_0 :), (hbc HB hw298_1 :), (hbc HB hw298_2 :), (hbc HB hw298_3 :), (hbc HB hw298_4 :), (hbc HB hw298_5 :)⟩ (fun hHeld => ?_)
       clear hK K
       refine norm_ (tV : Act.put _ (some 16) _ = _) ?_
       refine pI 2 17 (bm 40 7) ?_
       refine pI 3 18 (bm 40 15) ?_
       refine pI 4 19 (bm 40 31) ?_
       refine pI 5 20 (bm 40 63) ?_
       refine pI 6 21 (bm 40 127) ?_
       refine pI 7 22 (bm 40 255) ?_
       refine pI 8 23 (bm 40 511) ?_
       refine pI 10 25 (bm 40 1535) ?_
       refine pT 9 24 (bm 40 2047) hHeld ?_
       refine pI 11 26 (bm 40 4095) ?_
       refine pI 12 27 (bm 40 8191) ?_
       refine pT 13 28 (bm 40 16383) hHeld ?_
       refine pI 14 29 (bm 40 32767) ?_
       refine pI 15 30 (bm 40 65535) ?_
       refine pI 16 31 (bm 40 131071) ?_
       refine pI 17 32 (bm 40 262143) ?_
       refine pI 18 33 (bm 40 524287) ?_
       refine pI 20 35 (bm 40 1572863) ?_
       refine pI 24 39 (bm 40 18350079) ?_
       refine pI 26 41 (bm 40 85458943) ?_
       refine pI 30 45 (bm 40 1159200767) ?_
       refine pI 32 47 (bm 40 5454168063) ?_
       refine pT 19 34 (bm 40 5454692351) hHeld ?_
       refine pI 21 36 (bm 40 5456789503) ?_
       refine pI 22 37 (bm 40 5460983807) ?_
       refine pT 23 38 (bm 40 5469372415) hHeld ?_
       refine pT 25 40 (bm 40 5502926847) hHeld ?_
       refine pI 27 42 (bm 40 5637144575) ?_
       refine pI 28 43 (bm 40 5905580031) ?_
       refine pT 29 44 (bm 40 6442450943) hHeld ?_
       refine pT 31 46 (bm 40 8589934591) hHeld ?_
       refine pI 33 48 (bm 40 17179869183) ?_
       refine pI 34 49 (bm 40 34359738367) ?_
       refine pT 35 50 (bm 40 68719476735) hHeld ?_
       refine pI 36 51 (bm 40 137438953471) ?_
       refine one_ (i := 37) (N := some 52) (bm 40 274877906943) rfl rfl (one_of HT_.out (by kernel_rfl)) (by decide) (fun K hK => ?_)
       refine goes_ Try.func81 (by kernel_rfl) rfl #[.int .i64 a2, .int .i64 ((rd_T104 l0_1 t293).f3), .int .i64 (wrap64 (((rd_T104 l0_1 t293).f3) + ((rd_T104 l0_1 t293).f4)))] (by rfl) rfl rfl tL ?_
       with_reducible refine (spec_l1In.calls a2 ((rd_T104 l0_1 t293).f3) (wrap64 (((rd_T104 l0_1 t293).f3) + ((rd_T104 l0_1 t293).f4))) true _ A28.out).mono ?_
       rintro e w' ⟨rfl, ⟨nd, rfl⟩⟩
       refine ⟨_, rfl, ?_⟩
       refine hK.out _ _ ⟨(blk_cell BK286.out 0).trans rfl, (blk_cell BK286.out 1).trans rfl, (hbc HB hw295_0 :), (hbc HB hw295_1 :), (hbc HB hw295_2 :), (hbc HB hw295_3 :), (hbc HB hw295_4 :), (hbc HB hw295_5 :), (hbc HB hw296_0 :), (hbc HB hw296_1 :), (hbc HB hw296_2 :), (hbc HB hw296_3 :), (hbc HB hw296_4 :), (hbc HB hw296_5 :), (hbc HB hw297_0 :), (hbc HB hw297_1 :), (hbc HB hw297_2 :), (hbc HB hw297_3 :), (hbc HB hw297_4 :), (hbc HB hw297_5 :), (hbc HB hw298_0 :), (hbc HB hw298_1 :), (hbc HB hw298_2 :), (hbc HB hw298_3 :), (hbc HB hw298_4 :), (hbc HB hw298_5 :)⟩ (fun hHeld => ?_)
       clear hK K
       refine norm_ (tV : Act.put _ (some 52) _ = _) ?_
       refine pI 38 53 (bm 40 549755813887) ?_
       refine pI 39 54 (bm 40 1099511627775) ?_
       refine done_ (done_of HT_.out (by kernel_rfl)) ?_
       replace BK286 := Aside0.mk (blk_drewN BK286.out nd)
       replace BK287 := Aside0.mk (blk_drewN BK287.out nd)
       replace HO291 := Aside0.mk (Kd.R_drewN HO291.out nd)
       replace BK292 := Aside0.mk (blk_drewN BK292.out nd)
       replace HB := Aside0.mk (pw_below_drewN HB.out nd)
       generalize World.drewN w45 nd = w45 at BK286 BK287 HO291 BK292 HB ⊢
       obtain ⟨hcz46_0, hcz46_1, hfz46_0, hfz46_1⟩ := bc2 BK292.out
       have p31 : 0 ≤ (t293 : Int) := of_decide_eq_true tA
       have q31 : (t293 : Int) < ((t289.length : Int) : Int) := of_decide_eq_true tA
       obtain ⟨go31, co31, eo31, gb31, gl31, cl31, HG31⟩ := Kd.R_form HO291.out (by omega)
       (first | cases eo31 | (injection eo31 with ea_ en_ ec_; (first | subst ea_ | (injection ea_ with ea_; subst ea_)); subst ec_; clear en_))
       have GB31 := Aside0.mk gb31
       have GG31 := Aside0.mk HG31
       clear gb31 gl31 HG31
       obtain ⟨ce31, hcl31, hM31, hcc31, hfr31⟩ := Kd.R_elem HO291.out z104 (t293 : Int) p31 q31
       obtain rfl := k104_openM hM31
       have hx31_0 : w45.cell? ⟨go31, (t293 : Int).toNat * 6, none⟩ = some (.int .i64 ((rd_T104 t289 t293).f0)) := hcc31 0 _ rfl
       have hx31_1 : w45.cell? ⟨go31, (t293 : Int).toNat * 6 + 1, none⟩ = some (.int .i64 ((rd_T104 t289 t293).f1)) := hcc31 1 _ rfl
       have hx31_2 : w45.cell? ⟨go31, (t293 : Int).toNat * 6 + 2, none⟩ = some (.int .i64 ((rd_T104 t289 t293).f2)) := hcc31 2 _ rfl
       have hx31_3 : w45.cell? ⟨go31, (t293 : Int).toNat * 6 + 3, none⟩ = some (.int .i64 ((rd_T104 t289 t293).f3)) := hcc31 3 _ rfl
       have hx31_4 : w45.cell? ⟨go31, (t293 : Int).toNat * 6 + 4, none⟩ = some (.int .i64 ((rd_T104 t289 t293).f4)) := hcc31 4 _ rfl
       have hx31_5 : w45.cell? ⟨go31, (t293 : Int).toNat * 6 + 5, none⟩ = some (.int .i64 ((rd_T104 t289 t293).f5)) := hcc31 5 _ rfl
       have hf31_0 : w45.frozen? ⟨go31, (t293 : Int).toNat * 6, none⟩ = false := hfr31 0
       have hf31_1 : w45.frozen? ⟨go31, (t293 : Int).toNat * 6 + 1, none⟩ = false := hfr31 1
       have hf31_2 : w45.frozen? ⟨go31, (t293 : Int).toNat * 6 + 2, none⟩ = false := hfr31 2
       have hf31_3 : w45.frozen? ⟨go31, (t293 : Int).toNat * 6 + 3, none⟩ = false := hfr31 3
       have hf31_4 : w45.frozen? ⟨go31, (t293 : Int).toNat * 6 + 4, none⟩ = false := hfr31 4
       have hf31_5 : w45.frozen? ⟨go31, (t293 : Int).toNat * 6 + 5, none⟩ = false := hfr31 5
       clear hcl31 hcc31 hfr31 hM31
       replace p31 := eq_true p31
       replace q31 := eq_true q31
       have HX47 := Aside0.mk (show Kd.R k104 104 w45 w.heap.size (fun _ => True) (.slice (some ⟨go31, 0, none⟩) t289.length co41) t289 from (tR HO291))
       obtain ⟨ce47, hcl47, hM47, hcc47, hfr47⟩ := Kd.R_elem HX47.out z104 (t293 : Int) (of_decide_eq_true tA) (by have h_ : (t293 : Int) < ((t289.length : Int) : Int) := of_decide_eq_true tA; first | exact h_ | (have e_ := (Kd.R_reads' HO291.out).1; omega) | simpa using h_)
       obtain rfl := k104_openM hM47
       have HP47 := Kd.R_seg HX47.out (t293 : Int) (of_decide_eq_true tA) (by have h_ : (t293 : Int) < ((t289.length : Int) : Int) := of_decide_eq_true tA; first | exact h_ | (have e_ := (Kd.R_reads' HO291.out).1; omega) | simpa using h_) (seg := [.int .i64 2]) (j := 5) hcl47 hcc47 (show 6 ≤ 6 from by decide) (x' := (⟨(rd_T104 t289 t293).f0, (rd_T104 t289 t293).f1, (rd_T104 t289 t293).f2, (rd_T104 t289 t293).f3, (rd_T104 t289 t293).f4, 2⟩ : S104)) (k104_mkM _ _ _ (⟨(rd_T104 t289 t293).f0, (rd_T104 t289 t293).f1, (rd_T104 t289 t293).f2, (rd_T104 t289 t293).f3, (rd_T104 t289 t293).f4, 2⟩ : S104) ) (fun _ hk => hk)
       have hx47_5 := hcc47 5 _ rfl
       (try simp only [show (k104).sz = 6 from rfl, Nat.mul_one, Nat.add_zero] at hx47_5)
       have hf47_5 := hfr47 5
       (try simp only [show (k104).sz = 6 from rfl, Nat.mul_one, Nat.add_zero] at hf47_5)
       clear hcl47 hcc47 hfr47 hM47
       try go_wp2_with (first | ((with_reducible refine gate_store (t := 3) (p := 60) rfl ?_); refine store_event (t := 3) (p := 60) (v := ?vo_w48) (w1 := (w45.setCell ⟨go31, (t293 : Int).toNat * 6 + 5, none⟩ (.int .i64 2))) ?hg ?ho ?hn ?hr ?_; (case ho => rfl); (case hg => rfl); (case hn => rfl); (case hr => first | (go_simp; done) | (go_simp; rfl)); intro w48 hw; have hg : w45.grownBy w48 (some go31) := (by rw [hw]; exact HP47.2); have hp_ : Kd.R k104 104 w48 w.heap.size (fun _ => True) (.slice (some ⟨go31, 0, none⟩) t289.length co41) y300 := (by rw [hw, Ny300.out]; exact HP47.1); clear HP47; replace BK286 := Aside0.mk (blk_grown (g := gb286) (o := .cells #[.int .i64 a0_0, .slice (some ad295) l0_1.length c0_1] 35 (0, 0)) (tK BK286) hg (Kd.R_ne HO291.out BK286.out (by decide))); replace BK287 := Aside0.mk (blk_grown (g := gb287) (o := .cells #[.int .i64 0, .slice none 0 0] 35 (0, 0)) (tK BK287) hg (Kd.R_ne HO291.out BK287.out (by decide))); replace BK292 := Aside0.mk (blk_grown (g := gb292) (o := .cells #[.int .i64 t288, .slice (some ⟨go31, 0, none⟩) t289.length co41] 35 (0, 0)) (tK BK292) hg (Kd.R_ne HO291.out BK292.out (by decide))); replace HO291 := Aside0.mk (hp_); replace HB := Aside0.mk ((by rw [hw]; exact below_set (HB.out) GB31.out : Below w.heap.size w w48)); clear hg hw hp_; obtain ⟨hcz49_0, hcz49_1, hfz49_0, hfz49_1⟩ := bc2 BK292.out; obtain ⟨hcz50_0, hcz50_1, hfz50_0, hfz50_1⟩ := bc2 BK287.out))
       refine bodyPost_ret (results_ct rfl _ _ gb287 35 #[.int .i64 t288, .slice (some ⟨go31, 0, none⟩) t289.length co41] (0, 0) _ rfl (by (with_reducible repeat (first | refine blk_drewN ?_ _ | refine blk_drew ?_ | refine blk_alloc ?_ _)); refine blk_put (cs := #[.int .i64 t288, .slice none 0 0]) ?_ 1 _ rfl; (with_reducible repeat (first | refine blk_drewN ?_ _ | refine blk_drew ?_ | refine blk_alloc ?_ _)); refine blk_put (cs := #[.int .i64 0, .slice none 0 0]) ?_ 0 _ rfl; (with_reducible repeat (first | refine blk_drewN ?_ _ | refine blk_drew ?_ | refine blk_alloc ?_ _)); exact BK287.out) Try.underlying35 rfl (by kernel_rfl)) rfl ?_
       exact ⟨_, tE, by (with_reducible repeat (first | apply Kd.R_alloc | apply Kd.R_drewN | apply Kd.R_drew)); exact Kd.R_mono (Kd.R_far (p := ⟨gb287, 1, none⟩) (Kd.R_far (p := ⟨gb287, 0, none⟩) (Kd.R_types HO291.out BK287.out (by decide)) (fun _ hk => hk.2) (.int .i64 t288)) (fun _ hk => hk.2) (.slice (some ⟨go31, 0, none⟩) t289.length co41)) (fun _ hk => trivial), tB⟩
      rw [if_neg c30] at H
      exact absurd H (by simp)
     replace c29 := Bool.eq_false_iff.mpr c29
     subst c29
     have H1 : (some (t288, t289, false)) = some (r1, r2, r3) := by rw [if_neg (show ¬ (false = true) by decide)] at H; exact H
     clear H
     have H := H1
     clear H1
     simp only [Option.some.injEq, Prod.mk.injEq] at H
     obtain ⟨rfl, rfl, rfl⟩ := H
     go_enter Try.func27, Try.ntmps27
     try go_wp2_with (first | ((with_reducible refine gate_dst (N := 3) rfl ?_); refine box_event ?hg (N := 3) ?hd (cs := #[.int .i64 a0_0, .slice A0_1 l0_1.length c0_1]) (t := 35) ?hr ?_; (case hd => rfl); (case hg => rfl); (case hr => exact tG); intro gb286 hg w51 hbox hb; have BK286 := Aside0.mk (hbox); have GW286 := gW HB hg; have GE286 := gW HB hg; replace HB := bH HB hb; clear hb hbox hg) | ((with_reducible refine gate_dst (N := 6) rfl ?_); refine box_event ?hg (N := 6) ?hd (cs := #[.int .i64 0, .slice none 0 0]) (t := 35) ?hr ?_; (case hd => rfl); (case hg => rfl); (case hr => exact tG); intro gb287 hg w52 hbox hb; have BK287 := Aside0.mk (hbox); have GW287 := gW HB hg; have GE287 := gW HB hg; replace HB := bH HB hb; have NB286_287 := nL BK286 hg; have NB287_286 := nR BK286 hg; replace BK286 := bB BK286 hb; clear hb hbox hg; have hnb53 := NB286_287.out; have hnc53 := NB287_286.out; obtain ⟨hcz54_0, hcz54_1, hfz54_0, hfz54_1⟩ := bc2 BK286.out) | ((with_reducible refine gate_callee (f := 72) rfl ?_); refine goesL_ (some 11) rfl rfl Try.func72 (by kernel_rfl) rfl #[.agg #[.int .i64 a0_0, .slice A0_1 l0_1.length c0_1]] rfl tL ?_; (with_reducible refine (spec_l28Copy.calls a0_0 _ _ l0_1 t288 t289 _ ?side1 ?side2 A4.out).mono ?_); (case side1 => exact tC (Kd.C_below HR0_1.out HB.out)); (case side2 => exact HC0_1.out); rintro e w55 ⟨v290, rfl, ho0, hb⟩; refine ⟨_, rfl, ?_⟩; have HO291 := Aside0.mk (Kd.R_lower ho0 (below_size tB)); replace BK286 := bB BK286 hb; replace BK287 := bB BK287 hb; replace HB := bH HB hb; (try clear hb); (try clear hb2); (try clear hk); (try clear hi); (try clear ho0)) | ((with_reducible refine gate_dst (N := 8) rfl ?_); refine box_event ?hg (N := 8) ?hd (cs := #[.int .i64 0, .slice none 0 0]) (t := 35) ?hr ?_; (case hd => rfl); (case hg => rfl); (case hr => exact tG); intro gb292 hg w56 hbox hb; replace HO291 := Aside0.mk (Kd.R_below (tR HO291) hb); have BK292 := Aside0.mk (hbox); have GW292 := gW HB hg; have GE292 := gW HB hg; replace HB := bH HB hb; have NB286_292 := nL BK286 hg; have NB292_286 := nR BK286 hg; replace BK286 := bB BK286 hb; have NB287_292 := nL BK287 hg; have NB292_287 := nR BK287 hg; replace BK287 := bB BK287 hb; clear hb hbox hg; have hnb57 := NB292_286.out; have hnc57 := NB286_292.out; have hnb58 := NB292_287.out; have hnc58 := NB287_292.out; obtain ⟨hcz59_0, hcz59_1, hfz59_0, hfz59_1⟩ := bc2 BK292.out; obtain ⟨Ao60, co60, eo60⟩ := Kd.R_slice HO291.out; subst eo60; obtain ⟨hcz61_0, hcz61_1, hfz61_0, hfz61_1⟩ := bc2 BK286.out) | ((with_reducible refine gate_callee (f := 73) rfl ?_); refine goesL_ (some 14) rfl rfl Try.func73 (by kernel_rfl) rfl #[.agg #[.int .i64 a0_0, .slice A0_1 l0_1.length c0_1], .int .i64 a1] rfl tL ?_; (with_reducible refine (spec_l28Find.calls k a0_0 _ _ l0_1 a1 t293 _ ?side1 ?side2 A5.out).mono ?_); (case side1 => exact Kd.C_below HR0_1.out tB); (case side2 => exact HC0_1.out); rintro e w62 ⟨rfl, hb⟩; refine ⟨_, rfl, ?_⟩; replace HO291 := Aside0.mk (Kd.R_below (kR HO291 BK292) hb); replace BK286 := bF NB286_292 BK286 hb; replace BK287 := bF NB287_292 BK287 hb; replace BK292 := Aside0.mk (blk_below (g := gb292) (o := .cells #[.int .i64 t288, .slice Ao60 t289.length co60] 35 (0, 0)) (by (with_reducible repeat (first | refine blk_drewN ?_ _ | refine blk_drew ?_ | refine blk_alloc ?_ _)); refine blk_put (cs := #[.int .i64 t288, .slice none 0 0]) ?_ 1 _ rfl; (with_reducible repeat (first | refine blk_drewN ?_ _ | refine blk_drew ?_ | refine blk_alloc ?_ _)); refine blk_put (cs := #[.int .i64 0, .slice none 0 0]) ?_ 0 _ rfl; (with_reducible repeat (first | refine blk_drewN ?_ _ | refine blk_drew ?_ | refine blk_alloc ?_ _)); exact BK292.out) hb); replace HB := bH HB hb; (try clear hb); (try clear hb2); (try clear hk); (try clear hi)))
     replace HO291 := Aside0.mk (Kd.R_drew HO291.out)
     replace BK286 := Aside0.mk (blk_drew BK286.out)
     replace BK287 := Aside0.mk (blk_drew BK287.out)
     replace BK292 := Aside0.mk (blk_drew BK292.out)
     replace HB := Aside0.mk (below_drew1 HB.out)
     have p295 : 0 ≤ (t293 : Int) := of_decide_eq_true tA
     have q295 : t293 < (l0_1.length : Int) := of_decide_eq_true tA
     obtain ⟨ad295, e295, hx295_0, hx295_1, hx295_2, hx295_3, hx295_4, hx295_5⟩ := at_T104 HR0_1.out t293 p295 q295
     have hw295_5 := hx295_5
     have hw295_4 := hx295_4
     have hw295_3 := hx295_3
     have hw295_2 := hx295_2
     have hw295_1 := hx295_1
     have hw295_0 := hx295_0
     cases e295
     replace hx295_0 := hbc HB hx295_0
     replace hx295_1 := hbc HB hx295_1
     replace hx295_2 := hbc HB hx295_2
     replace hx295_3 := hbc HB hx295_3
     replace hx295_4 := hbc HB hx295_4
     replace hx295_5 := hbc HB hx295_5
     replace p295 := eq_true p295
     replace q295 := eq_true q295
     have p296 : 0 ≤ (t293 : Int) := of_decide_eq_true tA
     have q296 : t293 < (l0_1.length : Int) := of_decide_eq_true tA
     obtain ⟨ad296, e296, hx296_0, hx296_1, hx296_2, hx296_3, hx296_4, hx296_5⟩ := at_T104 HR0_1.out t293 p296 q296
     have hw296_5 := hx296_5
     have hw296_4 := hx296_4
     have hw296_3 := hx296_3
     have hw296_2 := hx296_2
     have hw296_1 := hx296_1
     have hw296_0 := hx296_0
     obtain rfl : ad295 = ad296 := (by injection e296)
     replace hx296_0 := hbc HB hx296_0
     replace hx296_1 := hbc HB hx296_1
     replace hx296_2 := hbc HB hx296_2
     replace hx296_3 := hbc HB hx296_3
     replace hx296_4 := hbc HB hx296_4
     replace hx296_5 := hbc HB hx296_5
     replace p296 := eq_true p296
     replace q296 := eq_true q296
     have p297 : 0 ≤ (t293 : Int) := of_decide_eq_true tA
     have q297 : t293 < (l0_1.length : Int) := of_decide_eq_true tA
     obtain ⟨ad297, e297, hx297_0, hx297_1, hx297_2, hx297_3, hx297_4, hx297_5⟩ := at_T104 HR0_1.out t293 p297 q297
     have hw297_5 := hx297_5
     have hw297_4 := hx297_4
     have hw297_3 := hx297_3
     have hw297_2 := hx297_2
     have hw297_1 := hx297_1
     have hw297_0 := hx297_0
     obtain rfl : ad295 = ad297 := (by injection e297)
     replace hx297_0 := hbc HB hx297_0
     replace hx297_1 := hbc HB hx297_1
     replace hx297_2 := hbc HB hx297_2
     replace hx297_3 := hbc HB hx297_3
     replace hx297_4 := hbc HB hx297_4
     replace hx297_5 := hbc HB hx297_5
     replace p297 := eq_true p297
     replace q297 := eq_true q297
     have p298 : 0 ≤ (t293 : Int) := of_decide_eq_true tA
     have q298 : t293 < (l0_1.length : Int) := of_decide_eq_true tA
     obtain ⟨ad298, e298, hx298_0, hx298_1, hx298_2, hx298_3, hx298_4, hx298_5⟩ := at_T104 HR0_1.out t293 p298 q298
     have hw298_5 := hx298_5
     have hw298_4 := hx298_4
     have hw298_3 := hx298_3
     have hw298_2 := hx298_2
     have hw298_1 := hx298_1
     have hw298_0 := hx298_0
     obtain rfl : ad295 = ad298 := (by injection e298)
     replace hx298_0 := hbc HB hx298_0
     replace hx298_1 := hbc HB hx298_1
     replace hx298_2 := hbc HB hx298_2
     replace hx298_3 := hbc HB hx298_3
     replace hx298_4 := hbc HB hx298_4
     replace hx298_5 := hbc HB hx298_5
     replace p298 := eq_true p298
     replace q298 := eq_true q298
     refine start_ (n := 40) (S := fun w' => w'.cell? ⟨gb286, 0, none⟩ = some (.int .i64 a0_0) ∧ w'.cell? ⟨gb286, 1, none⟩ = some (.slice (some ad295) l0_1.length c0_1) ∧ w'.cell? (ad295.add ((t293).toNat * 6)) = some (.int .i64 ((rd_T104 l0_1 t293).f0)) ∧ w'.cell? ⟨(ad295.add ((t293).toNat * 6)).block, (ad295.add ((t293).toNat * 6)).off + 1, none⟩ = some (.int .i64 ((rd_T104 l0_1 t293).f1)) ∧ w'.cell? ⟨(ad295.add ((t293).toNat * 6)).block, (ad295.add ((t293).toNat * 6)).off + 2, none⟩ = some (.int .i64 ((rd_T104 l0_1 t293).f2)) ∧ w'.cell? ⟨(ad295.add ((t293).toNat * 6)).block, (ad295.add ((t293).toNat * 6)).off + 3, none⟩ = some (.int .i64 ((rd_T104 l0_1 t293).f3)) ∧ w'.cell? ⟨(ad295.add ((t293).toNat * 6)).block, (ad295.add ((t293).toNat * 6)).off + 4, none⟩ = some (.int .i64 ((rd_T104 l0_1 t293).f4)) ∧ w'.cell? ⟨(ad295.add ((t293).toNat * 6)).block, (ad295.add ((t293).toNat * 6)).off + 5, none⟩ = some (.int .i64 ((rd_T104 l0_1 t293).f5)) ∧ w'.cell? (ad295.add ((t293).toNat * 6)) = some (.int .i64 ((rd_T104 l0_1 t293).f0)) ∧ w'.cell? ⟨(ad295.add ((t293).toNat * 6)).block, (ad295.add ((t293).toNat * 6)).off + 1, none⟩ = some (.int .i64 ((rd_T104 l0_1 t293).f1)) ∧ w'.cell? ⟨(ad295.add ((t293).toNat * 6)).block, (ad295.add ((t293).toNat * 6)).off + 2, none⟩ = some (.int .i64 ((rd_T104 l0_1 t293).f2)) ∧ w'.cell? ⟨(ad295.add ((t293).toNat * 6)).block, (ad295.add ((t293).toNat * 6)).off + 3, none⟩ = some (.int .i64 ((rd_T104 l0_1 t293).f3)) ∧ w'.cell? ⟨(ad295.add ((t293).toNat * 6)).block, (ad295.add ((t293).toNat * 6)).off + 4, none⟩ = some (.int .i64 ((rd_T104 l0_1 t293).f4)) ∧ w'.cell? ⟨(ad295.add ((t293).toNat * 6)).block, (ad295.add ((t293).toNat * 6)).off + 5, none⟩ = some (.int .i64 ((rd_T104 l0_1 t293).f5)) ∧ w'.cell? (ad295.add ((t293).toNat * 6)) = some (.int .i64 ((rd_T104 l0_1 t293).f0)) ∧ w'.cell? ⟨(ad295.add ((t293).toNat * 6)).block, (ad295.add ((t293).toNat * 6)).off + 1, none⟩ = some (.int .i64 ((rd_T104 l0_1 t293).f1)) ∧ w'.cell? ⟨(ad295.add ((t293).toNat * 6)).block, (ad295.add ((t293).toNat * 6)).off + 2, none⟩ = some (.int .i64 ((rd_T104 l0_1 t293).f2)) ∧ w'.cell? ⟨(ad295.add ((t293).toNat * 6)).block, (ad295.add ((t293).toNat * 6)).off + 3, none⟩ = some (.int .i64 ((rd_T104 l0_1 t293).f3)) ∧ w'.cell? ⟨(ad295.add ((t293).toNat * 6)).block, (ad295.add ((t293).toNat * 6)).off + 4, none⟩ = some (.int .i64 ((rd_T104 l0_1 t293).f4)) ∧ w'.cell? ⟨(ad295.add ((t293).toNat * 6)).block, (ad295.add ((t293).toNat * 6)).off + 5, none⟩ = some (.int .i64 ((rd_T104 l0_1 t293).f5)) ∧ w'.cell? (ad295.add ((t293).toNat * 6)) = some (.int .i64 ((rd_T104 l0_1 t293).f0)) ∧ w'.cell? ⟨(ad295.add ((t293).toNat * 6)).block, (ad295.add ((t293).toNat * 6)).off + 1, none⟩ = some (.int .i64 ((rd_T104 l0_1 t293).f1)) ∧ w'.cell? ⟨(ad295.add ((t293).toNat * 6)).block, (ad295.add ((t293).toNat * 6)).off + 2, none⟩ = some (.int .i64 ((rd_T104 l0_1 t293).f2)) ∧ w'.cell? ⟨(ad295.add ((t293).toNat * 6)).block, (ad295.add ((t293).toNat * 6)).off + 3, none⟩ = some (.int .i64 ((rd_T104 l0_1 t293).f3)) ∧ w'.cell? ⟨(ad295.add ((t293).toNat * 6)).block, (ad295.add ((t293).toNat * 6)).off + 4, none⟩ = some (.int .i64 ((rd_T104 l0_1 t293).f4)) ∧ w'.cell? ⟨(ad295.add ((t293).toNat * 6)).block, (ad295.add ((t293).toNat * 6)).off + 5, none⟩ = some (.int .i64 ((rd_T104 l0_1 t293).f5))) (ds := []) (bm 40 0) (by kernel_rfl) rfl (by kernel_rfl) ⟨(blk_cell BK286.out 0).trans rfl, (blk_cell BK286.out 1).trans rfl, (hbc HB hw295_0 :), (hbc HB hw295_1 :), (hbc HB hw295_2 :), (hbc HB hw295_3 :), (hbc HB hw295_4 :), (hbc HB hw295_5 :), (hbc HB hw296_0 :), (hbc HB hw296_1 :), (hbc HB hw296_2 :), (hbc HB hw296_3 :), (hbc HB hw296_4 :), (hbc HB hw296_5 :), (hbc HB hw297_0 :), (hbc HB hw297_1 :), (hbc HB hw297_2 :), (hbc HB hw297_3 :), (hbc HB hw297_4 :), (hbc HB hw297_5 :), (hbc HB hw298_0 :), (hbc HB hw298_1 :), (hbc HB hw298_2 :), (hbc HB hw298_3 :), (hbc HB hw298_4 :), (hbc HB hw298_5 :)⟩ (fun hHeld => ?_); refine with_tabW spec_ObjectTo.tab3 spec_ObjectTo.bits3 (fun HT_ HW_ => ?_)
     generalize w62.drew = w63 at HO291 BK286 BK287 BK292 HB hx295_0 hx295_1 hx295_2 hx295_3 hx295_4 hx295_5 hx296_0 hx296_1 hx296_2 hx296_3 hx296_4 hx296_5 hx297_0 hx297_1 hx297_2 hx297_3 hx297_4 hx297_5 hx298_0 hx298_1 hx298_2 hx298_3 hx298_4 hx298_5 hHeld ⊢
     refine pT 0 15 (bm 40 1) hHeld ?_
     refine one_ (i := 1) (N := some 16) (bm 40 3) rfl rfl (one_of HT_.out (by kernel_rfl)) (by decide) (fun K hK => ?_)
     refine goes_ Try.func74 (by kernel_rfl) rfl #[.agg #[.int .i64 a0_0, .slice (some ad295) l0_1.length c0_1]] (by rfl) rfl rfl tL ?_
     with_reducible refine (spec_IsValidClaims.calls k a0_0 _ _ l0_1 true _ ?side1 ?side2 A6.out).mono ?_
     (case side1 => exact tC (Kd.C_below HR0_1.out HB.out))
     (case side2 => exact HC0_1.out)
     rintro e w64 ⟨rfl, hb⟩
     refine ⟨_, rfl, ?_⟩
     replace HO291 := Aside0.mk (Kd.R_below (tR HO291) hb)
     replace BK286 := bB BK286 hb
     replace BK287 := bB BK287 hb
     replace BK292 := bB BK292 hb
     replace HB := bH HB hb
     (try clear hb)
     (try clear hb2)
     (try clear hk)
     (try clear hi)
     refine hK.out _ _ ⟨(blk_cell BK286.out 0).trans rfl, (blk_cell BK286.out 1).trans rfl, (hbc HB hw295_0 :), (hbc HB hw295_1 :), (hbc HB hw295_2 :), (hbc HB hw295_3 :), (hbc HB hw295_4 :), (hbc HB hw295_5 :), (hbc HB hw296_0 :), (hbc HB hw296_1 :), (hbc HB hw296_2 :), (hbc HB hw296_3 :), (hbc HB hw296_4 :), (hbc HB hw296_5 :), (hbc HB hw297_0 :), (hbc HB hw297_1 :), (hbc HB hw297_2 :), (hbc HB hw297_3 :), (hbc HB hw297_4 :), (hbc HB hw297_5 :), (hbc HB hw298_0 :), (hbc HB hw298_1 :), (hbc HB hw298_2 :), (hbc HB hw298_3 :), (hbc HB hw298_4 :), (hbc HB hw298_5 :)⟩ (fun hHeld => ?_)
     clear hK K
     refine norm_ (tV : Act.put _ (some 16) _ = _) ?_
     refine pI 2 17 (bm 40 7) ?_
     refine pI 3 18 (bm 40 15) ?_
     refine pI 4 19 (bm 40 31) ?_
     refine pI 5 20 (bm 40 63) ?_
     refine pI 6 21 (bm 40 127) ?_
     refine pI 7 22 (bm 40 255) ?_
     refine pI 8 23 (bm 40 511) ?_
     refine pI 10 25 (bm 40 1535) ?_
     refine pT 9 24 (bm 40 2047) hHeld ?_
     refine pI 11 26 (bm 40 4095) ?_
     refine pI 12 27 (bm 40 8191) ?_
     refine pT 13 28 (bm 40 16383) hHeld ?_
     refine pI 14 29 (bm 40 32767) ?_
     refine pI 15 30 (bm 40 65535) ?_
     refine pI 16 31 (bm 40 131071) ?_
     refine pI 17 32 (bm 40 262143) ?_
     refine pI 18 33 (bm 40 524287) ?_
     refine pI 20 35 (bm 40 1572863) ?_
     refine pI 24 39 (bm 40 18350079) ?_
     refine pI 26 41 (bm 40 85458943) ?_
     refine pI 30 45 (bm 40 1159200767) ?_
     refine pI 32 47 (bm 40 5454168063) ?_
     refine pT 19 34 (bm 40 5454692351) hHeld ?_
     refine pI 21 36 (bm 40 5456789503) ?_
     refine pI 22 37 (bm 40 5460983807) ?_
     refine pT 23 38 (bm 40 5469372415) hHeld ?_
     refine pT 25 40 (bm 40 5502926847) hHeld ?_
     refine pI 27 42 (bm 40 5637144575) ?_
     refine pI 28 43 (bm 40 5905580031) ?_
     refine pT 29 44 (bm 40 6442450943) hHeld ?_
     refine pT 31 46 (bm 40 8589934591) hHeld ?_
     refine pI 33 48 (bm 40 17179869183) ?_
     refine pI 34 49 (bm 40 34359738367) ?_
     refine pT 35 50 (bm 40 68719476735) hHeld ?_
     refine pI 36 51 (bm 40 137438953471) ?_
     refine one_ (i := 37) (N := some 52) (bm 40 274877906943) rfl rfl (one_of HT_.out (by kernel_rfl)) (by decide) (fun K hK => ?_)
     refine goes_ Try.func81 (by kernel_rfl) rfl #[.int .i64 a2, .int .i64 ((rd_T104 l0_1 t293).f3), .int .i64 (wrap64 (((rd_T104 l0_1 t293).f3) + ((rd_T104 l0_1 t293).f4)))] (by rfl) rfl rfl tL ?_
     with_reducible refine (spec_l1In.calls a2 ((rd_T104 l0_1 t293).f3) (wrap64 (((rd_T104 l0_1 t293).f3) + ((rd_T104 l0_1 t293).f4))) false _ A28.out).mono ?_
     rintro e w' ⟨rfl, ⟨nd, rfl⟩⟩
     refine ⟨_, rfl, ?_⟩
     refine hK.out _ _ ⟨(blk_cell BK286.out 0).trans rfl, (blk_cell BK286.out 1).trans rfl, (hbc HB hw295_0 :), (hbc HB hw295_1 :), (hbc HB hw295_2 :), (hbc HB hw295_3 :), (hbc HB hw295_4 :), (hbc HB hw295_5 :), (hbc HB hw296_0 :), (hbc HB hw296_1 :), (hbc HB hw296_2 :), (hbc HB hw296_3 :), (hbc HB hw296_4 :), (hbc HB hw296_5 :), (hbc HB hw297_0 :), (hbc HB hw297_1 :), (hbc HB hw297_2 :), (hbc HB hw297_3 :), (hbc HB hw297_4 :), (hbc HB hw297_5 :), (hbc HB hw298_0 :), (hbc HB hw298_1 :), (hbc HB hw298_2 :), (hbc HB hw298_3 :), (hbc HB hw298_4 :), (hbc HB hw298_5 :)⟩ (fun hHeld => ?_)
     clear hK K
     refine norm_ (tV : Act.put _ (some 52) _ = _) ?_
     refine pI 38 53 (bm 40 549755813887) ?_
     refine pI 39 54 (bm 40 1099511627775) ?_
     refine done_ (done_of HT_.out (by kernel_rfl)) ?_
     obtain ⟨hcz65_0, hcz65_1, hfz65_0, hfz65_1⟩ := bc2 BK292.out
     obtain ⟨hcz66_0, hcz66_1, hfz66_0, hfz66_1⟩ := bc2 BK287.out
     try go_wp2
     refine bodyPost_ret (results_ct rfl _ _ gb287 35 #[.int .i64 t288, .slice Ao60 t289.length co60] (0, 0) _ rfl (by (with_reducible repeat (first | refine blk_drewN ?_ _ | refine blk_drew ?_ | refine blk_alloc ?_ _)); refine blk_put (cs := #[.int .i64 t288, .slice none 0 0]) ?_ 1 _ rfl; (with_reducible repeat (first | refine blk_drewN ?_ _ | refine blk_drew ?_ | refine blk_alloc ?_ _)); refine blk_put (cs := #[.int .i64 0, .slice none 0 0]) ?_ 0 _ rfl; (with_reducible repeat (first | refine blk_drewN ?_ _ | refine blk_drew ?_ | refine blk_alloc ?_ _)); exact BK287.out) Try.underlying35 rfl (by kernel_rfl)) rfl ?_
     exact ⟨_, tE, by (with_reducible repeat (first | apply Kd.R_alloc | apply Kd.R_drewN | apply Kd.R_drew)); exact Kd.R_mono (Kd.R_far (p := ⟨gb287, 1, none⟩) (Kd.R_far (p := ⟨gb287, 0, none⟩) (Kd.R_types HO291.out BK287.out (by decide)) (fun _ hk => hk.2) (.int .i64 t288)) (fun _ hk => hk.2) (.slice Ao60 t289.length co60)) (fun _ hk => trivial), tB⟩
    rw [if_neg c27] at H
    have c27b0 : (((rd_T104 l0_1 t293).f5) == 1) = false := beq_eq_false_iff_ne.mpr c27
    have c27b1 : (((rd_T104 l0_1 t293).f5) != 1) = true := bne_iff_ne.mpr c27
    simp only [Option.some.injEq, Prod.mk.injEq] at H
    obtain ⟨rfl, rfl, rfl⟩ := H
    go_enter Try.func27, Try.ntmps27
    try go_wp2_with (first | ((with_reducible refine gate_dst (N := 3) rfl ?_); refine box_event ?hg (N := 3) ?hd (cs := #[.int .i64 a0_0, .slice A0_1 l0_1.length c0_1]) (t := 35) ?hr ?_; (case hd => rfl); (case hg => rfl); (case hr => exact tG); intro gb286 hg w67 hbox hb; have BK286 := Aside0.mk (hbox); have GW286 := gW HB hg; have GE286 := gW HB hg; replace HB := bH HB hb; clear hb hbox hg) | ((with_reducible refine gate_dst (N := 6) rfl ?_); refine box_event ?hg (N := 6) ?hd (cs := #[.int .i64 0, .slice none 0 0]) (t := 35) ?hr ?_; (case hd => rfl); (case hg => rfl); (case hr => exact tG); intro gb287 hg w68 hbox hb; have BK287 := Aside0.mk (hbox); have GW287 := gW HB hg; have GE287 := gW HB hg; replace HB := bH HB hb; have NB286_287 := nL BK286 hg; have NB287_286 := nR BK286 hg; replace BK286 := bB BK286 hb; clear hb hbox hg; have hnb69 := NB286_287.out; have hnc69 := NB287_286.out; obtain ⟨hcz70_0, hcz70_1, hfz70_0, hfz70_1⟩ := bc2 BK286.out) | ((with_reducible refine gate_callee (f := 72) rfl ?_); refine goesL_ (some 11) rfl rfl Try.func72 (by kernel_rfl) rfl #[.agg #[.int .i64 a0_0, .slice A0_1 l0_1.length c0_1]] rfl tL ?_; (with_reducible refine (spec_l28Copy.calls a0_0 _ _ l0_1 t288 t289 _ ?side1 ?side2 A4.out).mono ?_); (case side1 => exact tC (Kd.C_below HR0_1.out HB.out)); (case side2 => exact HC0_1.out); rintro e w71 ⟨v290, rfl, ho0, hb⟩; refine ⟨_, rfl, ?_⟩; have HO291 := Aside0.mk (Kd.R_lower ho0 (below_size tB)); replace BK286 := bB BK286 hb; replace BK287 := bB BK287 hb; replace HB := bH HB hb; (try clear hb); (try clear hb2); (try clear hk); (try clear hi); (try clear ho0)) | ((with_reducible refine gate_dst (N := 8) rfl ?_); refine box_event ?hg (N := 8) ?hd (cs := #[.int .i64 0, .slice none 0 0]) (t := 35) ?hr ?_; (case hd => rfl); (case hg => rfl); (case hr => exact tG); intro gb292 hg w72 hbox hb; replace HO291 := Aside0.mk (Kd.R_below (tR HO291) hb); have BK292 := Aside0.mk (hbox); have GW292 := gW HB hg; have GE292 := gW HB hg; replace HB := bH HB hb; have NB286_292 := nL BK286 hg; have NB292_286 := nR BK286 hg; replace BK286 := bB BK286 hb; have NB287_292 := nL BK287 hg; have NB292_287 := nR BK287 hg; replace BK287 := bB BK287 hb; clear hb hbox hg; have hnb73 := NB292_286.out; have hnc73 := NB286_292.out; have hnb74 := NB292_287.out; have hnc74 := NB287_292.out; obtain ⟨hcz75_0, hcz75_1, hfz75_0, hfz75_1⟩ := bc2 BK292.out; obtain ⟨Ao76, co76, eo76⟩ := Kd.R_slice HO291.out; subst eo76; obtain ⟨hcz77_0, hcz77_1, hfz77_0, hfz77_1⟩ := bc2 BK286.out) | ((with_reducible refine gate_callee (f := 73) rfl ?_); refine goesL_ (some 14) rfl rfl Try.func73 (by kernel_rfl) rfl #[.agg #[.int .i64 a0_0, .slice A0_1 l0_1.length c0_1], .int .i64 a1] rfl tL ?_; (with_reducible refine (spec_l28Find.calls k a0_0 _ _ l0_1 a1 t293 _ ?side1 ?side2 A5.out).mono ?_); (case side1 => exact Kd.C_below HR0_1.out tB); (case side2 => exact HC0_1.out); rintro e w78 ⟨rfl, hb⟩; refine ⟨_, rfl, ?_⟩; replace HO291 := Aside0.mk (Kd.R_below (kR HO291 BK292) hb); replace BK286 := bF NB286_292 BK286 hb; replace BK287 := bF NB287_292 BK287 hb; replace BK292 := Aside0.mk (blk_below (g := gb292) (o := .cells #[.int .i64 t288, .slice Ao76 t289.length co76] 35 (0, 0)) (by (with_reducible repeat (first | refine blk_drewN ?_ _ | refine blk_drew ?_ | refine blk_alloc ?_ _)); refine blk_put (cs := #[.int .i64 t288, .slice none 0 0]) ?_ 1 _ rfl; (with_reducible repeat (first | refine blk_drewN ?_ _ | refine blk_drew ?_ | refine blk_alloc ?_ _)); refine blk_put (cs := #[.int .i64 0, .slice none 0 0]) ?_ 0 _ rfl; (with_reducible repeat (first | refine blk_drewN ?_ _ | refine blk_drew ?_ | refine blk_alloc ?_ _)); exact BK292.out) hb); replace HB := bH HB hb; (try clear hb); (try clear hb2); (try clear hk); (try clear hi)))
    replace HO291 := Aside0.mk (Kd.R_drew HO291.out)
    replace BK286 := Aside0.mk (blk_drew BK286.out)
    replace BK287 := Aside0.mk (blk_drew BK287.out)
    replace BK292 := Aside0.mk (blk_drew BK292.out)
    replace HB := Aside0.mk (below_drew1 HB.out)
    have p295 : 0 ≤ (t293 : Int) := of_decide_eq_true tA
    have q295 : t293 < (l0_1.length : Int) := of_decide_eq_true tA
    obtain ⟨ad295, e295, hx295_0, hx295_1, hx295_2, hx295_3, hx295_4, hx295_5⟩ := at_T104 HR0_1.out t293 p295 q295
    have hw295_5 := hx295_5
    have hw295_4 := hx295_4
    have hw295_3 := hx295_3
    have hw295_2 := hx295_2
    have hw295_1 := hx295_1
    have hw295_0 := hx295_0
    cases e295
    replace hx295_0 := hbc HB hx295_0
    replace hx295_1 := hbc HB hx295_1
    replace hx295_2 := hbc HB hx295_2
    replace hx295_3 := hbc HB hx295_3
    replace hx295_4 := hbc HB hx295_4
    replace hx295_5 := hbc HB hx295_5
    replace p295 := eq_true p295
    replace q295 := eq_true q295
    refine start_ (n := 40) (S := fun w' => w'.cell? ⟨gb286, 0, none⟩ = some (.int .i64 a0_0) ∧ w'.cell? ⟨gb286, 1, none⟩ = some (.slice (some ad295) l0_1.length c0_1) ∧ w'.cell? (ad295.add ((t293).toNat * 6)) = some (.int .i64 ((rd_T104 l0_1 t293).f0)) ∧ w'.cell? ⟨(ad295.add ((t293).toNat * 6)).block, (ad295.add ((t293).toNat * 6)).off + 1, none⟩ = some (.int .i64 ((rd_T104 l0_1 t293).f1)) ∧ w'.cell? ⟨(ad295.add ((t293).toNat * 6)).block, (ad295.add ((t293).toNat * 6)).off + 2, none⟩ = some (.int .i64 ((rd_T104 l0_1 t293).f2)) ∧ w'.cell? ⟨(ad295.add ((t293).toNat * 6)).block, (ad295.add ((t293).toNat * 6)).off + 3, none⟩ = some (.int .i64 ((rd_T104 l0_1 t293).f3)) ∧ w'.cell? ⟨(ad295.add ((t293).toNat * 6)).block, (ad295.add ((t293).toNat * 6)).off + 4, none⟩ = some (.int .i64 ((rd_T104 l0_1 t293).f4)) ∧ w'.cell? ⟨(ad295.add ((t293).toNat * 6)).block, (ad295.add ((t293).toNat * 6)).off + 5, none⟩ = some (.int .i64 ((rd_T104 l0_1 t293).f5))) (ds := []) (bm 40 0) (by kernel_rfl) rfl (by kernel_rfl) ⟨(blk_cell BK286.out 0).trans rfl, (blk_cell BK286.out 1).trans rfl, (hbc HB hw295_0 :), (hbc HB hw295_1 :), (hbc HB hw295_2 :), (hbc HB hw295_3 :), (hbc HB hw295_4 :), (hbc HB hw295_5 :)⟩ (fun hHeld => ?_); refine with_tabW spec_ObjectTo.tab3 spec_ObjectTo.bits3 (fun HT_ HW_ => ?_)
    generalize w78.drew = w79 at HO291 BK286 BK287 BK292 HB hx295_0 hx295_1 hx295_2 hx295_3 hx295_4 hx295_5 hHeld ⊢
    refine pT 0 15 (bm 40 1) hHeld ?_
    refine one_ (i := 1) (N := some 16) (bm 40 3) rfl rfl (one_of HT_.out (by kernel_rfl)) (by decide) (fun K hK => ?_)
    refine goes_ Try.func74 (by kernel_rfl) rfl #[.agg #[.int .i64 a0_0, .slice (some ad295) l0_1.length c0_1]] (by rfl) rfl rfl tL ?_
    with_reducible refine (spec_IsValidClaims.calls k a0_0 _ _ l0_1 true _ ?side1 ?side2 A6.out).mono ?_
    (case side1 => exact tC (Kd.C_below HR0_1.out HB.out))
    (case side2 => exact HC0_1.out)
    rintro e w80 ⟨rfl, hb⟩
    refine ⟨_, rfl, ?_⟩
    replace HO291 := Aside0.mk (Kd.R_below (tR HO291) hb)
    replace BK286 := bB BK286 hb
    replace BK287 := bB BK287 hb
    replace BK292 := bB BK292 hb
    replace HB := bH HB hb
    (try clear hb)
    (try clear hb2)
    (try clear hk)
    (try clear hi)
    refine hK.out _ _ ⟨(blk_cell BK286.out 0).trans rfl, (blk_cell BK286.out 1).trans rfl, (hbc HB hw295_0 :), (hbc HB hw295_1 :), (hbc HB hw295_2 :), (hbc HB hw295_3 :), (hbc HB hw295_4 :), (hbc HB hw295_5 :)⟩ (fun hHeld => ?_)
    clear hK K
    refine norm_ (tV : Act.put _ (some 16) _ = _) ?_
    refine pI 2 17 (bm 40 7) ?_
    refine pI 3 18 (bm 40 15) ?_
    refine pI 4 19 (bm 40 31) ?_
    refine pI 5 20 (bm 40 63) ?_
    refine pI 6 21 (bm 40 127) ?_
    refine pI 7 22 (bm 40 255) ?_
    refine pI 8 23 (bm 40 511) ?_
    refine pI 10 25 (bm 40 1535) ?_
    refine pT 9 24 (bm 40 2047) hHeld ?_
    refine pI 11 26 (bm 40 4095) ?_
    refine pI 12 27 (bm 40 8191) ?_
    refine pT 13 28 (bm 40 16383) hHeld ?_
    refine pI 14 29 (bm 40 32767) ?_
    refine pI 15 30 (bm 40 65535) ?_
    refine pI 16 31 (bm 40 131071) ?_
    refine pO 17 32 (bm 40 262143) ?_
    refine pO 18 33 (bm 40 524287) ?_
    refine pO 19 34 (bm 40 1048575) ?_
    refine pO 20 35 (bm 40 2097151) ?_
    refine pO 21 36 (bm 40 4194303) ?_
    refine pO 22 37 (bm 40 8388607) ?_
    refine pO 23 38 (bm 40 16777215) ?_
    refine pO 24 39 (bm 40 33554431) ?_
    refine pO 25 40 (bm 40 67108863) ?_
    refine pO 26 41 (bm 40 134217727) ?_
    refine pO 27 42 (bm 40 268435455) ?_
    refine pO 28 43 (bm 40 536870911) ?_
    refine pO 29 44 (bm 40 1073741823) ?_
    refine pO 30 45 (bm 40 2147483647) ?_
    refine pO 31 46 (bm 40 4294967295) ?_
    refine pO 32 47 (bm 40 8589934591) ?_
    refine pO 33 48 (bm 40 17179869183) ?_
    refine pO 34 49 (bm 40 34359738367) ?_
    refine pO 35 50 (bm 40 68719476735) ?_
    refine pO 36 51 (bm 40 137438953471) ?_
    refine pO 37 52 (bm 40 274877906943) ?_
    refine pO 38 53 (bm 40 549755813887) ?_
    refine pI 39 54 (bm 40 1099511627775) ?_
    refine done_ (done_of HT_.out (by kernel_rfl)) ?_
    obtain ⟨hcz81_0, hcz81_1, hfz81_0, hfz81_1⟩ := bc2 BK292.out
    obtain ⟨hcz82_0, hcz82_1, hfz82_0, hfz82_1⟩ := bc2 BK287.out
    try go_wp2
    refine bodyPost_ret (results_ct rfl _ _ gb287 35 #[.int .i64 t288, .slice Ao76 t289.length co76] (0, 0) _ rfl (by (with_reducible repeat (first | refine blk_drewN ?_ _ | refine blk_drew ?_ | refine blk_alloc ?_ _)); refine blk_put (cs := #[.int .i64 t288, .slice none 0 0]) ?_ 1 _ rfl; (with_reducible repeat (first | refine blk_drewN ?_ _ | refine blk_drew ?_ | refine blk_alloc ?_ _)); refine blk_put (cs := #[.int .i64 0, .slice none 0 0]) ?_ 0 _ rfl; (with_reducible repeat (first | refine blk_drewN ?_ _ | refine blk_drew ?_ | refine blk_alloc ?_ _)); exact BK287.out) Try.underlying35 rfl (by kernel_rfl)) rfl ?_
    exact ⟨_, tE, by (with_reducible repeat (first | apply Kd.R_alloc | apply Kd.R_drewN | apply Kd.R_drew)); exact Kd.R_mono (Kd.R_far (p := ⟨gb287, 1, none⟩) (Kd.R_far (p := ⟨gb287, 0, none⟩) (Kd.R_types HO291.out BK287.out (by decide)) (fun _ hk => hk.2) (.int .i64 t288)) (fun _ hk => hk.2) (.slice Ao76 t289.length co76)) (fun _ hk => trivial), tB⟩
   rw [if_neg c26] at H
   exact absurd H (by simp)
  rw [if_neg c25] at H
  exact absurd H (by simp)
 replace c7 := Bool.eq_false_iff.mpr c7
 subst c7
 have H1 : (some (t288, t289, false)) = some (r1, r2, r3) := by rw [if_neg (show ¬ (false = true) by decide)] at H; exact H
 clear H
 have H := H1
 clear H1
 simp only [Option.some.injEq, Prod.mk.injEq] at H
 obtain ⟨rfl, rfl, rfl⟩ := H
 go_enter Try.func27, Try.ntmps27
 try go_wp2_with (first | ((with_reducible refine gate_dst (N := 3) rfl ?_); refine box_event ?hg (N := 3) ?hd (cs := #[.int .i64 a0_0, .slice A0_1 l0_1.length c0_1]) (t := 35) ?hr ?_; (case hd => rfl); (case hg => rfl); (case hr => exact tG); intro gb286 hg w83 hbox hb; have BK286 := Aside0.mk (hbox); have GW286 := gW HB hg; have GE286 := gW HB hg; replace HB := bH HB hb; clear hb hbox hg) | ((with_reducible refine gate_dst (N := 6) rfl ?_); refine box_event ?hg (N := 6) ?hd (cs := #[.int .i64 0, .slice none 0 0]) (t := 35) ?hr ?_; (case hd => rfl); (case hg => rfl); (case hr => exact tG); intro gb287 hg w84 hbox hb; have BK287 := Aside0.mk (hbox); have GW287 := gW HB hg; have GE287 := gW HB hg; replace HB := bH HB hb; have NB286_287 := nL BK286 hg; have NB287_286 := nR BK286 hg; replace BK286 := bB BK286 hb; clear hb hbox hg; have hnb85 := NB286_287.out; have hnc85 := NB287_286.out; obtain ⟨hcz86_0, hcz86_1, hfz86_0, hfz86_1⟩ := bc2 BK286.out) | ((with_reducible refine gate_callee (f := 72) rfl ?_); refine goesL_ (some 11) rfl rfl Try.func72 (by kernel_rfl) rfl #[.agg #[.int .i64 a0_0, .slice A0_1 l0_1.length c0_1]] rfl tL ?_; (with_reducible refine (spec_l28Copy.calls a0_0 _ _ l0_1 t288 t289 _ ?side1 ?side2 A4.out).mono ?_); (case side1 => exact tC (Kd.C_below HR0_1.out HB.out)); (case side2 => exact HC0_1.out); rintro e w87 ⟨v290, rfl, ho0, hb⟩; refine ⟨_, rfl, ?_⟩; have HO291 := Aside0.mk (Kd.R_lower ho0 (below_size tB)); replace BK286 := bB BK286 hb; replace BK287 := bB BK287 hb; replace HB := bH HB hb; (try clear hb); (try clear hb2); (try clear hk); (try clear hi); (try clear ho0)) | ((with_reducible refine gate_dst (N := 8) rfl ?_); refine box_event ?hg (N := 8) ?hd (cs := #[.int .i64 0, .slice none 0 0]) (t := 35) ?hr ?_; (case hd => rfl); (case hg => rfl); (case hr => exact tG); intro gb292 hg w88 hbox hb; replace HO291 := Aside0.mk (Kd.R_below (tR HO291) hb); have BK292 := Aside0.mk (hbox); have GW292 := gW HB hg; have GE292 := gW HB hg; replace HB := bH HB hb; have NB286_292 := nL BK286 hg; have NB292_286 := nR BK286 hg; replace BK286 := bB BK286 hb; have NB287_292 := nL BK287 hg; have NB292_287 := nR BK287 hg; replace BK287 := bB BK287 hb; clear hb hbox hg; have hnb89 := NB292_286.out; have hnc89 := NB286_292.out; have hnb90 := NB292_287.out; have hnc90 := NB287_292.out; obtain ⟨hcz91_0, hcz91_1, hfz91_0, hfz91_1⟩ := bc2 BK292.out; obtain ⟨Ao92, co92, eo92⟩ := Kd.R_slice HO291.out; subst eo92; obtain ⟨hcz93_0, hcz93_1, hfz93_0, hfz93_1⟩ := bc2 BK286.out) | ((with_reducible refine gate_callee (f := 73) rfl ?_); refine goesL_ (some 14) rfl rfl Try.func73 (by kernel_rfl) rfl #[.agg #[.int .i64 a0_0, .slice A0_1 l0_1.length c0_1], .int .i64 a1] rfl tL ?_; (with_reducible refine (spec_l28Find.calls k a0_0 _ _ l0_1 a1 t293 _ ?side1 ?side2 A5.out).mono ?_); (case side1 => exact Kd.C_below HR0_1.out tB); (case side2 => exact HC0_1.out); rintro e w94 ⟨rfl, hb⟩; refine ⟨_, rfl, ?_⟩; replace HO291 := Aside0.mk (Kd.R_below (kR HO291 BK292) hb); replace BK286 := bF NB286_292 BK286 hb; replace BK287 := bF NB287_292 BK287 hb; replace BK292 := Aside0.mk (blk_below (g := gb292) (o := .cells #[.int .i64 t288, .slice Ao92 t289.length co92] 35 (0, 0)) (by (with_reducible repeat (first | refine blk_drewN ?_ _ | refine blk_drew ?_ | refine blk_alloc ?_ _)); refine blk_put (cs := #[.int .i64 t288, .slice none 0 0]) ?_ 1 _ rfl; (with_reducible repeat (first | refine blk_drewN ?_ _ | refine blk_drew ?_ | refine blk_alloc ?_ _)); refine blk_put (cs := #[.int .i64 0, .slice none 0 0]) ?_ 0 _ rfl; (with_reducible repeat (first | refine blk_drewN ?_ _ | refine blk_drew ?_ | refine blk_alloc ?_ _)); exact BK292.out) hb); replace HB := bH HB hb; (try clear hb); (try clear hb2); (try clear hk); (try clear hi)))
 replace HO291 := Aside0.mk (Kd.R_drew HO291.out)
 replace BK286 := Aside0.mk (blk_drew BK286.out)
 replace BK287 := Aside0.mk (blk_drew BK287.out)
 replace BK292 := Aside0.mk (blk_drew BK292.out)
 replace HB := Aside0.mk (below_drew1 HB.out)
 refine start_ (n := 40) (S := fun w' => w'.cell? ⟨gb286, 0, none⟩ = some (.int .i64 a0_0) ∧ w'.cell? ⟨gb286, 1, none⟩ = some (.slice A0_1 l0_1.length c0_1)) (ds := []) (bm 40 0) (by kernel_rfl) rfl (by kernel_rfl) tH (fun hHeld => ?_); refine with_tabW spec_ObjectTo.tab3 spec_ObjectTo.bits3 (fun HT_ HW_ => ?_)
 generalize w94.drew = w95 at HO291 BK286 BK287 BK292 HB hHeld ⊢
 refine pT 0 15 (bm 40 1) hHeld ?_
 refine one_ (i := 1) (N := some 16) (bm 40 3) rfl rfl (one_of HT_.out (by kernel_rfl)) (by decide) (fun K hK => ?_)
 refine goes_ Try.func74 (by kernel_rfl) rfl #[.agg #[.int .i64 a0_0, .slice A0_1 l0_1.length c0_1]] (by rfl) rfl rfl tL ?_
 with_reducible refine (spec_IsValidClaims.calls k a0_0 _ _ l0_1 false _ ?side1 ?side2 A6.out).mono ?_
 (case side1 => exact tC (Kd.C_below HR0_1.out HB.out))
 (case side2 => exact HC0_1.out)
 rintro e w96 ⟨rfl, hb⟩
 refine ⟨_, rfl, ?_⟩
 replace HO291 := Aside0.mk (Kd.R_below (tR HO291) hb)
 replace BK286 := bB BK286 hb
 replace BK287 := bB BK287 hb
 replace BK292 := bB BK292 hb
 replace HB := bH HB hb
 (try clear hb)
 (try clear hb2)
 (try clear hk)
 (try clear hi)
 refine hK.out _ _ tH (fun hHeld => ?_)
 clear hK K
 refine norm_ (tV : Act.put _ (some 16) _ = _) ?_
 refine pI 2 17 (bm 40 7) ?_
 refine pI 3 18 (bm 40 15) ?_
 refine pO 4 19 (bm 40 31) ?_
 refine pO 5 20 (bm 40 63) ?_
 refine pI 6 21 (bm 40 127) ?_
 refine pI 7 22 (bm 40 255) ?_
 refine pO 8 23 (bm 40 511) ?_
 refine pO 9 24 (bm 40 1023) ?_
 refine pO 10 25 (bm 40 2047) ?_
 refine pO 11 26 (bm 40 4095) ?_
 refine pO 12 27 (bm 40 8191) ?_
 refine pO 13 28 (bm 40 16383) ?_
 refine pO 14 29 (bm 40 32767) ?_
 refine pI 15 30 (bm 40 65535) ?_
 refine pI 16 31 (bm 40 131071) ?_
 refine pO 17 32 (bm 40 262143) ?_
 refine pO 18 33 (bm 40 524287) ?_
 refine pO 19 34 (bm 40 1048575) ?_
 refine pO 20 35 (bm 40 2097151) ?_
 refine pO 21 36 (bm 40 4194303) ?_
 refine pO 22 37 (bm 40 8388607) ?_
 refine pO 23 38 (bm 40 16777215) ?_
 refine pO 24 39 (bm 40 33554431) ?_
 refine pO 25 40 (bm 40 67108863) ?_
 refine pO 26 41 (bm 40 134217727) ?_
 refine pO 27 42 (bm 40 268435455) ?_
 refine pO 28 43 (bm 40 536870911) ?_
 refine pO 29 44 (bm 40 1073741823) ?_
 refine pO 30 45 (bm 40 2147483647) ?_
 refine pO 31 46 (bm 40 4294967295) ?_
 refine pO 32 47 (bm 40 8589934591) ?_
 refine pO 33 48 (bm 40 17179869183) ?_
 refine pO 34 49 (bm 40 34359738367) ?_
 refine pO 35 50 (bm 40 68719476735) ?_
 refine pO 36 51 (bm 40 137438953471) ?_
 refine pO 37 52 (bm 40 274877906943) ?_
 refine pO 38 53 (bm 40 549755813887) ?_
 refine pI 39 54 (bm 40 1099511627775) ?_
 refine done_ (done_of HT_.out (by kernel_rfl)) ?_
 obtain ⟨hcz97_0, hcz97_1, hfz97_0, hfz97_1⟩ := bc2 BK292.out
 obtain ⟨hcz98_0, hcz98_1, hfz98_0, hfz98_1⟩ := bc2 BK287.out
 try go_wp2
 refine bodyPost_ret (results_ct rfl _ _ gb287 35 #[.int .i64 t288, .slice Ao92 t289.length co92] (0, 0) _ rfl (by (with_reducible repeat (first | refine blk_drewN ?_ _ | refine blk_drew ?_ | refine blk_alloc ?_ _)); refine blk_put (cs := #[.int .i64 t288, .slice none 0 0]) ?_ 1 _ rfl; (with_reducible repeat (first | refine blk_drewN ?_ _ | refine blk_drew ?_ | refine blk_alloc ?_ _)); refine blk_put (cs := #[.int .i64 0, .slice none 0 0]) ?_ 0 _ rfl; (with_reducible repeat (first | refine blk_drewN ?_ _ | refine blk_drew ?_ | refine blk_alloc ?_ _)); exact BK287.out) Try.underlying35 rfl (by kernel_rfl)) rfl ?_
 exact ⟨_, tE, by (with_reducible repeat (first | apply Kd.R_alloc | apply Kd.R_drewN | apply Kd.R_drew)); exact Kd.R_mono (Kd.R_far (p := ⟨gb287, 1, none⟩) (Kd.R_far (p := ⟨gb287, 0, none⟩) (Kd.R_types HO291.out BK287.out (by decide)) (fun _ hk => hk.2) (.int .i64 t288)) (fun _ hk => hk.2) (.slice Ao92 t289.length co92)) (fun _ hk => trivial), tB⟩

end Go.Proofs.Ytjggdakbphjomaa.ZFnClaims
