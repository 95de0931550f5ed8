/- The machine side: for each Go function a Lean function and the contract that the Go code answers as it does; printed by program (wip/tmpl/pprint.sh). -/
import Derived.Test.YtjggdakbphjomaaZFnClaimsx0
import Derived.Test.YtjggdakbphjomaaZFnClaimsx7
import Derived.Test.YtjggdakbphjomaaZFnClaimsx8
import Derived.Test.YtjggdakbphjomaaZFnClaimsx10
namespace Go.Proofs.Ytjggdakbphjomaa.ZFnClaims
open Go.RowKit Go.Proofs.YtjggdakbphjomaaW.PrintWords Go.Proofs.YtjggdakbphjomaaW.PrintLast Go.Proofs.YtjggdakbphjomaaW.PrintMore
attribute [local go_sem] max2_int min2_int max_two min_two max_three min_three max_four min_four   -- for this text's walks alone
set_option linter.unusedVariables false
set_option linter.unusedSimpArgs false

/-! ### spec_CompleteClaim: function 21 -/
def spec_CompleteClaim.f (k : Nat) (a0_0 : Int) (l0_1 : List (S104)) (a1 : Int) (a2 : Int) : Option (Int × (List (S104)) × Int × Bool) := (spec_l28Copy.f a0_0 l0_1).bind fun bt274 => ((spec_l28Find.f k a0_0 l0_1 a1).bind fun t279 => ((spec_IsValidClaims.f k a0_0 l0_1).bind fun t280 => (if t280 = true then (if t279 < 0 then (some (bt274.1, bt274.2, 0, false)) else (if 0 ≤ t279 then (if t279 < (l0_1.length : Int) then (if ((rd_T104 l0_1 t279).f5) = 1 then (if a2 ≤ (wrap64 (((rd_T104 l0_1 t279).f3) + ((rd_T104 l0_1 t279).f4))) then (some (bt274.1, bt274.2, 0, false)) else (if t279 < (bt274.2.length : Int) then (some (bt274.1, (bt274.2.set (t279 : Int).toNat (⟨(rd_T104 bt274.2 t279).f0, (rd_T104 bt274.2 t279).f1, (rd_T104 bt274.2 t279).f2, (rd_T104 bt274.2 t279).f3, (rd_T104 bt274.2 t279).f4, 3⟩ : S104)), (rd_T104 l0_1 t279).f2, true)) else (none))) else (some (bt274.1, bt274.2, 0, false))) else (none)) else (none))) else (some (bt274.1, bt274.2, 0, false)))))
theorem spec_CompleteClaim.mono : ∀ a0 a1 a2 a3 k, LeO (spec_CompleteClaim.f k a0 a1 a2 a3) (spec_CompleteClaim.f (k + 1) a0 a1 a2 a3) := by
 intro a0 a1 a2 a3 k
 unfold spec_CompleteClaim.f
 repeat' first
   | (with_reducible exact spec_IsValidClaims.mono _ _ _)
   | (with_reducible exact spec_l28Find.mono _ _ _ _)
   | (with_reducible exact LeO.refl _)
   | (with_reducible exact LeO.none _)
   | (with_reducible refine LeO.ite ?_ ?_)
   | (with_reducible refine LeO.bind ?_ (fun _ => ?_))
   | exact spec_IsValidClaims.mono _ _ _
   | exact spec_l28Find.mono _ _ _ _
   | exact LeO.none _
   | refine LeO.ite ?_ ?_
   | refine LeO.bind ?_ (fun _ => ?_)
def spec_CompleteClaim.T3 : Bool × List (List Nat × List Nat) := (true, [([], []), ([0], [0]), ([1], [1]), ([2, 1], [2]), ([3], [3]), ([4, 3], [3, 4]), ([3, 5], [3, 5]), ([6, 3], [6]), ([7], [7]), ([8, 7], [7, 8]), ([7], [7]), ([9, 10, 7], [7, 9, 10]), ([11, 7], [7, 11]), ([12, 7], [7, 12]), ([13, 7], [7, 13]), ([7, 14], [7, 14]), ([15, 7], [15]), ([16], [16]), ([16], [16]), ([18, 16], [16, 18]), ([16], [16]), ([19, 20, 16], [16, 19, 20]), ([21, 16], [16, 21]), ([22, 16], [16, 22]), ([16], [16]), ([24, 16], [16, 24]), ([16], [16]), ([25, 26, 16], [16, 25, 26]), ([27, 16], [16, 27]), ([28, 16], [16, 28]), ([23, 29, 16], [16, 23, 29]), ([17, 30, 16], [16, 17, 30]), ([16, 31], [16, 31])])
def spec_CompleteClaim.B3 : List Nat := [0, 1, 3, 7, 15, 31, 63, 127, 255, 511, 255, 2047, 4095, 8191, 16383, 32767, 65535, 131071, 131071, 393215, 131071, 1966079, 4063231, 8257535, 131071, 16908287, 131071, 117571583, 251789311, 520224767, 1073610751, 2147483647, 4294967295]
theorem spec_CompleteClaim.tab3 : rtab .any (opsOf Try.f21 3) = spec_CompleteClaim.T3 := by kernel_rfl
theorem spec_CompleteClaim.bits3 : waitsOk spec_CompleteClaim.T3.2 spec_CompleteClaim.B3 = true := by kernel_rfl
def spec_CompleteClaim.T6 : Bool × List (List Nat × List Nat) := (true, [([], []), ([], []), ([1], [1]), ([], []), ([2, 3], [2, 3]), ([4], [4]), ([5], [5]), ([0, 0], [0]), ([6, 7, 0, 1, 2, 3, 4, 5, 6, 7], [6]), ([8, 0, 1, 2, 3, 4, 5, 6, 7, 8], [])])
def spec_CompleteClaim.B6 : List Nat := [0, 0, 2, 0, 14, 30, 62, 1, 255, 511]
theorem spec_CompleteClaim.tab6 : rtab .any (opsOf Try.f21 6) = spec_CompleteClaim.T6 := by kernel_rfl
theorem spec_CompleteClaim.bits6 : waitsOk spec_CompleteClaim.T6.2 spec_CompleteClaim.B6 = true := by kernel_rfl
set_option maxHeartbeats 8000000 in
set_option maxRecDepth 100000 in
theorem spec_CompleteClaim.calls (k : Nat) (a0_0 : Int) (A0_1 : Option Addr) (c0_1 : Nat) (l0_1 : List (S104)) (a1 : Int) (a2 : Int) (r1 : Int) (r2 : List (S104)) (r3 : Int) (r4 : Bool) (w : World) (hr0_1 : Kd.C k104 w A0_1 l0_1.length l0_1) (hc0_1 : l0_1.length ≤ c0_1) (h : spec_CompleteClaim.f k a0_0 l0_1 a1 a2 = some (r1, r2, r3, r4)) :
  Calls Try.prog 21 #[.agg #[.int .i64 a0_0, .slice A0_1 l0_1.length c0_1], .int .i64 a1, .int .i64 a2] w fun e w' => ∃ v1_ : Value, e = .returned (.tuple #[.agg #[.int .i64 r1, v1_], .int .i64 r3, .bool r4]) ∧ Kd.R k104 104 w' w.heap.size (fun _ => True) v1_ r2 ∧ Below w.heap.size w w' := by
 have hu35 := Try.underlying35
 have HR0_1 := Aside0.mk hr0_1
 have HC0_1 := Aside0.mk hc0_1
 clear hr0_1 hc0_1
 have HB := Aside0.mk (Below.refl w.heap.size w)
 have H : ((spec_l28Copy.f a0_0 l0_1).bind fun bt274 => ((spec_l28Find.f k a0_0 l0_1 a1).bind fun t279 => ((spec_IsValidClaims.f k a0_0 l0_1).bind fun t280 => (if t280 = true then (if t279 < 0 then (some (bt274.1, bt274.2, 0, false)) else (if 0 ≤ t279 then (if t279 < (l0_1.length : Int) then (if ((rd_T104 l0_1 t279).f5) = 1 then (if a2 ≤ (wrap64 (((rd_T104 l0_1 t279).f3) + ((rd_T104 l0_1 t279).f4))) then (some (bt274.1, bt274.2, 0, false)) else (if t279 < (bt274.2.length : Int) then (some (bt274.1, (bt274.2.set (t279 : Int).toNat (⟨(rd_T104 bt274.2 t279).f0, (rd_T104 bt274.2 t279).f1, (rd_T104 bt274.2 t279).f2, (rd_T104 bt274.2 t279).f3, (rd_T104 bt274.2 t279).f4, 3⟩ : S104)), (rd_T104 l0_1 t279).f2, true)) else (none))) else (some (bt274.1, bt274.2, 0, false))) else (none)) else (none))) else (some (bt274.1, bt274.2, 0, false)))))) = some (r1, r2, r3, r4) := h
 clear h
 replace H := Option.bind_eq_some_iff.mp H
 obtain ⟨⟨t274, t275⟩, A40, H⟩ := H
 try dsimp only at H
 have A4 := Aside0.mk A40
 clear A40
 replace H := Option.bind_eq_some_iff.mp H
 obtain ⟨t279, A50, H⟩ := H
 try dsimp only at H
 have A5 := Aside0.mk A50
 clear A50
 replace H := Option.bind_eq_some_iff.mp H
 obtain ⟨t280, A60, H⟩ := H
 try dsimp only at H
 have A6 := Aside0.mk A60
 clear A60
 by_cases c7 : t280 = true
 ·subst c7
  have H1 : (if t279 < 0 then (some (t274, t275, 0, false)) else (if 0 ≤ t279 then (if t279 < (l0_1.length : Int) then (if ((rd_T104 l0_1 t279).f5) = 1 then (if a2 ≤ (wrap64 (((rd_T104 l0_1 t279).f3) + ((rd_T104 l0_1 t279).f4))) then (some (t274, t275, 0, false)) else (if t279 < (t275.length : Int) then (some (t274, (t275.set (t279 : Int).toNat (⟨(rd_T104 t275 t279).f0, (rd_T104 t275 t279).f1, (rd_T104 t275 t279).f2, (rd_T104 t275 t279).f3, (rd_T104 t275 t279).f4, 3⟩ : S104)), (rd_T104 l0_1 t279).f2, true)) else (none))) else (some (t274, t275, 0, false))) else (none)) else (none))) = some (r1, r2, r3, r4) := by rw [if_pos rfl] at H; exact H
  clear H
  have H := H1
  clear H1
  by_cases c8 : t279 < 0
  ·rw [if_pos c8] at H
   have c8b0 : decide (t279 < 0) = true := decide_eq_true c8
   clear c8
   simp only [Option.some.injEq, Prod.mk.injEq] at H
   obtain ⟨rfl, rfl, rfl, rfl⟩ := H
   go_enter Try.func21, Try.ntmps21
   try go_wp2_with (first | ((with_reducible refine gate_dst (N := 3) rfl ?_); refine box_event ?hg (N := 3) ?hd (cs := #[.int .i64 a0_0, .slice A0_1 l0_1.length c0_1]) (t := 35) ?hr ?_; (case hd => rfl); (case hg => rfl); (case hr => exact tG); intro gb272 hg w9 hbox hb; have BK272 := Aside0.mk (hbox); have GW272 := gW HB hg; have GE272 := gW HB hg; replace HB := bH HB hb; clear hb hbox hg) | ((with_reducible refine gate_dst (N := 6) rfl ?_); refine box_event ?hg (N := 6) ?hd (cs := #[.int .i64 0, .slice none 0 0]) (t := 35) ?hr ?_; (case hd => rfl); (case hg => rfl); (case hr => exact tG); intro gb273 hg w10 hbox hb; have BK273 := Aside0.mk (hbox); have GW273 := gW HB hg; have GE273 := gW HB hg; replace HB := bH HB hb; have NB272_273 := nL BK272 hg; have NB273_272 := nR BK272 hg; replace BK272 := bB BK272 hb; clear hb hbox hg; have hnb11 := NB272_273.out; have hnc11 := NB273_272.out; obtain ⟨hcz12_0, hcz12_1, hfz12_0, hfz12_1⟩ := bc2 BK272.out) | ((with_reducible refine gate_callee (f := 72) rfl ?_); refine goesL_ (some 12) rfl rfl Try.func72 (by kernel_rfl) rfl #[.agg #[.int .i64 a0_0, .slice A0_1 l0_1.length c0_1]] rfl tL ?_; (with_reducible refine (spec_l28Copy.calls a0_0 _ _ l0_1 t274 t275 _ ?side1 ?side2 A4.out).mono ?_); (case side1 => exact tC (Kd.C_below HR0_1.out HB.out)); (case side2 => exact HC0_1.out); rintro e w13 ⟨v276, rfl, ho0, hb⟩; refine ⟨_, rfl, ?_⟩; have HO277 := Aside0.mk (Kd.R_lower ho0 (below_size tB)); replace BK272 := bB BK272 hb; replace BK273 := bB BK273 hb; replace HB := bH HB hb; (try clear hb); (try clear hb2); (try clear hk); (try clear hi); (try clear ho0)) | ((with_reducible refine gate_dst (N := 9) rfl ?_); refine box_event ?hg (N := 9) ?hd (cs := #[.int .i64 0, .slice none 0 0]) (t := 35) ?hr ?_; (case hd => rfl); (case hg => rfl); (case hr => exact tG); intro gb278 hg w14 hbox hb; replace HO277 := Aside0.mk (Kd.R_below (tR HO277) hb); have BK278 := Aside0.mk (hbox); have GW278 := gW HB hg; have GE278 := gW HB hg; replace HB := bH HB hb; have NB272_278 := nL BK272 hg; have NB278_272 := nR BK272 hg; replace BK272 := bB BK272 hb; have NB273_278 := nL BK273 hg; have NB278_273 := nR BK273 hg; replace BK273 := bB BK273 hb; clear hb hbox hg; have hnb15 := NB278_272.out; have hnc15 := NB272_278.out; have hnb16 := NB278_273.out; have hnc16 := NB273_278.out; obtain ⟨hcz17_0, hcz17_1, hfz17_0, hfz17_1⟩ := bc2 BK278.out; obtain ⟨Ao18, co18, eo18⟩ := Kd.R_slice HO277.out; subst eo18; obtain ⟨hcz19_0, hcz19_1, hfz19_0, hfz19_1⟩ := bc2 BK272.out) | ((with_reducible refine gate_callee (f := 73) rfl ?_); refine goesL_ (some 15) rfl rfl Try.func73 (by kernel_rfl) rfl #[.agg #[.int .i64 a0_0, .slice A0_1 l0_1.length c0_1], .int .i64 a1] rfl tL ?_; (with_reducible refine (spec_l28Find.calls k a0_0 _ _ l0_1 a1 t279 _ ?side1 ?side2 A5.out).mono ?_); (case side1 => exact Kd.C_below HR0_1.out tB); (case side2 => exact HC0_1.out); rintro e w20 ⟨rfl, hb⟩; refine ⟨_, rfl, ?_⟩; replace HO277 := Aside0.mk (Kd.R_below (kR HO277 BK278) hb); replace BK272 := bF NB272_278 BK272 hb; replace BK273 := bF NB273_278 BK273 hb; replace BK278 := Aside0.mk (blk_below (g := gb278) (o := .cells #[.int .i64 t274, .slice Ao18 t275.length co18] 35 (0, 0)) (by (with_reducible repeat (first | refine blk_drewN ?_ _ | refine blk_drew ?_ | refine blk_alloc ?_ _)); refine blk_put (cs := #[.int .i64 t274, .slice none 0 0]) ?_ 1 _ rfl; (with_reducible repeat (first | refine blk_drewN ?_ _ | refine blk_drew ?_ | refine blk_alloc ?_ _)); refine blk_put (cs := #[.int .i64 0, .slice none 0 0]) ?_ 0 _ rfl; (with_reducible repeat (first | refine blk_drewN ?_ _ | refine blk_drew ?_ | refine blk_alloc ?_ _)); exact BK278.out) hb); replace HB := bH HB hb; (try clear hb); (try clear hb2); (try clear hk); (try clear hi)))
   replace HO277 := Aside0.mk (Kd.R_drew HO277.out)
   replace BK272 := Aside0.mk (blk_drew BK272.out)
   replace BK273 := Aside0.mk (blk_drew BK273.out)
   replace BK278 := Aside0.mk (blk_drew BK278.out)
   replace HB := Aside0.mk (below_drew1 HB.out)
   refine start_ (n := 33) (S := fun w' => w'.cell? ⟨gb272, 0, none⟩ = some (.int .i64 a0_0) ∧ w'.cell? ⟨gb272, 1, none⟩ = some (.slice A0_1 l0_1.length c0_1)) (ds := []) (bm 33 0) (by kernel_rfl) rfl (by kernel_rfl) tH (fun hHeld => ?_); refine with_tabW spec_CompleteClaim.tab3 spec_CompleteClaim.bits3 (fun HT_ HW_ => ?_)
   generalize w20.drew = w21 at HO277 BK272 BK273 BK278 HB hHeld ⊢
   refine pT 0 16 (bm 33 1) hHeld ?_
   refine one_ (i := 1) (N := some 17) (bm 33 3) rfl rfl (one_of HT_.out (by kernel_rfl)) (by decide) (fun K hK => ?_)
   refine goes_ Try.func74 (by kernel_rfl) rfl #[.agg #[.int .i64 a0_0, .slice A0_1 l0_1.length c0_1]] (by rfl) rfl rfl tL ?_
   with_reducible refine (spec_IsValidClaims.calls k a0_0 _ _ l0_1 true _ ?side1 ?side2 A6.out).mono ?_
   (case side1 => exact tC (Kd.C_below HR0_1.out HB.out))
   (case side2 => exact HC0_1.out)
   rintro e w22 ⟨rfl, hb⟩
   refine ⟨_, rfl, ?_⟩
   replace HO277 := Aside0.mk (Kd.R_below (tR HO277) hb)
   replace BK272 := bB BK272 hb
   replace BK273 := bB BK273 hb
   replace BK278 := bB BK278 hb
   replace HB := bH HB hb
   (try clear hb)
   (try clear hb2)
   (try clear hk)
   (try clear hi)
   refine hK.out _ _ tH (fun hHeld => ?_)
   clear hK K
   refine norm_ (tV : Act.put _ (some 17) _ = _) ?_
   refine pI 2 18 (bm 33 7) ?_
   refine pI 3 19 (bm 33 15) ?_
   refine pI 4 20 (bm 33 31) ?_
   refine pI 5 21 (bm 33 63) ?_
   refine pI 6 22 (bm 33 127) ?_
   refine pI 7 23 (bm 33 255) ?_
   refine pO 8 24 (bm 33 511) ?_
   refine pO 9 25 (bm 33 1023) ?_
   refine pO 10 26 (bm 33 2047) ?_
   refine pO 11 27 (bm 33 4095) ?_
   refine pO 12 28 (bm 33 8191) ?_
   refine pO 13 29 (bm 33 16383) ?_
   refine pO 14 30 (bm 33 32767) ?_
   refine pI 15 31 (bm 33 65535) ?_
   refine pI 16 32 (bm 33 131071) ?_
   refine pO 17 33 (bm 33 262143) ?_
   refine pO 18 34 (bm 33 524287) ?_
   refine pO 19 35 (bm 33 1048575) ?_
   refine pO 20 36 (bm 33 2097151) ?_
   refine pO 21 37 (bm 33 4194303) ?_
   refine pO 22 38 (bm 33 8388607) ?_
   refine pO 23 39 (bm 33 16777215) ?_
   refine pO 24 40 (bm 33 33554431) ?_
   refine pO 25 41 (bm 33 67108863) ?_
   refine pO 26 42 (bm 33 134217727) ?_
   refine pO 27 43 (bm 33 268435455) ?_
   refine pO 28 44 (bm 33 536870911) ?_
   refine pO 29 45 (bm 33 1073741823) ?_
   refine pO 30 46 (bm 33 2147483647) ?_
   refine pO 31 47 (bm 33 4294967295) ?_
   refine pI 32 48 (bm 33 8589934591) ?_
   refine done_ (done_of HT_.out (by kernel_rfl)) ?_
   obtain ⟨hcz23_0, hcz23_1, hfz23_0, hfz23_1⟩ := bc2 BK278.out
   obtain ⟨hcz24_0, hcz24_1, hfz24_0, hfz24_1⟩ := bc2 BK273.out
   try go_wp2
   refine bodyPost_ret (results_ctt rfl _ _ gb273 35 #[.int .i64 t274, .slice Ao18 t275.length co18] (0, 0) _ rfl (by (with_reducible repeat (first | refine blk_drewN ?_ _ | refine blk_drew ?_ | refine blk_alloc ?_ _)); refine blk_put (cs := #[.int .i64 t274, .slice none 0 0]) ?_ 1 _ rfl; (with_reducible repeat (first | refine blk_drewN ?_ _ | refine blk_drew ?_ | refine blk_alloc ?_ _)); refine blk_put (cs := #[.int .i64 0, .slice none 0 0]) ?_ 0 _ rfl; (with_reducible repeat (first | refine blk_drewN ?_ _ | refine blk_drew ?_ | refine blk_alloc ?_ _)); exact BK273.out) Try.underlying35 rfl (by kernel_rfl)) rfl ?_
   exact ⟨_, tE, by (with_reducible repeat (first | apply Kd.R_alloc | apply Kd.R_drewN | apply Kd.R_drew)); exact Kd.R_mono (Kd.R_far (p := ⟨gb273, 1, none⟩) (Kd.R_far (p := ⟨gb273, 0, none⟩) (Kd.R_types HO277.out BK273.out (by decide)) (fun _ hk => hk.2) (.int .i64 t274)) (fun _ hk => hk.2) (.slice Ao18 t275.length co18)) (fun _ hk => trivial), tB⟩
  rw [if_neg c8] at H
  have c8b0 : decide (t279 < 0) = false := decide_eq_false c8
  clear c8
  by_cases c25 : 0 ≤ t279
  ·rw [if_pos c25] at H
   have c25b0 : decide (0 ≤ t279) = true := decide_eq_true c25
   clear c25
   by_cases c26 : t279 < (l0_1.length : Int)
   ·rw [if_pos c26] at H
    have c26b0 : decide (t279 < (l0_1.length : Int)) = true := decide_eq_true c26
    clear c26
    by_cases c27 : ((rd_T104 l0_1 t279).f5) = 1
    ·rw [if_pos c27] at H
     have c27b0 : (((rd_T104 l0_1 t279).f5) == 1) = true := beq_iff_eq.mpr c27
     have c27b1 : (((rd_T104 l0_1 t279).f5) != 1) = false := bne_eq_false_iff_eq.mpr c27
     clear c27
     by_cases c28 : a2 ≤ (wrap64 (((rd_T104 l0_1 t279).f3) + ((rd_T104 l0_1 t279).f4)))
     ·rw [if_pos c28] at H
      have c28b0 : decide (a2 ≤ (wrap64 (((rd_T104 l0_1 t279).f3) + ((rd_T104 l0_1 t279).f4)))) = true := decide_eq_true c28
      clear c28
      simp only [Option.some.injEq, Prod.mk.injEq] at H
      obtain ⟨rfl, rfl, rfl, rfl⟩ := H
      go_enter Try.func21, Try.ntmps21
      try go_wp2_with (first | ((with_reducible refine gate_dst (N := 3) rfl ?_); refine box_event ?hg (N := 3) ?hd (cs := #[.int .i64 a0_0, .slice A0_1 l0_1.length c0_1]) (t := 35) ?hr ?_; (case hd => rfl); (case hg => rfl); (case hr => exact tG); intro gb272 hg w29 hbox hb; have BK272 := Aside0.mk (hbox); have GW272 := gW HB hg; have GE272 := gW HB hg; replace HB := bH HB hb; clear hb hbox hg) | ((with_reducible refine gate_dst (N := 6) rfl ?_); refine box_event ?hg (N := 6) ?hd (cs := #[.int .i64 0, .slice none 0 0]) (t := 35) ?hr ?_; (case hd => rfl); (case hg => rfl); (case hr => exact tG); intro gb273 hg w30 hbox hb; have BK273 := Aside0.mk (hbox); have GW273 := gW HB hg; have GE273 := gW HB hg; replace HB := bH HB hb; have NB272_273 := nL BK272 hg; have NB273_272 := nR BK272 hg; replace BK272 := bB BK272 hb; clear hb hbox hg; have hnb31 := NB272_273.out; have hnc31 := NB273_272.out; obtain ⟨hcz32_0, hcz32_1, hfz32_0, hfz32_1⟩ := bc2 BK272.out) | ((with_reducible refine gate_callee (f := 72) rfl ?_); refine goesL_ (some 12) rfl rfl Try.func72 (by kernel_rfl) rfl #[.agg #[.int .i64 a0_0, .slice A0_1 l0_1.length c0_1]] rfl tL ?_; (with_reducible refine (spec_l28Copy.calls a0_0 _ _ l0_1 t274 t275 _ ?side1 ?side2 A4.out).mono ?_); (case side1 => exact tC (Kd.C_below HR0_1.out HB.out)); (case side2 => exact HC0_1.out); rintro e w33 ⟨v276, rfl, ho0, hb⟩; refine ⟨_, rfl, ?_⟩; have HO277 := Aside0.mk (Kd.R_lower ho0 (below_size tB)); replace BK272 := bB BK272 hb; replace BK273 := bB BK273 hb; replace HB := bH HB hb; (try clear hb); (try clear hb2); (try clear hk); (try clear hi); (try clear ho0)) | ((with_reducible refine gate_dst (N := 9) rfl ?_); refine box_event ?hg (N := 9) ?hd (cs := #[.int .i64 0, .slice none 0 0]) (t := 35) ?hr ?_; (case hd => rfl); (case hg => rfl); (case hr => exact tG); intro gb278 hg w34 hbox hb; replace HO277 := Aside0.mk (Kd.R_below (tR HO277) hb); have BK278 := Aside0.mk (hbox); have GW278 := gW HB hg; have GE278 := gW HB hg; replace HB := bH HB hb; have NB272_278 := nL BK272 hg; have NB278_272 := nR BK272 hg; replace BK272 := bB BK272 hb; have NB273_278 := nL BK273 hg; have NB278_273 := nR BK273 hg; replace BK273 := bB BK273 hb; clear hb hbox hg; have hnb35 := NB278_272.out; have hnc35 := NB272_278.out; have hnb36 := NB278_273.out; have hnc36 := NB273_278.out; obtain ⟨hcz37_0, hcz37_1, hfz37_0, hfz37_1⟩ := bc2 BK278.out; obtain ⟨Ao38, co38, eo38⟩ := Kd.R_slice HO277.out; subst eo38; obtain ⟨hcz39_0, hcz39_1, hfz39_0, hfz39_1⟩ := bc2 BK272.out) | ((with_reducible refine gate_callee (f := 73) rfl ?_); refine goesL_ (some 15) rfl rfl Try.func73 (by kernel_rfl) rfl #[.agg #[.int .i64 a0_0, .slice A0_1 l0_1.length c0_1], .int .i64 a1] rfl tL ?_; (with_reducible refine (spec_l28Find.calls k a0_0 _ _ l0_1 a1 t279 _ ?side1 ?side2 A5.out).mono ?_); (case side1 => exact Kd.C_below HR0_1.out tB); (case side2 => exact HC0_1.out); rintro e w40 ⟨rfl, hb⟩; refine ⟨_, rfl, ?_⟩; replace HO277 := Aside0.mk (Kd.R_below (kR HO277 BK278) hb); replace BK272 := bF NB272_278 BK272 hb; replace BK273 := bF NB273_278 BK273 hb; replace BK278 := Aside0.mk (blk_below (g := gb278) (o := .cells #[.int .i64 t274, .slice Ao38 t275.length co38] 35 (0, 0)) (by (with_reducible repeat (first | refine blk_drewN ?_ _ | refine blk_drew ?_ | refine blk_alloc ?_ _)); refine blk_put (cs := #[.int .i64 t274, .slice none 0 0]) ?_ 1 _ rfl; (with_reducible repeat (first | refine blk_drewN ?_ _ | refine blk_drew ?_ | refine blk_alloc ?_ _)); refine blk_put (cs := #[.int .i64 0, .slice none 0 0]) ?_ 0 _ rfl; (with_reducible repeat (first | refine blk_drewN ?_ _ | refine blk_drew ?_ | refine blk_alloc ?_ _)); exact BK278.out) hb); replace HB := bH HB hb; (try clear hb); (try clear hb2); (try clear hk); (try clear hi)))
      replace HO277 := Aside0.mk (Kd.R_drew HO277.out)
      replace BK272 := Aside0.mk (blk_drew BK272.out)
      replace BK273 := Aside0.mk (blk_drew BK273.out)
      replace BK278 := Aside0.mk (blk_drew BK278.out)
      replace HB := Aside0.mk (below_drew1 HB.out)
      have p281 : 0 ≤ (t279 : Int) := of_decide_eq_true tA
      have q281 : t279 < (l0_1.length : Int) := of_decide_eq_true tA
      obtain ⟨ad281, e281, hx281_0, hx281_1, hx281_2, hx281_3, hx281_4, hx281_5⟩ := at_T104 HR0_1.out t279 p281 q281
      have hw281_5 := hx281_5
      have hw281_4 := hx281_4
      have hw281_3 := hx281_3
      have hw281_2 := hx281_2
      have hw281_1 := hx281_1
      have hw281_0 := hx281_0
      cases e281
      replace hx281_0 := hbc HB hx281_0
      replace hx281_1 := hbc HB hx281_1
      replace hx281_2 := hbc HB hx281_2
      replace hx281_3 := hbc HB hx281_3
      replace hx281_4 := hbc HB hx281_4
      replace hx281_5 := hbc HB hx281_5
      replace p281 := eq_true p281
      replace q281 := eq_true q281
      have p282 : 0 ≤ (t279 : Int) := of_decide_eq_true tA
      have q282 : t279 < (l0_1.length : Int) := of_decide_eq_true tA
      obtain ⟨ad282, e282, hx282_0, hx282_1, hx282_2, hx282_3, hx282_4, hx282_5⟩ := at_T104 HR0_1.out t279 p282 q282
      have hw282_5 := hx282_5
      have hw282_4 := hx282_4
      have hw282_3 := hx282_3
      have hw282_2 := hx282_2
      have hw282_1 := hx282_1
      have hw282_0 := hx282_0
      obtain rfl : ad281 = ad282 := (by injection e282)
      replace hx282_0 := hbc HB hx282_0
      replace hx282_1 := hbc HB hx282_1
      replace hx282_2 := hbc HB hx282_2
      replace hx282_3 := hbc HB hx282_3
      replace hx282_4 := hbc HB hx282_4
      replace hx282_5 := hbc HB hx282_5
      replace p282 := eq_true p282
      replace q282 := eq_true q282
      have p283 : 0 ≤ (t279 : Int) := of_decide_eq_true tA
      have q283 : t279 < (l0_1.length : Int) := of_decide_eq_true tA
      obtain ⟨ad283, e283, hx283_0, hx283_1, hx283_2, hx283_3, hx283_4, hx283_5⟩ := at_T104 HR0_1.out t279 p283 q283
      have hw283_5 := hx283_5
      have hw283_4 := hx283_4
      have hw283_3 := hx283_3
      have hw283_2 := hx283_2
      have hw283_1 := hx283_1
      have hw283_0 := hx283_0
      obtain rfl : ad281 = ad283 := (by injection e283)
      replace hx283_0 := hbc HB hx283_0
      replace hx283_1 := hbc HB hx283_1
      replace hx283_2 := hbc HB hx283_2
      replace hx283_3 := hbc HB hx283_3
      replace hx283_4 := hbc HB hx283_4
      replace hx283_5 := hbc HB hx283_5
      replace p283 := eq_true p283
      replace q283 := eq_true q283
      refine start_ (n := 33) (S := fun w' => w'.cell? ⟨gb272, 0, none⟩ = some (.int .i64 a0_0) ∧ w'.cell? ⟨gb272, 1, none⟩ = some (.slice (some ad281) l0_1.length c0_1) ∧ w'.cell? (ad281.add ((t279).toNat * 6)) = some (.int .i64 ((rd_T104 l0_1 t279).f0)) ∧ w'.cell? ⟨(ad281.add ((t279).toNat * 6)).block, (ad281.add ((t279).toNat * 6)).off + 1, none⟩ = some (.int .i64 ((rd_T104 l0_1 t279).f1)) ∧ w'.cell? ⟨(ad281.add ((t279).toNat * 6)).block, (ad281.add ((t279).toNat * 6)).off + 2, none⟩ = some (.int .i64 ((rd_T104 l0_1 t279).f2)) ∧ w'.cell? ⟨(ad281.add ((t279).toNat * 6)).block, (ad281.add ((t279).toNat * 6)).off + 3, none⟩ = some (.int .i64 ((rd_T104 l0_1 t279).f3)) ∧ w'.cell? ⟨(ad281.add ((t279).toNat * 6)).block, (ad281.add ((t279).toNat * 6)).off + 4, none⟩ = some (.int .i64 ((rd_T104 l0_1 t279).f4)) ∧ w'.cell? ⟨(ad281.add ((t279).toNat * 6)).block, (ad281.add ((t279).toNat * 6)).off + 5, none⟩ = some (.int .i64 ((rd_T104 l0_1 t279).f5)) ∧ w'.cell? (ad281.add ((t279).toNat * 6)) = some (.int .i64 ((rd_T104 l0_1 t279).f0)) ∧ w'.cell? ⟨(ad281.add ((t279).toNat * 6)).block, (ad281.add ((t279).toNat * 6)).off + 1, none⟩ = some (.int .i64 ((rd_T104 l0_1 t279).f1)) ∧ w'.cell? ⟨(ad281.add ((t279).toNat * 6)).block, (ad281.add ((t279).toNat * 6)).off + 2, none⟩ = some (.int .i64 ((rd_T104 l0_1 t279).f2)) ∧ w'.cell? ⟨(ad281.add ((t279).toNat * 6)).block, (ad281.add ((t279).toNat * 6)).off + 3, none⟩ = some (.int .i64 ((rd_T104 l0_1 t279).f3)) ∧ w'.cell? ⟨(ad281.add ((t279).toNat * 6)).block, (ad281.add ((t279).toNat * 6)).off + 4, none⟩ = some (.int .i64 ((rd_T104 l0_1 t279).f4)) ∧ w'.cell? ⟨(ad281.add ((t279).toNat * 6)).block, (ad281.add ((t279).toNat * 6)).off + 5, none⟩ = some (.int .i64 ((rd_T104 l0_1 t279).f5)) ∧ w'.cell? (ad281.add ((t279).toNat * 6)) = some (.int .i64 ((rd_T104 l0_1 t279).f0)) ∧ w'.cell? ⟨(ad281.add ((t279).toNat * 6)).block, (ad281.add ((t279).toNat * 6)).off + 1, none⟩ = some (.int .i64 ((rd_T104 l0_1 t279).f1)) ∧ w'.cell? ⟨(ad281.add ((t279).toNat * 6)).block, (ad281.add ((t279).toNat * 6)).off + 2, none⟩ = some (.int .i64 ((rd_T104 l0_1 t279).f2)) ∧ w'.cell? ⟨(ad281.add ((t279).toNat * 6)).block, (ad281.add ((t279).toNat * 6)).off + 3, none⟩ = some (.int .i64 ((rd_T104 l0_1 t279).f3)) ∧ w'.cell? ⟨(ad281.add ((t279).toNat * 6)).block, (ad281.add ((t279).toNat * 6)).off + 4, none⟩ = some (.int .i64 ((rd_T104 l0_1 t279).f4)) ∧ w'.cell? ⟨(ad281.add ((t279).toNat * 6)).block, (ad281.add ((t279).toNat * 6)).off + 5, none⟩ = some (.int .i64 ((rd_T104 l0_1 t279).f5))) (ds := []) (bm 33 0) (by kernel_rfl) rfl (by kernel_rfl) ⟨(blk_cell BK272.out 0).trans rfl, (blk_cell BK272.out 1).trans rfl, (hbc HB hw281_0 :), (hbc HB hw281_1 :), (hbc HB hw281_2 :), (hbc HB hw281_3 :), (hbc HB hw281_4 :), (hbc HB hw281_5 :), (hbc HB hw282_0 :), (hbc HB hw282_1 :), (hbc HB hw282_2 :), (hbc HB hw282_3 :), (hbc HB hw282_4 :), (hbc HB hw282_5 :), (hbc HB hw283_0 :), (hbc HB hw283_1 :), (hbc HB hw283_2 :), (hbc HB hw283_3 :), (hbc HB hw283_4 :), (hbc HB hw283_5 :)⟩ (fun hHeld => ?_); refine with_tabW spec_CompleteClaim.tab3 spec_CompleteClaim.bits3 (fun HT_ HW_ => ?_)
      generalize w40.drew = w41 at HO277 BK272 BK273 BK278 HB hx281_0 hx281_1 hx281_2 hx281_3 hx281_4 hx281_5 hx282_0 hx282_1 hx282_2 hx282_3 hx282_4 hx282_5 hx283_0 hx283_1 hx283_2 hx283_3 hx283_4 hx283_5 hHeld ⊢
      refine pT 0 16 (bm 33 1) hHeld ?_
      refine one_ (i := 1) (N := some 17) (bm 33 3) rfl rfl (one_of HT_.out (by kernel_rfl)) (by decide) (fun K hK => ?_)
      refine goes_ Try.func74 (by kernel_rfl) rfl #[.agg #[.int .i64 a0_0, .slice (some ad281) l0_1.length c0_1]] (by rfl) rfl rfl tL ?_
      with_reducible refine (spec_IsValidClaims.calls k a0_0 _ _ l0_1 true _ ?side1 ?side2 A6.out).mono ?_
      (case side1 => exact tC (Kd.C_below HR0_1.out HB.out))
      (case side2 => exact HC0_1.out)
      rintro e w42 ⟨rfl, hb⟩
      refine ⟨_, rfl, ?_⟩
      replace HO277 := Aside0.mk (Kd.R_below (tR HO277) hb)
      replace BK272 := bB BK272 hb
      replace BK273 := bB BK273 hb
      replace BK278 := bB BK278 hb
      replace HB := bH HB hb
      (try clear hb)
      (try clear hb2)
      (try clear hk)
      (try clear hi)
      refine hK.out _ _ ⟨(blk_cell BK272.out 0).trans rfl, (blk_cell BK272.out 1).trans rfl, (hbc HB hw281_0 :), (hbc HB hw281_1 :), (hbc HB hw281_2 :), (hbc HB hw281_3 :), (hbc HB hw281_4 :), (hbc HB hw281_5 :), (hbc HB hw282_0 :), (hbc HB hw282_1 :), (hbc HB hw282_2 :), (hbc HB hw282_3 :), (hbc HB hw282_4 :), (hbc HB hw282_5 :), (hbc HB hw283_0 :), (hbc HB hw283_1 :), (hbc HB hw283_2 :), (hbc HB hw283_3 :), (hbc HB hw283_4 :), (hbc HB hw283_5 :)⟩ (fun hHeld => ?_)
      clear hK K
      refine norm_ (tV : Act.put _ (some 17) _ = _) ?_
      refine pI 2 18 (bm 33 7) ?_
      refine pI 3 19 (bm 33 15) ?_
      refine pI 4 20 (bm 33 31) ?_
      refine pI 5 21 (bm 33 63) ?_
      refine pI 6 22 (bm 33 127) ?_
      refine pI 7 23 (bm 33 255) ?_
      refine pI 8 24 (bm 33 511) ?_
      refine pI 10 26 (bm 33 1535) ?_
      refine pT 9 25 (bm 33 2047) hHeld ?_
      refine pI 11 27 (bm 33 4095) ?_
      refine pI 12 28 (bm 33 8191) ?_
      refine pT 13 29 (bm 33 16383) hHeld ?_
      refine pI 14 30 (bm 33 32767) ?_
      refine pI 15 31 (bm 33 65535) ?_
      refine pI 16 32 (bm 33 131071) ?_
      refine pI 17 33 (bm 33 262143) ?_
      refine pI 18 34 (bm 33 524287) ?_
      refine pI 20 36 (bm 33 1572863) ?_
      refine pI 24 40 (bm 33 18350079) ?_
      refine pI 26 42 (bm 33 85458943) ?_
      refine pT 19 35 (bm 33 85983231) hHeld ?_
      refine pI 21 37 (bm 33 88080383) ?_
      refine pI 22 38 (bm 33 92274687) ?_
      refine pT 23 39 (bm 33 100663295) hHeld ?_
      refine pT 25 41 (bm 33 134217727) hHeld ?_
      refine pI 27 43 (bm 33 268435455) ?_
      refine pI 28 44 (bm 33 536870911) ?_
      refine pT 29 45 (bm 33 1073741823) hHeld ?_
      refine pI 30 46 (bm 33 2147483647) ?_
      refine pI 31 47 (bm 33 4294967295) ?_
      refine pI 32 48 (bm 33 8589934591) ?_
      refine done_ (done_of HT_.out (by kernel_rfl)) ?_
      obtain ⟨hcz43_0, hcz43_1, hfz43_0, hfz43_1⟩ := bc2 BK278.out
      obtain ⟨hcz44_0, hcz44_1, hfz44_0, hfz44_1⟩ := bc2 BK273.out
      try go_wp2
      refine bodyPost_ret (results_ctt rfl _ _ gb273 35 #[.int .i64 t274, .slice Ao38 t275.length co38] (0, 0) _ rfl (by (with_reducible repeat (first | refine blk_drewN ?_ _ | refine blk_drew ?_ | refine blk_alloc ?_ _)); refine blk_put (cs := #[.int .i64 t274, .slice none 0 0]) ?_ 1 _ rfl; (with_reducible repeat (first | refine blk_drewN ?_ _ | refine blk_drew ?_ | refine blk_alloc ?_ _)); refine blk_put (cs := #[.int .i64 0, .slice none 0 0]) ?_ 0 _ rfl; (with_reducible repeat (first | refine blk_drewN ?_ _ | refine blk_drew ?_ | refine blk_alloc ?_ _)); exact BK273.out) Try.underlying35 rfl (by kernel_rfl)) rfl ?_
      exact ⟨_, tE, by (with_reducible repeat (first | apply Kd.R_alloc | apply Kd.R_drewN | apply Kd.R_drew)); exact Kd.R_mono (Kd.R_far (p := ⟨gb273, 1, none⟩) (Kd.R_far (p := ⟨gb273, 0, none⟩) (Kd.R_types HO277.out BK273.out (by decide)) (fun _ hk => hk.2) (.int .i64 t274)) (fun _ hk => hk.2) (.slice Ao38 t275.length co38)) (fun _ hk => trivial), tB⟩
     rw [if_neg c28] at H
     have c28b0 : decide (a2 ≤ (wrap64 (((rd_T104 l0_1 t279).f3) + ((rd_T104 l0_1 t279).f4)))) = false := decide_eq_false c28
     clear c28
     by_cases c45 : t279 < (t275.length : Int)
     ·rw [if_pos c45] at H
      have c45b0 : decide (t279 < (t275.length : Int)) = true := decide_eq_true c45
      clear c45
      obtain ⟨y284, hy284⟩ : ∃ y_ : List (S104), y_ = (t275.set (t279 : Int).toNat (⟨(rd_T104 t275 t279).f0, (rd_T104 t275 t279).f1, (rd_T104 t275 t279).f2, (rd_T104 t275 t279).f3, (rd_T104 t275 t279).f4, 3⟩ : S104)) := ⟨_, rfl⟩
      replace H : (some (t274, y284, (rd_T104 l0_1 t279).f2, true)) = some (r1, r2, r3, r4) := by first | (rw [hy284]; with_reducible exact H) | (have H2_ := (Option.bind_some _ _).symm.trans H; rw [hy284]; with_reducible exact H2_) | (have H2_ := (Option.bind_some _ _).symm.trans H; with_reducible exact H2_) | with_reducible exact H | (rw [hy284]; exact H) | exact H
      have Ny284 := Aside0.mk hy284
      clear hy284
      simp only [Option.some.injEq, Prod.mk.injEq] at H
      obtain ⟨rfl, rfl, rfl, rfl⟩ := H
      go_enter Try.func21, Try.ntmps21
      try go_wp2_with (first | ((with_reducible refine gate_dst (N := 3) rfl ?_); refine box_event ?hg (N := 3) ?hd (cs := #[.int .i64 a0_0, .slice A0_1 l0_1.length c0_1]) (t := 35) ?hr ?_; (case hd => rfl); (case hg => rfl); (case hr => exact tG); intro gb272 hg w47 hbox hb; have BK272 := Aside0.mk (hbox); have GW272 := gW HB hg; have GE272 := gW HB hg; replace HB := bH HB hb; clear hb hbox hg) | ((with_reducible refine gate_dst (N := 6) rfl ?_); refine box_event ?hg (N := 6) ?hd (cs := #[.int .i64 0, .slice none 0 0]) (t := 35) ?hr ?_; (case hd => rfl); (case hg => rfl); (case hr => exact tG); intro gb273 hg w48 hbox hb; have BK273 := Aside0.mk (hbox); have GW273 := gW HB hg; have GE273 := gW HB hg; replace HB := bH HB hb; have NB272_273 := nL BK272 hg; have NB273_272 := nR BK272 hg; replace BK272 := bB BK272 hb; clear hb hbox hg; have hnb49 := NB272_273.out; have hnc49 := NB273_272.out; obtain ⟨hcz50_0, hcz50_1, hfz50_0, hfz50_1⟩ := bc2 BK272.out) | ((with_reducible refine gate_callee (f := 72) rfl ?_); refine goesL_ (some 12) rfl rfl Try.func72 (by kernel_rfl) rfl #[.agg #[.int .i64 a0_0, .slice A0_1 l0_1.length c0_1]] rfl tL ?_; (with_reducible refine (spec_l28Copy.calls a0_0 _ _ l0_1 t274 t275 _ ?side1 ?side2 A4.out).mono ?_); (case side1 => exact tC (Kd.C_below HR0_1.out HB.out)); (case side2 => exact HC0_1.out); rintro e w51 ⟨v276, rfl, ho0, hb⟩; refine ⟨_, rfl, ?_⟩; have HO277 := Aside0.mk (Kd.R_lower ho0 (below_size tB)); replace BK272 := bB BK272 hb; replace BK273 := bB BK273 hb; replace HB := bH HB hb; (try clear hb); (try clear hb2); (try clear hk); (try clear hi); (try clear ho0)) | ((with_reducible refine gate_dst (N := 9) rfl ?_); refine box_event ?hg (N := 9) ?hd (cs := #[.int .i64 0, .slice none 0 0]) (t := 35) ?hr ?_; (case hd => rfl); (case hg => rfl); (case hr => exact tG); intro gb278 hg w52 hbox hb; replace HO277 := Aside0.mk (Kd.R_below (tR HO277) hb); have BK278 := Aside0.mk (hbox); have GW278 := gW HB hg; have GE278 := gW HB hg; replace HB := bH HB hb; have NB272_278 := nL BK272 hg; have NB278_272 := nR BK272 hg; replace BK272 := bB BK272 hb; have NB273_278 := nL BK273 hg; have NB278_273 := nR BK273 hg; replace BK273 := bB BK273 hb; clear hb hbox hg; have hnb53 := NB278_272.out; have hnc53 := NB272_278.out; have hnb54 := NB278_273.out; have hnc54 := NB273_278.out; obtain ⟨hcz55_0, hcz55_1, hfz55_0, hfz55_1⟩ := bc2 BK278.out; obtain ⟨Ao56, co56, eo56⟩ := Kd.R_slice HO277.out; subst eo56; obtain ⟨hcz57_0, hcz57_1, hfz57_0, hfz57_1⟩ := bc2 BK272.out) | ((with_reducible refine gate_callee (f := 73) rfl ?_); refine goesL_ (some 15) rfl rfl Try.func73 (by kernel_rfl) rfl #[.agg #[.int .i64 a0_0, .slice A0_1 l0_1.length c0_1], .int .i64 a1] rfl tL ?_; (with_reducible refine (spec_l28Find.calls k a0_0 _ _ l0_1 a1 t279 _ ?side1 ?side2 A5.out).mono ?_); (case side1 => exact Kd.C_below HR0_1.out tB); (case side2 => exact HC0_1.out); rintro e w58 ⟨rfl, hb⟩; refine ⟨_, rfl, ?_⟩; replace HO277 := Aside0.mk (Kd.R_below (kR HO277 BK278) hb); replace BK272 := bF NB272_278 BK272 hb; replace BK273 := bF NB273_278 BK273 hb; replace BK278 := Aside0.mk (blk_below (g := gb278) (o := .cells #[.int .i64 t274, .slice Ao56 t275.length co56] 35 (0, 0)) (by (with_reducible repeat (first | refine blk_drewN ?_ _ | refine blk_drew ?_ | refine blk_alloc ?_ _)); refine blk_put (cs := #[.int .i64 t274, .slice none 0 0]) ?_ 1 _ rfl; (with_reducible repeat (first | refine blk_drewN ?_ _ | refine blk_drew ?_ | refine blk_alloc ?_ _)); refine blk_put (cs := #[.int .i64 0, .slice none 0 0]) ?_ 0 _ rfl; (with_reducible repeat (first | refine blk_drewN ?_ _ | refine blk_drew ?_ | refine blk_alloc ?_ _)); exact BK278.out) hb); replace HB := bH HB hb; (try clear hb); (try clear hb2); (try clear hk); (try clear hi)))
      replace HO277 := Aside0.mk (Kd.R_drew HO277.out)
      replace BK272 := Aside0.mk (blk_drew BK272.out)
      replace BK273 := Aside0.mk (blk_drew BK273.out)
      replace BK278 := Aside0.mk (blk_drew BK278.out)
      replace HB := Aside0.mk (below_drew1 HB.out)
      have p281 : 0 ≤ (t279 : Int) := of_decide_eq_true tA
      have q281 : t279 < (l0_1.length : Int) := of_decide_eq_true tA
      obtain ⟨ad281, e281, hx281_0, hx281_1, hx281_2, hx281_3, hx281_4, hx281_5⟩ := at_T104 HR0_1.out t279 p281 q281
      have hw281_5 := hx281_5
      have hw281_4 := hx281_4
      have hw281_3 := hx281_3
      have hw281_2 := hx281_2
      have hw281_1 := hx281_1
      have hw281_0 := hx281_0
      cases e281
      replace hx281_0 := hbc HB hx281_0
      replace hx281_1 := hbc HB hx281_1
      replace hx281_2 := hbc HB hx281_2
      replace hx281_3 := hbc HB hx281_3
      replace hx281_4 := hbc HB hx281_4
      replace hx281_5 := hbc HB hx281_5
      replace p281 := eq_true p281
      replace q281 := eq_true q281
      have p282 : 0 ≤ (t279 : Int) := of_decide_eq_true tA
      have q282 : t279 < (l0_1.length : Int) := of_decide_eq_true tA
      obtain ⟨ad282, e282, hx282_0, hx282_1, hx282_2, hx282_3, hx282_4, hx282_5⟩ := at_T104 HR0_1.out t279 p282 q282
      have hw282_5 := hx282_5
      have hw282_4 := hx282_4
      have hw282_3 := hx282_3
      have hw282_2 := hx282_2
      have hw282_1 := hx282_1
      have hw282_0 := hx282_0
      obtain rfl : ad281 = ad282 := (by injection e282)
      replace hx282_0 := hbc HB hx282_0
      replace hx282_1 := hbc HB hx282_1
      replace hx282_2 := hbc HB hx282_2
      replace hx282_3 := hbc HB hx282_3
      replace hx282_4 := hbc HB hx282_4
      replace hx282_5 := hbc HB hx282_5
      replace p282 := eq_true p282
      replace q282 := eq_true q282
      have p283 : 0 ≤ (t279 : Int) := of_decide_eq_true tA
      have q283 : t279 < (l0_1.length : Int) := of_decide_eq_true tA
      obtain ⟨ad283, e283, hx283_0, hx283_1, hx283_2, hx283_3, hx283_4, hx283_5⟩ := at_T104 HR0_1.out t279 p283 q283
      have hw283_5 := hx283_5
      have hw283_4 := hx283_4
      have hw283_3 := hx283_3
      have hw283_2 := hx283_2
      have hw283_1 := hx283_1
      have hw283_0 := hx283_0
      obtain rfl : ad281 = ad283 := (by injection e283)
      replace hx283_0 := hbc HB hx283_0
      replace hx283_1 := hbc HB hx283_1
      replace hx283_2 := hbc HB hx283_2
      replace hx283_3 := hbc HB hx283_3
      replace hx283_4 := hbc HB hx283_4
      replace hx283_5 := hbc HB hx283_5
      replace p283 := eq_true p283
      replace q283 := eq_true q283
      refine start_ (n := 33) (S := fun w' => w'.cell? ⟨gb272, 0, none⟩ = some (.int .i64 a0_0) ∧ w'.cell? ⟨gb272, 1, none⟩ = some (.slice (some ad281) l0_1.length c0_1) ∧ w'.cell? (ad281.add ((t279).toNat * 6)) = some (.int .i64 ((rd_T104 l0_1 t279).f0)) ∧ w'.cell? ⟨(ad281.add ((t279).toNat * 6)).block, (ad281.add ((t279).toNat * 6)).off + 1, none⟩ = some (.int .i64 ((rd_T104 l0_1 t279).f1)) ∧ w'.cell? ⟨(ad281.add ((t279).toNat * 6)).block, (ad281.add ((t279).toNat * 6)).off + 2, none⟩ = some (.int .i64 ((rd_T104 l0_1 t279).f2)) ∧ w'.cell? ⟨(ad281.add ((t279).toNat * 6)).block, (ad281.add ((t279).toNat * 6)).off + 3, none⟩ = some (.int .i64 ((rd_T104 l0_1 t279).f3)) ∧ w'.cell? ⟨(ad281.add ((t279).toNat * 6)).block, (ad281.add ((t279).toNat * 6)).off + 4, none⟩ = some (.int .i64 ((rd_T104 l0_1 t279).f4)) ∧ w'.cell? ⟨(ad281.add ((t279).toNat * 6)).block, (ad281.add ((t279).toNat * 6)).off + 5, none⟩ = some (.int .i64 ((rd_T104 l0_1 t279).f5)) ∧ w'.cell? (ad281.add ((t279).toNat * 6)) = some (.int .i64 ((rd_T104 l0_1 t279).f0)) ∧ w'.cell? ⟨(ad281.add ((t279).toNat * 6)).block, (ad281.add ((t279).toNat * 6)).off + 1, none⟩ = some (.int .i64 ((rd_T104 l0_1 t279).f1)) ∧ w'.cell? ⟨(ad281.add ((t279).toNat * 6)).block, (ad281.add ((t279).toNat * 6)).off + 2, none⟩ = some (.int .i64 ((rd_T104 l0_1 t279).f2)) ∧ w'.cell? ⟨(ad281.add ((t279).toNat * 6)).block, (ad281.add ((t279).toNat * 6)).off + 3, none⟩ = some (.int .i64 ((rd_T104 l0_1 t279).f3)) ∧ w'.cell? ⟨(ad281.add ((t279).toNat * 6)).block, (ad281.add ((t279).toNat * 6)).off + 4, none⟩ = some (.int .i64 ((rd_T104 l0_1 t279).f4)) ∧ w'.cell? ⟨(ad281.add ((t279).toNat * 6)).block, (ad281.add ((t279).toNat * 6)).off + 5, none⟩ = some (.int .i64 ((rd_T104 l0_1 t279).f5)) ∧ w'.cell? (ad281.add ((t279).toNat * 6)) = some (.int .i64 ((rd_T104 l0_1 t279).f0)) ∧ w'.cell? ⟨(ad281.add ((t279).toNat * 6)).block, (ad281.add ((t279).toNat * 6)).off + 1, none⟩ = some (.int .i64 ((rd_T104 l0_1 t279).f1)) ∧ w'.cell? ⟨(ad281.add ((t279).toNat * 6)).block, (ad281.add ((t279).toNat * 6)).off + 2, none⟩ = some (.int .i64 ((rd_T104 l0_1 t279).f2)) ∧ w'.cell? ⟨(ad281.add ((t279).toNat * 6)).block, (ad281.add ((t279).toNat * 6)).off + 3, none⟩ = some (.int .i64 ((rd_T104 l0_1 t279).f3)) ∧ w'.cell? ⟨(ad281.add ((t279).toNat * 6)).block, (ad281.add ((t279).toNat * 6)).off + 4, none⟩ = some (.int .i64 ((rd_T104 l0_1 t279).f4)) ∧ w'.cell? ⟨(ad281.add ((t279).toNat * 6)).block, (ad281.add ((t279).toNat * 6)).off + 5, none⟩ = some (.int .i64 ((rd_T104 l0_1 t279).f5))) (ds := []) (bm 33 0) (by kernel_rfl) rfl (by kernel_rfl) ⟨(blk_cell BK272.out 0).trans rfl, (blk_cell BK272.out 1).trans rfl, (hbc HB hw281_0 :), (hbc HB hw281_1 :), (hbc HB hw281_2 :), (hbc HB hw281_3 :), (hbc HB hw281_4 :), (hbc HB hw281_5 :), (hbc HB hw282_0 :), (hbc HB hw282_1 :), (hbc HB hw282_2 :), (hbc HB hw282_3 :), (hbc HB hw282_4 :), (hbc HB hw282_5 :), (hbc HB hw283_0 :), (hbc HB hw283_1 :), (hbc HB hw283_2 :), (hbc HB hw283_3 :), (hbc HB hw283_4 :), (hbc HB hw283_5 :)⟩ (fun hHeld => ?_); refine with_tabW spec_CompleteClaim.tab3 spec_CompleteClaim.bits3 (fun HT_ HW_ => ?_)
      generalize w58.drew = w59 at HO277 BK272 BK273 BK278 HB hx281_0 hx281_1 hx281_2 hx281_3 hx281_4 hx281_5 hx282_0 hx282_1 hx282_2 hx282_3 hx282_4 hx282_5 hx283_0 hx283_1 hx283_2 hx283_3 hx283_4 hx283_5 hHeld ⊢
      refine pT 0 16 (bm 33 1) hHeld ?_
      refine one_ (i := 1) (N := some 17) (bm 33 3) rfl rfl (one_of HT_.out (by kernel_rfl)) (by decide) (fun K hK => ?_)
      refine goes_ Try.func74 (by kernel_rfl) rfl #[.agg #[.int .i64 a0_0, .slice (some ad281) l0_1.length c0_1]] (by rfl) rfl rfl tL ?_
      with_reducible refine (spec_IsValidClaims.calls k a0_0 _ _ l0_1 true _ ?side1 ?side2 A6.out).mono ?_
      (case side1 => exact tC (Kd.C_below HR0_1.out HB.out))
      (case side2 => exact HC0_1.out)
      rintro e w60 ⟨rfl, hb⟩
      refine ⟨_, rfl, ?_⟩
      replace HO277 := Aside0.mk (Kd.R_below (tR HO277) hb)
      replace BK272 := bB BK272 hb
      replace BK273 := bB BK273 hb
      replace BK278 := bB BK278 hb
      replace HB := bH HB hb
      (try clear hb)
      (try clear hb2)
      (try clear hk)
      (try clear hi)
      refine hK.out _ _ ⟨(blk_cell BK272.out 0).trans rfl, (blk_cell BK272.out 1).trans rfl, (hbc HB hw281_0 :), (hbc HB hw281_1 :), (hbc HB hw281_2 :), (hbc HB hw281_3 :), (hbc HB hw281_4 :), (hbc HB hw281_5 :), (hbc HB hw282_0 :), (hbc HB hw282_1 :), (hbc HB hw282_2 :), (hbc HB hw282_3 :), (hbc HB hw282_4 :), (hbc HB hw282_5 :), (hbc HB hw283_0 :), (hbc HB hw283_1 :), (hbc HB hw283_2 :), (hbc HB hw283_3 :), (hbc HB hw283_4 :), (hbc HB hw283_5 :)⟩ (fun hHeld => ?_)
      clear hK K
      refine norm_ (tV : Act.put _ (some 17) _ = _) ?_
      refine pI 2 18 (bm 33 7) ?_
      refine pI 3 19 (bm 33 15) ?_
      refine pI 4 20 (bm 33 31) ?_
      refine pI 5 21 (bm 33 63) ?_
      refine pI 6 22 (bm 33 127) ?_
      refine pI 7 23 (bm 33 255) ?_
      refine pI 8 24 (bm 33 511) ?_
      refine pI 10 26 (bm 33 1535) ?_
      refine pT 9 25 (bm 33 2047) hHeld ?_
      refine pI 11 27 (bm 33 4095) ?_
      refine pI 12 28 (bm 33 8191) ?_
      refine pT 13 29 (bm 33 16383) hHeld ?_
      refine pI 14 30 (bm 33 32767) ?_
      refine pI 15 31 (bm 33 65535) ?_
      refine pI 16 32 (bm 33 131071) ?_
      refine pI 17 33 (bm 33 262143) ?_
      refine pI 18 34 (bm 33 524287) ?_
      refine pI 20 36 (bm 33 1572863) ?_
      refine pI 24 40 (bm 33 18350079) ?_
      refine pI 26 42 (bm 33 85458943) ?_
      refine pT 19 35 (bm 33 85983231) hHeld ?_
      refine pI 21 37 (bm 33 88080383) ?_
      refine pI 22 38 (bm 33 92274687) ?_
      refine pT 23 39 (bm 33 100663295) hHeld ?_
      refine pT 25 41 (bm 33 134217727) hHeld ?_
      refine pI 27 43 (bm 33 268435455) ?_
      refine pI 28 44 (bm 33 536870911) ?_
      refine pT 29 45 (bm 33 1073741823) hHeld ?_
      refine pI 30 46 (bm 33 2147483647) ?_
      refine pI 31 47 (bm 33 4294967295) ?_
      refine pI 32 48 (bm 33 8589934591) ?_
      refine done_ (done_of HT_.out (by kernel_rfl)) ?_
      obtain ⟨hcz61_0, hcz61_1, hfz61_0, hfz61_1⟩ := bc2 BK278.out
      have p46 : 0 ≤ (t279 : Int) := of_decide_eq_true tA
      have q46 : (t279 : Int) < ((t275.length : Int) : Int) := of_decide_eq_true tA
      obtain ⟨go46, co46, eo46, gb46, gl46, cl46, HG46⟩ := Kd.R_form HO277.out (by omega)
      (first | cases eo46 | (injection eo46 with ea_ en_ ec_; (first | subst ea_ | (injection ea_ with ea_; subst ea_)); subst ec_; clear en_))
      have GB46 := Aside0.mk gb46
      have GG46 := Aside0.mk HG46
      clear gb46 gl46 HG46
      obtain ⟨ce46, hcl46, hM46, hcc46, hfr46⟩ := Kd.R_elem HO277.out z104 (t279 : Int) p46 q46
      obtain rfl := k104_openM hM46
      have hx46_0 : w60.cell? ⟨go46, (t279 : Int).toNat * 6, none⟩ = some (.int .i64 ((rd_T104 t275 t279).f0)) := hcc46 0 _ rfl
      have hx46_1 : w60.cell? ⟨go46, (t279 : Int).toNat * 6 + 1, none⟩ = some (.int .i64 ((rd_T104 t275 t279).f1)) := hcc46 1 _ rfl
      have hx46_2 : w60.cell? ⟨go46, (t279 : Int).toNat * 6 + 2, none⟩ = some (.int .i64 ((rd_T104 t275 t279).f2)) := hcc46 2 _ rfl
      have hx46_3 : w60.cell? ⟨go46, (t279 : Int).toNat * 6 + 3, none⟩ = some (.int .i64 ((rd_T104 t275 t279).f3)) := hcc46 3 _ rfl
      have hx46_4 : w60.cell? ⟨go46, (t279 : Int).toNat * 6 + 4, none⟩ = some (.int .i64 ((rd_T104 t275 t279).f4)) := hcc46 4 _ rfl
      have hx46_5 : w60.cell? ⟨go46, (t279 : Int).toNat * 6 + 5, none⟩ = some (.int .i64 ((rd_T104 t275 t279).f5)) := hcc46 5 _ rfl
      have hf46_0 : w60.frozen? ⟨go46, (t279 : Int).toNat * 6, none⟩ = false := hfr46 0
      have hf46_1 : w60.frozen? ⟨go46, (t279 : Int).toNat * 6 + 1, none⟩ = false := hfr46 1
      have hf46_2 : w60.frozen? ⟨go46, (t279 : Int).toNat * 6 + 2, none⟩ = false := hfr46 2
      have hf46_3 : w60.frozen? ⟨go46, (t279 : Int).toNat * 6 + 3, none⟩ = false := hfr46 3
      have hf46_4 : w60.frozen? ⟨go46, (t279 : Int).toNat * 6 + 4, none⟩ = false := hfr46 4
      have hf46_5 : w60.frozen? ⟨go46, (t279 : Int).toNat * 6 + 5, none⟩ = false := hfr46 5
      clear hcl46 hcc46 hfr46 hM46
      replace p46 := eq_true p46
      replace q46 := eq_true q46
      have HX62 := Aside0.mk (show Kd.R k104 104 w60 w.heap.size (fun _ => True) (.slice (some ⟨go46, 0, none⟩) t275.length co56) t275 from (tR HO277))
      obtain ⟨ce62, hcl62, hM62, hcc62, hfr62⟩ := Kd.R_elem HX62.out z104 (t279 : Int) (of_decide_eq_true tA) (by have h_ : (t279 : Int) < ((t275.length : Int) : Int) := of_decide_eq_true tA; first | exact h_ | (have e_ := (Kd.R_reads' HO277.out).1; omega) | simpa using h_)
      obtain rfl := k104_openM hM62
      have HP62 := Kd.R_seg HX62.out (t279 : Int) (of_decide_eq_true tA) (by have h_ : (t279 : Int) < ((t275.length : Int) : Int) := of_decide_eq_true tA; first | exact h_ | (have e_ := (Kd.R_reads' HO277.out).1; omega) | simpa using h_) (seg := [.int .i64 3]) (j := 5) hcl62 hcc62 (show 6 ≤ 6 from by decide) (x' := (⟨(rd_T104 t275 t279).f0, (rd_T104 t275 t279).f1, (rd_T104 t275 t279).f2, (rd_T104 t275 t279).f3, (rd_T104 t275 t279).f4, 3⟩ : S104)) (k104_mkM _ _ _ (⟨(rd_T104 t275 t279).f0, (rd_T104 t275 t279).f1, (rd_T104 t275 t279).f2, (rd_T104 t275 t279).f3, (rd_T104 t275 t279).f4, 3⟩ : S104) ) (fun _ hk => hk)
      have hx62_5 := hcc62 5 _ rfl
      (try simp only [show (k104).sz = 6 from rfl, Nat.mul_one, Nat.add_zero] at hx62_5)
      have hf62_5 := hfr62 5
      (try simp only [show (k104).sz = 6 from rfl, Nat.mul_one, Nat.add_zero] at hf62_5)
      clear hcl62 hcc62 hfr62 hM62
      try go_wp2_with (first | ((with_reducible refine gate_store (t := 3) (p := 54) rfl ?_); refine store_event (t := 3) (p := 54) (v := ?vo_w63) (w1 := (w60.setCell ⟨go46, (t279 : Int).toNat * 6 + 5, none⟩ (.int .i64 3))) ?hg ?ho ?hn ?hr ?_; (case ho => rfl); (case hg => rfl); (case hn => rfl); (case hr => first | (go_simp; done) | (go_simp; rfl)); intro w63 hw; have hg : w60.grownBy w63 (some go46) := (by rw [hw]; exact HP62.2); have hp_ : Kd.R k104 104 w63 w.heap.size (fun _ => True) (.slice (some ⟨go46, 0, none⟩) t275.length co56) y284 := (by rw [hw, Ny284.out]; exact HP62.1); clear HP62; replace BK272 := Aside0.mk (blk_grown (g := gb272) (o := .cells #[.int .i64 a0_0, .slice (some ad281) l0_1.length c0_1] 35 (0, 0)) (tK BK272) hg (Kd.R_ne HO277.out BK272.out (by decide))); replace BK273 := Aside0.mk (blk_grown (g := gb273) (o := .cells #[.int .i64 0, .slice none 0 0] 35 (0, 0)) (tK BK273) hg (Kd.R_ne HO277.out BK273.out (by decide))); replace BK278 := Aside0.mk (blk_grown (g := gb278) (o := .cells #[.int .i64 t274, .slice (some ⟨go46, 0, none⟩) t275.length co56] 35 (0, 0)) (tK BK278) hg (Kd.R_ne HO277.out BK278.out (by decide))); replace HO277 := Aside0.mk (hp_); replace HB := Aside0.mk ((by rw [hw]; exact below_set (HB.out) GB46.out : Below w.heap.size w w63)); clear hg hw hp_))
      replace HO277 := Aside0.mk (Kd.R_drew HO277.out)
      replace BK272 := Aside0.mk (blk_drew BK272.out)
      replace BK273 := Aside0.mk (blk_drew BK273.out)
      replace BK278 := Aside0.mk (blk_drew BK278.out)
      replace HB := Aside0.mk (below_drew1 HB.out)
      have p285 : 0 ≤ (t279 : Int) := of_decide_eq_true tA
      have q285 : t279 < (l0_1.length : Int) := of_decide_eq_true tA
      obtain ⟨ad285, e285, hx285_0, hx285_1, hx285_2, hx285_3, hx285_4, hx285_5⟩ := at_T104 HR0_1.out t279 p285 q285
      have hw285_5 := hx285_5
      have hw285_4 := hx285_4
      have hw285_3 := hx285_3
      have hw285_2 := hx285_2
      have hw285_1 := hx285_1
      have hw285_0 := hx285_0
      obtain rfl : ad281 = ad285 := (by injection e285)
      replace hx285_0 := hbc HB hx285_0
      replace hx285_1 := hbc HB hx285_1
      replace hx285_2 := hbc HB hx285_2
      replace hx285_3 := hbc HB hx285_3
      replace hx285_4 := hbc HB hx285_4
      replace hx285_5 := hbc HB hx285_5
      replace p285 := eq_true p285
      replace q285 := eq_true q285
      refine start_ (n := 10) (S := fun w' => w'.cell? ⟨gb278, 0, none⟩ = some (.int .i64 t274) ∧ w'.cell? ⟨gb278, 1, none⟩ = some (.slice (some ⟨go46, 0, none⟩) t275.length co56) ∧ w'.cell? ⟨gb272, 0, none⟩ = some (.int .i64 a0_0) ∧ w'.cell? ⟨gb272, 1, none⟩ = some (.slice (some ad281) l0_1.length c0_1) ∧ w'.cell? (ad281.add ((t279).toNat * 6)) = some (.int .i64 ((rd_T104 l0_1 t279).f0)) ∧ w'.cell? ⟨(ad281.add ((t279).toNat * 6)).block, (ad281.add ((t279).toNat * 6)).off + 1, none⟩ = some (.int .i64 ((rd_T104 l0_1 t279).f1)) ∧ w'.cell? ⟨(ad281.add ((t279).toNat * 6)).block, (ad281.add ((t279).toNat * 6)).off + 2, none⟩ = some (.int .i64 ((rd_T104 l0_1 t279).f2)) ∧ w'.cell? ⟨(ad281.add ((t279).toNat * 6)).block, (ad281.add ((t279).toNat * 6)).off + 3, none⟩ = some (.int .i64 ((rd_T104 l0_1 t279).f3)) ∧ w'.cell? ⟨(ad281.add ((t279).toNat * 6)).block, (ad281.add ((t279).toNat * 6)).off + 4, none⟩ = some (.int .i64 ((rd_T104 l0_1 t279).f4)) ∧ w'.cell? ⟨(ad281.add ((t279).toNat * 6)).block, (ad281.add ((t279).toNat * 6)).off + 5, none⟩ = some (.int .i64 ((rd_T104 l0_1 t279).f5))) (ds := []) (bm 10 0) (by kernel_rfl) rfl (by kernel_rfl) ⟨(blk_cell BK278.out 0).trans rfl, (blk_cell BK278.out 1).trans rfl, (blk_cell BK272.out 0).trans rfl, (blk_cell BK272.out 1).trans rfl, (hbc HB hw285_0 :), (hbc HB hw285_1 :), (hbc HB hw285_2 :), (hbc HB hw285_3 :), (hbc HB hw285_4 :), (hbc HB hw285_5 :)⟩ (fun hHeld => ?_); refine with_tabW spec_CompleteClaim.tab6 spec_CompleteClaim.bits6 (fun HT_ HW_ => ?_)
      generalize w63.drew = w64 at HO277 BK272 BK273 BK278 HB hx285_0 hx285_1 hx285_2 hx285_3 hx285_4 hx285_5 hHeld ⊢
      refine pI 1 56 (bm 10 2) ?_
      refine pI 3 58 (bm 10 10) ?_
      refine pT 0 55 (bm 10 11) hHeld ?_
      refine pT 2 57 (bm 10 15) hHeld ?_
      refine pI 4 59 (bm 10 31) ?_
      refine pI 5 60 (bm 10 63) ?_
      refine pT 6 61 (bm 10 127) hHeld ?_
      refine one_ (i := 7) (N := none) (bm 10 255) rfl rfl (one_of HT_.out (by kernel_rfl)) (by decide) (fun K hK => ?_)
      have hs65 : w64.cell? ⟨gb273, 0, none⟩ = some (.int .i64 0) := (blk_cell BK273.out 0).trans rfl
      have hfs65 := blk_frozen BK273.out 0
      have hns65_0 := NB272_273.out
      have hns65_2 := NB278_273.out
      have hms65_0 := NB273_272.out
      have hms65_2 := NB273_278.out
      have hs66 : w64.cell? ⟨gb273, 1, none⟩ = some (.slice none 0 0) := (blk_cell BK273.out 1).trans rfl
      have hfs66 := blk_frozen BK273.out 1
      have hns66_0 := NB272_273.out
      have hns66_2 := NB278_273.out
      have hms66_0 := NB273_272.out
      have hms66_2 := NB273_278.out
      refine skip_ (w1 := ?_) (by rfl) rfl ?_ ?_
      rotate_left
      ·go_simp
       rfl
      refine hK.out _ _ ⟨((cell_far (p := ⟨gb273, _, none⟩) NB278_273.out _).trans (((cell_far (p := ⟨gb273, _, none⟩) NB278_273.out _).trans (hHeld.1)))), ((cell_far (p := ⟨gb273, _, none⟩) NB278_273.out _).trans (((cell_far (p := ⟨gb273, _, none⟩) NB278_273.out _).trans (hHeld.2.1)))), ((cell_far (p := ⟨gb273, _, none⟩) NB272_273.out _).trans (((cell_far (p := ⟨gb273, _, none⟩) NB272_273.out _).trans (hHeld.2.2.1)))), ((cell_far (p := ⟨gb273, _, none⟩) NB272_273.out _).trans (((cell_far (p := ⟨gb273, _, none⟩) NB272_273.out _).trans (hHeld.2.2.2.1)))), ((cell_far (p := ⟨gb273, _, none⟩) (by first | exact Nat.ne_of_lt (Nat.lt_of_lt_of_le (by have := World.block_lt_of_cell? _ _ hw285_0; first | rwa [add_block] at this | exact this) GW273.out) | (rw [add_block]; exact Nat.ne_of_lt (Nat.lt_of_lt_of_le (by have := World.block_lt_of_cell? _ _ hw285_0; first | rwa [add_block] at this | exact this) GW273.out)) | (show (Addr.add _ _).block ≠ _; rw [add_block]; exact Nat.ne_of_lt (Nat.lt_of_lt_of_le (by have := World.block_lt_of_cell? _ _ hw285_0; first | rwa [add_block] at this | exact this) GW273.out)) | (dsimp only; exact Nat.ne_of_lt (Nat.lt_of_lt_of_le (by have := World.block_lt_of_cell? _ _ hw285_0; first | rwa [add_block] at this | exact this) GW273.out))) _).trans (((cell_far (p := ⟨gb273, _, none⟩) (by first | exact Nat.ne_of_lt (Nat.lt_of_lt_of_le (by have := World.block_lt_of_cell? _ _ hw285_0; first | rwa [add_block] at this | exact this) GW273.out) | (rw [add_block]; exact Nat.ne_of_lt (Nat.lt_of_lt_of_le (by have := World.block_lt_of_cell? _ _ hw285_0; first | rwa [add_block] at this | exact this) GW273.out)) | (show (Addr.add _ _).block ≠ _; rw [add_block]; exact Nat.ne_of_lt (Nat.lt_of_lt_of_le (by have := World.block_lt_of_cell? _ _ hw285_0; first | rwa [add_block] at this | exact this) GW273.out)) | (dsimp only; exact Nat.ne_of_lt (Nat.lt_of_lt_of_le (by have := World.block_lt_of_cell? _ _ hw285_0; first | rwa [add_block] at this | exact this) GW273.out))) _).trans (hHeld.2.2.2.2.1)))), ((cell_far (p := ⟨gb273, _, none⟩) (by first | exact Nat.ne_of_lt (Nat.lt_of_lt_of_le (by have := World.block_lt_of_cell? _ _ hw285_1; first | rwa [add_block] at this | exact this) GW273.out) | (rw [add_block]; exact Nat.ne_of_lt (Nat.lt_of_lt_of_le (by have := World.block_lt_of_cell? _ _ hw285_1; first | rwa [add_block] at this | exact this) GW273.out)) | (show (Addr.add _ _).block ≠ _; rw [add_block]; exact Nat.ne_of_lt (Nat.lt_of_lt_of_le (by have := World.block_lt_of_cell? _ _ hw285_1; first | rwa [add_block] at this | exact this) GW273.out)) | (dsimp only; exact Nat.ne_of_lt (Nat.lt_of_lt_of_le (by have := World.block_lt_of_cell? _ _ hw285_1; first | rwa [add_block] at this | exact this) GW273.out))) _).trans (((cell_far (p := ⟨gb273, _, none⟩) (by first | exact Nat.ne_of_lt (Nat.lt_of_lt_of_le (by have := World.block_lt_of_cell? _ _ hw285_1; first | rwa [add_block] at this | exact this) GW273.out) | (rw [add_block]; exact Nat.ne_of_lt (Nat.lt_of_lt_of_le (by have := World.block_lt_of_cell? _ _ hw285_1; first | rwa [add_block] at this | exact this) GW273.out)) | (show (Addr.add _ _).block ≠ _; rw [add_block]; exact Nat.ne_of_lt (Nat.lt_of_lt_of_le (by have := World.block_lt_of_cell? _ _ hw285_1; first | rwa [add_block] at this | exact this) GW273.out)) | (dsimp only; exact Nat.ne_of_lt (Nat.lt_of_lt_of_le (by have := World.block_lt_of_cell? _ _ hw285_1; first | rwa [add_block] at this | exact this) GW273.out))) _).trans (hHeld.2.2.2.2.2.1)))), ((cell_far (p := ⟨gb273, _, none⟩) (by first | exact Nat.ne_of_lt (Nat.lt_of_lt_of_le (by have := World.block_lt_of_cell? _ _ hw285_2; first | rwa [add_block] at this | exact this) GW273.out) | (rw [add_block]; exact Nat.ne_of_lt (Nat.lt_of_lt_of_le (by have := World.block_lt_of_cell? _ _ hw285_2; first | rwa [add_block] at this | exact this) GW273.out)) | (show (Addr.add _ _).block ≠ _; rw [add_block]; exact Nat.ne_of_lt (Nat.lt_of_lt_of_le (by have := World.block_lt_of_cell? _ _ hw285_2; first | rwa [add_block] at this | exact this) GW273.out)) | (dsimp only; exact Nat.ne_of_lt (Nat.lt_of_lt_of_le (by have := World.block_lt_of_cell? _ _ hw285_2; first | rwa [add_block] at this | exact this) GW273.out))) _).trans (((cell_far (p := ⟨gb273, _, none⟩) (by first | exact Nat.ne_of_lt (Nat.lt_of_lt_of_le (by have := World.block_lt_of_cell? _ _ hw285_2; first | rwa [add_block] at this | exact this) GW273.out) | (rw [add_block]; exact Nat.ne_of_lt (Nat.lt_of_lt_of_le (by have := World.block_lt_of_cell? _ _ hw285_2; first | rwa [add_block] at this | exact this) GW273.out)) | (show (Addr.add _ _).block ≠ _; rw [add_block]; exact Nat.ne_of_lt (Nat.lt_of_lt_of_le (by have := World.block_lt_of_cell? _ _ hw285_2; first | rwa [add_block] at this | exact this) GW273.out)) | (dsimp only; exact Nat.ne_of_lt (Nat.lt_of_lt_of_le (by have := World.block_lt_of_cell? _ _ hw285_2; first | rwa [add_block] at this | exact this) GW273.out))) _).trans (hHeld.2.2.2.2.2.2.1)))), ((cell_far (p := ⟨gb273, _, none⟩) (by first | exact Nat.ne_of_lt (Nat.lt_of_lt_of_le (by have := World.block_lt_of_cell? _ _ hw285_3; first | rwa [add_block] at this | exact this) GW273.out) | (rw [add_block]; exact Nat.ne_of_lt (Nat.lt_of_lt_of_le (by have := World.block_lt_of_cell? _ _ hw285_3; first | rwa [add_block] at this | exact this) GW273.out)) | (show (Addr.add _ _).block ≠ _; rw [add_block]; exact Nat.ne_of_lt (Nat.lt_of_lt_of_le (by have := World.block_lt_of_cell? _ _ hw285_3; first | rwa [add_block] at this | exact this) GW273.out)) | (dsimp only; exact Nat.ne_of_lt (Nat.lt_of_lt_of_le (by have := World.block_lt_of_cell? _ _ hw285_3; first | rwa [add_block] at this | exact this) GW273.out))) _).trans (((cell_far (p := ⟨gb273, _, none⟩) (by first | exact Nat.ne_of_lt (Nat.lt_of_lt_of_le (by have := World.block_lt_of_cell? _ _ hw285_3; first | rwa [add_block] at this | exact this) GW273.out) | (rw [add_block]; exact Nat.ne_of_lt (Nat.lt_of_lt_of_le (by have := World.block_lt_of_cell? _ _ hw285_3; first | rwa [add_block] at this | exact this) GW273.out)) | (show (Addr.add _ _).block ≠ _; rw [add_block]; exact Nat.ne_of_lt (Nat.lt_of_lt_of_le (by have := World.block_lt_of_cell? _ _ hw285_3; first | rwa [add_block] at this | exact this) GW273.out)) | (dsimp only; exact Nat.ne_of_lt (Nat.lt_of_lt_of_le (by have := World.block_lt_of_cell? _ _ hw285_3; first | rwa [add_block] at this | exact this) GW273.out))) _).trans (hHeld.2.2.2.2.2.2.2.1)))), ((cell_far (p := ⟨gb273, _, none⟩) (by first | exact Nat.ne_of_lt (Nat.lt_of_lt_of_le (by have := World.block_lt_of_cell? _ _ hw285_4; first | rwa [add_block] at this | exact this) GW273.out) | (rw [add_block]; exact Nat.ne_of_lt (Nat.lt_of_lt_of_le (by have := World.block_lt_of_cell? _ _ hw285_4; first | rwa [add_block] at this | exact this) GW273.out)) | (show (Addr.add _ _).block ≠ _; rw [add_block]; exact Nat.ne_of_lt (Nat.lt_of_lt_of_le (by have := World.block_lt_of_cell? _ _ hw285_4; first | rwa [add_block] at this | exact this) GW273.out)) | (dsimp only; exact Nat.ne_of_lt (Nat.lt_of_lt_of_le (by have := World.block_lt_of_cell? _ _ hw285_4; first | rwa [add_block] at this | exact this) GW273.out))) _).trans (((cell_far (p := ⟨gb273, _, none⟩) (by first | exact Nat.ne_of_lt (Nat.lt_of_lt_of_le (by have := World.block_lt_of_cell? _ _ hw285_4; first | rwa [add_block] at this | exact this) GW273.out) | (rw [add_block]; exact Nat.ne_of_lt (Nat.lt_of_lt_of_le (by have := World.block_lt_of_cell? _ _ hw285_4; first | rwa [add_block] at this | exact this) GW273.out)) | (show (Addr.add _ _).block ≠ _; rw [add_block]; exact Nat.ne_of_lt (Nat.lt_of_lt_of_le (by have := World.block_lt_of_cell? _ _ hw285_4; first | rwa [add_block] at this | exact this) GW273.out)) | (dsimp only; exact Nat.ne_of_lt (Nat.lt_of_lt_of_le (by have := World.block_lt_of_cell? _ _ hw285_4; first | rwa [add_block] at this | exact this) GW273.out))) _).trans (hHeld.2.2.2.2.2.2.2.2.1)))), ((cell_far (p := ⟨gb273, _, none⟩) (by first | exact Nat.ne_of_lt (Nat.lt_of_lt_of_le (by have := World.block_lt_of_cell? _ _ hw285_5; first | rwa [add_block] at this | exact this) GW273.out) | (rw [add_block]; exact Nat.ne_of_lt (Nat.lt_of_lt_of_le (by have := World.block_lt_of_cell? _ _ hw285_5; first | rwa [add_block] at this | exact this) GW273.out)) | (show (Addr.add _ _).block ≠ _; rw [add_block]; exact Nat.ne_of_lt (Nat.lt_of_lt_of_le (by have := World.block_lt_of_cell? _ _ hw285_5; first | rwa [add_block] at this | exact this) GW273.out)) | (dsimp only; exact Nat.ne_of_lt (Nat.lt_of_lt_of_le (by have := World.block_lt_of_cell? _ _ hw285_5; first | rwa [add_block] at this | exact this) GW273.out))) _).trans (((cell_far (p := ⟨gb273, _, none⟩) (by first | exact Nat.ne_of_lt (Nat.lt_of_lt_of_le (by have := World.block_lt_of_cell? _ _ hw285_5; first | rwa [add_block] at this | exact this) GW273.out) | (rw [add_block]; exact Nat.ne_of_lt (Nat.lt_of_lt_of_le (by have := World.block_lt_of_cell? _ _ hw285_5; first | rwa [add_block] at this | exact this) GW273.out)) | (show (Addr.add _ _).block ≠ _; rw [add_block]; exact Nat.ne_of_lt (Nat.lt_of_lt_of_le (by have := World.block_lt_of_cell? _ _ hw285_5; first | rwa [add_block] at this | exact this) GW273.out)) | (dsimp only; exact Nat.ne_of_lt (Nat.lt_of_lt_of_le (by have := World.block_lt_of_cell? _ _ hw285_5; first | rwa [add_block] at this | exact this) GW273.out))) _).trans (hHeld.2.2.2.2.2.2.2.2.2))))⟩ (fun hHeld => ?_)
      clear hK K
      refine pI 8 7 (bm 10 511) ?_
      refine pI 9 8 (bm 10 1023) ?_
      refine done_ (done_of HT_.out (by kernel_rfl)) ?_
      try go_wp2
      refine bodyPost_ret (results_ctt rfl _ _ gb273 35 #[.int .i64 t274, .slice (some ⟨go46, 0, none⟩) t275.length co56] (0, 0) _ rfl (by (with_reducible repeat (first | refine blk_drewN ?_ _ | refine blk_drew ?_ | refine blk_alloc ?_ _)); refine blk_put (cs := #[.int .i64 t274, .slice none 0 0]) ?_ 1 _ rfl; (with_reducible repeat (first | refine blk_drewN ?_ _ | refine blk_drew ?_ | refine blk_alloc ?_ _)); refine blk_put (cs := #[.int .i64 0, .slice none 0 0]) ?_ 0 _ rfl; (with_reducible repeat (first | refine blk_drewN ?_ _ | refine blk_drew ?_ | refine blk_alloc ?_ _)); exact BK273.out) Try.underlying35 rfl (by kernel_rfl)) rfl ?_
      exact ⟨_, tE, by (with_reducible repeat (first | apply Kd.R_alloc | apply Kd.R_drewN | apply Kd.R_drew)); exact Kd.R_mono (Kd.R_far (p := ⟨gb273, 1, none⟩) (Kd.R_far (p := ⟨gb273, 0, none⟩) (Kd.R_types HO277.out BK273.out (by decide)) (fun _ hk => hk.2) (.int .i64 t274)) (fun _ hk => hk.2) (.slice (some ⟨go46, 0, none⟩) t275.length co56)) (fun _ hk => trivial), tB⟩
     rw [if_neg c45] at H
     exact absurd H (by simp)
    rw [if_neg c27] at H
    have c27b0 : (((rd_T104 l0_1 t279).f5) == 1) = false := beq_eq_false_iff_ne.mpr c27
    have c27b1 : (((rd_T104 l0_1 t279).f5) != 1) = true := bne_iff_ne.mpr c27
    simp only [Option.some.injEq, Prod.mk.injEq] at H
    obtain ⟨rfl, rfl, rfl, rfl⟩ := H
    go_enter Try.func21, Try.ntmps21
    try go_wp2_with (first | ((with_reducible refine gate_dst (N := 3) rfl ?_); refine box_event ?hg (N := 3) ?hd (cs := #[.int .i64 a0_0, .slice A0_1 l0_1.length c0_1]) (t := 35) ?hr ?_; (case hd => rfl); (case hg => rfl); (case hr => exact tG); intro gb272 hg w67 hbox hb; have BK272 := Aside0.mk (hbox); have GW272 := gW HB hg; have GE272 := gW HB hg; replace HB := bH HB hb; clear hb hbox hg) | ((with_reducible refine gate_dst (N := 6) rfl ?_); refine box_event ?hg (N := 6) ?hd (cs := #[.int .i64 0, .slice none 0 0]) (t := 35) ?hr ?_; (case hd => rfl); (case hg => rfl); (case hr => exact tG); intro gb273 hg w68 hbox hb; have BK273 := Aside0.mk (hbox); have GW273 := gW HB hg; have GE273 := gW HB hg; replace HB := bH HB hb; have NB272_273 := nL BK272 hg; have NB273_272 := nR BK272 hg; replace BK272 := bB BK272 hb; clear hb hbox hg; have hnb69 := NB272_273.out; have hnc69 := NB273_272.out; obtain ⟨hcz70_0, hcz70_1, hfz70_0, hfz70_1⟩ := bc2 BK272.out) | ((with_reducible refine gate_callee (f := 72) rfl ?_); refine goesL_ (some 12) rfl rfl Try.func72 (by kernel_rfl) rfl #[.agg #[.int .i64 a0_0, .slice A0_1 l0_1.length c0_1]] rfl tL ?_; (with_reducible refine (spec_l28Copy.calls a0_0 _ _ l0_1 t274 t275 _ ?side1 ?side2 A4.out).mono ?_); (case side1 => exact tC (Kd.C_below HR0_1.out HB.out)); (case side2 => exact HC0_1.out); rintro e w71 ⟨v276, rfl, ho0, hb⟩; refine ⟨_, rfl, ?_⟩; have HO277 := Aside0.mk (Kd.R_lower ho0 (below_size tB)); replace BK272 := bB BK272 hb; replace BK273 := bB BK273 hb; replace HB := bH HB hb; (try clear hb); (try clear hb2); (try clear hk); (try clear hi); (try clear ho0)) | ((with_reducible refine gate_dst (N := 9) rfl ?_); refine box_event ?hg (N := 9) ?hd (cs := #[.int .i64 0, .slice none 0 0]) (t := 35) ?hr ?_; (case hd => rfl); (case hg => rfl); (case hr => exact tG); intro gb278 hg w72 hbox hb; replace HO277 := Aside0.mk (Kd.R_below (tR HO277) hb); have BK278 := Aside0.mk (hbox); have GW278 := gW HB hg; have GE278 := gW HB hg; replace HB := bH HB hb; have NB272_278 := nL BK272 hg; have NB278_272 := nR BK272 hg; replace BK272 := bB BK272 hb; have NB273_278 := nL BK273 hg; have NB278_273 := nR BK273 hg; replace BK273 := bB BK273 hb; clear hb hbox hg; have hnb73 := NB278_272.out; have hnc73 := NB272_278.out; have hnb74 := NB278_273.out; have hnc74 := NB273_278.out; obtain ⟨hcz75_0, hcz75_1, hfz75_0, hfz75_1⟩ := bc2 BK278.out; obtain ⟨Ao76, co76, eo76⟩ := Kd.R_slice HO277.out; subst eo76; obtain ⟨hcz77_0, hcz77_1, hfz77_0, hfz77_1⟩ := bc2 BK272.out) | ((with_reducible refine gate_callee (f := 73) rfl ?_); refine goesL_ (some 15) rfl rfl Try.func73 (by kernel_rfl) rfl #[.agg #[.int .i64 a0_0, .slice A0_1 l0_1.length c0_1], .int .i64 a1] rfl tL ?_; (with_reducible refine (spec_l28Find.calls k a0_0 _ _ l0_1 a1 t279 _ ?side1 ?side2 A5.out).mono ?_); (case side1 => exact Kd.C_below HR0_1.out tB); (case side2 => exact HC0_1.out); rintro e w78 ⟨rfl, hb⟩; refine ⟨_, rfl, ?_⟩; replace HO277 := Aside0.mk (Kd.R_below (kR HO277 BK278) hb); replace BK272 := bF NB272_278 BK272 hb; replace BK273 := bF NB273_278 BK273 hb; replace BK278 := Aside0.mk (blk_below (g := gb278) (o := .cells #[.int .i64 t274, .slice Ao76 t275.length co76] 35 (0, 0)) (by (with_reducible repeat (first | refine blk_drewN ?_ _ | refine blk_drew ?_ | refine blk_alloc ?_ _)); refine blk_put (cs := #[.int .i64 t274, .slice none 0 0]) ?_ 1 _ rfl; (with_reducible repeat (first | refine blk_drewN ?_ _ | refine blk_drew ?_ | refine blk_alloc ?_ _)); refine blk_put (cs := #[.int .i64 0, .slice none 0 0]) ?_ 0 _ rfl; (with_reducible repeat (first | refine blk_drewN ?_ _ | refine blk_drew ?_ | refine blk_alloc ?_ _)); exact BK278.out) hb); replace HB := bH HB hb; (try clear hb); (try clear hb2); (try clear hk); (try clear hi)))
    replace HO277 := Aside0.mk (Kd.R_drew HO277.out)
    replace BK272 := Aside0.mk (blk_drew BK272.out)
    replace BK273 := Aside0.mk (blk_drew BK273.out)
    replace BK278 := Aside0.mk (blk_drew BK278.out)
    replace HB := Aside0.mk (below_drew1 HB.out)
    have p281 : 0 ≤ (t279 : Int) := of_decide_eq_true tA
    have q281 : t279 < (l0_1.length : Int) := of_decide_eq_true tA
    obtain ⟨ad281, e281, hx281_0, hx281_1, hx281_2, hx281_3, hx281_4, hx281_5⟩ := at_T104 HR0_1.out t279 p281 q281
    have hw281_5 := hx281_5
    have hw281_4 := hx281_4
    have hw281_3 := hx281_3
    have hw281_2 := hx281_2
    have hw281_1 := hx281_1
    have hw281_0 := hx281_0
    cases e281
    replace hx281_0 := hbc HB hx281_0
    replace hx281_1 := hbc HB hx281_1
    replace hx281_2 := hbc HB hx281_2
    replace hx281_3 := hbc HB hx281_3
    replace hx281_4 := hbc HB hx281_4
    replace hx281_5 := hbc HB hx281_5
    replace p281 := eq_true p281
    replace q281 := eq_true q281
    refine start_ (n := 33) (S := fun w' => w'.cell? ⟨gb272, 0, none⟩ = some (.int .i64 a0_0) ∧ w'.cell? ⟨gb272, 1, none⟩ = some (.slice (some ad281) l0_1.length c0_1) ∧ w'.cell? (ad281.add ((t279).toNat * 6)) = some (.int .i64 ((rd_T104 l0_1 t279).f0)) ∧ w'.cell? ⟨(ad281.add ((t279).toNat * 6)).block, (ad281.add ((t279).toNat * 6)).off + 1, none⟩ = some (.int .i64 ((rd_T104 l0_1 t279).f1)) ∧ w'.cell? ⟨(ad281.add ((t279).toNat * 6)).block, (ad281.add ((t279).toNat * 6)).off + 2, none⟩ = some (.int .i64 ((rd_T104 l0_1 t279).f2)) ∧ w'.cell? ⟨(ad281.add ((t279).toNat * 6)).block, (ad281.add ((t279).toNat * 6)).off + 3, none⟩ = some (.int .i64 ((rd_T104 l0_1 t279).f3)) ∧ w'.cell? ⟨(ad281.add ((t279).toNat * 6)).block, (ad281.add ((t279).toNat * 6)).off + 4, none⟩ = some (.int .i64 ((rd_T104 l0_1 t279).f4)) ∧ w'.cell? ⟨(ad281.add ((t279).toNat * 6)).block, (ad281.add ((t279).toNat * 6)).off + 5, none⟩ = some (.int .i64 ((rd_T104 l0_1 t279).f5))) (ds := []) (bm 33 0) (by kernel_rfl) rfl (by kernel_rfl) ⟨(blk_cell BK272.out 0).trans rfl, (blk_cell BK272.out 1).trans rfl, (hbc HB hw281_0 :), (hbc HB hw281_1 :), (hbc HB hw281_2 :), (hbc HB hw281_3 :), (hbc HB hw281_4 :), (hbc HB hw281_5 :)⟩ (fun hHeld => ?_); refine with_tabW spec_CompleteClaim.tab3 spec_CompleteClaim.bits3 (fun HT_ HW_ => ?_)
    generalize w78.drew = w79 at HO277 BK272 BK273 BK278 HB hx281_0 hx281_1 hx281_2 hx281_3 hx281_4 hx281_5 hHeld ⊢
    refine pT 0 16 (bm 33 1) hHeld ?_
    refine one_ (i := 1) (N := some 17) (bm 33 3) rfl rfl (one_of HT_.out (by kernel_rfl)) (by decide) (fun K hK => ?_)
    refine goes_ Try.func74 (by kernel_rfl) rfl #[.agg #[.int .i64 a0_0, .slice (some ad281) l0_1.length c0_1]] (by rfl) rfl rfl tL ?_
    with_reducible refine (spec_IsValidClaims.calls k a0_0 _ _ l0_1 true _ ?side1 ?side2 A6.out).mono ?_
    (case side1 => exact tC (Kd.C_below HR0_1.out HB.out))
    (case side2 => exact HC0_1.out)
    rintro e w80 ⟨rfl, hb⟩
    refine ⟨_, rfl, ?_⟩
    replace HO277 := Aside0.mk (Kd.R_below (tR HO277) hb)
    replace BK272 := bB BK272 hb
    replace BK273 := bB BK273 hb
    replace BK278 := bB BK278 hb
    replace HB := bH HB hb
    (try clear hb)
    (try clear hb2)
    (try clear hk)
    (try clear hi)
    refine hK.out _ _ ⟨(blk_cell BK272.out 0).trans rfl, (blk_cell BK272.out 1).trans rfl, (hbc HB hw281_0 :), (hbc HB hw281_1 :), (hbc HB hw281_2 :), (hbc HB hw281_3 :), (hbc HB hw281_4 :), (hbc HB hw281_5 :)⟩ (fun hHeld => ?_)
    clear hK K
    refine norm_ (tV : Act.put _ (some 17) _ = _) ?_
    refine pI 2 18 (bm 33 7) ?_
    refine pI 3 19 (bm 33 15) ?_
    refine pI 4 20 (bm 33 31) ?_
    refine pI 5 21 (bm 33 63) ?_
    refine pI 6 22 (bm 33 127) ?_
    refine pI 7 23 (bm 33 255) ?_
    refine pI 8 24 (bm 33 511) ?_
    refine pI 10 26 (bm 33 1535) ?_
    refine pT 9 25 (bm 33 2047) hHeld ?_
    refine pI 11 27 (bm 33 4095) ?_
    refine pI 12 28 (bm 33 8191) ?_
    refine pT 13 29 (bm 33 16383) hHeld ?_
    refine pI 14 30 (bm 33 32767) ?_
    refine pI 15 31 (bm 33 65535) ?_
    refine pI 16 32 (bm 33 131071) ?_
    refine pO 17 33 (bm 33 262143) ?_
    refine pO 18 34 (bm 33 524287) ?_
    refine pO 19 35 (bm 33 1048575) ?_
    refine pO 20 36 (bm 33 2097151) ?_
    refine pO 21 37 (bm 33 4194303) ?_
    refine pO 22 38 (bm 33 8388607) ?_
    refine pO 23 39 (bm 33 16777215) ?_
    refine pO 24 40 (bm 33 33554431) ?_
    refine pO 25 41 (bm 33 67108863) ?_
    refine pO 26 42 (bm 33 134217727) ?_
    refine pO 27 43 (bm 33 268435455) ?_
    refine pO 28 44 (bm 33 536870911) ?_
    refine pO 29 45 (bm 33 1073741823) ?_
    refine pO 30 46 (bm 33 2147483647) ?_
    refine pO 31 47 (bm 33 4294967295) ?_
    refine pI 32 48 (bm 33 8589934591) ?_
    refine done_ (done_of HT_.out (by kernel_rfl)) ?_
    obtain ⟨hcz81_0, hcz81_1, hfz81_0, hfz81_1⟩ := bc2 BK278.out
    obtain ⟨hcz82_0, hcz82_1, hfz82_0, hfz82_1⟩ := bc2 BK273.out
    try go_wp2
    refine bodyPost_ret (results_ctt rfl _ _ gb273 35 #[.int .i64 t274, .slice Ao76 t275.length co76] (0, 0) _ rfl (by (with_reducible repeat (first | refine blk_drewN ?_ _ | refine blk_drew ?_ | refine blk_alloc ?_ _)); refine blk_put (cs := #[.int .i64 t274, .slice none 0 0]) ?_ 1 _ rfl; (with_reducible repeat (first | refine blk_drewN ?_ _ | refine blk_drew ?_ | refine blk_alloc ?_ _)); refine blk_put (cs := #[.int .i64 0, .slice none 0 0]) ?_ 0 _ rfl; (with_reducible repeat (first | refine blk_drewN ?_ _ | refine blk_drew ?_ | refine blk_alloc ?_ _)); exact BK273.out) Try.underlying35 rfl (by kernel_rfl)) rfl ?_
    exact ⟨_, tE, by (with_reducible repeat (first | apply Kd.R_alloc | apply Kd.R_drewN | apply Kd.R_drew)); exact Kd.R_mono (Kd.R_far (p := ⟨gb273, 1, none⟩) (Kd.R_far (p := ⟨gb273, 0, none⟩) (Kd.R_types HO277.out BK273.out (by decide)) (fun _ hk => hk.2) (.int .i64 t274)) (fun _ hk => hk.2) (.slice Ao76 t275.length co76)) (fun _ hk => trivial), tB⟩
   rw [if_neg c26] at H
   exact absurd H (by simp)
  rw [if_neg c25] at H
  exact absurd H (by simp)
 replace c7 := Bool.eq_false_iff.mpr c7
 subst c7
 have H1 : (some (t274, t275, 0, false)) = some (r1, r2, r3, r4) := by rw [if_neg (show ¬ (false = true) by decide)] at H; exact H
 clear H
 have H := H1
 clear H1
 simp only [Option.some.injEq, Prod.mk.injEq] at H
 obtain ⟨rfl, rfl, rfl, rfl⟩ := H
 go_enter Try.func21, Try.ntmps21
 try go_wp2_with (first | ((with_reducible refine gate_dst (N := 3) rfl ?_); refine box_event ?hg (N := 3) ?hd (cs := #[.int .i64 a0_0, .slice A0_1 l0_1.length c0_1]) (t := 35) ?hr ?_; (case hd => rfl); (case hg => rfl); (case hr => exact tG); intro gb272 hg w83 hbox hb; have BK272 := Aside0.mk (hbox); have GW272 := gW HB hg; have GE272 := gW HB hg; replace HB := bH HB hb; clear hb hbox hg) | ((with_reducible refine gate_dst (N := 6) rfl ?_); refine box_event ?hg (N := 6) ?hd (cs := #[.int .i64 0, .slice none 0 0]) (t := 35) ?hr ?_; (case hd => rfl); (case hg => rfl); (case hr => exact tG); intro gb273 hg w84 hbox hb; have BK273 := Aside0.mk (hbox); have GW273 := gW HB hg; have GE273 := gW HB hg; replace HB := bH HB hb; have NB272_273 := nL BK272 hg; have NB273_272 := nR BK272 hg; replace BK272 := bB BK272 hb; clear hb hbox hg; have hnb85 := NB272_273.out; have hnc85 := NB273_272.out; obtain ⟨hcz86_0, hcz86_1, hfz86_0, hfz86_1⟩ := bc2 BK272.out) | ((with_reducible refine gate_callee (f := 72) rfl ?_); refine goesL_ (some 12) rfl rfl Try.func72 (by kernel_rfl) rfl #[.agg #[.int .i64 a0_0, .slice A0_1 l0_1.length c0_1]] rfl tL ?_; (with_reducible refine (spec_l28Copy.calls a0_0 _ _ l0_1 t274 t275 _ ?side1 ?side2 A4.out).mono ?_); (case side1 => exact tC (Kd.C_below HR0_1.out HB.out)); (case side2 => exact HC0_1.out); rintro e w87 ⟨v276, rfl, ho0, hb⟩; refine ⟨_, rfl, ?_⟩; have HO277 := Aside0.mk (Kd.R_lower ho0 (below_size tB)); replace BK272 := bB BK272 hb; replace BK273 := bB BK273 hb; replace HB := bH HB hb; (try clear hb); (try clear hb2); (try clear hk); (try clear hi); (try clear ho0)) | ((with_reducible refine gate_dst (N := 9) rfl ?_); refine box_event ?hg (N := 9) ?hd (cs := #[.int .i64 0, .slice none 0 0]) (t := 35) ?hr ?_; (case hd => rfl); (case hg => rfl); (case hr => exact tG); intro gb278 hg w88 hbox hb; replace HO277 := Aside0.mk (Kd.R_below (tR HO277) hb); have BK278 := Aside0.mk (hbox); have GW278 := gW HB hg; have GE278 := gW HB hg; replace HB := bH HB hb; have NB272_278 := nL BK272 hg; have NB278_272 := nR BK272 hg; replace BK272 := bB BK272 hb; have NB273_278 := nL BK273 hg; have NB278_273 := nR BK273 hg; replace BK273 := bB BK273 hb; clear hb hbox hg; have hnb89 := NB278_272.out; have hnc89 := NB272_278.out; have hnb90 := NB278_273.out; have hnc90 := NB273_278.out; obtain ⟨hcz91_0, hcz91_1, hfz91_0, hfz91_1⟩ := bc2 BK278.out; obtain ⟨Ao92, co92, eo92⟩ := Kd.R_slice HO277.out; subst eo92; obtain ⟨hcz93_0, hcz93_1, hfz93_0, hfz93_1⟩ := bc2 BK272.out) | ((with_reducible refine gate_callee (f := 73) rfl ?_); refine goesL_ (some 15) rfl rfl Try.func73 (by kernel_rfl) rfl #[.agg #[.int .i64 a0_0, .slice A0_1 l0_1.length c0_1], .int .i64 a1] rfl tL ?_; (with_reducible refine (spec_l28Find.calls k a0_0 _ _ l0_1 a1 t279 _ ?side1 ?side2 A5.out).mono ?_); (case side1 => exact Kd.C_below HR0_1.out tB); (case side2 => exact HC0_1.out); rintro e w94 ⟨rfl, hb⟩; refine ⟨_, rfl, ?_⟩; replace HO277 := Aside0.mk (Kd.R_below (kR HO277 BK278) hb); replace BK272 := bF NB272_278 BK272 hb; replace BK273 := bF NB273_278 BK273 hb; replace BK278 := Aside0.mk (blk_below (g := gb278) (o := .cells #[.int .i64 t274, .slice Ao92 t275.length co92] 35 (0, 0)) (by (with_reducible repeat (first | refine blk_drewN ?_ _ | refine blk_drew ?_ | refine blk_alloc ?_ _)); refine blk_put (cs := #[.int .i64 t274, .slice none 0 0]) ?_ 1 _ rfl; (with_reducible repeat (first | refine blk_drewN ?_ _ | refine blk_drew ?_ | refine blk_alloc ?_ _)); refine blk_put (cs := #[.int .i64 0, .slice none 0 0]) ?_ 0 _ rfl; (with_reducible repeat (first | refine blk_drewN ?_ _ | refine blk_drew ?_ | refine blk_alloc ?_ _)); exact BK278.out) hb); replace HB := bH HB hb; (try clear hb); (try clear hb2); (try clear hk); (try clear hi)))
 replace HO277 := Aside0.mk (Kd.R_drew HO277.out)
 replace BK272 := Aside0.mk (blk_drew BK272.out)
 replace BK273 := Aside0.mk (blk_drew BK273.out)
 replace BK278 := Aside0.mk (blk_drew BK278.out)
 replace HB := Aside0.mk (below_drew1 HB.out)
 refine start_ (n := 33) (S := fun w' => w'.cell? ⟨gb272, 0, none⟩ = some (.int .i64 a0_0) ∧ w'.cell? ⟨gb272, 1, none⟩ = some (.slice A0_1 l0_1.length c0_1)) (ds := []) (bm 33 0) (by kernel_rfl) rfl (by kernel_rfl) tH (fun hHeld => ?_); refine with_tabW spec_CompleteClaim.tab3 spec_CompleteClaim.bits3 (fun HT_ HW_ => ?_)
 generalize w94.drew = w95 at HO277 BK272 BK273 BK278 HB hHeld ⊢
 refine pT 0 16 (bm 33 1) hHeld ?_
 refine one_ (i := 1) (N := some 17) (bm 33 3) rfl rfl (one_of HT_.out (by kernel_rfl)) (by decide) (fun K hK => ?_)
 refine goes_ Try.func74 (by kernel_rfl) rfl #[.agg #[.int .i64 a0_0, .slice A0_1 l0_1.length c0_1]] (by rfl) rfl rfl tL ?_
 with_reducible refine (spec_IsValidClaims.calls k a0_0 _ _ l0_1 false _ ?side1 ?side2 A6.out).mono ?_
 (case side1 => exact tC (Kd.C_below HR0_1.out HB.out))
 (case side2 => exact HC0_1.out)
 rintro e w96 ⟨rfl, hb⟩
 refine ⟨_, rfl, ?_⟩
 replace HO277 := Aside0.mk (Kd.R_below (tR HO277) hb)
 replace BK272 := bB BK272 hb
 replace BK273 := bB BK273 hb
 replace BK278 := bB BK278 hb
 replace HB := bH HB hb
 (try clear hb)
 (try clear hb2)
 (try clear hk)
 (try clear hi)
 refine hK.out _ _ tH (fun hHeld => ?_)
 clear hK K
 refine norm_ (tV : Act.put _ (some 17) _ = _) ?_
 refine pI 2 18 (bm 33 7) ?_
 refine pI 3 19 (bm 33 15) ?_
 refine pO 4 20 (bm 33 31) ?_
 refine pO 5 21 (bm 33 63) ?_
 refine pI 6 22 (bm 33 127) ?_
 refine pI 7 23 (bm 33 255) ?_
 refine pO 8 24 (bm 33 511) ?_
 refine pO 9 25 (bm 33 1023) ?_
 refine pO 10 26 (bm 33 2047) ?_
 refine pO 11 27 (bm 33 4095) ?_
 refine pO 12 28 (bm 33 8191) ?_
 refine pO 13 29 (bm 33 16383) ?_
 refine pO 14 30 (bm 33 32767) ?_
 refine pI 15 31 (bm 33 65535) ?_
 refine pI 16 32 (bm 33 131071) ?_
 refine pO 17 33 (bm 33 262143) ?_
 refine pO 18 34 (bm 33 524287) ?_
 refine pO 19 35 (bm 33 1048575) ?_
 refine pO 20 36 (bm 33 2097151) ?_
 refine pO 21 37 (bm 33 4194303) ?_
 refine pO 22 38 (bm 33 8388607) ?_
 refine pO 23 39 (bm 33 16777215) ?_
 refine pO 24 40 (bm 33 33554431) ?_
 refine pO 25 41 (bm 33 67108863) ?_
 refine pO 26 42 (bm 33 134217727) ?_
 refine pO 27 43 (bm 33 268435455) ?_
 refine pO 28 44 (bm 33 536870911) ?_
 refine pO 29 45 (bm 33 1073741823) ?_
 refine pO 30 46 (bm 33 2147483647) ?_
 refine pO 31 47 (bm 33 4294967295) ?_
 refine pI 32 48 (bm 33 8589934591) ?_
 refine done_ (done_of HT_.out (by kernel_rfl)) ?_
 obtain ⟨hcz97_0, hcz97_1, hfz97_0, hfz97_1⟩ := bc2 BK278.out
 obtain ⟨hcz98_0, hcz98_1, hfz98_0, hfz98_1⟩ := bc2 BK273.out
 try go_wp2
 refine bodyPost_ret (results_ctt rfl _ _ gb273 35 #[.int .i64 t274, .slice Ao92 t275.length co92] (0, 0) _ rfl (by (with_reducible repeat (first | refine blk_drewN ?_ _ | refine blk_drew ?_ | refine blk_alloc ?_ _)); refine blk_put (cs := #[.int .i64 t274, .slice none 0 0]) ?_ 1 _ rfl; (with_reducible repeat (first | refine blk_drewN ?_ _ | refine blk_drew ?_ | refine blk_alloc ?_ _)); refine blk_put (cs := #[.int .i64 0, .slice none 0 0]) ?_ 0 _ rfl; (with_reducible repeat (first | refine blk_drewN ?_ _ | refine blk_drew ?_ | refine blk_alloc ?_ _)); exact BK273.out) Try.underlying35 rfl (by kernel_rfl)) rfl ?_
 exact ⟨_, tE, by (with_reducible repeat (first | apply Kd.R_alloc | apply Kd.R_drewN | apply Kd.R_drew)); exact Kd.R_mono (Kd.R_far (p := ⟨gb273, 1, none⟩) (Kd.R_far (p := ⟨gb273, 0, none⟩) (Kd.R_types HO277.out BK273.out (by decide)) (fun _ hk => hk.2) (.int .i64 t274)) (fun _ hk => hk.2) (.slice Ao92 t275.length co92)) (fun _ hk => trivial), tB⟩

end Go.Proofs.Ytjggdakbphjomaa.ZFnClaims
