/- The machine side: for each Go function a Lean function and the contract that the Go code answers as it does; printed by program (wip/tmpl/pprint.sh). -/
import Derived.Test.YtjggdakbphjomaaZFnClaimsx0
import Derived.Test.YtjggdakbphjomaaZFnClaimsx2
namespace Go.Proofs.Ytjggdakbphjomaa.ZFnClaims
open Go.RowKit Go.Proofs.YtjggdakbphjomaaW.PrintWords Go.Proofs.YtjggdakbphjomaaW.PrintLast Go.Proofs.YtjggdakbphjomaaW.PrintMore
attribute [local go_sem] max2_int min2_int max_two min_two max_three min_three max_four min_four   -- for this text's walks alone
set_option linter.unusedVariables false
set_option linter.unusedSimpArgs false

/-! ### impl_IsValidClaims: function 56 -/
mutual
def impl_IsValidClaims.j0 : Nat → Bool → Int → List (S104) → Option (Bool)
 | 0, _, _, _ => none
 | k + 1, x16, x102000, x102001 => if x16 = true then (some false) else (impl_IsValidClaims.l0 k x102001 (x102001.length : Int) 0 x102000 x102001)
def impl_IsValidClaims.l0 : Nat → List (S104) → Int → Int → Int → List (S104) → Option (Bool)
 | 0, _, _, _, _, _ => none
 | k + 1, x18, x19, x20, x102000, x102001 => if x20 < x19 then (if 0 ≤ x20 then (if x20 < (x18.length : Int) then ((impl_InRange.f ((rd_T104 x18 x20).f0) 0 (wrap64 (x102000 - 1))).bind fun t105 => (if t105 = true then (if x20 > 0 then (if 0 ≤ (wrap64 (x20 - 1)) then (if (wrap64 (x20 - 1)) < (x102001.length : Int) then (if ((rd_T104 x102001 (wrap64 (x20 - 1))).f0) ≥ ((rd_T104 x18 x20).f0) then (impl_IsValidClaims.j2 k x20 x18 x19 x20 true x102000 x102001 ((rd_T104 x18 x20).f0) ((rd_T104 x18 x20).f1) ((rd_T104 x18 x20).f2) ((rd_T104 x18 x20).f3) ((rd_T104 x18 x20).f4) ((rd_T104 x18 x20).f5)) else ((impl_InRange.f ((rd_T104 x18 x20).f1) 0 1000000).bind fun t107 => (if t107 = true then ((impl_InRange.f ((rd_T104 x18 x20).f3) 0 1000000).bind fun t108 => (if t108 = true then (if ((rd_T104 x18 x20).f4) = 30 then ((impl_InRange.f ((rd_T104 x18 x20).f5) 1 3).bind fun t109 => (impl_IsValidClaims.j2 k x20 x18 x19 x20 (!t109) x102000 x102001 ((rd_T104 x18 x20).f0) ((rd_T104 x18 x20).f1) ((rd_T104 x18 x20).f2) ((rd_T104 x18 x20).f3) ((rd_T104 x18 x20).f4) ((rd_T104 x18 x20).f5))) else (if ((rd_T104 x18 x20).f4) = 90 then ((impl_InRange.f ((rd_T104 x18 x20).f5) 1 3).bind fun t110 => (impl_IsValidClaims.j2 k x20 x18 x19 x20 (!t110) x102000 x102001 ((rd_T104 x18 x20).f0) ((rd_T104 x18 x20).f1) ((rd_T104 x18 x20).f2) ((rd_T104 x18 x20).f3) ((rd_T104 x18 x20).f4) ((rd_T104 x18 x20).f5))) else (impl_IsValidClaims.j2 k x20 x18 x19 x20 true x102000 x102001 ((rd_T104 x18 x20).f0) ((rd_T104 x18 x20).f1) ((rd_T104 x18 x20).f2) ((rd_T104 x18 x20).f3) ((rd_T104 x18 x20).f4) ((rd_T104 x18 x20).f5)))) else (impl_IsValidClaims.j2 k x20 x18 x19 x20 true x102000 x102001 ((rd_T104 x18 x20).f0) ((rd_T104 x18 x20).f1) ((rd_T104 x18 x20).f2) ((rd_T104 x18 x20).f3) ((rd_T104 x18 x20).f4) ((rd_T104 x18 x20).f5)))) else (impl_IsValidClaims.j2 k x20 x18 x19 x20 true x102000 x102001 ((rd_T104 x18 x20).f0) ((rd_T104 x18 x20).f1) ((rd_T104 x18 x20).f2) ((rd_T104 x18 x20).f3) ((rd_T104 x18 x20).f4) ((rd_T104 x18 x20).f5))))) else (none)) else (none)) else ((impl_InRange.f ((rd_T104 x18 x20).f1) 0 1000000).bind fun t111 => (if t111 = true then ((impl_InRange.f ((rd_T104 x18 x20).f3) 0 1000000).bind fun t112 => (if t112 = true then (if ((rd_T104 x18 x20).f4) = 30 then ((impl_InRange.f ((rd_T104 x18 x20).f5) 1 3).bind fun t113 => (impl_IsValidClaims.j2 k x20 x18 x19 x20 (!t113) x102000 x102001 ((rd_T104 x18 x20).f0) ((rd_T104 x18 x20).f1) ((rd_T104 x18 x20).f2) ((rd_T104 x18 x20).f3) ((rd_T104 x18 x20).f4) ((rd_T104 x18 x20).f5))) else (if ((rd_T104 x18 x20).f4) = 90 then ((impl_InRange.f ((rd_T104 x18 x20).f5) 1 3).bind fun t114 => (impl_IsValidClaims.j2 k x20 x18 x19 x20 (!t114) x102000 x102001 ((rd_T104 x18 x20).f0) ((rd_T104 x18 x20).f1) ((rd_T104 x18 x20).f2) ((rd_T104 x18 x20).f3) ((rd_T104 x18 x20).f4) ((rd_T104 x18 x20).f5))) else (impl_IsValidClaims.j2 k x20 x18 x19 x20 true x102000 x102001 ((rd_T104 x18 x20).f0) ((rd_T104 x18 x20).f1) ((rd_T104 x18 x20).f2) ((rd_T104 x18 x20).f3) ((rd_T104 x18 x20).f4) ((rd_T104 x18 x20).f5)))) else (impl_IsValidClaims.j2 k x20 x18 x19 x20 true x102000 x102001 ((rd_T104 x18 x20).f0) ((rd_T104 x18 x20).f1) ((rd_T104 x18 x20).f2) ((rd_T104 x18 x20).f3) ((rd_T104 x18 x20).f4) ((rd_T104 x18 x20).f5)))) else (impl_IsValidClaims.j2 k x20 x18 x19 x20 true x102000 x102001 ((rd_T104 x18 x20).f0) ((rd_T104 x18 x20).f1) ((rd_T104 x18 x20).f2) ((rd_T104 x18 x20).f3) ((rd_T104 x18 x20).f4) ((rd_T104 x18 x20).f5))))) else (impl_IsValidClaims.j2 k x20 x18 x19 x20 true x102000 x102001 ((rd_T104 x18 x20).f0) ((rd_T104 x18 x20).f1) ((rd_T104 x18 x20).f2) ((rd_T104 x18 x20).f3) ((rd_T104 x18 x20).f4) ((rd_T104 x18 x20).f5)))) else (none)) else (none)) else (some true)
def impl_IsValidClaims.j2 : Nat → Int → List (S104) → Int → Int → Bool → Int → List (S104) → Int → Int → Int → Int → Int → Int → Option (Bool)
 | 0, _, _, _, _, _, _, _, _, _, _, _, _, _ => none
 | k + 1, x3, x18, x19, x20, x75, x102000, x102001, x105000, x105001, x105002, x105003, x105004, x105005 => if x75 = true then (some false) else (if 0 ≤ x3 then (if x3 ≤ (x102001.length : Int) then ((some (x102001.take (x3 : Int).toNat : List (S104))).bind fun y115 => (impl_IsValidClaims.l1 k x18 x19 x20 y115 (y115.length : Int) 0 x102000 x102001 x105000 x105001 x105002 x105003 x105004 x105005)) else (none)) else (none))
def impl_IsValidClaims.l1 : Nat → List (S104) → Int → Int → List (S104) → Int → Int → Int → List (S104) → Int → Int → Int → Int → Int → Int → Option (Bool)
 | 0, _, _, _, _, _, _, _, _, _, _, _, _, _, _ => none
 | k + 1, x18, x19, x20, x79, x80, x81, x102000, x102001, x105000, x105001, x105002, x105003, x105004, x105005 => if x81 < x80 then (if 0 ≤ x81 then (if x81 < (x79.length : Int) then (if ((rd_T104 x79 x81).f5) = 1 then (if x105005 = 1 then (if ((rd_T104 x79 x81).f1) = x105001 then (some false) else (impl_IsValidClaims.l1 k x18 x19 x20 x79 x80 (wrap64 (x81 + 1)) x102000 x102001 x105000 x105001 x105002 x105003 x105004 x105005)) else (impl_IsValidClaims.l1 k x18 x19 x20 x79 x80 (wrap64 (x81 + 1)) x102000 x102001 x105000 x105001 x105002 x105003 x105004 x105005)) else (impl_IsValidClaims.l1 k x18 x19 x20 x79 x80 (wrap64 (x81 + 1)) x102000 x102001 x105000 x105001 x105002 x105003 x105004 x105005)) else (none)) else (none)) else (impl_IsValidClaims.l0 k x18 x19 (wrap64 (x20 + 1)) x102000 x102001)
end
def impl_IsValidClaims.f (k : Nat) (a0_0 : Int) (l0_1 : List (S104)) : Option (Bool) := (impl_InRange.f a0_0 0 1000000).bind fun t102 => (if t102 = true then (impl_IsValidClaims.j0 k (decide ((l0_1.length : Int) > 10)) a0_0 l0_1) else (impl_IsValidClaims.j0 k true a0_0 l0_1))
theorem impl_IsValidClaims.mono_l : ∀ k, (∀ y0 y1 y2, LeO (impl_IsValidClaims.j0 k y0 y1 y2) (impl_IsValidClaims.j0 (k + 1) y0 y1 y2)) ∧ (∀ y0 y1 y2 y3 y4, LeO (impl_IsValidClaims.l0 k y0 y1 y2 y3 y4) (impl_IsValidClaims.l0 (k + 1) y0 y1 y2 y3 y4)) ∧ (∀ y0 y1 y2 y3 y4 y5 y6 y7 y8 y9 y10 y11 y12, LeO (impl_IsValidClaims.j2 k y0 y1 y2 y3 y4 y5 y6 y7 y8 y9 y10 y11 y12) (impl_IsValidClaims.j2 (k + 1) y0 y1 y2 y3 y4 y5 y6 y7 y8 y9 y10 y11 y12)) ∧ (∀ y0 y1 y2 y3 y4 y5 y6 y7 y8 y9 y10 y11 y12 y13, LeO (impl_IsValidClaims.l1 k y0 y1 y2 y3 y4 y5 y6 y7 y8 y9 y10 y11 y12 y13) (impl_IsValidClaims.l1 (k + 1) y0 y1 y2 y3 y4 y5 y6 y7 y8 y9 y10 y11 y12 y13))
 | 0 => ⟨fun _ _ _ r h => by simp [impl_IsValidClaims.j0] at h, fun _ _ _ _ _ r h => by simp [impl_IsValidClaims.l0] at h, fun _ _ _ _ _ _ _ _ _ _ _ _ _ r h => by simp [impl_IsValidClaims.j2] at h, fun _ _ _ _ _ _ _ _ _ _ _ _ _ _ r h => by simp [impl_IsValidClaims.l1] at h⟩
 | k + 1 => by
  obtain ⟨ih0, ih1, ih2, ih3⟩ := impl_IsValidClaims.mono_l k
  refine ⟨?_, ?_, ?_, ?_⟩
  ·intro y0 y1 y2
   unfold impl_IsValidClaims.j0
   repeat' first
   | (with_reducible exact ih0 _ _ _)
   | (with_reducible exact ih1 _ _ _ _ _)
   | (with_reducible exact ih2 _ _ _ _ _ _ _ _ _ _ _ _ _)
   | (with_reducible exact ih3 _ _ _ _ _ _ _ _ _ _ _ _ _ _)
   | (with_reducible exact LeO.refl _)
   | (with_reducible exact LeO.none _)
   | (with_reducible refine LeO.ite ?_ ?_)
   | (with_reducible refine LeO.bind ?_ (fun _ => ?_))
   | exact ih0 _ _ _
   | exact ih1 _ _ _ _ _
   | exact ih2 _ _ _ _ _ _ _ _ _ _ _ _ _
   | exact ih3 _ _ _ _ _ _ _ _ _ _ _ _ _ _
   | exact LeO.none _
   | refine LeO.ite ?_ ?_
   | refine LeO.bind ?_ (fun _ => ?_)
  ·intro y0 y1 y2 y3 y4
   unfold impl_IsValidClaims.l0
   repeat' first
   | (with_reducible exact ih0 _ _ _)
   | (with_reducible exact ih1 _ _ _ _ _)
   | (with_reducible exact ih2 _ _ _ _ _ _ _ _ _ _ _ _ _)
   | (with_reducible exact ih3 _ _ _ _ _ _ _ _ _ _ _ _ _ _)
   | (with_reducible exact LeO.refl _)
   | (with_reducible exact LeO.none _)
   | (with_reducible refine LeO.ite ?_ ?_)
   | (with_reducible refine LeO.bind ?_ (fun _ => ?_))
   | exact ih0 _ _ _
   | exact ih1 _ _ _ _ _
   | exact ih2 _ _ _ _ _ _ _ _ _ _ _ _ _
   | exact ih3 _ _ _ _ _ _ _ _ _ _ _ _ _ _
   | exact LeO.none _
   | refine LeO.ite ?_ ?_
   | refine LeO.bind ?_ (fun _ => ?_)
  ·intro y0 y1 y2 y3 y4 y5 y6 y7 y8 y9 y10 y11 y12
   unfold impl_IsValidClaims.j2
   repeat' first
   | (with_reducible exact ih0 _ _ _)
   | (with_reducible exact ih1 _ _ _ _ _)
   | (with_reducible exact ih2 _ _ _ _ _ _ _ _ _ _ _ _ _)
   | (with_reducible exact ih3 _ _ _ _ _ _ _ _ _ _ _ _ _ _)
   | (with_reducible exact LeO.refl _)
   | (with_reducible exact LeO.none _)
   | (with_reducible refine LeO.ite ?_ ?_)
   | (with_reducible refine LeO.bind ?_ (fun _ => ?_))
   | exact ih0 _ _ _
   | exact ih1 _ _ _ _ _
   | exact ih2 _ _ _ _ _ _ _ _ _ _ _ _ _
   | exact ih3 _ _ _ _ _ _ _ _ _ _ _ _ _ _
   | exact LeO.none _
   | refine LeO.ite ?_ ?_
   | refine LeO.bind ?_ (fun _ => ?_)
  ·intro y0 y1 y2 y3 y4 y5 y6 y7 y8 y9 y10 y11 y12 y13
   unfold impl_IsValidClaims.l1
   repeat' first
   | (with_reducible exact ih0 _ _ _)
   | (with_reducible exact ih1 _ _ _ _ _)
   | (with_reducible exact ih2 _ _ _ _ _ _ _ _ _ _ _ _ _)
   | (with_reducible exact ih3 _ _ _ _ _ _ _ _ _ _ _ _ _ _)
   | (with_reducible exact LeO.refl _)
   | (with_reducible exact LeO.none _)
   | (with_reducible refine LeO.ite ?_ ?_)
   | (with_reducible refine LeO.bind ?_ (fun _ => ?_))
   | exact ih0 _ _ _
   | exact ih1 _ _ _ _ _
   | exact ih2 _ _ _ _ _ _ _ _ _ _ _ _ _
   | exact ih3 _ _ _ _ _ _ _ _ _ _ _ _ _ _
   | exact LeO.none _
   | refine LeO.ite ?_ ?_
   | refine LeO.bind ?_ (fun _ => ?_)
theorem impl_IsValidClaims.mono : ∀ a0 a1 k, LeO (impl_IsValidClaims.f k a0 a1) (impl_IsValidClaims.f (k + 1) a0 a1) := by
 intro a0 a1 k
 obtain ⟨ih0, ih1, ih2, ih3⟩ := impl_IsValidClaims.mono_l k
 unfold impl_IsValidClaims.f
 repeat' first
   | (with_reducible exact ih0 _ _ _)
   | (with_reducible exact ih1 _ _ _ _ _)
   | (with_reducible exact ih2 _ _ _ _ _ _ _ _ _ _ _ _ _)
   | (with_reducible exact ih3 _ _ _ _ _ _ _ _ _ _ _ _ _ _)
   | (with_reducible exact LeO.refl _)
   | (with_reducible exact LeO.none _)
   | (with_reducible refine LeO.ite ?_ ?_)
   | (with_reducible refine LeO.bind ?_ (fun _ => ?_))
   | exact ih0 _ _ _
   | exact ih1 _ _ _ _ _
   | exact ih2 _ _ _ _ _ _ _ _ _ _ _ _ _
   | exact ih3 _ _ _ _ _ _ _ _ _ _ _ _ _ _
   | exact LeO.none _
   | refine LeO.ite ?_ ?_
   | refine LeO.bind ?_ (fun _ => ?_)
set_option maxHeartbeats 8000000 in
set_option maxRecDepth 100000 in
theorem impl_IsValidClaims.calls (k : Nat) (a0_0 : Int) (A0_1 : Option Addr) (c0_1 : Nat) (l0_1 : List (S104)) (r : Bool) (w : World) (hr0_1 : Kd.C k104 w A0_1 l0_1.length l0_1) (hc0_1 : l0_1.length ≤ c0_1) (h : impl_IsValidClaims.f k a0_0 l0_1 = some r) :
  Calls Try.prog 56 #[.agg #[.int .i64 a0_0, .slice A0_1 l0_1.length c0_1]] w fun e w' => e = .returned (.bool r) ∧ Below w.heap.size w w' := by
 have hu35 := Try.underlying35
 have hu104 := Try.underlying104
 have HR0_1 := Aside0.mk hr0_1
 have HC0_1 := Aside0.mk hc0_1
 clear hr0_1 hc0_1
 have HB := Aside0.mk (Below.refl w.heap.size w)
 have H : ((impl_InRange.f a0_0 0 1000000).bind fun t102 => (if t102 = true then (impl_IsValidClaims.j0 k (decide ((l0_1.length : Int) > 10)) a0_0 l0_1) else (impl_IsValidClaims.j0 k true a0_0 l0_1))) = some r := h
 clear h
 have HC2 := Aside0.mk H
 clear H
 go_enter Try.func56, Try.ntmps56
 go_upto_region 1 with (first | ((with_reducible refine gate_dst (N := 1) rfl ?_); (try (refine gate_guard (by rfl) ?_; dsimp only)); refine box_event ?hg (N := 1) ?hd (cs := #[.int .i64 a0_0, .slice A0_1 l0_1.length c0_1]) (t := 35) ?hr ?_; (case hd => rfl); (case hg => rfl); (case hr => exact tG); intro gb101 hg w3 hbox hb; have BK101 := Aside0.mk (hbox); have GW101 := gW HB hg; have GE101 := gW HB hg; replace HB := bH HB hb; clear hb hbox hg))
 repeat (go_quiet (first | ((with_reducible refine gate_dst (N := 1) rfl ?_); (try (refine gate_guard (by rfl) ?_; dsimp only)); refine box_event ?hg (N := 1) ?hd (cs := #[.int .i64 a0_0, .slice A0_1 l0_1.length c0_1]) (t := 35) ?hr ?_; (case hd => rfl); (case hg => rfl); (case hr => exact tG); intro gb101 hg w3 hbox hb; have BK101 := Aside0.mk (hbox); have GW101 := gW HB hg; have GE101 := gW HB hg; replace HB := bH HB hb; clear hb hbox hg)); go_upto_region 1 with (first | ((with_reducible refine gate_dst (N := 1) rfl ?_); (try (refine gate_guard (by rfl) ?_; dsimp only)); refine box_event ?hg (N := 1) ?hd (cs := #[.int .i64 a0_0, .slice A0_1 l0_1.length c0_1]) (t := 35) ?hr ?_; (case hd => rfl); (case hg => rfl); (case hr => exact tG); intro gb101 hg w3 hbox hb; have BK101 := Aside0.mk (hbox); have GW101 := gW HB hg; have GE101 := gW HB hg; replace HB := bH HB hb; clear hb hbox hg)))
 (try simp only [Act.put, List.setIfInBounds_toArray, List.set_cons_zero, List.set_cons_succ])
 go_cut [16] (fun v16 wc => ∃ (kq : Nat) (x16_1 : Bool), v16 = .bool x16_1 ∧ Aside0 (impl_IsValidClaims.j0 kq x16_1 a0_0 l0_1 = some r) ∧ Aside0 (kq ≤ k) ∧ Aside0 (wc.heap[gb101]? = some (.cells #[.int .i64 a0_0, (.slice A0_1 l0_1.length c0_1)] 35 (0, 0))) ∧ Aside0 (Below w.heap.size w wc))
 case first =>
  have H := HC2.out
  clear HC2
  replace H := Option.bind_eq_some_iff.mp H
  obtain ⟨t102, A40, H⟩ := H
  try dsimp only at H
  have A4 := Aside0.mk A40
  clear A40
  by_cases c5 : t102 = true
  ·subst c5
   have H1 : (impl_IsValidClaims.j0 k (decide ((l0_1.length : Int) > 10)) a0_0 l0_1) = some r := by rw [if_pos rfl] at H; exact H
   clear H
   have H := H1
   clear H1
   have H' := Aside0.mk H
   clear H
   obtain ⟨hcz6_0, hcz6_1, hfz6_0, hfz6_1⟩ := bc2 BK101.out
   go_wp2_with (first | (go_at_call 82; (with_reducible refine (impl_InRange.calls a0_0 0 1000000 true _ A4.out).mono ?_); rintro e w' ⟨rfl, ⟨nd, rfl⟩⟩; (try exact tQ)))
   repeat (go_quiet (first | (go_at_call 82; (with_reducible refine (impl_InRange.calls a0_0 0 1000000 true _ A4.out).mono ?_); rintro e w' ⟨rfl, ⟨nd, rfl⟩⟩; (try exact tQ))); try go_wp2_with (first | (go_at_call 82; (with_reducible refine (impl_InRange.calls a0_0 0 1000000 true _ A4.out).mono ?_); rintro e w' ⟨rfl, ⟨nd, rfl⟩⟩; (try exact tQ))))
   go_meet
   case rel => exact ⟨_, (decide ((l0_1.length : Int) > 10)), tS, H', ⟨by first | omega | exact Nat.le_refl _⟩, ⟨tK BK101⟩, ⟨tB⟩⟩
  replace c5 := Bool.eq_false_iff.mpr c5
  subst c5
  have H1 : (impl_IsValidClaims.j0 k true a0_0 l0_1) = some r := by rw [if_neg (show ¬ (false = true) by decide)] at H; exact H
  clear H
  have H := H1
  clear H1
  have H' := Aside0.mk H
  clear H
  obtain ⟨hcz7_0, hcz7_1, hfz7_0, hfz7_1⟩ := bc2 BK101.out
  go_wp2_with (first | (go_at_call 82; (with_reducible refine (impl_InRange.calls a0_0 0 1000000 false _ A4.out).mono ?_); rintro e w' ⟨rfl, ⟨nd, rfl⟩⟩; (try exact tQ)))
  repeat (go_quiet (first | (go_at_call 82; (with_reducible refine (impl_InRange.calls a0_0 0 1000000 false _ A4.out).mono ?_); rintro e w' ⟨rfl, ⟨nd, rfl⟩⟩; (try exact tQ))); try go_wp2_with (first | (go_at_call 82; (with_reducible refine (impl_InRange.calls a0_0 0 1000000 false _ A4.out).mono ?_); rintro e w' ⟨rfl, ⟨nd, rfl⟩⟩; (try exact tQ))))
  go_meet
  case rel => exact ⟨_, (true), tS, H', ⟨by first | omega | exact Nat.le_refl _⟩, ⟨tK BK101⟩, ⟨tB⟩⟩
 case rest =>
  clear HC2
  try clear p2
  try clear c5
  obtain ⟨kq, x16_1, rfl, HA, HJ1, BK101, HB⟩ := hcut
  cases kq with
  | zero => exact absurd HA.out (by simp [impl_IsValidClaims.j0])
  | succ kj1 =>
   have H := HA.out
   clear HA
   simp only [impl_IsValidClaims.j0] at H
   by_cases c8 : x16_1 = true
   ·subst c8
    have H1 : (some false) = some r := by rw [if_pos rfl] at H; exact H
    clear H
    have H := H1
    clear H1
    obtain rfl := Option.some.inj H
    go_wp2
    repeat (go_quiet (fail); try go_wp2)
    go_ret
    exact ⟨tE, tB⟩
   replace c8 := Bool.eq_false_iff.mpr c8
   subst c8
   have H1 : (impl_IsValidClaims.l0 kj1 l0_1 (l0_1.length : Int) 0 a0_0 l0_1) = some r := by rw [if_neg (show ¬ (false = true) by decide)] at H; exact H
   clear H
   have H := H1
   clear H1
   have H' := Aside0.mk H
   clear H
   obtain ⟨hcz9_0, hcz9_1, hfz9_0, hfz9_1⟩ := bc2 BK101.out
   go_wp2
   repeat (go_quiet (fail); try go_wp2)
   go_loopg [20] kj1 (fun kq v20 w' => ∃ (x20_2 : Int), v20 = .int .i64 x20_2 ∧ Aside0 (impl_IsValidClaims.l0 kq l0_1 (l0_1.length : Int) x20_2 a0_0 l0_1 = some r) ∧ Aside0 (kq ≤ kj1) ∧ Aside0 (w'.heap[gb101]? = some (.cells #[.int .i64 a0_0, (.slice A0_1 l0_1.length c0_1)] 35 (0, 0))) ∧ Aside0 (Below w.heap.size w w'))
   case atStart => exact ⟨(0), tS, H', ⟨Nat.le_refl _⟩, ⟨tK BK101⟩, ⟨tB⟩⟩
   case round =>
    clear H'
    try clear p2
    try clear c5
    try clear c8
    try clear p2
    obtain ⟨x20_2, rfl, HA, HK2, BK101, HB⟩ := hrel
    cases gk with
    | zero => exact absurd HA.out (by simp [impl_IsValidClaims.l0])
    | succ k2 =>
     have H := HA.out
     clear HA
     simp only [impl_IsValidClaims.l0] at H
     by_cases c10 : x20_2 < (l0_1.length : Int)
     ·rw [if_pos c10] at H
      have c10b0 : decide (x20_2 < (l0_1.length : Int)) = true := decide_eq_true c10
      clear c10
      by_cases c11 : 0 ≤ x20_2
      ·rw [if_pos c11] at H
       have c11b0 : decide (0 ≤ x20_2) = true := decide_eq_true c11
       clear c11
       by_cases c12 : x20_2 < (l0_1.length : Int)
       ·rw [if_pos c12] at H
        have c12b0 : decide (x20_2 < (l0_1.length : Int)) = true := decide_eq_true c12
        clear c12
        have HC13 := Aside0.mk H
        clear H
        have p103 : 0 ≤ (x20_2 : Int) := of_decide_eq_true tA
        have q103 : x20_2 < (l0_1.length : Int) := of_decide_eq_true tA
        obtain ⟨ad103, e103, hx103_0, hx103_1, hx103_2, hx103_3, hx103_4, hx103_5⟩ := at_T104 HR0_1.out x20_2 p103 q103
        cases e103
        replace hx103_0 := hbc HB hx103_0
        replace hx103_1 := hbc HB hx103_1
        replace hx103_2 := hbc HB hx103_2
        replace hx103_3 := hbc HB hx103_3
        replace hx103_4 := hbc HB hx103_4
        replace hx103_5 := hbc HB hx103_5
        replace p103 := eq_true p103
        replace q103 := eq_true q103
        go_upto_region 6 with (first | ((with_reducible refine gate_dst (N := 4) rfl ?_); (try (refine gate_guard (by rfl) ?_; dsimp only)); refine box_event ?hg (N := 4) ?hd (cs := #[.int .i64 0, .int .i64 0, .int .i64 0, .int .i64 0, .int .i64 0, .int .i64 0]) (t := 104) ?hr ?_; (case hd => rfl); (case hg => rfl); (case hr => exact tG); intro gb104 hg w14 hbox hb; have BK104 := Aside0.mk (hbox); have GW104 := gW HB hg; have GE104 := gW HB hg; replace HB := bH HB hb; have NB101_104 := nL BK101 hg; have NB104_101 := nR BK101 hg; replace BK101 := bB BK101 hb; clear hb hbox hg; have hnb15 := NB104_101.out; have hnc15 := NB101_104.out; obtain ⟨hcz16_0, hcz16_1, hcz16_2, hcz16_3, hcz16_4, hcz16_5, hfz16_0, hfz16_1, hfz16_2, hfz16_3, hfz16_4, hfz16_5⟩ := bc6 BK104.out))
        repeat (go_quiet (first | ((with_reducible refine gate_dst (N := 4) rfl ?_); (try (refine gate_guard (by rfl) ?_; dsimp only)); refine box_event ?hg (N := 4) ?hd (cs := #[.int .i64 0, .int .i64 0, .int .i64 0, .int .i64 0, .int .i64 0, .int .i64 0]) (t := 104) ?hr ?_; (case hd => rfl); (case hg => rfl); (case hr => exact tG); intro gb104 hg w14 hbox hb; have BK104 := Aside0.mk (hbox); have GW104 := gW HB hg; have GE104 := gW HB hg; replace HB := bH HB hb; have NB101_104 := nL BK101 hg; have NB104_101 := nR BK101 hg; replace BK101 := bB BK101 hb; clear hb hbox hg; have hnb15 := NB104_101.out; have hnc15 := NB101_104.out; obtain ⟨hcz16_0, hcz16_1, hcz16_2, hcz16_3, hcz16_4, hcz16_5, hfz16_0, hfz16_1, hfz16_2, hfz16_3, hfz16_4, hfz16_5⟩ := bc6 BK104.out)); go_upto_region 6 with (first | ((with_reducible refine gate_dst (N := 4) rfl ?_); (try (refine gate_guard (by rfl) ?_; dsimp only)); refine box_event ?hg (N := 4) ?hd (cs := #[.int .i64 0, .int .i64 0, .int .i64 0, .int .i64 0, .int .i64 0, .int .i64 0]) (t := 104) ?hr ?_; (case hd => rfl); (case hg => rfl); (case hr => exact tG); intro gb104 hg w14 hbox hb; have BK104 := Aside0.mk (hbox); have GW104 := gW HB hg; have GE104 := gW HB hg; replace HB := bH HB hb; have NB101_104 := nL BK101 hg; have NB104_101 := nR BK101 hg; replace BK101 := bB BK101 hb; clear hb hbox hg; have hnb15 := NB104_101.out; have hnc15 := NB101_104.out; obtain ⟨hcz16_0, hcz16_1, hcz16_2, hcz16_3, hcz16_4, hcz16_5, hfz16_0, hfz16_1, hfz16_2, hfz16_3, hfz16_4, hfz16_5⟩ := bc6 BK104.out)))
        (try simp only [Act.put, List.setIfInBounds_toArray, List.set_cons_zero, List.set_cons_succ])
        go_cut [75] (fun v75 wc => ∃ (kq : Nat) (x75_12 : Bool), v75 = .bool x75_12 ∧ Aside0 (impl_IsValidClaims.j2 kq x20_2 l0_1 (l0_1.length : Int) x20_2 x75_12 a0_0 l0_1 ((rd_T104 l0_1 x20_2).f0) ((rd_T104 l0_1 x20_2).f1) ((rd_T104 l0_1 x20_2).f2) ((rd_T104 l0_1 x20_2).f3) ((rd_T104 l0_1 x20_2).f4) ((rd_T104 l0_1 x20_2).f5) = some r) ∧ Aside0 (kq ≤ k2) ∧ Aside0 (wc.heap[gb101]? = some (.cells #[.int .i64 a0_0, (.slice (some ad103) l0_1.length c0_1)] 35 (0, 0))) ∧ Aside0 (wc.heap[gb104]? = some (.cells #[.int .i64 ((rd_T104 l0_1 x20_2).f0), .int .i64 ((rd_T104 l0_1 x20_2).f1), .int .i64 ((rd_T104 l0_1 x20_2).f2), .int .i64 ((rd_T104 l0_1 x20_2).f3), .int .i64 ((rd_T104 l0_1 x20_2).f4), .int .i64 ((rd_T104 l0_1 x20_2).f5)] 104 (0, 0))) ∧ Aside0 (Below w.heap.size w wc))
        case first =>
         have H := HC13.out
         clear HC13
         replace H := Option.bind_eq_some_iff.mp H
         obtain ⟨t105, A170, H⟩ := H
         try dsimp only at H
         have A17 := Aside0.mk A170
         clear A170
         by_cases c18 : t105 = true
         ·subst c18
          have H1 : (if x20_2 > 0 then (if 0 ≤ (wrap64 (x20_2 - 1)) then (if (wrap64 (x20_2 - 1)) < (l0_1.length : Int) then (if ((rd_T104 l0_1 (wrap64 (x20_2 - 1))).f0) ≥ ((rd_T104 l0_1 x20_2).f0) then (impl_IsValidClaims.j2 k2 x20_2 l0_1 (l0_1.length : Int) x20_2 true a0_0 l0_1 ((rd_T104 l0_1 x20_2).f0) ((rd_T104 l0_1 x20_2).f1) ((rd_T104 l0_1 x20_2).f2) ((rd_T104 l0_1 x20_2).f3) ((rd_T104 l0_1 x20_2).f4) ((rd_T104 l0_1 x20_2).f5)) else ((impl_InRange.f ((rd_T104 l0_1 x20_2).f1) 0 1000000).bind fun t107 => (if t107 = true then ((impl_InRange.f ((rd_T104 l0_1 x20_2).f3) 0 1000000).bind fun t108 => (if t108 = true then (if ((rd_T104 l0_1 x20_2).f4) = 30 then ((impl_InRange.f ((rd_T104 l0_1 x20_2).f5) 1 3).bind fun t109 => (impl_IsValidClaims.j2 k2 x20_2 l0_1 (l0_1.length : Int) x20_2 (!t109) a0_0 l0_1 ((rd_T104 l0_1 x20_2).f0) ((rd_T104 l0_1 x20_2).f1) ((rd_T104 l0_1 x20_2).f2) ((rd_T104 l0_1 x20_2).f3) ((rd_T104 l0_1 x20_2).f4) ((rd_T104 l0_1 x20_2).f5))) else (if ((rd_T104 l0_1 x20_2).f4) = 90 then ((impl_InRange.f ((rd_T104 l0_1 x20_2).f5) 1 3).bind fun t110 => (impl_IsValidClaims.j2 k2 x20_2 l0_1 (l0_1.length : Int) x20_2 (!t110) a0_0 l0_1 ((rd_T104 l0_1 x20_2).f0) ((rd_T104 l0_1 x20_2).f1) ((rd_T104 l0_1 x20_2).f2) ((rd_T104 l0_1 x20_2).f3) ((rd_T104 l0_1 x20_2).f4) ((rd_T104 l0_1 x20_2).f5))) else (impl_IsValidClaims.j2 k2 x20_2 l0_1 (l0_1.length : Int) x20_2 true a0_0 l0_1 ((rd_T104 l0_1 x20_2).f0) ((rd_T104 l0_1 x20_2).f1) ((rd_T104 l0_1 x20_2).f2) ((rd_T104 l0_1 x20_2).f3) ((rd_T104 l0_1 x20_2).f4) ((rd_T104 l0_1 x20_2).f5)))) else (impl_IsValidClaims.j2 k2 x20_2 l0_1 (l0_1.length : Int) x20_2 true a0_0 l0_1 ((rd_T104 l0_1 x20_2).f0) ((rd_T104 l0_1 x20_2).f1) ((rd_T104 l0_1 x20_2).f2) ((rd_T104 l0_1 x20_2).f3) ((rd_T104 l0_1 x20_2).f4) ((rd_T104 l0_1 x20_2).f5)))) else (impl_IsValidClaims.j2 k2 x20_2 l0_1 (l0_1.length : Int) x20_2 true a0_0 l0_1 ((rd_T104 l0_1 x20_2).f0) ((rd_T104 l0_1 x20_2).f1) ((rd_T104 l0_1 x20_2).f2) ((rd_T104 l0_1 x20_2).f3) ((rd_T104 l0_1 x20_2).f4) ((rd_T104 l0_1 x20_2).f5))))) else (none)) else (none)) else ((impl_InRange.f ((rd_T104 l0_1 x20_2).f1) 0 1000000).bind fun t111 => (if t111 = true then ((impl_InRange.f ((rd_T104 l0_1 x20_2).f3) 0 1000000).bind fun t112 => (if t112 = true then (if ((rd_T104 l0_1 x20_2).f4) = 30 then ((impl_InRange.f ((rd_T104 l0_1 x20_2).f5) 1 3).bind fun t113 => (impl_IsValidClaims.j2 k2 x20_2 l0_1 (l0_1.length : Int) x20_2 (!t113) a0_0 l0_1 ((rd_T104 l0_1 x20_2).f0) ((rd_T104 l0_1 x20_2).f1) ((rd_T104 l0_1 x20_2).f2) ((rd_T104 l0_1 x20_2).f3) ((rd_T104 l0_1 x20_2).f4) ((rd_T104 l0_1 x20_2).f5))) else (if ((rd_T104 l0_1 x20_2).f4) = 90 then ((impl_InRange.f ((rd_T104 l0_1 x20_2).f5) 1 3).bind fun t114 => (impl_IsValidClaims.j2 k2 x20_2 l0_1 (l0_1.length : Int) x20_2 (!t114) a0_0 l0_1 ((rd_T104 l0_1 x20_2).f0) ((rd_T104 l0_1 x20_2).f1) ((rd_T104 l0_1 x20_2).f2) ((rd_T104 l0_1 x20_2).f3) ((rd_T104 l0_1 x20_2).f4) ((rd_T104 l0_1 x20_2).f5))) else (impl_IsValidClaims.j2 k2 x20_2 l0_1 (l0_1.length : Int) x20_2 true a0_0 l0_1 ((rd_T104 l0_1 x20_2).f0) ((rd_T104 l0_1 x20_2).f1) ((rd_T104 l0_1 x20_2).f2) ((rd_T104 l0_1 x20_2).f3) ((rd_T104 l0_1 x20_2).f4) ((rd_T104 l0_1 x20_2).f5)))) else (impl_IsValidClaims.j2 k2 x20_2 l0_1 (l0_1.length : Int) x20_2 true a0_0 l0_1 ((rd_T104 l0_1 x20_2).f0) ((rd_T104 l0_1 x20_2).f1) ((rd_T104 l0_1 x20_2).f2) ((rd_T104 l0_1 x20_2).f3) ((rd_T104 l0_1 x20_2).f4) ((rd_T104 l0_1 x20_2).f5)))) else (impl_IsValidClaims.j2 k2 x20_2 l0_1 (l0_1.length : Int) x20_2 true a0_0 l0_1 ((rd_T104 l0_1 x20_2).f0) ((rd_T104 l0_1 x20_2).f1) ((rd_T104 l0_1 x20_2).f2) ((rd_T104 l0_1 x20_2).f3) ((rd_T104 l0_1 x20_2).f4) ((rd_T104 l0_1 x20_2).f5))))) = some r := by rw [if_pos rfl] at H; exact H
          clear H
          have H := H1
          clear H1
          by_cases c19 : x20_2 > 0
          ·rw [if_pos c19] at H
           have c19b0 : decide (0 < x20_2) = true := decide_eq_true c19
           clear c19
           (first | rw [c19b0] | (simp only [i64_w, i32_w]; rw [c19b0]) | skip)
           obtain ⟨ji20, hji20⟩ : ∃ j_ : Int, (wrap64 (x20_2 - 1)) = j_ := ⟨_, rfl⟩
           replace H : (if 0 ≤ (ji20) then (if (ji20) < (l0_1.length : Int) then (if ((rd_T104 l0_1 (ji20)).f0) ≥ ((rd_T104 l0_1 x20_2).f0) then (impl_IsValidClaims.j2 k2 x20_2 l0_1 (l0_1.length : Int) x20_2 true a0_0 l0_1 ((rd_T104 l0_1 x20_2).f0) ((rd_T104 l0_1 x20_2).f1) ((rd_T104 l0_1 x20_2).f2) ((rd_T104 l0_1 x20_2).f3) ((rd_T104 l0_1 x20_2).f4) ((rd_T104 l0_1 x20_2).f5)) else ((impl_InRange.f ((rd_T104 l0_1 x20_2).f1) 0 1000000).bind fun t107 => (if t107 = true then ((impl_InRange.f ((rd_T104 l0_1 x20_2).f3) 0 1000000).bind fun t108 => (if t108 = true then (if ((rd_T104 l0_1 x20_2).f4) = 30 then ((impl_InRange.f ((rd_T104 l0_1 x20_2).f5) 1 3).bind fun t109 => (impl_IsValidClaims.j2 k2 x20_2 l0_1 (l0_1.length : Int) x20_2 (!t109) a0_0 l0_1 ((rd_T104 l0_1 x20_2).f0) ((rd_T104 l0_1 x20_2).f1) ((rd_T104 l0_1 x20_2).f2) ((rd_T104 l0_1 x20_2).f3) ((rd_T104 l0_1 x20_2).f4) ((rd_T104 l0_1 x20_2).f5))) else (if ((rd_T104 l0_1 x20_2).f4) = 90 then ((impl_InRange.f ((rd_T104 l0_1 x20_2).f5) 1 3).bind fun t110 => (impl_IsValidClaims.j2 k2 x20_2 l0_1 (l0_1.length : Int) x20_2 (!t110) a0_0 l0_1 ((rd_T104 l0_1 x20_2).f0) ((rd_T104 l0_1 x20_2).f1) ((rd_T104 l0_1 x20_2).f2) ((rd_T104 l0_1 x20_2).f3) ((rd_T104 l0_1 x20_2).f4) ((rd_T104 l0_1 x20_2).f5))) else (impl_IsValidClaims.j2 k2 x20_2 l0_1 (l0_1.length : Int) x20_2 true a0_0 l0_1 ((rd_T104 l0_1 x20_2).f0) ((rd_T104 l0_1 x20_2).f1) ((rd_T104 l0_1 x20_2).f2) ((rd_T104 l0_1 x20_2).f3) ((rd_T104 l0_1 x20_2).f4) ((rd_T104 l0_1 x20_2).f5)))) else (impl_IsValidClaims.j2 k2 x20_2 l0_1 (l0_1.length : Int) x20_2 true a0_0 l0_1 ((rd_T104 l0_1 x20_2).f0) ((rd_T104 l0_1 x20_2).f1) ((rd_T104 l0_1 x20_2).f2) ((rd_T104 l0_1 x20_2).f3) ((rd_T104 l0_1 x20_2).f4) ((rd_T104 l0_1 x20_2).f5)))) else (impl_IsValidClaims.j2 k2 x20_2 l0_1 (l0_1.length : Int) x20_2 true a0_0 l0_1 ((rd_T104 l0_1 x20_2).f0) ((rd_T104 l0_1 x20_2).f1) ((rd_T104 l0_1 x20_2).f2) ((rd_T104 l0_1 x20_2).f3) ((rd_T104 l0_1 x20_2).f4) ((rd_T104 l0_1 x20_2).f5))))) else (none)) else (none)) = some r := by first | (rw [hji20] at H; exact H) | (simp only [hji20] at H ⊢; exact H)
           (try rw [hji20] at A17)
           have hji20w : (IntKind.i64.wrap (x20_2 - 1)) = ji20 := (i64_w _).trans hji20
           by_cases c21 : 0 ≤ (ji20)
           ·rw [if_pos c21] at H
            have c21b0 : decide (0 ≤ (ji20)) = true := decide_eq_true c21
            clear c21
            by_cases c22 : (ji20) < (l0_1.length : Int)
            ·rw [if_pos c22] at H
             have c22b0 : decide ((ji20) < (l0_1.length : Int)) = true := decide_eq_true c22
             clear c22
             by_cases c23 : ((rd_T104 l0_1 (ji20)).f0) ≥ ((rd_T104 l0_1 x20_2).f0)
             ·rw [if_pos c23] at H
              have c23b0 : decide (((rd_T104 l0_1 x20_2).f0) ≤ ((rd_T104 l0_1 (ji20)).f0)) = true := decide_eq_true c23
              clear c23
              have H' := Aside0.mk H
              clear H
              have hnb24 := NB104_101.out
              have hnc24 := NB101_104.out
              obtain ⟨hcz25_0, hcz25_1, hcz25_2, hcz25_3, hcz25_4, hcz25_5, hfz25_0, hfz25_1, hfz25_2, hfz25_3, hfz25_4, hfz25_5⟩ := bc6 BK104.out
              obtain ⟨hcz26_0, hcz26_1, hfz26_0, hfz26_1⟩ := bc2 BK101.out
              go_wp2_with (first | (go_at_call 82; (with_reducible refine (impl_InRange.calls ((rd_T104 l0_1 x20_2).f0) 0 (wrap64 (a0_0 - 1)) true _ A17.out).mono ?_); rintro e w' ⟨rfl, ⟨nd, rfl⟩⟩; (try exact tQ)))
              have p106 : 0 ≤ ((ji20) : Int) := of_decide_eq_true tA
              have q106 : (ji20) < (l0_1.length : Int) := of_decide_eq_true tA
              obtain ⟨ad106, e106, hx106_0, hx106_1, hx106_2, hx106_3, hx106_4, hx106_5⟩ := at_T104 HR0_1.out (ji20) p106 q106
              obtain rfl : ad103 = ad106 := (by injection e106)
              have hn106_0 : ad103.block ≠ gb104 := hN hx106_0 GW104
              have hn106_1 : ad103.block ≠ gb104 := hN hx106_0 GW104
              have hn106_2 : ad103.block ≠ gb104 := hN hx106_0 GW104
              have hn106_3 : ad103.block ≠ gb104 := hN hx106_0 GW104
              have hn106_4 : ad103.block ≠ gb104 := hN hx106_0 GW104
              have hn106_5 : ad103.block ≠ gb104 := hN hx106_0 GW104
              replace hx106_0 := hbc HB hx106_0
              replace hx106_1 := hbc HB hx106_1
              replace hx106_2 := hbc HB hx106_2
              replace hx106_3 := hbc HB hx106_3
              replace hx106_4 := hbc HB hx106_4
              replace hx106_5 := hbc HB hx106_5
              have F_ := @far6 gb104 (.int .i64 ((rd_T104 l0_1 x20_2).f0)) (.int .i64 ((rd_T104 l0_1 x20_2).f1)) (.int .i64 ((rd_T104 l0_1 x20_2).f2)) (.int .i64 ((rd_T104 l0_1 x20_2).f3)) (.int .i64 ((rd_T104 l0_1 x20_2).f4)) (.int .i64 ((rd_T104 l0_1 x20_2).f5))
              replace hx106_0 := (F_ tF).trans hx106_0
              replace hx106_1 := (F_ tF).trans hx106_1
              replace hx106_2 := (F_ tF).trans hx106_2
              replace hx106_3 := (F_ tF).trans hx106_3
              replace hx106_4 := (F_ tF).trans hx106_4
              replace hx106_5 := (F_ tF).trans hx106_5
              clear F_
              clear hn106_0
              clear hn106_1
              clear hn106_2
              clear hn106_3
              clear hn106_4
              clear hn106_5
              replace p106 := eq_true p106
              replace q106 := eq_true q106
              repeat (go_quiet (first | (go_at_call 82; (with_reducible refine (impl_InRange.calls ((rd_T104 l0_1 x20_2).f0) 0 (wrap64 (a0_0 - 1)) true _ A17.out).mono ?_); rintro e w' ⟨rfl, ⟨nd, rfl⟩⟩; (try exact tQ))); try go_wp2_with (first | (go_at_call 82; (with_reducible refine (impl_InRange.calls ((rd_T104 l0_1 x20_2).f0) 0 (wrap64 (a0_0 - 1)) true _ A17.out).mono ?_); rintro e w' ⟨rfl, ⟨nd, rfl⟩⟩; (try exact tQ))))
              go_meet
              case rel => exact ⟨_, (true), tS, H', ⟨by have := HJ1.out; have := HK2.out; first | omega | exact Nat.le_refl _⟩, ⟨kF NB101_104 BK101⟩, ⟨by (with_reducible repeat (first | refine blk_drewN ?_ _ | refine blk_drew ?_ | refine blk_alloc ?_ _)); refine blk_put (cs := #[.int .i64 ((rd_T104 l0_1 x20_2).f0), .int .i64 ((rd_T104 l0_1 x20_2).f1), .int .i64 ((rd_T104 l0_1 x20_2).f2), .int .i64 ((rd_T104 l0_1 x20_2).f3), .int .i64 ((rd_T104 l0_1 x20_2).f4), .int .i64 0]) ?_ 5 _ rfl; (with_reducible repeat (first | refine blk_drewN ?_ _ | refine blk_drew ?_ | refine blk_alloc ?_ _)); refine blk_put (cs := #[.int .i64 ((rd_T104 l0_1 x20_2).f0), .int .i64 ((rd_T104 l0_1 x20_2).f1), .int .i64 ((rd_T104 l0_1 x20_2).f2), .int .i64 ((rd_T104 l0_1 x20_2).f3), .int .i64 0, .int .i64 0]) ?_ 4 _ rfl; (with_reducible repeat (first | refine blk_drewN ?_ _ | refine blk_drew ?_ | refine blk_alloc ?_ _)); refine blk_put (cs := #[.int .i64 ((rd_T104 l0_1 x20_2).f0), .int .i64 ((rd_T104 l0_1 x20_2).f1), .int .i64 ((rd_T104 l0_1 x20_2).f2), .int .i64 0, .int .i64 0, .int .i64 0]) ?_ 3 _ rfl; (with_reducible repeat (first | refine blk_drewN ?_ _ | refine blk_drew ?_ | refine blk_alloc ?_ _)); refine blk_put (cs := #[.int .i64 ((rd_T104 l0_1 x20_2).f0), .int .i64 ((rd_T104 l0_1 x20_2).f1), .int .i64 0, .int .i64 0, .int .i64 0, .int .i64 0]) ?_ 2 _ rfl; (with_reducible repeat (first | refine blk_drewN ?_ _ | refine blk_drew ?_ | refine blk_alloc ?_ _)); refine blk_put (cs := #[.int .i64 ((rd_T104 l0_1 x20_2).f0), .int .i64 0, .int .i64 0, .int .i64 0, .int .i64 0, .int .i64 0]) ?_ 1 _ rfl; (with_reducible repeat (first | refine blk_drewN ?_ _ | refine blk_drew ?_ | refine blk_alloc ?_ _)); refine blk_put (cs := #[.int .i64 0, .int .i64 0, .int .i64 0, .int .i64 0, .int .i64 0, .int .i64 0]) ?_ 0 _ rfl; (with_reducible repeat (first | refine blk_drewN ?_ _ | refine blk_drew ?_ | refine blk_alloc ?_ _)); exact BK104.out⟩, ⟨tB⟩⟩
             rw [if_neg c23] at H
             have c23b0 : decide (((rd_T104 l0_1 x20_2).f0) ≤ ((rd_T104 l0_1 (ji20)).f0)) = false := decide_eq_false c23
             clear c23
             replace H := Option.bind_eq_some_iff.mp H
             obtain ⟨t107, A270, H⟩ := H
             try dsimp only at H
             have A27 := Aside0.mk A270
             clear A270
             by_cases c28 : t107 = true
             ·subst c28
              have H1 : ((impl_InRange.f ((rd_T104 l0_1 x20_2).f3) 0 1000000).bind fun t108 => (if t108 = true then (if ((rd_T104 l0_1 x20_2).f4) = 30 then ((impl_InRange.f ((rd_T104 l0_1 x20_2).f5) 1 3).bind fun t109 => (impl_IsValidClaims.j2 k2 x20_2 l0_1 (l0_1.length : Int) x20_2 (!t109) a0_0 l0_1 ((rd_T104 l0_1 x20_2).f0) ((rd_T104 l0_1 x20_2).f1) ((rd_T104 l0_1 x20_2).f2) ((rd_T104 l0_1 x20_2).f3) ((rd_T104 l0_1 x20_2).f4) ((rd_T104 l0_1 x20_2).f5))) else (if ((rd_T104 l0_1 x20_2).f4) = 90 then ((impl_InRange.f ((rd_T104 l0_1 x20_2).f5) 1 3).bind fun t110 => (impl_IsValidClaims.j2 k2 x20_2 l0_1 (l0_1.length : Int) x20_2 (!t110) a0_0 l0_1 ((rd_T104 l0_1 x20_2).f0) ((rd_T104 l0_1 x20_2).f1) ((rd_T104 l0_1 x20_2).f2) ((rd_T104 l0_1 x20_2).f3) ((rd_T104 l0_1 x20_2).f4) ((rd_T104 l0_1 x20_2).f5))) else (impl_IsValidClaims.j2 k2 x20_2 l0_1 (l0_1.length : Int) x20_2 true a0_0 l0_1 ((rd_T104 l0_1 x20_2).f0) ((rd_T104 l0_1 x20_2).f1) ((rd_T104 l0_1 x20_2).f2) ((rd_T104 l0_1 x20_2).f3) ((rd_T104 l0_1 x20_2).f4) ((rd_T104 l0_1 x20_2).f5)))) else (impl_IsValidClaims.j2 k2 x20_2 l0_1 (l0_1.length : Int) x20_2 true a0_0 l0_1 ((rd_T104 l0_1 x20_2).f0) ((rd_T104 l0_1 x20_2).f1) ((rd_T104 l0_1 x20_2).f2) ((rd_T104 l0_1 x20_2).f3) ((rd_T104 l0_1 x20_2).f4) ((rd_T104 l0_1 x20_2).f5)))) = some r := by rw [if_pos rfl] at H; exact H
              clear H
              have H := H1
              clear H1
              replace H := Option.bind_eq_some_iff.mp H
              obtain ⟨t108, A290, H⟩ := H
              try dsimp only at H
              have A29 := Aside0.mk A290
              clear A290
              by_cases c30 : t108 = true
              ·subst c30
               have H1 : (if ((rd_T104 l0_1 x20_2).f4) = 30 then ((impl_InRange.f ((rd_T104 l0_1 x20_2).f5) 1 3).bind fun t109 => (impl_IsValidClaims.j2 k2 x20_2 l0_1 (l0_1.length : Int) x20_2 (!t109) a0_0 l0_1 ((rd_T104 l0_1 x20_2).f0) ((rd_T104 l0_1 x20_2).f1) ((rd_T104 l0_1 x20_2).f2) ((rd_T104 l0_1 x20_2).f3) ((rd_T104 l0_1 x20_2).f4) ((rd_T104 l0_1 x20_2).f5))) else (if ((rd_T104 l0_1 x20_2).f4) = 90 then ((impl_InRange.f ((rd_T104 l0_1 x20_2).f5) 1 3).bind fun t110 => (impl_IsValidClaims.j2 k2 x20_2 l0_1 (l0_1.length : Int) x20_2 (!t110) a0_0 l0_1 ((rd_T104 l0_1 x20_2).f0) ((rd_T104 l0_1 x20_2).f1) ((rd_T104 l0_1 x20_2).f2) ((rd_T104 l0_1 x20_2).f3) ((rd_T104 l0_1 x20_2).f4) ((rd_T104 l0_1 x20_2).f5))) else (impl_IsValidClaims.j2 k2 x20_2 l0_1 (l0_1.length : Int) x20_2 true a0_0 l0_1 ((rd_T104 l0_1 x20_2).f0) ((rd_T104 l0_1 x20_2).f1) ((rd_T104 l0_1 x20_2).f2) ((rd_T104 l0_1 x20_2).f3) ((rd_T104 l0_1 x20_2).f4) ((rd_T104 l0_1 x20_2).f5)))) = some r := by rw [if_pos rfl] at H; exact H
               clear H
               have H := H1
               clear H1
               by_cases c31 : ((rd_T104 l0_1 x20_2).f4) = 30
               ·rw [if_pos c31] at H
                have c31b0 : (((rd_T104 l0_1 x20_2).f4) == 30) = true := beq_iff_eq.mpr c31
                have c31b1 : (((rd_T104 l0_1 x20_2).f4) != 30) = false := bne_eq_false_iff_eq.mpr c31
                clear c31
                replace H := Option.bind_eq_some_iff.mp H
                obtain ⟨t109, A320, H⟩ := H
                try dsimp only at H
                have A32 := Aside0.mk A320
                clear A320
                have H' := Aside0.mk H
                clear H
                have hnb33 := NB104_101.out
                have hnc33 := NB101_104.out
                obtain ⟨hcz34_0, hcz34_1, hcz34_2, hcz34_3, hcz34_4, hcz34_5, hfz34_0, hfz34_1, hfz34_2, hfz34_3, hfz34_4, hfz34_5⟩ := bc6 BK104.out
                obtain ⟨hcz35_0, hcz35_1, hfz35_0, hfz35_1⟩ := bc2 BK101.out
                go_wp2_with (first | (go_at_call 82; (with_reducible refine (impl_InRange.calls ((rd_T104 l0_1 x20_2).f0) 0 (wrap64 (a0_0 - 1)) true _ A17.out).mono ?_); rintro e w' ⟨rfl, ⟨nd, rfl⟩⟩; (try exact tQ)) | (go_at_call 82; (with_reducible refine (impl_InRange.calls ((rd_T104 l0_1 x20_2).f1) 0 1000000 true _ A27.out).mono ?_); rintro e w' ⟨rfl, ⟨nd, rfl⟩⟩; (try exact tQ)) | (go_at_call 82; (with_reducible refine (impl_InRange.calls ((rd_T104 l0_1 x20_2).f3) 0 1000000 true _ A29.out).mono ?_); rintro e w' ⟨rfl, ⟨nd, rfl⟩⟩; (try exact tQ)) | (go_at_call 82; (with_reducible refine (impl_InRange.calls ((rd_T104 l0_1 x20_2).f5) 1 3 t109 _ A32.out).mono ?_); rintro e w' ⟨rfl, ⟨nd, rfl⟩⟩; (try exact tQ)))
                have p106 : 0 ≤ ((ji20) : Int) := of_decide_eq_true tA
                have q106 : (ji20) < (l0_1.length : Int) := of_decide_eq_true tA
                obtain ⟨ad106, e106, hx106_0, hx106_1, hx106_2, hx106_3, hx106_4, hx106_5⟩ := at_T104 HR0_1.out (ji20) p106 q106
                obtain rfl : ad103 = ad106 := (by injection e106)
                have hn106_0 : ad103.block ≠ gb104 := hN hx106_0 GW104
                have hn106_1 : ad103.block ≠ gb104 := hN hx106_0 GW104
                have hn106_2 : ad103.block ≠ gb104 := hN hx106_0 GW104
                have hn106_3 : ad103.block ≠ gb104 := hN hx106_0 GW104
                have hn106_4 : ad103.block ≠ gb104 := hN hx106_0 GW104
                have hn106_5 : ad103.block ≠ gb104 := hN hx106_0 GW104
                replace hx106_0 := hbc HB hx106_0
                replace hx106_1 := hbc HB hx106_1
                replace hx106_2 := hbc HB hx106_2
                replace hx106_3 := hbc HB hx106_3
                replace hx106_4 := hbc HB hx106_4
                replace hx106_5 := hbc HB hx106_5
                have F_ := @far6 gb104 (.int .i64 ((rd_T104 l0_1 x20_2).f0)) (.int .i64 ((rd_T104 l0_1 x20_2).f1)) (.int .i64 ((rd_T104 l0_1 x20_2).f2)) (.int .i64 ((rd_T104 l0_1 x20_2).f3)) (.int .i64 ((rd_T104 l0_1 x20_2).f4)) (.int .i64 ((rd_T104 l0_1 x20_2).f5))
                replace hx106_0 := (F_ tF).trans hx106_0
                replace hx106_1 := (F_ tF).trans hx106_1
                replace hx106_2 := (F_ tF).trans hx106_2
                replace hx106_3 := (F_ tF).trans hx106_3
                replace hx106_4 := (F_ tF).trans hx106_4
                replace hx106_5 := (F_ tF).trans hx106_5
                clear F_
                clear hn106_0
                clear hn106_1
                clear hn106_2
                clear hn106_3
                clear hn106_4
                clear hn106_5
                replace p106 := eq_true p106
                replace q106 := eq_true q106
                repeat (go_quiet (first | (go_at_call 82; (with_reducible refine (impl_InRange.calls ((rd_T104 l0_1 x20_2).f0) 0 (wrap64 (a0_0 - 1)) true _ A17.out).mono ?_); rintro e w' ⟨rfl, ⟨nd, rfl⟩⟩; (try exact tQ)) | (go_at_call 82; (with_reducible refine (impl_InRange.calls ((rd_T104 l0_1 x20_2).f1) 0 1000000 true _ A27.out).mono ?_); rintro e w' ⟨rfl, ⟨nd, rfl⟩⟩; (try exact tQ)) | (go_at_call 82; (with_reducible refine (impl_InRange.calls ((rd_T104 l0_1 x20_2).f3) 0 1000000 true _ A29.out).mono ?_); rintro e w' ⟨rfl, ⟨nd, rfl⟩⟩; (try exact tQ)) | (go_at_call 82; (with_reducible refine (impl_InRange.calls ((rd_T104 l0_1 x20_2).f5) 1 3 t109 _ A32.out).mono ?_); rintro e w' ⟨rfl, ⟨nd, rfl⟩⟩; (try exact tQ))); try go_wp2_with (first | (go_at_call 82; (with_reducible refine (impl_InRange.calls ((rd_T104 l0_1 x20_2).f0) 0 (wrap64 (a0_0 - 1)) true _ A17.out).mono ?_); rintro e w' ⟨rfl, ⟨nd, rfl⟩⟩; (try exact tQ)) | (go_at_call 82; (with_reducible refine (impl_InRange.calls ((rd_T104 l0_1 x20_2).f1) 0 1000000 true _ A27.out).mono ?_); rintro e w' ⟨rfl, ⟨nd, rfl⟩⟩; (try exact tQ)) | (go_at_call 82; (with_reducible refine (impl_InRange.calls ((rd_T104 l0_1 x20_2).f3) 0 1000000 true _ A29.out).mono ?_); rintro e w' ⟨rfl, ⟨nd, rfl⟩⟩; (try exact tQ)) | (go_at_call 82; (with_reducible refine (impl_InRange.calls ((rd_T104 l0_1 x20_2).f5) 1 3 t109 _ A32.out).mono ?_); rintro e w' ⟨rfl, ⟨nd, rfl⟩⟩; (try exact tQ))))
                go_meet
                case rel => exact ⟨_, (!t109), tS, H', ⟨by have := HJ1.out; have := HK2.out; first | omega | exact Nat.le_refl _⟩, ⟨kF NB101_104 BK101⟩, ⟨by (with_reducible repeat (first | refine blk_drewN ?_ _ | refine blk_drew ?_ | refine blk_alloc ?_ _)); refine blk_put (cs := #[.int .i64 ((rd_T104 l0_1 x20_2).f0), .int .i64 ((rd_T104 l0_1 x20_2).f1), .int .i64 ((rd_T104 l0_1 x20_2).f2), .int .i64 ((rd_T104 l0_1 x20_2).f3), .int .i64 ((rd_T104 l0_1 x20_2).f4), .int .i64 0]) ?_ 5 _ rfl; (with_reducible repeat (first | refine blk_drewN ?_ _ | refine blk_drew ?_ | refine blk_alloc ?_ _)); refine blk_put (cs := #[.int .i64 ((rd_T104 l0_1 x20_2).f0), .int .i64 ((rd_T104 l0_1 x20_2).f1), .int .i64 ((rd_T104 l0_1 x20_2).f2), .int .i64 ((rd_T104 l0_1 x20_2).f3), .int .i64 0, .int .i64 0]) ?_ 4 _ rfl; (with_reducible repeat (first | refine blk_drewN ?_ _ | refine blk_drew ?_ | refine blk_alloc ?_ _)); refine blk_put (cs := #[.int .i64 ((rd_T104 l0_1 x20_2).f0), .int .i64 ((rd_T104 l0_1 x20_2).f1), .int .i64 ((rd_T104 l0_1 x20_2).f2), .int .i64 0, .int .i64 0, .int .i64 0]) ?_ 3 _ rfl; (with_reducible repeat (first | refine blk_drewN ?_ _ | refine blk_drew ?_ | refine blk_alloc ?_ _)); refine blk_put (cs := #[.int .i64 ((rd_T104 l0_1 x20_2).f0), .int .i64 ((rd_T104 l0_1 x20_2).f1), .int .i64 0, .int .i64 0, .int .i64 0, .int .i64 0]) ?_ 2 _ rfl; (with_reducible repeat (first | refine blk_drewN ?_ _ | refine blk_drew ?_ | refine blk_alloc ?_ _)); refine blk_put (cs := #[.int .i64 ((rd_T104 l0_1 x20_2).f0), .int .i64 0, .int .i64 0, .int .i64 0, .int .i64 0, .int .i64 0]) ?_ 1 _ rfl; (with_reducible repeat (first | refine blk_drewN ?_ _ | refine blk_drew ?_ | refine blk_alloc ?_ _)); refine blk_put (cs := #[.int .i64 0, .int .i64 0, .int .i64 0, .int .i64 0, .int .i64 0, .int .i64 0]) ?_ 0 _ rfl; (with_reducible repeat (first | refine blk_drewN ?_ _ | refine blk_drew ?_ | refine blk_alloc ?_ _)); exact BK104.out⟩, ⟨tB⟩⟩
               rw [if_neg c31] at H
               have c31b0 : (((rd_T104 l0_1 x20_2).f4) == 30) = false := beq_eq_false_iff_ne.mpr c31
               have c31b1 : (((rd_T104 l0_1 x20_2).f4) != 30) = true := bne_iff_ne.mpr c31
               by_cases c36 : ((rd_T104 l0_1 x20_2).f4) = 90
               ·rw [if_pos c36] at H
                have c36b0 : (((rd_T104 l0_1 x20_2).f4) == 90) = true := beq_iff_eq.mpr c36
                have c36b1 : (((rd_T104 l0_1 x20_2).f4) != 90) = false := bne_eq_false_iff_eq.mpr c36
                clear c36
                replace H := Option.bind_eq_some_iff.mp H
                obtain ⟨t110, A370, H⟩ := H
                try dsimp only at H
                have A37 := Aside0.mk A370
                clear A370
                have H' := Aside0.mk H
                clear H
                have hnb38 := NB104_101.out
                have hnc38 := NB101_104.out
                obtain ⟨hcz39_0, hcz39_1, hcz39_2, hcz39_3, hcz39_4, hcz39_5, hfz39_0, hfz39_1, hfz39_2, hfz39_3, hfz39_4, hfz39_5⟩ := bc6 BK104.out
                obtain ⟨hcz40_0, hcz40_1, hfz40_0, hfz40_1⟩ := bc2 BK101.out
                go_wp2_with (first | (go_at_call 82; (with_reducible refine (impl_InRange.calls ((rd_T104 l0_1 x20_2).f0) 0 (wrap64 (a0_0 - 1)) true _ A17.out).mono ?_); rintro e w' ⟨rfl, ⟨nd, rfl⟩⟩; (try exact tQ)) | (go_at_call 82; (with_reducible refine (impl_InRange.calls ((rd_T104 l0_1 x20_2).f1) 0 1000000 true _ A27.out).mono ?_); rintro e w' ⟨rfl, ⟨nd, rfl⟩⟩; (try exact tQ)) | (go_at_call 82; (with_reducible refine (impl_InRange.calls ((rd_T104 l0_1 x20_2).f3) 0 1000000 true _ A29.out).mono ?_); rintro e w' ⟨rfl, ⟨nd, rfl⟩⟩; (try exact tQ)) | (go_at_call 82; (with_reducible refine (impl_InRange.calls ((rd_T104 l0_1 x20_2).f5) 1 3 t110 _ A37.out).mono ?_); rintro e w' ⟨rfl, ⟨nd, rfl⟩⟩; (try exact tQ)))
                have p106 : 0 ≤ ((ji20) : Int) := of_decide_eq_true tA
                have q106 : (ji20) < (l0_1.length : Int) := of_decide_eq_true tA
                obtain ⟨ad106, e106, hx106_0, hx106_1, hx106_2, hx106_3, hx106_4, hx106_5⟩ := at_T104 HR0_1.out (ji20) p106 q106
                obtain rfl : ad103 = ad106 := (by injection e106)
                have hn106_0 : ad103.block ≠ gb104 := hN hx106_0 GW104
                have hn106_1 : ad103.block ≠ gb104 := hN hx106_0 GW104
                have hn106_2 : ad103.block ≠ gb104 := hN hx106_0 GW104
                have hn106_3 : ad103.block ≠ gb104 := hN hx106_0 GW104
                have hn106_4 : ad103.block ≠ gb104 := hN hx106_0 GW104
                have hn106_5 : ad103.block ≠ gb104 := hN hx106_0 GW104
                replace hx106_0 := hbc HB hx106_0
                replace hx106_1 := hbc HB hx106_1
                replace hx106_2 := hbc HB hx106_2
                replace hx106_3 := hbc HB hx106_3
                replace hx106_4 := hbc HB hx106_4
                replace hx106_5 := hbc HB hx106_5
                have F_ := @far6 gb104 (.int .i64 ((rd_T104 l0_1 x20_2).f0)) (.int .i64 ((rd_T104 l0_1 x20_2).f1)) (.int .i64 ((rd_T104 l0_1 x20_2).f2)) (.int .i64 ((rd_T104 l0_1 x20_2).f3)) (.int .i64 ((rd_T104 l0_1 x20_2).f4)) (.int .i64 ((rd_T104 l0_1 x20_2).f5))
                replace hx106_0 := (F_ tF).trans hx106_0
                replace hx106_1 := (F_ tF).trans hx106_1
                replace hx106_2 := (F_ tF).trans hx106_2
                replace hx106_3 := (F_ tF).trans hx106_3
                replace hx106_4 := (F_ tF).trans hx106_4
                replace hx106_5 := (F_ tF).trans hx106_5
                clear F_
                clear hn106_0
                clear hn106_1
                clear hn106_2
                clear hn106_3
                clear hn106_4
                clear hn106_5
                replace p106 := eq_true p106
                replace q106 := eq_true q106
                repeat (go_quiet (first | (go_at_call 82; (with_reducible refine (impl_InRange.calls ((rd_T104 l0_1 x20_2).f0) 0 (wrap64 (a0_0 - 1)) true _ A17.out).mono ?_); rintro e w' ⟨rfl, ⟨nd, rfl⟩⟩; (try exact tQ)) | (go_at_call 82; (with_reducible refine (impl_InRange.calls ((rd_T104 l0_1 x20_2).f1) 0 1000000 true _ A27.out).mono ?_); rintro e w' ⟨rfl, ⟨nd, rfl⟩⟩; (try exact tQ)) | (go_at_call 82; (with_reducible refine (impl_InRange.calls ((rd_T104 l0_1 x20_2).f3) 0 1000000 true _ A29.out).mono ?_); rintro e w' ⟨rfl, ⟨nd, rfl⟩⟩; (try exact tQ)) | (go_at_call 82; (with_reducible refine (impl_InRange.calls ((rd_T104 l0_1 x20_2).f5) 1 3 t110 _ A37.out).mono ?_); rintro e w' ⟨rfl, ⟨nd, rfl⟩⟩; (try exact tQ))); try go_wp2_with (first | (go_at_call 82; (with_reducible refine (impl_InRange.calls ((rd_T104 l0_1 x20_2).f0) 0 (wrap64 (a0_0 - 1)) true _ A17.out).mono ?_); rintro e w' ⟨rfl, ⟨nd, rfl⟩⟩; (try exact tQ)) | (go_at_call 82; (with_reducible refine (impl_InRange.calls ((rd_T104 l0_1 x20_2).f1) 0 1000000 true _ A27.out).mono ?_); rintro e w' ⟨rfl, ⟨nd, rfl⟩⟩; (try exact tQ)) | (go_at_call 82; (with_reducible refine (impl_InRange.calls ((rd_T104 l0_1 x20_2).f3) 0 1000000 true _ A29.out).mono ?_); rintro e w' ⟨rfl, ⟨nd, rfl⟩⟩; (try exact tQ)) | (go_at_call 82; (with_reducible refine (impl_InRange.calls ((rd_T104 l0_1 x20_2).f5) 1 3 t110 _ A37.out).mono ?_); rintro e w' ⟨rfl, ⟨nd, rfl⟩⟩; (try exact tQ))))
                go_meet
                case rel => exact ⟨_, (!t110), tS, H', ⟨by have := HJ1.out; have := HK2.out; first | omega | exact Nat.le_refl _⟩, ⟨kF NB101_104 BK101⟩, ⟨by (with_reducible repeat (first | refine blk_drewN ?_ _ | refine blk_drew ?_ | refine blk_alloc ?_ _)); refine blk_put (cs := #[.int .i64 ((rd_T104 l0_1 x20_2).f0), .int .i64 ((rd_T104 l0_1 x20_2).f1), .int .i64 ((rd_T104 l0_1 x20_2).f2), .int .i64 ((rd_T104 l0_1 x20_2).f3), .int .i64 ((rd_T104 l0_1 x20_2).f4), .int .i64 0]) ?_ 5 _ rfl; (with_reducible repeat (first | refine blk_drewN ?_ _ | refine blk_drew ?_ | refine blk_alloc ?_ _)); refine blk_put (cs := #[.int .i64 ((rd_T104 l0_1 x20_2).f0), .int .i64 ((rd_T104 l0_1 x20_2).f1), .int .i64 ((rd_T104 l0_1 x20_2).f2), .int .i64 ((rd_T104 l0_1 x20_2).f3), .int .i64 0, .int .i64 0]) ?_ 4 _ rfl; (with_reducible repeat (first | refine blk_drewN ?_ _ | refine blk_drew ?_ | refine blk_alloc ?_ _)); refine blk_put (cs := #[.int .i64 ((rd_T104 l0_1 x20_2).f0), .int .i64 ((rd_T104 l0_1 x20_2).f1), .int .i64 ((rd_T104 l0_1 x20_2).f2), .int .i64 0, .int .i64 0, .int .i64 0]) ?_ 3 _ rfl; (with_reducible repeat (first | refine blk_drewN ?_ _ | refine blk_drew ?_ | refine blk_alloc ?_ _)); refine blk_put (cs := #[.int .i64 ((rd_T104 l0_1 x20_2).f0), .int .i64 ((rd_T104 l0_1 x20_2).f1), .int .i64 0, .int .i64 0, .int .i64 0, .int .i64 0]) ?_ 2 _ rfl; (with_reducible repeat (first | refine blk_drewN ?_ _ | refine blk_drew ?_ | refine blk_alloc ?_ _)); refine blk_put (cs := #[.int .i64 ((rd_T104 l0_1 x20_2).f0), .int .i64 0, .int .i64 0, .int .i64 0, .int .i64 0, .int .i64 0]) ?_ 1 _ rfl; (with_reducible repeat (first | refine blk_drewN ?_ _ | refine blk_drew ?_ | refine blk_alloc ?_ _)); refine blk_put (cs := #[.int .i64 0, .int .i64 0, .int .i64 0, .int .i64 0, .int .i64 0, .int .i64 0]) ?_ 0 _ rfl; (with_reducible repeat (first | refine blk_drewN ?_ _ | refine blk_drew ?_ | refine blk_alloc ?_ _)); exact BK104.out⟩, ⟨tB⟩⟩
               rw [if_neg c36] at H
               have c36b0 : (((rd_T104 l0_1 x20_2).f4) == 90) = false := beq_eq_false_iff_ne.mpr c36
               have c36b1 : (((rd_T104 l0_1 x20_2).f4) != 90) = true := bne_iff_ne.mpr c36
               have H' := Aside0.mk H
               clear H
               have hnb41 := NB104_101.out
               have hnc41 := NB101_104.out
               obtain ⟨hcz42_0, hcz42_1, hcz42_2, hcz42_3, hcz42_4, hcz42_5, hfz42_0, hfz42_1, hfz42_2, hfz42_3, hfz42_4, hfz42_5⟩ := bc6 BK104.out
               obtain ⟨hcz43_0, hcz43_1, hfz43_0, hfz43_1⟩ := bc2 BK101.out
               go_wp2_with (first | (go_at_call 82; (with_reducible refine (impl_InRange.calls ((rd_T104 l0_1 x20_2).f0) 0 (wrap64 (a0_0 - 1)) true _ A17.out).mono ?_); rintro e w' ⟨rfl, ⟨nd, rfl⟩⟩; (try exact tQ)) | (go_at_call 82; (with_reducible refine (impl_InRange.calls ((rd_T104 l0_1 x20_2).f1) 0 1000000 true _ A27.out).mono ?_); rintro e w' ⟨rfl, ⟨nd, rfl⟩⟩; (try exact tQ)) | (go_at_call 82; (with_reducible refine (impl_InRange.calls ((rd_T104 l0_1 x20_2).f3) 0 1000000 true _ A29.out).mono ?_); rintro e w' ⟨rfl, ⟨nd, rfl⟩⟩; (try exact tQ)))
               have p106 : 0 ≤ ((ji20) : Int) := of_decide_eq_true tA
               have q106 : (ji20) < (l0_1.length : Int) := of_decide_eq_true tA
               obtain ⟨ad106, e106, hx106_0, hx106_1, hx106_2, hx106_3, hx106_4, hx106_5⟩ := at_T104 HR0_1.out (ji20) p106 q106
               obtain rfl : ad103 = ad106 := (by injection e106)
               have hn106_0 : ad103.block ≠ gb104 := hN hx106_0 GW104
               have hn106_1 : ad103.block ≠ gb104 := hN hx106_0 GW104
               have hn106_2 : ad103.block ≠ gb104 := hN hx106_0 GW104
               have hn106_3 : ad103.block ≠ gb104 := hN hx106_0 GW104
               have hn106_4 : ad103.block ≠ gb104 := hN hx106_0 GW104
               have hn106_5 : ad103.block ≠ gb104 := hN hx106_0 GW104
               replace hx106_0 := hbc HB hx106_0
               replace hx106_1 := hbc HB hx106_1
               replace hx106_2 := hbc HB hx106_2
               replace hx106_3 := hbc HB hx106_3
               replace hx106_4 := hbc HB hx106_4
               replace hx106_5 := hbc HB hx106_5
               have F_ := @far6 gb104 (.int .i64 ((rd_T104 l0_1 x20_2).f0)) (.int .i64 ((rd_T104 l0_1 x20_2).f1)) (.int .i64 ((rd_T104 l0_1 x20_2).f2)) (.int .i64 ((rd_T104 l0_1 x20_2).f3)) (.int .i64 ((rd_T104 l0_1 x20_2).f4)) (.int .i64 ((rd_T104 l0_1 x20_2).f5))
               replace hx106_0 := (F_ tF).trans hx106_0
               replace hx106_1 := (F_ tF).trans hx106_1
               replace hx106_2 := (F_ tF).trans hx106_2
               replace hx106_3 := (F_ tF).trans hx106_3
               replace hx106_4 := (F_ tF).trans hx106_4
               replace hx106_5 := (F_ tF).trans hx106_5
               clear F_
               clear hn106_0
               clear hn106_1
               clear hn106_2
               clear hn106_3
               clear hn106_4
               clear hn106_5
               replace p106 := eq_true p106
               replace q106 := eq_true q106
               repeat (go_quiet (first | (go_at_call 82; (with_reducible refine (impl_InRange.calls ((rd_T104 l0_1 x20_2).f0) 0 (wrap64 (a0_0 - 1)) true _ A17.out).mono ?_); rintro e w' ⟨rfl, ⟨nd, rfl⟩⟩; (try exact tQ)) | (go_at_call 82; (with_reducible refine (impl_InRange.calls ((rd_T104 l0_1 x20_2).f1) 0 1000000 true _ A27.out).mono ?_); rintro e w' ⟨rfl, ⟨nd, rfl⟩⟩; (try exact tQ)) | (go_at_call 82; (with_reducible refine (impl_InRange.calls ((rd_T104 l0_1 x20_2).f3) 0 1000000 true _ A29.out).mono ?_); rintro e w' ⟨rfl, ⟨nd, rfl⟩⟩; (try exact tQ))); try go_wp2_with (first | (go_at_call 82; (with_reducible refine (impl_InRange.calls ((rd_T104 l0_1 x20_2).f0) 0 (wrap64 (a0_0 - 1)) true _ A17.out).mono ?_); rintro e w' ⟨rfl, ⟨nd, rfl⟩⟩; (try exact tQ)) | (go_at_call 82; (with_reducible refine (impl_InRange.calls ((rd_T104 l0_1 x20_2).f1) 0 1000000 true _ A27.out).mono ?_); rintro e w' ⟨rfl, ⟨nd, rfl⟩⟩; (try exact tQ)) | (go_at_call 82; (with_reducible refine (impl_InRange.calls ((rd_T104 l0_1 x20_2).f3) 0 1000000 true _ A29.out).mono ?_); rintro e w' ⟨rfl, ⟨nd, rfl⟩⟩; (try exact tQ))))
               go_meet
               case rel => exact ⟨_, (true), tS, H', ⟨by have := HJ1.out; have := HK2.out; first | omega | exact Nat.le_refl _⟩, ⟨kF NB101_104 BK101⟩, ⟨by (with_reducible repeat (first | refine blk_drewN ?_ _ | refine blk_drew ?_ | refine blk_alloc ?_ _)); refine blk_put (cs := #[.int .i64 ((rd_T104 l0_1 x20_2).f0), .int .i64 ((rd_T104 l0_1 x20_2).f1), .int .i64 ((rd_T104 l0_1 x20_2).f2), .int .i64 ((rd_T104 l0_1 x20_2).f3), .int .i64 ((rd_T104 l0_1 x20_2).f4), .int .i64 0]) ?_ 5 _ rfl; (with_reducible repeat (first | refine blk_drewN ?_ _ | refine blk_drew ?_ | refine blk_alloc ?_ _)); refine blk_put (cs := #[.int .i64 ((rd_T104 l0_1 x20_2).f0), .int .i64 ((rd_T104 l0_1 x20_2).f1), .int .i64 ((rd_T104 l0_1 x20_2).f2), .int .i64 ((rd_T104 l0_1 x20_2).f3), .int .i64 0, .int .i64 0]) ?_ 4 _ rfl; (with_reducible repeat (first | refine blk_drewN ?_ _ | refine blk_drew ?_ | refine blk_alloc ?_ _)); refine blk_put (cs := #[.int .i64 ((rd_T104 l0_1 x20_2).f0), .int .i64 ((rd_T104 l0_1 x20_2).f1), .int .i64 ((rd_T104 l0_1 x20_2).f2), .int .i64 0, .int .i64 0, .int .i64 0]) ?_ 3 _ rfl; (with_reducible repeat (first | refine blk_drewN ?_ _ | refine blk_drew ?_ | refine blk_alloc ?_ _)); refine blk_put (cs := #[.int .i64 ((rd_T104 l0_1 x20_2).f0), .int .i64 ((rd_T104 l0_1 x20_2).f1), .int .i64 0, .int .i64 0, .int .i64 0, .int .i64 0]) ?_ 2 _ rfl; (with_reducible repeat (first | refine blk_drewN ?_ _ | refine blk_drew ?_ | refine blk_alloc ?_ _)); refine blk_put (cs := #[.int .i64 ((rd_T104 l0_1 x20_2).f0), .int .i64 0, .int .i64 0, .int .i64 0, .int .i64 0, .int .i64 0]) ?_ 1 _ rfl; (with_reducible repeat (first | refine blk_drewN ?_ _ | refine blk_drew ?_ | refine blk_alloc ?_ _)); refine blk_put (cs := #[.int .i64 0, .int .i64 0, .int .i64 0, .int .i64 0, .int .i64 0, .int .i64 0]) ?_ 0 _ rfl; (with_reducible repeat (first | refine blk_drewN ?_ _ | refine blk_drew ?_ | refine blk_alloc ?_ _)); exact BK104.out⟩, ⟨tB⟩⟩
              replace c30 := Bool.eq_false_iff.mpr c30
              subst c30
              have H1 : (impl_IsValidClaims.j2 k2 x20_2 l0_1 (l0_1.length : Int) x20_2 true a0_0 l0_1 ((rd_T104 l0_1 x20_2).f0) ((rd_T104 l0_1 x20_2).f1) ((rd_T104 l0_1 x20_2).f2) ((rd_T104 l0_1 x20_2).f3) ((rd_T104 l0_1 x20_2).f4) ((rd_T104 l0_1 x20_2).f5)) = some r := by rw [if_neg (show ¬ (false = true) by decide)] at H; exact H
              clear H
              have H := H1
              clear H1
              have H' := Aside0.mk H
              clear H
              have hnb44 := NB104_101.out
              have hnc44 := NB101_104.out
              obtain ⟨hcz45_0, hcz45_1, hcz45_2, hcz45_3, hcz45_4, hcz45_5, hfz45_0, hfz45_1, hfz45_2, hfz45_3, hfz45_4, hfz45_5⟩ := bc6 BK104.out
              obtain ⟨hcz46_0, hcz46_1, hfz46_0, hfz46_1⟩ := bc2 BK101.out
              go_wp2_with (first | (go_at_call 82; (with_reducible refine (impl_InRange.calls ((rd_T104 l0_1 x20_2).f0) 0 (wrap64 (a0_0 - 1)) true _ A17.out).mono ?_); rintro e w' ⟨rfl, ⟨nd, rfl⟩⟩; (try exact tQ)) | (go_at_call 82; (with_reducible refine (impl_InRange.calls ((rd_T104 l0_1 x20_2).f1) 0 1000000 true _ A27.out).mono ?_); rintro e w' ⟨rfl, ⟨nd, rfl⟩⟩; (try exact tQ)) | (go_at_call 82; (with_reducible refine (impl_InRange.calls ((rd_T104 l0_1 x20_2).f3) 0 1000000 false _ A29.out).mono ?_); rintro e w' ⟨rfl, ⟨nd, rfl⟩⟩; (try exact tQ)))
              have p106 : 0 ≤ ((ji20) : Int) := of_decide_eq_true tA
              have q106 : (ji20) < (l0_1.length : Int) := of_decide_eq_true tA
              obtain ⟨ad106, e106, hx106_0, hx106_1, hx106_2, hx106_3, hx106_4, hx106_5⟩ := at_T104 HR0_1.out (ji20) p106 q106
              obtain rfl : ad103 = ad106 := (by injection e106)
              have hn106_0 : ad103.block ≠ gb104 := hN hx106_0 GW104
              have hn106_1 : ad103.block ≠ gb104 := hN hx106_0 GW104
              have hn106_2 : ad103.block ≠ gb104 := hN hx106_0 GW104
              have hn106_3 : ad103.block ≠ gb104 := hN hx106_0 GW104
              have hn106_4 : ad103.block ≠ gb104 := hN hx106_0 GW104
              have hn106_5 : ad103.block ≠ gb104 := hN hx106_0 GW104
              replace hx106_0 := hbc HB hx106_0
              replace hx106_1 := hbc HB hx106_1
              replace hx106_2 := hbc HB hx106_2
              replace hx106_3 := hbc HB hx106_3
              replace hx106_4 := hbc HB hx106_4
              replace hx106_5 := hbc HB hx106_5
              have F_ := @far6 gb104 (.int .i64 ((rd_T104 l0_1 x20_2).f0)) (.int .i64 ((rd_T104 l0_1 x20_2).f1)) (.int .i64 ((rd_T104 l0_1 x20_2).f2)) (.int .i64 ((rd_T104 l0_1 x20_2).f3)) (.int .i64 ((rd_T104 l0_1 x20_2).f4)) (.int .i64 ((rd_T104 l0_1 x20_2).f5))
              replace hx106_0 := (F_ tF).trans hx106_0
              replace hx106_1 := (F_ tF).trans hx106_1
              replace hx106_2 := (F_ tF).trans hx106_2
              replace hx106_3 := (F_ tF).trans hx106_3
              replace hx106_4 := (F_ tF).trans hx106_4
              replace hx106_5 := (F_ tF).trans hx106_5
              clear F_
              clear hn106_0
              clear hn106_1
              clear hn106_2
              clear hn106_3
              clear hn106_4
              clear hn106_5
              replace p106 := eq_true p106
              replace q106 := eq_true q106
              repeat (go_quiet (first | (go_at_call 82; (with_reducible refine (impl_InRange.calls ((rd_T104 l0_1 x20_2).f0) 0 (wrap64 (a0_0 - 1)) true _ A17.out).mono ?_); rintro e w' ⟨rfl, ⟨nd, rfl⟩⟩; (try exact tQ)) | (go_at_call 82; (with_reducible refine (impl_InRange.calls ((rd_T104 l0_1 x20_2).f1) 0 1000000 true _ A27.out).mono ?_); rintro e w' ⟨rfl, ⟨nd, rfl⟩⟩; (try exact tQ)) | (go_at_call 82; (with_reducible refine (impl_InRange.calls ((rd_T104 l0_1 x20_2).f3) 0 1000000 false _ A29.out).mono ?_); rintro e w' ⟨rfl, ⟨nd, rfl⟩⟩; (try exact tQ))); try go_wp2_with (first | (go_at_call 82; (with_reducible refine (impl_InRange.calls ((rd_T104 l0_1 x20_2).f0) 0 (wrap64 (a0_0 - 1)) true _ A17.out).mono ?_); rintro e w' ⟨rfl, ⟨nd, rfl⟩⟩; (try exact tQ)) | (go_at_call 82; (with_reducible refine (impl_InRange.calls ((rd_T104 l0_1 x20_2).f1) 0 1000000 true _ A27.out).mono ?_); rintro e w' ⟨rfl, ⟨nd, rfl⟩⟩; (try exact tQ)) | (go_at_call 82; (with_reducible refine (impl_InRange.calls ((rd_T104 l0_1 x20_2).f3) 0 1000000 false _ A29.out).mono ?_); rintro e w' ⟨rfl, ⟨nd, rfl⟩⟩; (try exact tQ))))
              go_meet
              case rel => exact ⟨_, (true), tS, H', ⟨by have := HJ1.out; have := HK2.out; first | omega | exact Nat.le_refl _⟩, ⟨kF NB101_104 BK101⟩, ⟨by (with_reducible repeat (first | refine blk_drewN ?_ _ | refine blk_drew ?_ | refine blk_alloc ?_ _)); refine blk_put (cs := #[.int .i64 ((rd_T104 l0_1 x20_2).f0), .int .i64 ((rd_T104 l0_1 x20_2).f1), .int .i64 ((rd_T104 l0_1 x20_2).f2), .int .i64 ((rd_T104 l0_1 x20_2).f3), .int .i64 ((rd_T104 l0_1 x20_2).f4), .int .i64 0]) ?_ 5 _ rfl; (with_reducible repeat (first | refine blk_drewN ?_ _ | refine blk_drew ?_ | refine blk_alloc ?_ _)); refine blk_put (cs := #[.int .i64 ((rd_T104 l0_1 x20_2).f0), .int .i64 ((rd_T104 l0_1 x20_2).f1), .int .i64 ((rd_T104 l0_1 x20_2).f2), .int .i64 ((rd_T104 l0_1 x20_2).f3), .int .i64 0, .int .i64 0]) ?_ 4 _ rfl; (with_reducible repeat (first | refine blk_drewN ?_ _ | refine blk_drew ?_ | refine blk_alloc ?_ _)); refine blk_put (cs := #[.int .i64 ((rd_T104 l0_1 x20_2).f0), .int .i64 ((rd_T104 l0_1 x20_2).f1), .int .i64 ((rd_T104 l0_1 x20_2).f2), .int .i64 0, .int .i64 0, .int .i64 0]) ?_ 3 _ rfl; (with_reducible repeat (first | refine blk_drewN ?_ _ | refine blk_drew ?_ | refine blk_alloc ?_ _)); refine blk_put (cs := #[.int .i64 ((rd_T104 l0_1 x20_2).f0), .int .i64 ((rd_T104 l0_1 x20_2).f1), .int .i64 0, .int .i64 0, .int .i64 0, .int .i64 0]) ?_ 2 _ rfl; (with_reducible repeat (first | refine blk_drewN ?_ _ | refine blk_drew ?_ | refine blk_alloc ?_ _)); refine blk_put (cs := #[.int .i64 ((rd_T104 l0_1 x20_2).f0), .int .i64 0, .int .i64 0, .int .i64 0, .int .i64 0, .int .i64 0]) ?_ 1 _ rfl; (with_reducible repeat (first | refine blk_drewN ?_ _ | refine blk_drew ?_ | refine blk_alloc ?_ _)); refine blk_put (cs := #[.int .i64 0, .int .i64 0, .int .i64 0, .int .i64 0, .int .i64 0, .int .i64 0]) ?_ 0 _ rfl; (with_reducible repeat (first | refine blk_drewN ?_ _ | refine blk_drew ?_ | refine blk_alloc ?_ _)); exact BK104.out⟩, ⟨tB⟩⟩
             replace c28 := Bool.eq_false_iff.mpr c28
             subst c28
             have H1 : (impl_IsValidClaims.j2 k2 x20_2 l0_1 (l0_1.length : Int) x20_2 true a0_0 l0_1 ((rd_T104 l0_1 x20_2).f0) ((rd_T104 l0_1 x20_2).f1) ((rd_T104 l0_1 x20_2).f2) ((rd_T104 l0_1 x20_2).f3) ((rd_T104 l0_1 x20_2).f4) ((rd_T104 l0_1 x20_2).f5)) = some r := by rw [if_neg (show ¬ (false = true) by decide)] at H; exact H
             clear H
             have H := H1
             clear H1
             have H' := Aside0.mk H
             clear H
             have hnb47 := NB104_101.out
             have hnc47 := NB101_104.out
             obtain ⟨hcz48_0, hcz48_1, hcz48_2, hcz48_3, hcz48_4, hcz48_5, hfz48_0, hfz48_1, hfz48_2, hfz48_3, hfz48_4, hfz48_5⟩ := bc6 BK104.out
             obtain ⟨hcz49_0, hcz49_1, hfz49_0, hfz49_1⟩ := bc2 BK101.out
             go_wp2_with (first | (go_at_call 82; (with_reducible refine (impl_InRange.calls ((rd_T104 l0_1 x20_2).f0) 0 (wrap64 (a0_0 - 1)) true _ A17.out).mono ?_); rintro e w' ⟨rfl, ⟨nd, rfl⟩⟩; (try exact tQ)) | (go_at_call 82; (with_reducible refine (impl_InRange.calls ((rd_T104 l0_1 x20_2).f1) 0 1000000 false _ A27.out).mono ?_); rintro e w' ⟨rfl, ⟨nd, rfl⟩⟩; (try exact tQ)))
             have p106 : 0 ≤ ((ji20) : Int) := of_decide_eq_true tA
             have q106 : (ji20) < (l0_1.length : Int) := of_decide_eq_true tA
             obtain ⟨ad106, e106, hx106_0, hx106_1, hx106_2, hx106_3, hx106_4, hx106_5⟩ := at_T104 HR0_1.out (ji20) p106 q106
             obtain rfl : ad103 = ad106 := (by injection e106)
             have hn106_0 : ad103.block ≠ gb104 := hN hx106_0 GW104
             have hn106_1 : ad103.block ≠ gb104 := hN hx106_0 GW104
             have hn106_2 : ad103.block ≠ gb104 := hN hx106_0 GW104
             have hn106_3 : ad103.block ≠ gb104 := hN hx106_0 GW104
             have hn106_4 : ad103.block ≠ gb104 := hN hx106_0 GW104
             have hn106_5 : ad103.block ≠ gb104 := hN hx106_0 GW104
             replace hx106_0 := hbc HB hx106_0
             replace hx106_1 := hbc HB hx106_1
             replace hx106_2 := hbc HB hx106_2
             replace hx106_3 := hbc HB hx106_3
             replace hx106_4 := hbc HB hx106_4
             replace hx106_5 := hbc HB hx106_5
             have F_ := @far6 gb104 (.int .i64 ((rd_T104 l0_1 x20_2).f0)) (.int .i64 ((rd_T104 l0_1 x20_2).f1)) (.int .i64 ((rd_T104 l0_1 x20_2).f2)) (.int .i64 ((rd_T104 l0_1 x20_2).f3)) (.int .i64 ((rd_T104 l0_1 x20_2).f4)) (.int .i64 ((rd_T104 l0_1 x20_2).f5))
             replace hx106_0 := (F_ tF).trans hx106_0
             replace hx106_1 := (F_ tF).trans hx106_1
             replace hx106_2 := (F_ tF).trans hx106_2
             replace hx106_3 := (F_ tF).trans hx106_3
             replace hx106_4 := (F_ tF).trans hx106_4
             replace hx106_5 := (F_ tF).trans hx106_5
             clear F_
             clear hn106_0
             clear hn106_1
             clear hn106_2
             clear hn106_3
             clear hn106_4
             clear hn106_5
             replace p106 := eq_true p106
             replace q106 := eq_true q106
             repeat (go_quiet (first | (go_at_call 82; (with_reducible refine (impl_InRange.calls ((rd_T104 l0_1 x20_2).f0) 0 (wrap64 (a0_0 - 1)) true _ A17.out).mono ?_); rintro e w' ⟨rfl, ⟨nd, rfl⟩⟩; (try exact tQ)) | (go_at_call 82; (with_reducible refine (impl_InRange.calls ((rd_T104 l0_1 x20_2).f1) 0 1000000 false _ A27.out).mono ?_); rintro e w' ⟨rfl, ⟨nd, rfl⟩⟩; (try exact tQ))); try go_wp2_with (first | (go_at_call 82; (with_reducible refine (impl_InRange.calls ((rd_T104 l0_1 x20_2).f0) 0 (wrap64 (a0_0 - 1)) true _ A17.out).mono ?_); rintro e w' ⟨rfl, ⟨nd, rfl⟩⟩; (try exact tQ)) | (go_at_call 82; (with_reducible refine (impl_InRange.calls ((rd_T104 l0_1 x20_2).f1) 0 1000000 false _ A27.out).mono ?_); rintro e w' ⟨rfl, ⟨nd, rfl⟩⟩; (try exact tQ))))
             go_meet
             case rel => exact ⟨_, (true), tS, H', ⟨by have := HJ1.out; have := HK2.out; first | omega | exact Nat.le_refl _⟩, ⟨kF NB101_104 BK101⟩, ⟨by (with_reducible repeat (first | refine blk_drewN ?_ _ | refine blk_drew ?_ | refine blk_alloc ?_ _)); refine blk_put (cs := #[.int .i64 ((rd_T104 l0_1 x20_2).f0), .int .i64 ((rd_T104 l0_1 x20_2).f1), .int .i64 ((rd_T104 l0_1 x20_2).f2), .int .i64 ((rd_T104 l0_1 x20_2).f3), .int .i64 ((rd_T104 l0_1 x20_2).f4), .int .i64 0]) ?_ 5 _ rfl; (with_reducible repeat (first | refine blk_drewN ?_ _ | refine blk_drew ?_ | refine blk_alloc ?_ _)); refine blk_put (cs := #[.int .i64 ((rd_T104 l0_1 x20_2).f0), .int .i64 ((rd_T104 l0_1 x20_2).f1), .int .i64 ((rd_T104 l0_1 x20_2).f2), .int .i64 ((rd_T104 l0_1 x20_2).f3), .int .i64 0, .int .i64 0]) ?_ 4 _ rfl; (with_reducible repeat (first | refine blk_drewN ?_ _ | refine blk_drew ?_ | refine blk_alloc ?_ _)); refine blk_put (cs := #[.int .i64 ((rd_T104 l0_1 x20_2).f0), .int .i64 ((rd_T104 l0_1 x20_2).f1), .int .i64 ((rd_T104 l0_1 x20_2).f2), .int .i64 0, .int .i64 0, .int .i64 0]) ?_ 3 _ rfl; (with_reducible repeat (first | refine blk_drewN ?_ _ | refine blk_drew ?_ | refine blk_alloc ?_ _)); refine blk_put (cs := #[.int .i64 ((rd_T104 l0_1 x20_2).f0), .int .i64 ((rd_T104 l0_1 x20_2).f1), .int .i64 0, .int .i64 0, .int .i64 0, .int .i64 0]) ?_ 2 _ rfl; (with_reducible repeat (first | refine blk_drewN ?_ _ | refine blk_drew ?_ | refine blk_alloc ?_ _)); refine blk_put (cs := #[.int .i64 ((rd_T104 l0_1 x20_2).f0), .int .i64 0, .int .i64 0, .int .i64 0, .int .i64 0, .int .i64 0]) ?_ 1 _ rfl; (with_reducible repeat (first | refine blk_drewN ?_ _ | refine blk_drew ?_ | refine blk_alloc ?_ _)); refine blk_put (cs := #[.int .i64 0, .int .i64 0, .int .i64 0, .int .i64 0, .int .i64 0, .int .i64 0]) ?_ 0 _ rfl; (with_reducible repeat (first | refine blk_drewN ?_ _ | refine blk_drew ?_ | refine blk_alloc ?_ _)); exact BK104.out⟩, ⟨tB⟩⟩
            rw [if_neg c22] at H
            exact absurd H (by simp)
           rw [if_neg c21] at H
           exact absurd H (by simp)
          rw [if_neg c19] at H
          have c19b0 : decide (0 < x20_2) = false := decide_eq_false c19
          clear c19
          (first | rw [c19b0] | (simp only [i64_w, i32_w]; rw [c19b0]) | skip)
          replace H := Option.bind_eq_some_iff.mp H
          obtain ⟨t111, A500, H⟩ := H
          try dsimp only at H
          have A50 := Aside0.mk A500
          clear A500
          by_cases c51 : t111 = true
          ·subst c51
           have H1 : ((impl_InRange.f ((rd_T104 l0_1 x20_2).f3) 0 1000000).bind fun t112 => (if t112 = true then (if ((rd_T104 l0_1 x20_2).f4) = 30 then ((impl_InRange.f ((rd_T104 l0_1 x20_2).f5) 1 3).bind fun t113 => (impl_IsValidClaims.j2 k2 x20_2 l0_1 (l0_1.length : Int) x20_2 (!t113) a0_0 l0_1 ((rd_T104 l0_1 x20_2).f0) ((rd_T104 l0_1 x20_2).f1) ((rd_T104 l0_1 x20_2).f2) ((rd_T104 l0_1 x20_2).f3) ((rd_T104 l0_1 x20_2).f4) ((rd_T104 l0_1 x20_2).f5))) else (if ((rd_T104 l0_1 x20_2).f4) = 90 then ((impl_InRange.f ((rd_T104 l0_1 x20_2).f5) 1 3).bind fun t114 => (impl_IsValidClaims.j2 k2 x20_2 l0_1 (l0_1.length : Int) x20_2 (!t114) a0_0 l0_1 ((rd_T104 l0_1 x20_2).f0) ((rd_T104 l0_1 x20_2).f1) ((rd_T104 l0_1 x20_2).f2) ((rd_T104 l0_1 x20_2).f3) ((rd_T104 l0_1 x20_2).f4) ((rd_T104 l0_1 x20_2).f5))) else (impl_IsValidClaims.j2 k2 x20_2 l0_1 (l0_1.length : Int) x20_2 true a0_0 l0_1 ((rd_T104 l0_1 x20_2).f0) ((rd_T104 l0_1 x20_2).f1) ((rd_T104 l0_1 x20_2).f2) ((rd_T104 l0_1 x20_2).f3) ((rd_T104 l0_1 x20_2).f4) ((rd_T104 l0_1 x20_2).f5)))) else (impl_IsValidClaims.j2 k2 x20_2 l0_1 (l0_1.length : Int) x20_2 true a0_0 l0_1 ((rd_T104 l0_1 x20_2).f0) ((rd_T104 l0_1 x20_2).f1) ((rd_T104 l0_1 x20_2).f2) ((rd_T104 l0_1 x20_2).f3) ((rd_T104 l0_1 x20_2).f4) ((rd_T104 l0_1 x20_2).f5)))) = some r := by rw [if_pos rfl] at H; exact H
           clear H
           have H := H1
           clear H1
           replace H := Option.bind_eq_some_iff.mp H
           obtain ⟨t112, A520, H⟩ := H
           try dsimp only at H
           have A52 := Aside0.mk A520
           clear A520
           by_cases c53 : t112 = true
           ·subst c53
            have H1 : (if ((rd_T104 l0_1 x20_2).f4) = 30 then ((impl_InRange.f ((rd_T104 l0_1 x20_2).f5) 1 3).bind fun t113 => (impl_IsValidClaims.j2 k2 x20_2 l0_1 (l0_1.length : Int) x20_2 (!t113) a0_0 l0_1 ((rd_T104 l0_1 x20_2).f0) ((rd_T104 l0_1 x20_2).f1) ((rd_T104 l0_1 x20_2).f2) ((rd_T104 l0_1 x20_2).f3) ((rd_T104 l0_1 x20_2).f4) ((rd_T104 l0_1 x20_2).f5))) else (if ((rd_T104 l0_1 x20_2).f4) = 90 then ((impl_InRange.f ((rd_T104 l0_1 x20_2).f5) 1 3).bind fun t114 => (impl_IsValidClaims.j2 k2 x20_2 l0_1 (l0_1.length : Int) x20_2 (!t114) a0_0 l0_1 ((rd_T104 l0_1 x20_2).f0) ((rd_T104 l0_1 x20_2).f1) ((rd_T104 l0_1 x20_2).f2) ((rd_T104 l0_1 x20_2).f3) ((rd_T104 l0_1 x20_2).f4) ((rd_T104 l0_1 x20_2).f5))) else (impl_IsValidClaims.j2 k2 x20_2 l0_1 (l0_1.length : Int) x20_2 true a0_0 l0_1 ((rd_T104 l0_1 x20_2).f0) ((rd_T104 l0_1 x20_2).f1) ((rd_T104 l0_1 x20_2).f2) ((rd_T104 l0_1 x20_2).f3) ((rd_T104 l0_1 x20_2).f4) ((rd_T104 l0_1 x20_2).f5)))) = some r := by rw [if_pos rfl] at H; exact H
            clear H
            have H := H1
            clear H1
            by_cases c54 : ((rd_T104 l0_1 x20_2).f4) = 30
            ·rw [if_pos c54] at H
             have c54b0 : (((rd_T104 l0_1 x20_2).f4) == 30) = true := beq_iff_eq.mpr c54
             have c54b1 : (((rd_T104 l0_1 x20_2).f4) != 30) = false := bne_eq_false_iff_eq.mpr c54
             clear c54
             replace H := Option.bind_eq_some_iff.mp H
             obtain ⟨t113, A550, H⟩ := H
             try dsimp only at H
             have A55 := Aside0.mk A550
             clear A550
             have H' := Aside0.mk H
             clear H
             have hnb56 := NB104_101.out
             have hnc56 := NB101_104.out
             obtain ⟨hcz57_0, hcz57_1, hcz57_2, hcz57_3, hcz57_4, hcz57_5, hfz57_0, hfz57_1, hfz57_2, hfz57_3, hfz57_4, hfz57_5⟩ := bc6 BK104.out
             obtain ⟨hcz58_0, hcz58_1, hfz58_0, hfz58_1⟩ := bc2 BK101.out
             go_wp2_with (first | (go_at_call 82; (with_reducible refine (impl_InRange.calls ((rd_T104 l0_1 x20_2).f0) 0 (wrap64 (a0_0 - 1)) true _ A17.out).mono ?_); rintro e w' ⟨rfl, ⟨nd, rfl⟩⟩; (try exact tQ)) | (go_at_call 82; (with_reducible refine (impl_InRange.calls ((rd_T104 l0_1 x20_2).f1) 0 1000000 true _ A50.out).mono ?_); rintro e w' ⟨rfl, ⟨nd, rfl⟩⟩; (try exact tQ)) | (go_at_call 82; (with_reducible refine (impl_InRange.calls ((rd_T104 l0_1 x20_2).f3) 0 1000000 true _ A52.out).mono ?_); rintro e w' ⟨rfl, ⟨nd, rfl⟩⟩; (try exact tQ)) | (go_at_call 82; (with_reducible refine (impl_InRange.calls ((rd_T104 l0_1 x20_2).f5) 1 3 t113 _ A55.out).mono ?_); rintro e w' ⟨rfl, ⟨nd, rfl⟩⟩; (try exact tQ)))
             repeat (go_quiet (first | (go_at_call 82; (with_reducible refine (impl_InRange.calls ((rd_T104 l0_1 x20_2).f0) 0 (wrap64 (a0_0 - 1)) true _ A17.out).mono ?_); rintro e w' ⟨rfl, ⟨nd, rfl⟩⟩; (try exact tQ)) | (go_at_call 82; (with_reducible refine (impl_InRange.calls ((rd_T104 l0_1 x20_2).f1) 0 1000000 true _ A50.out).mono ?_); rintro e w' ⟨rfl, ⟨nd, rfl⟩⟩; (try exact tQ)) | (go_at_call 82; (with_reducible refine (impl_InRange.calls ((rd_T104 l0_1 x20_2).f3) 0 1000000 true _ A52.out).mono ?_); rintro e w' ⟨rfl, ⟨nd, rfl⟩⟩; (try exact tQ)) | (go_at_call 82; (with_reducible refine (impl_InRange.calls ((rd_T104 l0_1 x20_2).f5) 1 3 t113 _ A55.out).mono ?_); rintro e w' ⟨rfl, ⟨nd, rfl⟩⟩; (try exact tQ))); try go_wp2_with (first | (go_at_call 82; (with_reducible refine (impl_InRange.calls ((rd_T104 l0_1 x20_2).f0) 0 (wrap64 (a0_0 - 1)) true _ A17.out).mono ?_); rintro e w' ⟨rfl, ⟨nd, rfl⟩⟩; (try exact tQ)) | (go_at_call 82; (with_reducible refine (impl_InRange.calls ((rd_T104 l0_1 x20_2).f1) 0 1000000 true _ A50.out).mono ?_); rintro e w' ⟨rfl, ⟨nd, rfl⟩⟩; (try exact tQ)) | (go_at_call 82; (with_reducible refine (impl_InRange.calls ((rd_T104 l0_1 x20_2).f3) 0 1000000 true _ A52.out).mono ?_); rintro e w' ⟨rfl, ⟨nd, rfl⟩⟩; (try exact tQ)) | (go_at_call 82; (with_reducible refine (impl_InRange.calls ((rd_T104 l0_1 x20_2).f5) 1 3 t113 _ A55.out).mono ?_); rintro e w' ⟨rfl, ⟨nd, rfl⟩⟩; (try exact tQ))))
             go_meet
             case rel => exact ⟨_, (!t113), tS, H', ⟨by have := HJ1.out; have := HK2.out; first | omega | exact Nat.le_refl _⟩, ⟨kF NB101_104 BK101⟩, ⟨by (with_reducible repeat (first | refine blk_drewN ?_ _ | refine blk_drew ?_ | refine blk_alloc ?_ _)); refine blk_put (cs := #[.int .i64 ((rd_T104 l0_1 x20_2).f0), .int .i64 ((rd_T104 l0_1 x20_2).f1), .int .i64 ((rd_T104 l0_1 x20_2).f2), .int .i64 ((rd_T104 l0_1 x20_2).f3), .int .i64 ((rd_T104 l0_1 x20_2).f4), .int .i64 0]) ?_ 5 _ rfl; (with_reducible repeat (first | refine blk_drewN ?_ _ | refine blk_drew ?_ | refine blk_alloc ?_ _)); refine blk_put (cs := #[.int .i64 ((rd_T104 l0_1 x20_2).f0), .int .i64 ((rd_T104 l0_1 x20_2).f1), .int .i64 ((rd_T104 l0_1 x20_2).f2), .int .i64 ((rd_T104 l0_1 x20_2).f3), .int .i64 0, .int .i64 0]) ?_ 4 _ rfl; (with_reducible repeat (first | refine blk_drewN ?_ _ | refine blk_drew ?_ | refine blk_alloc ?_ _)); refine blk_put (cs := #[.int .i64 ((rd_T104 l0_1 x20_2).f0), .int .i64 ((rd_T104 l0_1 x20_2).f1), .int .i64 ((rd_T104 l0_1 x20_2).f2), .int .i64 0, .int .i64 0, .int .i64 0]) ?_ 3 _ rfl; (with_reducible repeat (first | refine blk_drewN ?_ _ | refine blk_drew ?_ | refine blk_alloc ?_ _)); refine blk_put (cs := #[.int .i64 ((rd_T104 l0_1 x20_2).f0), .int .i64 ((rd_T104 l0_1 x20_2).f1), .int .i64 0, .int .i64 0, .int .i64 0, .int .i64 0]) ?_ 2 _ rfl; (with_reducible repeat (first | refine blk_drewN ?_ _ | refine blk_drew ?_ | refine blk_alloc ?_ _)); refine blk_put (cs := #[.int .i64 ((rd_T104 l0_1 x20_2).f0), .int .i64 0, .int .i64 0, .int .i64 0, .int .i64 0, .int .i64 0]) ?_ 1 _ rfl; (with_reducible repeat (first | refine blk_drewN ?_ _ | refine blk_drew ?_ | refine blk_alloc ?_ _)); refine blk_put (cs := #[.int .i64 0, .int .i64 0, .int .i64 0, .int .i64 0, .int .i64 0, .int .i64 0]) ?_ 0 _ rfl; (with_reducible repeat (first | refine blk_drewN ?_ _ | refine blk_drew ?_ | refine blk_alloc ?_ _)); exact BK104.out⟩, ⟨tB⟩⟩
            rw [if_neg c54] at H
            have c54b0 : (((rd_T104 l0_1 x20_2).f4) == 30) = false := beq_eq_false_iff_ne.mpr c54
            have c54b1 : (((rd_T104 l0_1 x20_2).f4) != 30) = true := bne_iff_ne.mpr c54
            by_cases c59 : ((rd_T104 l0_1 x20_2).f4) = 90
            ·rw [if_pos c59] at H
             have c59b0 : (((rd_T104 l0_1 x20_2).f4) == 90) = true := beq_iff_eq.mpr c59
             have c59b1 : (((rd_T104 l0_1 x20_2).f4) != 90) = false := bne_eq_false_iff_eq.mpr c59
             clear c59
             replace H := Option.bind_eq_some_iff.mp H
             obtain ⟨t114, A600, H⟩ := H
             try dsimp only at H
             have A60 := Aside0.mk A600
             clear A600
             have H' := Aside0.mk H
             clear H
             have hnb61 := NB104_101.out
             have hnc61 := NB101_104.out
             obtain ⟨hcz62_0, hcz62_1, hcz62_2, hcz62_3, hcz62_4, hcz62_5, hfz62_0, hfz62_1, hfz62_2, hfz62_3, hfz62_4, hfz62_5⟩ := bc6 BK104.out
             obtain ⟨hcz63_0, hcz63_1, hfz63_0, hfz63_1⟩ := bc2 BK101.out
             go_wp2_with (first | (go_at_call 82; (with_reducible refine (impl_InRange.calls ((rd_T104 l0_1 x20_2).f0) 0 (wrap64 (a0_0 - 1)) true _ A17.out).mono ?_); rintro e w' ⟨rfl, ⟨nd, rfl⟩⟩; (try exact tQ)) | (go_at_call 82; (with_reducible refine (impl_InRange.calls ((rd_T104 l0_1 x20_2).f1) 0 1000000 true _ A50.out).mono ?_); rintro e w' ⟨rfl, ⟨nd, rfl⟩⟩; (try exact tQ)) | (go_at_call 82; (with_reducible refine (impl_InRange.calls ((rd_T104 l0_1 x20_2).f3) 0 1000000 true _ A52.out).mono ?_); rintro e w' ⟨rfl, ⟨nd, rfl⟩⟩; (try exact tQ)) | (go_at_call 82; (with_reducible refine (impl_InRange.calls ((rd_T104 l0_1 x20_2).f5) 1 3 t114 _ A60.out).mono ?_); rintro e w' ⟨rfl, ⟨nd, rfl⟩⟩; (try exact tQ)))
             repeat (go_quiet (first | (go_at_call 82; (with_reducible refine (impl_InRange.calls ((rd_T104 l0_1 x20_2).f0) 0 (wrap64 (a0_0 - 1)) true _ A17.out).mono ?_); rintro e w' ⟨rfl, ⟨nd, rfl⟩⟩; (try exact tQ)) | (go_at_call 82; (with_reducible refine (impl_InRange.calls ((rd_T104 l0_1 x20_2).f1) 0 1000000 true _ A50.out).mono ?_); rintro e w' ⟨rfl, ⟨nd, rfl⟩⟩; (try exact tQ)) | (go_at_call 82; (with_reducible refine (impl_InRange.calls ((rd_T104 l0_1 x20_2).f3) 0 1000000 true _ A52.out).mono ?_); rintro e w' ⟨rfl, ⟨nd, rfl⟩⟩; (try exact tQ)) | (go_at_call 82; (with_reducible refine (impl_InRange.calls ((rd_T104 l0_1 x20_2).f5) 1 3 t114 _ A60.out).mono ?_); rintro e w' ⟨rfl, ⟨nd, rfl⟩⟩; (try exact tQ))); try go_wp2_with (first | (go_at_call 82; (with_reducible refine (impl_InRange.calls ((rd_T104 l0_1 x20_2).f0) 0 (wrap64 (a0_0 - 1)) true _ A17.out).mono ?_); rintro e w' ⟨rfl, ⟨nd, rfl⟩⟩; (try exact tQ)) | (go_at_call 82; (with_reducible refine (impl_InRange.calls ((rd_T104 l0_1 x20_2).f1) 0 1000000 true _ A50.out).mono ?_); rintro e w' ⟨rfl, ⟨nd, rfl⟩⟩; (try exact tQ)) | (go_at_call 82; (with_reducible refine (impl_InRange.calls ((rd_T104 l0_1 x20_2).f3) 0 1000000 true _ A52.out).mono ?_); rintro e w' ⟨rfl, ⟨nd, rfl⟩⟩; (try exact tQ)) | (go_at_call 82; (with_reducible refine (impl_InRange.calls ((rd_T104 l0_1 x20_2).f5) 1 3 t114 _ A60.out).mono ?_); rintro e w' ⟨rfl, ⟨nd, rfl⟩⟩; (try exact tQ))))
             go_meet
             case rel => exact ⟨_, (!t114), tS, H', ⟨by have := HJ1.out; have := HK2.out; first | omega | exact Nat.le_refl _⟩, ⟨kF NB101_104 BK101⟩, ⟨by (with_reducible repeat (first | refine blk_drewN ?_ _ | refine blk_drew ?_ | refine blk_alloc ?_ _)); refine blk_put (cs := #[.int .i64 ((rd_T104 l0_1 x20_2).f0), .int .i64 ((rd_T104 l0_1 x20_2).f1), .int .i64 ((rd_T104 l0_1 x20_2).f2), .int .i64 ((rd_T104 l0_1 x20_2).f3), .int .i64 ((rd_T104 l0_1 x20_2).f4), .int .i64 0]) ?_ 5 _ rfl; (with_reducible repeat (first | refine blk_drewN ?_ _ | refine blk_drew ?_ | refine blk_alloc ?_ _)); refine blk_put (cs := #[.int .i64 ((rd_T104 l0_1 x20_2).f0), .int .i64 ((rd_T104 l0_1 x20_2).f1), .int .i64 ((rd_T104 l0_1 x20_2).f2), .int .i64 ((rd_T104 l0_1 x20_2).f3), .int .i64 0, .int .i64 0]) ?_ 4 _ rfl; (with_reducible repeat (first | refine blk_drewN ?_ _ | refine blk_drew ?_ | refine blk_alloc ?_ _)); refine blk_put (cs := #[.int .i64 ((rd_T104 l0_1 x20_2).f0), .int .i64 ((rd_T104 l0_1 x20_2).f1), .int .i64 ((rd_T104 l0_1 x20_2).f2), .int .i64 0, .int .i64 0, .int .i64 0]) ?_ 3 _ rfl; (with_reducible repeat (first | refine blk_drewN ?_ _ | refine blk_drew ?_ | refine blk_alloc ?_ _)); refine blk_put (cs := #[.int .i64 ((rd_T104 l0_1 x20_2).f0), .int .i64 ((rd_T104 l0_1 x20_2).f1), .int .i64 0, .int .i64 0, .int .i64 0, .int .i64 0]) ?_ 2 _ rfl; (with_reducible repeat (first | refine blk_drewN ?_ _ | refine blk_drew ?_ | refine blk_alloc ?_ _)); refine blk_put (cs := #[.int .i64 ((rd_T104 l0_1 x20_2).f0), .int .i64 0, .int .i64 0, .int .i64 0, .int .i64 0, .int .i64 0]) ?_ 1 _ rfl; (with_reducible repeat (first | refine blk_drewN ?_ _ | refine blk_drew ?_ | refine blk_alloc ?_ _)); refine blk_put (cs := #[.int .i64 0, .int .i64 0, .int .i64 0, .int .i64 0, .int .i64 0, .int .i64 0]) ?_ 0 _ rfl; (with_reducible repeat (first | refine blk_drewN ?_ _ | refine blk_drew ?_ | refine blk_alloc ?_ _)); exact BK104.out⟩, ⟨tB⟩⟩
            rw [if_neg c59] at H
            have c59b0 : (((rd_T104 l0_1 x20_2).f4) == 90) = false := beq_eq_false_iff_ne.mpr c59
            have c59b1 : (((rd_T104 l0_1 x20_2).f4) != 90) = true := bne_iff_ne.mpr c59
            have H' := Aside0.mk H
            clear H
            have hnb64 := NB104_101.out
            have hnc64 := NB101_104.out
            obtain ⟨hcz65_0, hcz65_1, hcz65_2, hcz65_3, hcz65_4, hcz65_5, hfz65_0, hfz65_1, hfz65_2, hfz65_3, hfz65_4, hfz65_5⟩ := bc6 BK104.out
            obtain ⟨hcz66_0, hcz66_1, hfz66_0, hfz66_1⟩ := bc2 BK101.out
            go_wp2_with (first | (go_at_call 82; (with_reducible refine (impl_InRange.calls ((rd_T104 l0_1 x20_2).f0) 0 (wrap64 (a0_0 - 1)) true _ A17.out).mono ?_); rintro e w' ⟨rfl, ⟨nd, rfl⟩⟩; (try exact tQ)) | (go_at_call 82; (with_reducible refine (impl_InRange.calls ((rd_T104 l0_1 x20_2).f1) 0 1000000 true _ A50.out).mono ?_); rintro e w' ⟨rfl, ⟨nd, rfl⟩⟩; (try exact tQ)) | (go_at_call 82; (with_reducible refine (impl_InRange.calls ((rd_T104 l0_1 x20_2).f3) 0 1000000 true _ A52.out).mono ?_); rintro e w' ⟨rfl, ⟨nd, rfl⟩⟩; (try exact tQ)))
            repeat (go_quiet (first | (go_at_call 82; (with_reducible refine (impl_InRange.calls ((rd_T104 l0_1 x20_2).f0) 0 (wrap64 (a0_0 - 1)) true _ A17.out).mono ?_); rintro e w' ⟨rfl, ⟨nd, rfl⟩⟩; (try exact tQ)) | (go_at_call 82; (with_reducible refine (impl_InRange.calls ((rd_T104 l0_1 x20_2).f1) 0 1000000 true _ A50.out).mono ?_); rintro e w' ⟨rfl, ⟨nd, rfl⟩⟩; (try exact tQ)) | (go_at_call 82; (with_reducible refine (impl_InRange.calls ((rd_T104 l0_1 x20_2).f3) 0 1000000 true _ A52.out).mono ?_); rintro e w' ⟨rfl, ⟨nd, rfl⟩⟩; (try exact tQ))); try go_wp2_with (first | (go_at_call 82; (with_reducible refine (impl_InRange.calls ((rd_T104 l0_1 x20_2).f0) 0 (wrap64 (a0_0 - 1)) true _ A17.out).mono ?_); rintro e w' ⟨rfl, ⟨nd, rfl⟩⟩; (try exact tQ)) | (go_at_call 82; (with_reducible refine (impl_InRange.calls ((rd_T104 l0_1 x20_2).f1) 0 1000000 true _ A50.out).mono ?_); rintro e w' ⟨rfl, ⟨nd, rfl⟩⟩; (try exact tQ)) | (go_at_call 82; (with_reducible refine (impl_InRange.calls ((rd_T104 l0_1 x20_2).f3) 0 1000000 true _ A52.out).mono ?_); rintro e w' ⟨rfl, ⟨nd, rfl⟩⟩; (try exact tQ))))
            go_meet
            case rel => exact ⟨_, (true), tS, H', ⟨by have := HJ1.out; have := HK2.out; first | omega | exact Nat.le_refl _⟩, ⟨kF NB101_104 BK101⟩, ⟨by (with_reducible repeat (first | refine blk_drewN ?_ _ | refine blk_drew ?_ | refine blk_alloc ?_ _)); refine blk_put (cs := #[.int .i64 ((rd_T104 l0_1 x20_2).f0), .int .i64 ((rd_T104 l0_1 x20_2).f1), .int .i64 ((rd_T104 l0_1 x20_2).f2), .int .i64 ((rd_T104 l0_1 x20_2).f3), .int .i64 ((rd_T104 l0_1 x20_2).f4), .int .i64 0]) ?_ 5 _ rfl; (with_reducible repeat (first | refine blk_drewN ?_ _ | refine blk_drew ?_ | refine blk_alloc ?_ _)); refine blk_put (cs := #[.int .i64 ((rd_T104 l0_1 x20_2).f0), .int .i64 ((rd_T104 l0_1 x20_2).f1), .int .i64 ((rd_T104 l0_1 x20_2).f2), .int .i64 ((rd_T104 l0_1 x20_2).f3), .int .i64 0, .int .i64 0]) ?_ 4 _ rfl; (with_reducible repeat (first | refine blk_drewN ?_ _ | refine blk_drew ?_ | refine blk_alloc ?_ _)); refine blk_put (cs := #[.int .i64 ((rd_T104 l0_1 x20_2).f0), .int .i64 ((rd_T104 l0_1 x20_2).f1), .int .i64 ((rd_T104 l0_1 x20_2).f2), .int .i64 0, .int .i64 0, .int .i64 0]) ?_ 3 _ rfl; (with_reducible repeat (first | refine blk_drewN ?_ _ | refine blk_drew ?_ | refine blk_alloc ?_ _)); refine blk_put (cs := #[.int .i64 ((rd_T104 l0_1 x20_2).f0), .int .i64 ((rd_T104 l0_1 x20_2).f1), .int .i64 0, .int .i64 0, .int .i64 0, .int .i64 0]) ?_ 2 _ rfl; (with_reducible repeat (first | refine blk_drewN ?_ _ | refine blk_drew ?_ | refine blk_alloc ?_ _)); refine blk_put (cs := #[.int .i64 ((rd_T104 l0_1 x20_2).f0), .int .i64 0, .int .i64 0, .int .i64 0, .int .i64 0, .int .i64 0]) ?_ 1 _ rfl; (with_reducible repeat (first | refine blk_drewN ?_ _ | refine blk_drew ?_ | refine blk_alloc ?_ _)); refine blk_put (cs := #[.int .i64 0, .int .i64 0, .int .i64 0, .int .i64 0, .int .i64 0, .int .i64 0]) ?_ 0 _ rfl; (with_reducible repeat (first | refine blk_drewN ?_ _ | refine blk_drew ?_ | refine blk_alloc ?_ _)); exact BK104.out⟩, ⟨tB⟩⟩
           replace c53 := Bool.eq_false_iff.mpr c53
           subst c53
           have H1 : (impl_IsValidClaims.j2 k2 x20_2 l0_1 (l0_1.length : Int) x20_2 true a0_0 l0_1 ((rd_T104 l0_1 x20_2).f0) ((rd_T104 l0_1 x20_2).f1) ((rd_T104 l0_1 x20_2).f2) ((rd_T104 l0_1 x20_2).f3) ((rd_T104 l0_1 x20_2).f4) ((rd_T104 l0_1 x20_2).f5)) = some r := by rw [if_neg (show ¬ (false = true) by decide)] at H; exact H
           clear H
           have H := H1
           clear H1
           have H' := Aside0.mk H
           clear H
           have hnb67 := NB104_101.out
           have hnc67 := NB101_104.out
           obtain ⟨hcz68_0, hcz68_1, hcz68_2, hcz68_3, hcz68_4, hcz68_5, hfz68_0, hfz68_1, hfz68_2, hfz68_3, hfz68_4, hfz68_5⟩ := bc6 BK104.out
           obtain ⟨hcz69_0, hcz69_1, hfz69_0, hfz69_1⟩ := bc2 BK101.out
           go_wp2_with (first | (go_at_call 82; (with_reducible refine (impl_InRange.calls ((rd_T104 l0_1 x20_2).f0) 0 (wrap64 (a0_0 - 1)) true _ A17.out).mono ?_); rintro e w' ⟨rfl, ⟨nd, rfl⟩⟩; (try exact tQ)) | (go_at_call 82; (with_reducible refine (impl_InRange.calls ((rd_T104 l0_1 x20_2).f1) 0 1000000 true _ A50.out).mono ?_); rintro e w' ⟨rfl, ⟨nd, rfl⟩⟩; (try exact tQ)) | (go_at_call 82; (with_reducible refine (impl_InRange.calls ((rd_T104 l0_1 x20_2).f3) 0 1000000 false _ A52.out).mono ?_); rintro e w' ⟨rfl, ⟨nd, rfl⟩⟩; (try exact tQ)))
           repeat (go_quiet (first | (go_at_call 82; (with_reducible refine (impl_InRange.calls ((rd_T104 l0_1 x20_2).f0) 0 (wrap64 (a0_0 - 1)) true _ A17.out).mono ?_); rintro e w' ⟨rfl, ⟨nd, rfl⟩⟩; (try exact tQ)) | (go_at_call 82; (with_reducible refine (impl_InRange.calls ((rd_T104 l0_1 x20_2).f1) 0 1000000 true _ A50.out).mono ?_); rintro e w' ⟨rfl, ⟨nd, rfl⟩⟩; (try exact tQ)) | (go_at_call 82; (with_reducible refine (impl_InRange.calls ((rd_T104 l0_1 x20_2).f3) 0 1000000 false _ A52.out).mono ?_); rintro e w' ⟨rfl, ⟨nd, rfl⟩⟩; (try exact tQ))); try go_wp2_with (first | (go_at_call 82; (with_reducible refine (impl_InRange.calls ((rd_T104 l0_1 x20_2).f0) 0 (wrap64 (a0_0 - 1)) true _ A17.out).mono ?_); rintro e w' ⟨rfl, ⟨nd, rfl⟩⟩; (try exact tQ)) | (go_at_call 82; (with_reducible refine (impl_InRange.calls ((rd_T104 l0_1 x20_2).f1) 0 1000000 true _ A50.out).mono ?_); rintro e w' ⟨rfl, ⟨nd, rfl⟩⟩; (try exact tQ)) | (go_at_call 82; (with_reducible refine (impl_InRange.calls ((rd_T104 l0_1 x20_2).f3) 0 1000000 false _ A52.out).mono ?_); rintro e w' ⟨rfl, ⟨nd, rfl⟩⟩; (try exact tQ))))
           go_meet
           case rel => exact ⟨_, (true), tS, H', ⟨by have := HJ1.out; have := HK2.out; first | omega | exact Nat.le_refl _⟩, ⟨kF NB101_104 BK101⟩, ⟨by (with_reducible repeat (first | refine blk_drewN ?_ _ | refine blk_drew ?_ | refine blk_alloc ?_ _)); refine blk_put (cs := #[.int .i64 ((rd_T104 l0_1 x20_2).f0), .int .i64 ((rd_T104 l0_1 x20_2).f1), .int .i64 ((rd_T104 l0_1 x20_2).f2), .int .i64 ((rd_T104 l0_1 x20_2).f3), .int .i64 ((rd_T104 l0_1 x20_2).f4), .int .i64 0]) ?_ 5 _ rfl; (with_reducible repeat (first | refine blk_drewN ?_ _ | refine blk_drew ?_ | refine blk_alloc ?_ _)); refine blk_put (cs := #[.int .i64 ((rd_T104 l0_1 x20_2).f0), .int .i64 ((rd_T104 l0_1 x20_2).f1), .int .i64 ((rd_T104 l0_1 x20_2).f2), .int .i64 ((rd_T104 l0_1 x20_2).f3), .int .i64 0, .int .i64 0]) ?_ 4 _ rfl; (with_reducible repeat (first | refine blk_drewN ?_ _ | refine blk_drew ?_ | refine blk_alloc ?_ _)); refine blk_put (cs := #[.int .i64 ((rd_T104 l0_1 x20_2).f0), .int .i64 ((rd_T104 l0_1 x20_2).f1), .int .i64 ((rd_T104 l0_1 x20_2).f2), .int .i64 0, .int .i64 0, .int .i64 0]) ?_ 3 _ rfl; (with_reducible repeat (first | refine blk_drewN ?_ _ | refine blk_drew ?_ | refine blk_alloc ?_ _)); refine blk_put (cs := #[.int .i64 ((rd_T104 l0_1 x20_2).f0), .int .i64 ((rd_T104 l0_1 x20_2).f1), .int .i64 0, .int .i64 0, .int .i64 0, .int .i64 0]) ?_ 2 _ rfl; (with_reducible repeat (first | refine blk_drewN ?_ _ | refine blk_drew ?_ | refine blk_alloc ?_ _)); refine blk_put (cs := #[.int .i64 ((rd_T104 l0_1 x20_2).f0), .int .i64 0, .int .i64 0, .int .i64 0, .int .i64 0, .int .i64 0]) ?_ 1 _ rfl; (with_reducible repeat (first | refine blk_drewN ?_ _ | refine blk_drew ?_ | refine blk_alloc ?_ _)); refine blk_put (cs := #[.int .i64 0, .int .i64 0, .int .i64 0, .int .i64 0, .int .i64 0, .int .i64 0]) ?_ 0 _ rfl; (with_reducible repeat (first | refine blk_drewN ?_ _ | refine blk_drew ?_ | refine blk_alloc ?_ _)); exact BK104.out⟩, ⟨tB⟩⟩
          replace c51 := Bool.eq_false_iff.mpr c51
          subst c51
          have H1 : (impl_IsValidClaims.j2 k2 x20_2 l0_1 (l0_1.length : Int) x20_2 true a0_0 l0_1 ((rd_T104 l0_1 x20_2).f0) ((rd_T104 l0_1 x20_2).f1) ((rd_T104 l0_1 x20_2).f2) ((rd_T104 l0_1 x20_2).f3) ((rd_T104 l0_1 x20_2).f4) ((rd_T104 l0_1 x20_2).f5)) = some r := by rw [if_neg (show ¬ (false = true) by decide)] at H; exact H
          clear H
          have H := H1
          clear H1
          have H' := Aside0.mk H
          clear H
          have hnb70 := NB104_101.out
          have hnc70 := NB101_104.out
          obtain ⟨hcz71_0, hcz71_1, hcz71_2, hcz71_3, hcz71_4, hcz71_5, hfz71_0, hfz71_1, hfz71_2, hfz71_3, hfz71_4, hfz71_5⟩ := bc6 BK104.out
          obtain ⟨hcz72_0, hcz72_1, hfz72_0, hfz72_1⟩ := bc2 BK101.out
          go_wp2_with (first | (go_at_call 82; (with_reducible refine (impl_InRange.calls ((rd_T104 l0_1 x20_2).f0) 0 (wrap64 (a0_0 - 1)) true _ A17.out).mono ?_); rintro e w' ⟨rfl, ⟨nd, rfl⟩⟩; (try exact tQ)) | (go_at_call 82; (with_reducible refine (impl_InRange.calls ((rd_T104 l0_1 x20_2).f1) 0 1000000 false _ A50.out).mono ?_); rintro e w' ⟨rfl, ⟨nd, rfl⟩⟩; (try exact tQ)))
          repeat (go_quiet (first | (go_at_call 82; (with_reducible refine (impl_InRange.calls ((rd_T104 l0_1 x20_2).f0) 0 (wrap64 (a0_0 - 1)) true _ A17.out).mono ?_); rintro e w' ⟨rfl, ⟨nd, rfl⟩⟩; (try exact tQ)) | (go_at_call 82; (with_reducible refine (impl_InRange.calls ((rd_T104 l0_1 x20_2).f1) 0 1000000 false _ A50.out).mono ?_); rintro e w' ⟨rfl, ⟨nd, rfl⟩⟩; (try exact tQ))); try go_wp2_with (first | (go_at_call 82; (with_reducible refine (impl_InRange.calls ((rd_T104 l0_1 x20_2).f0) 0 (wrap64 (a0_0 - 1)) true _ A17.out).mono ?_); rintro e w' ⟨rfl, ⟨nd, rfl⟩⟩; (try exact tQ)) | (go_at_call 82; (with_reducible refine (impl_InRange.calls ((rd_T104 l0_1 x20_2).f1) 0 1000000 false _ A50.out).mono ?_); rintro e w' ⟨rfl, ⟨nd, rfl⟩⟩; (try exact tQ))))
          go_meet
          case rel => exact ⟨_, (true), tS, H', ⟨by have := HJ1.out; have := HK2.out; first | omega | exact Nat.le_refl _⟩, ⟨kF NB101_104 BK101⟩, ⟨by (with_reducible repeat (first | refine blk_drewN ?_ _ | refine blk_drew ?_ | refine blk_alloc ?_ _)); refine blk_put (cs := #[.int .i64 ((rd_T104 l0_1 x20_2).f0), .int .i64 ((rd_T104 l0_1 x20_2).f1), .int .i64 ((rd_T104 l0_1 x20_2).f2), .int .i64 ((rd_T104 l0_1 x20_2).f3), .int .i64 ((rd_T104 l0_1 x20_2).f4), .int .i64 0]) ?_ 5 _ rfl; (with_reducible repeat (first | refine blk_drewN ?_ _ | refine blk_drew ?_ | refine blk_alloc ?_ _)); refine blk_put (cs := #[.int .i64 ((rd_T104 l0_1 x20_2).f0), .int .i64 ((rd_T104 l0_1 x20_2).f1), .int .i64 ((rd_T104 l0_1 x20_2).f2), .int .i64 ((rd_T104 l0_1 x20_2).f3), .int .i64 0, .int .i64 0]) ?_ 4 _ rfl; (with_reducible repeat (first | refine blk_drewN ?_ _ | refine blk_drew ?_ | refine blk_alloc ?_ _)); refine blk_put (cs := #[.int .i64 ((rd_T104 l0_1 x20_2).f0), .int .i64 ((rd_T104 l0_1 x20_2).f1), .int .i64 ((rd_T104 l0_1 x20_2).f2), .int .i64 0, .int .i64 0, .int .i64 0]) ?_ 3 _ rfl; (with_reducible repeat (first | refine blk_drewN ?_ _ | refine blk_drew ?_ | refine blk_alloc ?_ _)); refine blk_put (cs := #[.int .i64 ((rd_T104 l0_1 x20_2).f0), .int .i64 ((rd_T104 l0_1 x20_2).f1), .int .i64 0, .int .i64 0, .int .i64 0, .int .i64 0]) ?_ 2 _ rfl; (with_reducible repeat (first | refine blk_drewN ?_ _ | refine blk_drew ?_ | refine blk_alloc ?_ _)); refine blk_put (cs := #[.int .i64 ((rd_T104 l0_1 x20_2).f0), .int .i64 0, .int .i64 0, .int .i64 0, .int .i64 0, .int .i64 0]) ?_ 1 _ rfl; (with_reducible repeat (first | refine blk_drewN ?_ _ | refine blk_drew ?_ | refine blk_alloc ?_ _)); refine blk_put (cs := #[.int .i64 0, .int .i64 0, .int .i64 0, .int .i64 0, .int .i64 0, .int .i64 0]) ?_ 0 _ rfl; (with_reducible repeat (first | refine blk_drewN ?_ _ | refine blk_drew ?_ | refine blk_alloc ?_ _)); exact BK104.out⟩, ⟨tB⟩⟩
         replace c18 := Bool.eq_false_iff.mpr c18
         subst c18
         have H1 : (impl_IsValidClaims.j2 k2 x20_2 l0_1 (l0_1.length : Int) x20_2 true a0_0 l0_1 ((rd_T104 l0_1 x20_2).f0) ((rd_T104 l0_1 x20_2).f1) ((rd_T104 l0_1 x20_2).f2) ((rd_T104 l0_1 x20_2).f3) ((rd_T104 l0_1 x20_2).f4) ((rd_T104 l0_1 x20_2).f5)) = some r := by rw [if_neg (show ¬ (false = true) by decide)] at H; exact H
         clear H
         have H := H1
         clear H1
         have H' := Aside0.mk H
         clear H
         have hnb73 := NB104_101.out
         have hnc73 := NB101_104.out
         obtain ⟨hcz74_0, hcz74_1, hcz74_2, hcz74_3, hcz74_4, hcz74_5, hfz74_0, hfz74_1, hfz74_2, hfz74_3, hfz74_4, hfz74_5⟩ := bc6 BK104.out
         obtain ⟨hcz75_0, hcz75_1, hfz75_0, hfz75_1⟩ := bc2 BK101.out
         go_wp2_with (first | (go_at_call 82; (with_reducible refine (impl_InRange.calls ((rd_T104 l0_1 x20_2).f0) 0 (wrap64 (a0_0 - 1)) false _ A17.out).mono ?_); rintro e w' ⟨rfl, ⟨nd, rfl⟩⟩; (try exact tQ)))
         repeat (go_quiet (first | (go_at_call 82; (with_reducible refine (impl_InRange.calls ((rd_T104 l0_1 x20_2).f0) 0 (wrap64 (a0_0 - 1)) false _ A17.out).mono ?_); rintro e w' ⟨rfl, ⟨nd, rfl⟩⟩; (try exact tQ))); try go_wp2_with (first | (go_at_call 82; (with_reducible refine (impl_InRange.calls ((rd_T104 l0_1 x20_2).f0) 0 (wrap64 (a0_0 - 1)) false _ A17.out).mono ?_); rintro e w' ⟨rfl, ⟨nd, rfl⟩⟩; (try exact tQ))))
         go_meet
         case rel => exact ⟨_, (true), tS, H', ⟨by have := HJ1.out; have := HK2.out; first | omega | exact Nat.le_refl _⟩, ⟨kF NB101_104 BK101⟩, ⟨by (with_reducible repeat (first | refine blk_drewN ?_ _ | refine blk_drew ?_ | refine blk_alloc ?_ _)); refine blk_put (cs := #[.int .i64 ((rd_T104 l0_1 x20_2).f0), .int .i64 ((rd_T104 l0_1 x20_2).f1), .int .i64 ((rd_T104 l0_1 x20_2).f2), .int .i64 ((rd_T104 l0_1 x20_2).f3), .int .i64 ((rd_T104 l0_1 x20_2).f4), .int .i64 0]) ?_ 5 _ rfl; (with_reducible repeat (first | refine blk_drewN ?_ _ | refine blk_drew ?_ | refine blk_alloc ?_ _)); refine blk_put (cs := #[.int .i64 ((rd_T104 l0_1 x20_2).f0), .int .i64 ((rd_T104 l0_1 x20_2).f1), .int .i64 ((rd_T104 l0_1 x20_2).f2), .int .i64 ((rd_T104 l0_1 x20_2).f3), .int .i64 0, .int .i64 0]) ?_ 4 _ rfl; (with_reducible repeat (first | refine blk_drewN ?_ _ | refine blk_drew ?_ | refine blk_alloc ?_ _)); refine blk_put (cs := #[.int .i64 ((rd_T104 l0_1 x20_2).f0), .int .i64 ((rd_T104 l0_1 x20_2).f1), .int .i64 ((rd_T104 l0_1 x20_2).f2), .int .i64 0, .int .i64 0, .int .i64 0]) ?_ 3 _ rfl; (with_reducible repeat (first | refine blk_drewN ?_ _ | refine blk_drew ?_ | refine blk_alloc ?_ _)); refine blk_put (cs := #[.int .i64 ((rd_T104 l0_1 x20_2).f0), .int .i64 ((rd_T104 l0_1 x20_2).f1), .int .i64 0, .int .i64 0, .int .i64 0, .int .i64 0]) ?_ 2 _ rfl; (with_reducible repeat (first | refine blk_drewN ?_ _ | refine blk_drew ?_ | refine blk_alloc ?_ _)); refine blk_put (cs := #[.int .i64 ((rd_T104 l0_1 x20_2).f0), .int .i64 0, .int .i64 0, .int .i64 0, .int .i64 0, .int .i64 0]) ?_ 1 _ rfl; (with_reducible repeat (first | refine blk_drewN ?_ _ | refine blk_drew ?_ | refine blk_alloc ?_ _)); refine blk_put (cs := #[.int .i64 0, .int .i64 0, .int .i64 0, .int .i64 0, .int .i64 0, .int .i64 0]) ?_ 0 _ rfl; (with_reducible repeat (first | refine blk_drewN ?_ _ | refine blk_drew ?_ | refine blk_alloc ?_ _)); exact BK104.out⟩, ⟨tB⟩⟩
        case rest =>
         clear HC13
         try clear c1
         try clear p1
         try clear q1
         try clear hx1
         try clear c2
         try clear p2
         try clear c3
         try clear c4
         try clear c5
         try clear c6
         try clear p6
         try clear c7
         try clear c8
         try clear c10
         try clear c10b0
         try clear p10
         try clear q10
         try clear hx10
         try clear c11
         try clear c11b0
         try clear c12
         try clear c12b0
         try clear c15
         try clear c18
         try clear c19
         try clear c19b0
         try clear c21
         try clear c21b0
         try clear c22
         try clear c22b0
         try clear c23
         try clear c23b0
         try clear c24
         try clear c28
         try clear c30
         try clear c31
         try clear c31b0
         try clear c31b1
         try clear c33
         try clear c36
         try clear c36b0
         try clear c36b1
         try clear c38
         try clear c41
         try clear c44
         try clear c47
         try clear c51
         try clear c53
         try clear c54
         try clear c54b0
         try clear c54b1
         try clear c56
         try clear c59
         try clear c59b0
         try clear c59b1
         try clear c61
         try clear c64
         try clear p64
         try clear c67
         try clear c70
         try clear c73
         try clear hx103_0
         try clear hx103_1
         try clear hx103_2
         try clear hx103_3
         try clear hx103_4
         try clear hx103_5
         try clear hx106_0
         try clear hx106_1
         try clear hx106_2
         try clear hx106_3
         try clear hx106_4
         try clear hx106_5
         try clear p103
         try clear p106
         try clear p2
         try clear q103
         try clear q106
         obtain ⟨kq, x75_12, rfl, HA, HJ12, BK101, BK104, HB⟩ := hcut
         cases kq with
         | zero => exact absurd HA.out (by simp [impl_IsValidClaims.j2])
         | succ kj12 =>
          have H := HA.out
          clear HA
          simp only [impl_IsValidClaims.j2] at H
          by_cases c76 : x75_12 = true
          ·subst c76
           have H1 : (some false) = some r := by rw [if_pos rfl] at H; exact H
           clear H
           have H := H1
           clear H1
           obtain rfl := Option.some.inj H
           go_wp2
           repeat (go_quiet (fail); try go_wp2)
           go_ret
           exact ⟨tE, tB⟩
          replace c76 := Bool.eq_false_iff.mpr c76
          subst c76
          have H1 : (if 0 ≤ x20_2 then (if x20_2 ≤ (l0_1.length : Int) then ((some (l0_1.take (x20_2 : Int).toNat : List (S104))).bind fun y115 => (impl_IsValidClaims.l1 kj12 l0_1 (l0_1.length : Int) x20_2 y115 (y115.length : Int) 0 a0_0 l0_1 ((rd_T104 l0_1 x20_2).f0) ((rd_T104 l0_1 x20_2).f1) ((rd_T104 l0_1 x20_2).f2) ((rd_T104 l0_1 x20_2).f3) ((rd_T104 l0_1 x20_2).f4) ((rd_T104 l0_1 x20_2).f5))) else (none)) else (none)) = some r := by rw [if_neg (show ¬ (false = true) by decide)] at H; exact H
          clear H
          have H := H1
          clear H1
          by_cases c77 : 0 ≤ x20_2
          ·rw [if_pos c77] at H
           have c77b0 := eq_true c77
           have c77b1 : decide (0 ≤ x20_2) = true := decide_eq_true c77
           clear c77
           by_cases c78 : x20_2 ≤ (l0_1.length : Int)
           ·rw [if_pos c78] at H
            have c78b0 := eq_true c78
            have c78b1 : decide (x20_2 ≤ (l0_1.length : Int)) = true := decide_eq_true c78
            clear c78
            obtain ⟨y115, hy115⟩ : ∃ y_ : List (S104), y_ = (l0_1.take (x20_2 : Int).toNat) := ⟨_, rfl⟩
            replace H : (impl_IsValidClaims.l1 kj12 l0_1 (l0_1.length : Int) x20_2 y115 (y115.length : Int) 0 a0_0 l0_1 ((rd_T104 l0_1 x20_2).f0) ((rd_T104 l0_1 x20_2).f1) ((rd_T104 l0_1 x20_2).f2) ((rd_T104 l0_1 x20_2).f3) ((rd_T104 l0_1 x20_2).f4) ((rd_T104 l0_1 x20_2).f5)) = some r := by first | (rw [hy115]; with_reducible exact H) | (have H2_ := (Option.bind_some _ _).symm.trans H; rw [hy115]; with_reducible exact H2_) | (have H2_ := (Option.bind_some _ _).symm.trans H; with_reducible exact H2_) | with_reducible exact H | (rw [hy115]; exact H) | exact H
            have Ny115 := Aside0.mk hy115
            clear hy115
            have H' := Aside0.mk H
            clear H
            have hnb79 := NB101_104.out
            have hnc79 := NB104_101.out
            obtain ⟨hcz80_0, hcz80_1, hfz80_0, hfz80_1⟩ := bc2 BK101.out
            have q81 : (x20_2 : Int) ≤ ((l0_1.length : Int) : Int) := of_decide_eq_true tA
            obtain ⟨i081, hi081, _, hsz81, _⟩ := info_parts info104
            have hroom81 : l0_1.length ≤ c0_1 := HC0_1.out
            have hC81 : Kd.C k104 _ (some ad103) l0_1.length l0_1 := HR0_1.out
            have hcut81 := cut_to (P := Try.prog) 33 104 .i64 Try.underlying33 hi081 (some ad103) l0_1.length c0_1 x20_2 (of_decide_eq_true tA) q81 hroom81
            have hr81 := Kd.C_take (m := (x20_2 : Int).toNat) hC81 (by omega)
            have hy81 : y115.length = (x20_2 : Int).toNat := (by rw [Ny115.out, List.length_take]; omega)
            rw [← Ny115.out] at hr81
            rw [← hy81] at hcut81
            have HR118 := Aside0.mk hr81
            have HC118 := Aside0.mk (show y115.length ≤ c0_1 from by omega)
            clear hr81 hC81 hroom81 hi081 hsz81
            have KY81 := Aside0.mk hy81
            clear hy81
            replace q81 := eq_true q81
            go_wp2
            repeat (go_quiet (fail); try go_wp2)
            go_loopg [81] kj12 (fun kq v81 w' => ∃ (x81_4 : Int), v81 = .int .i64 x81_4 ∧ Aside0 (impl_IsValidClaims.l1 kq l0_1 (l0_1.length : Int) x20_2 y115 (y115.length : Int) x81_4 a0_0 l0_1 ((rd_T104 l0_1 x20_2).f0) ((rd_T104 l0_1 x20_2).f1) ((rd_T104 l0_1 x20_2).f2) ((rd_T104 l0_1 x20_2).f3) ((rd_T104 l0_1 x20_2).f4) ((rd_T104 l0_1 x20_2).f5) = some r) ∧ Aside0 (kq ≤ kj12) ∧ Aside0 (w'.heap[gb101]? = some (.cells #[.int .i64 a0_0, (.slice (some ad103) l0_1.length c0_1)] 35 (0, 0))) ∧ Aside0 (w'.heap[gb104]? = some (.cells #[.int .i64 ((rd_T104 l0_1 x20_2).f0), .int .i64 ((rd_T104 l0_1 x20_2).f1), .int .i64 ((rd_T104 l0_1 x20_2).f2), .int .i64 ((rd_T104 l0_1 x20_2).f3), .int .i64 ((rd_T104 l0_1 x20_2).f4), .int .i64 ((rd_T104 l0_1 x20_2).f5)] 104 (0, 0))) ∧ Aside0 (Below w.heap.size w w'))
            case atStart => exact ⟨(0), tS, H', ⟨Nat.le_refl _⟩, ⟨tK BK101⟩, ⟨tK BK104⟩, ⟨tB⟩⟩
            case round =>
             clear H'
             try clear c1
             try clear p1
             try clear q1
             try clear hx1
             try clear c2
             try clear p2
             try clear c3
             try clear c4
             try clear c5
             try clear c6
             try clear p6
             try clear c7
             try clear c8
             try clear q8
             try clear c10
             try clear c10b0
             try clear p10
             try clear q10
             try clear hx10
             try clear c11
             try clear c11b0
             try clear c12
             try clear c12b0
             try clear c15
             try clear c18
             try clear c19
             try clear c19b0
             try clear c21
             try clear c21b0
             try clear c22
             try clear c22b0
             try clear c23
             try clear c23b0
             try clear c24
             try clear c28
             try clear c30
             try clear c31
             try clear c31b0
             try clear c31b1
             try clear c33
             try clear c36
             try clear c36b0
             try clear c36b1
             try clear c38
             try clear c41
             try clear c44
             try clear c47
             try clear c51
             try clear c53
             try clear c54
             try clear c54b0
             try clear c54b1
             try clear c56
             try clear c59
             try clear c59b0
             try clear c59b1
             try clear c61
             try clear c64
             try clear p64
             try clear c67
             try clear c70
             try clear c73
             try clear c76
             try clear c77
             try clear c77b0
             try clear c77b1
             try clear c78
             try clear c78b0
             try clear c78b1
             try clear c79
             try clear q81
             try clear hx103_0
             try clear hx103_1
             try clear hx103_2
             try clear hx103_3
             try clear hx103_4
             try clear hx103_5
             try clear hx106_0
             try clear hx106_1
             try clear hx106_2
             try clear hx106_3
             try clear hx106_4
             try clear hx106_5
             try clear p1
             try clear p10
             try clear p103
             try clear p106
             try clear p2
             try clear p6
             try clear p64
             try clear q1
             try clear q10
             try clear q103
             try clear q106
             try clear q81
             obtain ⟨x81_4, rfl, HA, HK4, BK101, BK104, HB⟩ := hrel
             cases gk with
             | zero => exact absurd HA.out (by simp [impl_IsValidClaims.l1])
             | succ k4 =>
              have H := HA.out
              clear HA
              simp only [impl_IsValidClaims.l1] at H
              by_cases c82 : x81_4 < (y115.length : Int)
              ·rw [if_pos c82] at H
               have c82b0 : decide (x81_4 < (y115.length : Int)) = true := decide_eq_true c82
               clear c82
               by_cases c83 : 0 ≤ x81_4
               ·rw [if_pos c83] at H
                have c83b0 : decide (0 ≤ x81_4) = true := decide_eq_true c83
                clear c83
                by_cases c84 : x81_4 < (y115.length : Int)
                ·rw [if_pos c84] at H
                 have c84b0 : decide (x81_4 < (y115.length : Int)) = true := decide_eq_true c84
                 clear c84
                 by_cases c85 : ((rd_T104 y115 x81_4).f5) = 1
                 ·rw [if_pos c85] at H
                  have c85b0 : (((rd_T104 y115 x81_4).f5) == 1) = true := beq_iff_eq.mpr c85
                  have c85b1 : (((rd_T104 y115 x81_4).f5) != 1) = false := bne_eq_false_iff_eq.mpr c85
                  clear c85
                  by_cases c86 : ((rd_T104 l0_1 x20_2).f5) = 1
                  ·rw [if_pos c86] at H
                   have c86b0 : (((rd_T104 l0_1 x20_2).f5) == 1) = true := beq_iff_eq.mpr c86
                   have c86b1 : (((rd_T104 l0_1 x20_2).f5) != 1) = false := bne_eq_false_iff_eq.mpr c86
                   clear c86
                   by_cases c87 : ((rd_T104 y115 x81_4).f1) = ((rd_T104 l0_1 x20_2).f1)
                   ·rw [if_pos c87] at H
                    have c87b0 : (((rd_T104 y115 x81_4).f1) == ((rd_T104 l0_1 x20_2).f1)) = true := beq_iff_eq.mpr c87
                    have c87b1 : (((rd_T104 y115 x81_4).f1) != ((rd_T104 l0_1 x20_2).f1)) = false := bne_eq_false_iff_eq.mpr c87
                    clear c87
                    obtain rfl := Option.some.inj H
                    have p119 : 0 ≤ (x81_4 : Int) := of_decide_eq_true tA
                    have q119 : x81_4 < (y115.length : Int) := of_decide_eq_true tA
                    obtain ⟨ad119, e119, hx119_0, hx119_1, hx119_2, hx119_3, hx119_4, hx119_5⟩ := at_T104 HR118.out x81_4 p119 q119
                    obtain rfl : ad103 = ad119 := (by injection e119)
                    replace hx119_0 := hbc HB hx119_0
                    replace hx119_1 := hbc HB hx119_1
                    replace hx119_2 := hbc HB hx119_2
                    replace hx119_3 := hbc HB hx119_3
                    replace hx119_4 := hbc HB hx119_4
                    replace hx119_5 := hbc HB hx119_5
                    replace p119 := eq_true p119
                    replace q119 := eq_true q119
                    go_wp2_with (first | ((with_reducible refine gate_dst (N := 6) rfl ?_); (try (refine gate_guard (by rfl) ?_; dsimp only)); refine box_event ?hg (N := 6) ?hd (cs := #[.int .i64 0, .int .i64 0, .int .i64 0, .int .i64 0, .int .i64 0, .int .i64 0]) (t := 104) ?hr ?_; (case hd => rfl); (case hg => rfl); (case hr => exact tG); intro gb120 hg w88 hbox hb; have BK120 := Aside0.mk (hbox); have GW120 := gW HB hg; have GE120 := gW HB hg; replace HB := bH HB hb; have NB101_120 := nL BK101 hg; have NB120_101 := nR BK101 hg; replace BK101 := bB BK101 hb; have NB104_120 := nL BK104 hg; have NB120_104 := nR BK104 hg; replace BK104 := bB BK104 hb; clear hb hbox hg; have hnb89 := NB120_101.out; have hnc89 := NB101_120.out; have hnb90 := NB120_104.out; have hnc90 := NB104_120.out; obtain ⟨hcz91_0, hcz91_1, hcz91_2, hcz91_3, hcz91_4, hcz91_5, hfz91_0, hfz91_1, hfz91_2, hfz91_3, hfz91_4, hfz91_5⟩ := bc6 BK120.out; have hnb92 := NB104_101.out; have hnc92 := NB101_104.out; obtain ⟨hcz93_0, hcz93_1, hcz93_2, hcz93_3, hcz93_4, hcz93_5, hfz93_0, hfz93_1, hfz93_2, hfz93_3, hfz93_4, hfz93_5⟩ := bc6 BK104.out))
                    repeat (go_quiet (first | ((with_reducible refine gate_dst (N := 6) rfl ?_); (try (refine gate_guard (by rfl) ?_; dsimp only)); refine box_event ?hg (N := 6) ?hd (cs := #[.int .i64 0, .int .i64 0, .int .i64 0, .int .i64 0, .int .i64 0, .int .i64 0]) (t := 104) ?hr ?_; (case hd => rfl); (case hg => rfl); (case hr => exact tG); intro gb120 hg w88 hbox hb; have BK120 := Aside0.mk (hbox); have GW120 := gW HB hg; have GE120 := gW HB hg; replace HB := bH HB hb; have NB101_120 := nL BK101 hg; have NB120_101 := nR BK101 hg; replace BK101 := bB BK101 hb; have NB104_120 := nL BK104 hg; have NB120_104 := nR BK104 hg; replace BK104 := bB BK104 hb; clear hb hbox hg; have hnb89 := NB120_101.out; have hnc89 := NB101_120.out; have hnb90 := NB120_104.out; have hnc90 := NB104_120.out; obtain ⟨hcz91_0, hcz91_1, hcz91_2, hcz91_3, hcz91_4, hcz91_5, hfz91_0, hfz91_1, hfz91_2, hfz91_3, hfz91_4, hfz91_5⟩ := bc6 BK120.out; have hnb92 := NB104_101.out; have hnc92 := NB101_104.out; obtain ⟨hcz93_0, hcz93_1, hcz93_2, hcz93_3, hcz93_4, hcz93_5, hfz93_0, hfz93_1, hfz93_2, hfz93_3, hfz93_4, hfz93_5⟩ := bc6 BK104.out)); try go_wp2_with (first | ((with_reducible refine gate_dst (N := 6) rfl ?_); (try (refine gate_guard (by rfl) ?_; dsimp only)); refine box_event ?hg (N := 6) ?hd (cs := #[.int .i64 0, .int .i64 0, .int .i64 0, .int .i64 0, .int .i64 0, .int .i64 0]) (t := 104) ?hr ?_; (case hd => rfl); (case hg => rfl); (case hr => exact tG); intro gb120 hg w88 hbox hb; have BK120 := Aside0.mk (hbox); have GW120 := gW HB hg; have GE120 := gW HB hg; replace HB := bH HB hb; have NB101_120 := nL BK101 hg; have NB120_101 := nR BK101 hg; replace BK101 := bB BK101 hb; have NB104_120 := nL BK104 hg; have NB120_104 := nR BK104 hg; replace BK104 := bB BK104 hb; clear hb hbox hg; have hnb89 := NB120_101.out; have hnc89 := NB101_120.out; have hnb90 := NB120_104.out; have hnc90 := NB104_120.out; obtain ⟨hcz91_0, hcz91_1, hcz91_2, hcz91_3, hcz91_4, hcz91_5, hfz91_0, hfz91_1, hfz91_2, hfz91_3, hfz91_4, hfz91_5⟩ := bc6 BK120.out; have hnb92 := NB104_101.out; have hnc92 := NB101_104.out; obtain ⟨hcz93_0, hcz93_1, hcz93_2, hcz93_3, hcz93_4, hcz93_5, hfz93_0, hfz93_1, hfz93_2, hfz93_3, hfz93_4, hfz93_5⟩ := bc6 BK104.out)))
                    go_ret
                    exact ⟨tE, tB⟩
                   rw [if_neg c87] at H
                   have c87b0 : (((rd_T104 y115 x81_4).f1) == ((rd_T104 l0_1 x20_2).f1)) = false := beq_eq_false_iff_ne.mpr c87
                   have c87b1 : (((rd_T104 y115 x81_4).f1) != ((rd_T104 l0_1 x20_2).f1)) = true := bne_iff_ne.mpr c87
                   have H' := Aside0.mk H
                   clear H
                   have p119 : 0 ≤ (x81_4 : Int) := of_decide_eq_true tA
                   have q119 : x81_4 < (y115.length : Int) := of_decide_eq_true tA
                   obtain ⟨ad119, e119, hx119_0, hx119_1, hx119_2, hx119_3, hx119_4, hx119_5⟩ := at_T104 HR118.out x81_4 p119 q119
                   obtain rfl : ad103 = ad119 := (by injection e119)
                   replace hx119_0 := hbc HB hx119_0
                   replace hx119_1 := hbc HB hx119_1
                   replace hx119_2 := hbc HB hx119_2
                   replace hx119_3 := hbc HB hx119_3
                   replace hx119_4 := hbc HB hx119_4
                   replace hx119_5 := hbc HB hx119_5
                   replace p119 := eq_true p119
                   replace q119 := eq_true q119
                   go_wp2_with (first | ((with_reducible refine gate_dst (N := 6) rfl ?_); (try (refine gate_guard (by rfl) ?_; dsimp only)); refine box_event ?hg (N := 6) ?hd (cs := #[.int .i64 0, .int .i64 0, .int .i64 0, .int .i64 0, .int .i64 0, .int .i64 0]) (t := 104) ?hr ?_; (case hd => rfl); (case hg => rfl); (case hr => exact tG); intro gb120 hg w94 hbox hb; have BK120 := Aside0.mk (hbox); have GW120 := gW HB hg; have GE120 := gW HB hg; replace HB := bH HB hb; have NB101_120 := nL BK101 hg; have NB120_101 := nR BK101 hg; replace BK101 := bB BK101 hb; have NB104_120 := nL BK104 hg; have NB120_104 := nR BK104 hg; replace BK104 := bB BK104 hb; clear hb hbox hg; have hnb95 := NB120_101.out; have hnc95 := NB101_120.out; have hnb96 := NB120_104.out; have hnc96 := NB104_120.out; obtain ⟨hcz97_0, hcz97_1, hcz97_2, hcz97_3, hcz97_4, hcz97_5, hfz97_0, hfz97_1, hfz97_2, hfz97_3, hfz97_4, hfz97_5⟩ := bc6 BK120.out; have hnb98 := NB104_101.out; have hnc98 := NB101_104.out; obtain ⟨hcz99_0, hcz99_1, hcz99_2, hcz99_3, hcz99_4, hcz99_5, hfz99_0, hfz99_1, hfz99_2, hfz99_3, hfz99_4, hfz99_5⟩ := bc6 BK104.out))
                   repeat (go_quiet (first | ((with_reducible refine gate_dst (N := 6) rfl ?_); (try (refine gate_guard (by rfl) ?_; dsimp only)); refine box_event ?hg (N := 6) ?hd (cs := #[.int .i64 0, .int .i64 0, .int .i64 0, .int .i64 0, .int .i64 0, .int .i64 0]) (t := 104) ?hr ?_; (case hd => rfl); (case hg => rfl); (case hr => exact tG); intro gb120 hg w94 hbox hb; have BK120 := Aside0.mk (hbox); have GW120 := gW HB hg; have GE120 := gW HB hg; replace HB := bH HB hb; have NB101_120 := nL BK101 hg; have NB120_101 := nR BK101 hg; replace BK101 := bB BK101 hb; have NB104_120 := nL BK104 hg; have NB120_104 := nR BK104 hg; replace BK104 := bB BK104 hb; clear hb hbox hg; have hnb95 := NB120_101.out; have hnc95 := NB101_120.out; have hnb96 := NB120_104.out; have hnc96 := NB104_120.out; obtain ⟨hcz97_0, hcz97_1, hcz97_2, hcz97_3, hcz97_4, hcz97_5, hfz97_0, hfz97_1, hfz97_2, hfz97_3, hfz97_4, hfz97_5⟩ := bc6 BK120.out; have hnb98 := NB104_101.out; have hnc98 := NB101_104.out; obtain ⟨hcz99_0, hcz99_1, hcz99_2, hcz99_3, hcz99_4, hcz99_5, hfz99_0, hfz99_1, hfz99_2, hfz99_3, hfz99_4, hfz99_5⟩ := bc6 BK104.out)); try go_wp2_with (first | ((with_reducible refine gate_dst (N := 6) rfl ?_); (try (refine gate_guard (by rfl) ?_; dsimp only)); refine box_event ?hg (N := 6) ?hd (cs := #[.int .i64 0, .int .i64 0, .int .i64 0, .int .i64 0, .int .i64 0, .int .i64 0]) (t := 104) ?hr ?_; (case hd => rfl); (case hg => rfl); (case hr => exact tG); intro gb120 hg w94 hbox hb; have BK120 := Aside0.mk (hbox); have GW120 := gW HB hg; have GE120 := gW HB hg; replace HB := bH HB hb; have NB101_120 := nL BK101 hg; have NB120_101 := nR BK101 hg; replace BK101 := bB BK101 hb; have NB104_120 := nL BK104 hg; have NB120_104 := nR BK104 hg; replace BK104 := bB BK104 hb; clear hb hbox hg; have hnb95 := NB120_101.out; have hnc95 := NB101_120.out; have hnb96 := NB120_104.out; have hnc96 := NB104_120.out; obtain ⟨hcz97_0, hcz97_1, hcz97_2, hcz97_3, hcz97_4, hcz97_5, hfz97_0, hfz97_1, hfz97_2, hfz97_3, hfz97_4, hfz97_5⟩ := bc6 BK120.out; have hnb98 := NB104_101.out; have hnc98 := NB101_104.out; obtain ⟨hcz99_0, hcz99_1, hcz99_2, hcz99_3, hcz99_4, hcz99_5, hfz99_0, hfz99_1, hfz99_2, hfz99_3, hfz99_4, hfz99_5⟩ := bc6 BK104.out)))
                   go_roundg k4
                   case measure => have := HJ1.out; have := HK2.out; have := HJ12.out; have := HK4.out; omega
                   case rel => exact ⟨(wrap64 (x81_4 + 1)), tS, H', ⟨by have := HJ1.out; have := HK2.out; have := HJ12.out; have := HK4.out; omega⟩, ⟨kF NB101_120 BK101⟩, ⟨kF NB104_120 BK104⟩, ⟨tB⟩⟩
                  rw [if_neg c86] at H
                  have c86b0 : (((rd_T104 l0_1 x20_2).f5) == 1) = false := beq_eq_false_iff_ne.mpr c86
                  have c86b1 : (((rd_T104 l0_1 x20_2).f5) != 1) = true := bne_iff_ne.mpr c86
                  have H' := Aside0.mk H
                  clear H
                  have p119 : 0 ≤ (x81_4 : Int) := of_decide_eq_true tA
                  have q119 : x81_4 < (y115.length : Int) := of_decide_eq_true tA
                  obtain ⟨ad119, e119, hx119_0, hx119_1, hx119_2, hx119_3, hx119_4, hx119_5⟩ := at_T104 HR118.out x81_4 p119 q119
                  obtain rfl : ad103 = ad119 := (by injection e119)
                  replace hx119_0 := hbc HB hx119_0
                  replace hx119_1 := hbc HB hx119_1
                  replace hx119_2 := hbc HB hx119_2
                  replace hx119_3 := hbc HB hx119_3
                  replace hx119_4 := hbc HB hx119_4
                  replace hx119_5 := hbc HB hx119_5
                  replace p119 := eq_true p119
                  replace q119 := eq_true q119
                  go_wp2_with (first | ((with_reducible refine gate_dst (N := 6) rfl ?_); (try (refine gate_guard (by rfl) ?_; dsimp only)); refine box_event ?hg (N := 6) ?hd (cs := #[.int .i64 0, .int .i64 0, .int .i64 0, .int .i64 0, .int .i64 0, .int .i64 0]) (t := 104) ?hr ?_; (case hd => rfl); (case hg => rfl); (case hr => exact tG); intro gb120 hg w100 hbox hb; have BK120 := Aside0.mk (hbox); have GW120 := gW HB hg; have GE120 := gW HB hg; replace HB := bH HB hb; have NB101_120 := nL BK101 hg; have NB120_101 := nR BK101 hg; replace BK101 := bB BK101 hb; have NB104_120 := nL BK104 hg; have NB120_104 := nR BK104 hg; replace BK104 := bB BK104 hb; clear hb hbox hg; have hnb101 := NB120_101.out; have hnc101 := NB101_120.out; have hnb102 := NB120_104.out; have hnc102 := NB104_120.out; obtain ⟨hcz103_0, hcz103_1, hcz103_2, hcz103_3, hcz103_4, hcz103_5, hfz103_0, hfz103_1, hfz103_2, hfz103_3, hfz103_4, hfz103_5⟩ := bc6 BK120.out; have hnb104 := NB104_101.out; have hnc104 := NB101_104.out; obtain ⟨hcz105_0, hcz105_1, hcz105_2, hcz105_3, hcz105_4, hcz105_5, hfz105_0, hfz105_1, hfz105_2, hfz105_3, hfz105_4, hfz105_5⟩ := bc6 BK104.out))
                  repeat (go_quiet (first | ((with_reducible refine gate_dst (N := 6) rfl ?_); (try (refine gate_guard (by rfl) ?_; dsimp only)); refine box_event ?hg (N := 6) ?hd (cs := #[.int .i64 0, .int .i64 0, .int .i64 0, .int .i64 0, .int .i64 0, .int .i64 0]) (t := 104) ?hr ?_; (case hd => rfl); (case hg => rfl); (case hr => exact tG); intro gb120 hg w100 hbox hb; have BK120 := Aside0.mk (hbox); have GW120 := gW HB hg; have GE120 := gW HB hg; replace HB := bH HB hb; have NB101_120 := nL BK101 hg; have NB120_101 := nR BK101 hg; replace BK101 := bB BK101 hb; have NB104_120 := nL BK104 hg; have NB120_104 := nR BK104 hg; replace BK104 := bB BK104 hb; clear hb hbox hg; have hnb101 := NB120_101.out; have hnc101 := NB101_120.out; have hnb102 := NB120_104.out; have hnc102 := NB104_120.out; obtain ⟨hcz103_0, hcz103_1, hcz103_2, hcz103_3, hcz103_4, hcz103_5, hfz103_0, hfz103_1, hfz103_2, hfz103_3, hfz103_4, hfz103_5⟩ := bc6 BK120.out; have hnb104 := NB104_101.out; have hnc104 := NB101_104.out; obtain ⟨hcz105_0, hcz105_1, hcz105_2, hcz105_3, hcz105_4, hcz105_5, hfz105_0, hfz105_1, hfz105_2, hfz105_3, hfz105_4, hfz105_5⟩ := bc6 BK104.out)); try go_wp2_with (first | ((with_reducible refine gate_dst (N := 6) rfl ?_); (try (refine gate_guard (by rfl) ?_; dsimp only)); refine box_event ?hg (N := 6) ?hd (cs := #[.int .i64 0, .int .i64 0, .int .i64 0, .int .i64 0, .int .i64 0, .int .i64 0]) (t := 104) ?hr ?_; (case hd => rfl); (case hg => rfl); (case hr => exact tG); intro gb120 hg w100 hbox hb; have BK120 := Aside0.mk (hbox); have GW120 := gW HB hg; have GE120 := gW HB hg; replace HB := bH HB hb; have NB101_120 := nL BK101 hg; have NB120_101 := nR BK101 hg; replace BK101 := bB BK101 hb; have NB104_120 := nL BK104 hg; have NB120_104 := nR BK104 hg; replace BK104 := bB BK104 hb; clear hb hbox hg; have hnb101 := NB120_101.out; have hnc101 := NB101_120.out; have hnb102 := NB120_104.out; have hnc102 := NB104_120.out; obtain ⟨hcz103_0, hcz103_1, hcz103_2, hcz103_3, hcz103_4, hcz103_5, hfz103_0, hfz103_1, hfz103_2, hfz103_3, hfz103_4, hfz103_5⟩ := bc6 BK120.out; have hnb104 := NB104_101.out; have hnc104 := NB101_104.out; obtain ⟨hcz105_0, hcz105_1, hcz105_2, hcz105_3, hcz105_4, hcz105_5, hfz105_0, hfz105_1, hfz105_2, hfz105_3, hfz105_4, hfz105_5⟩ := bc6 BK104.out)))
                  go_roundg k4
                  case measure => have := HJ1.out; have := HK2.out; have := HJ12.out; have := HK4.out; omega
                  case rel => exact ⟨(wrap64 (x81_4 + 1)), tS, H', ⟨by have := HJ1.out; have := HK2.out; have := HJ12.out; have := HK4.out; omega⟩, ⟨kF NB101_120 BK101⟩, ⟨kF NB104_120 BK104⟩, ⟨tB⟩⟩
                 rw [if_neg c85] at H
                 have c85b0 : (((rd_T104 y115 x81_4).f5) == 1) = false := beq_eq_false_iff_ne.mpr c85
                 have c85b1 : (((rd_T104 y115 x81_4).f5) != 1) = true := bne_iff_ne.mpr c85
                 have H' := Aside0.mk H
                 clear H
                 have p119 : 0 ≤ (x81_4 : Int) := of_decide_eq_true tA
                 have q119 : x81_4 < (y115.length : Int) := of_decide_eq_true tA
                 obtain ⟨ad119, e119, hx119_0, hx119_1, hx119_2, hx119_3, hx119_4, hx119_5⟩ := at_T104 HR118.out x81_4 p119 q119
                 obtain rfl : ad103 = ad119 := (by injection e119)
                 replace hx119_0 := hbc HB hx119_0
                 replace hx119_1 := hbc HB hx119_1
                 replace hx119_2 := hbc HB hx119_2
                 replace hx119_3 := hbc HB hx119_3
                 replace hx119_4 := hbc HB hx119_4
                 replace hx119_5 := hbc HB hx119_5
                 replace p119 := eq_true p119
                 replace q119 := eq_true q119
                 go_wp2_with (first | ((with_reducible refine gate_dst (N := 6) rfl ?_); (try (refine gate_guard (by rfl) ?_; dsimp only)); refine box_event ?hg (N := 6) ?hd (cs := #[.int .i64 0, .int .i64 0, .int .i64 0, .int .i64 0, .int .i64 0, .int .i64 0]) (t := 104) ?hr ?_; (case hd => rfl); (case hg => rfl); (case hr => exact tG); intro gb120 hg w106 hbox hb; have BK120 := Aside0.mk (hbox); have GW120 := gW HB hg; have GE120 := gW HB hg; replace HB := bH HB hb; have NB101_120 := nL BK101 hg; have NB120_101 := nR BK101 hg; replace BK101 := bB BK101 hb; have NB104_120 := nL BK104 hg; have NB120_104 := nR BK104 hg; replace BK104 := bB BK104 hb; clear hb hbox hg; have hnb107 := NB120_101.out; have hnc107 := NB101_120.out; have hnb108 := NB120_104.out; have hnc108 := NB104_120.out; obtain ⟨hcz109_0, hcz109_1, hcz109_2, hcz109_3, hcz109_4, hcz109_5, hfz109_0, hfz109_1, hfz109_2, hfz109_3, hfz109_4, hfz109_5⟩ := bc6 BK120.out))
                 repeat (go_quiet (first | ((with_reducible refine gate_dst (N := 6) rfl ?_); (try (refine gate_guard (by rfl) ?_; dsimp only)); refine box_event ?hg (N := 6) ?hd (cs := #[.int .i64 0, .int .i64 0, .int .i64 0, .int .i64 0, .int .i64 0, .int .i64 0]) (t := 104) ?hr ?_; (case hd => rfl); (case hg => rfl); (case hr => exact tG); intro gb120 hg w106 hbox hb; have BK120 := Aside0.mk (hbox); have GW120 := gW HB hg; have GE120 := gW HB hg; replace HB := bH HB hb; have NB101_120 := nL BK101 hg; have NB120_101 := nR BK101 hg; replace BK101 := bB BK101 hb; have NB104_120 := nL BK104 hg; have NB120_104 := nR BK104 hg; replace BK104 := bB BK104 hb; clear hb hbox hg; have hnb107 := NB120_101.out; have hnc107 := NB101_120.out; have hnb108 := NB120_104.out; have hnc108 := NB104_120.out; obtain ⟨hcz109_0, hcz109_1, hcz109_2, hcz109_3, hcz109_4, hcz109_5, hfz109_0, hfz109_1, hfz109_2, hfz109_3, hfz109_4, hfz109_5⟩ := bc6 BK120.out)); try go_wp2_with (first | ((with_reducible refine gate_dst (N := 6) rfl ?_); (try (refine gate_guard (by rfl) ?_; dsimp only)); refine box_event ?hg (N := 6) ?hd (cs := #[.int .i64 0, .int .i64 0, .int .i64 0, .int .i64 0, .int .i64 0, .int .i64 0]) (t := 104) ?hr ?_; (case hd => rfl); (case hg => rfl); (case hr => exact tG); intro gb120 hg w106 hbox hb; have BK120 := Aside0.mk (hbox); have GW120 := gW HB hg; have GE120 := gW HB hg; replace HB := bH HB hb; have NB101_120 := nL BK101 hg; have NB120_101 := nR BK101 hg; replace BK101 := bB BK101 hb; have NB104_120 := nL BK104 hg; have NB120_104 := nR BK104 hg; replace BK104 := bB BK104 hb; clear hb hbox hg; have hnb107 := NB120_101.out; have hnc107 := NB101_120.out; have hnb108 := NB120_104.out; have hnc108 := NB104_120.out; obtain ⟨hcz109_0, hcz109_1, hcz109_2, hcz109_3, hcz109_4, hcz109_5, hfz109_0, hfz109_1, hfz109_2, hfz109_3, hfz109_4, hfz109_5⟩ := bc6 BK120.out)))
                 go_roundg k4
                 case measure => have := HJ1.out; have := HK2.out; have := HJ12.out; have := HK4.out; omega
                 case rel => exact ⟨(wrap64 (x81_4 + 1)), tS, H', ⟨by have := HJ1.out; have := HK2.out; have := HJ12.out; have := HK4.out; omega⟩, ⟨kF NB101_120 BK101⟩, ⟨kF NB104_120 BK104⟩, ⟨tB⟩⟩
                rw [if_neg c84] at H
                exact absurd H (by simp)
               rw [if_neg c83] at H
               exact absurd H (by simp)
              rw [if_neg c82] at H
              have c82b0 : decide (x81_4 < (y115.length : Int)) = false := decide_eq_false c82
              clear c82
              have H' := Aside0.mk H
              clear H
              go_wp2
              repeat (go_quiet (fail); try go_wp2)
              go_roundg k4
              case measure => have := HJ1.out; have := HK2.out; have := HJ12.out; have := HK4.out; omega
              case rel => exact ⟨(wrap64 (x20_2 + 1)), tS, H', ⟨by have := HJ1.out; have := HK2.out; have := HJ12.out; have := HK4.out; omega⟩, ⟨tK BK101⟩, ⟨tB⟩⟩
           rw [if_neg c78] at H
           exact absurd H (by simp)
          rw [if_neg c77] at H
          exact absurd H (by simp)
       rw [if_neg c12] at H
       exact absurd H (by simp)
      rw [if_neg c11] at H
      exact absurd H (by simp)
     rw [if_neg c10] at H
     have c10b0 : decide (x20_2 < (l0_1.length : Int)) = false := decide_eq_false c10
     clear c10
     obtain rfl := Option.some.inj H
     go_wp2
     repeat (go_quiet (fail); try go_wp2)
     go_ret
     exact ⟨tE, tB⟩

end Go.Proofs.Ytjggdakbphjomaa.ZFnClaims
