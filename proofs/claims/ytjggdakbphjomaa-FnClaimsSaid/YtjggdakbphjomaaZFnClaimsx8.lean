/- The machine side: for each Go function a Lean function and the contract that the Go code answers as it does; printed by program (wip/tmpl/pprint.sh). -/
import Derived.Test.YtjggdakbphjomaaZFnClaimsx0
import Derived.Test.YtjggdakbphjomaaZFnClaimsx7
namespace Go.Proofs.Ytjggdakbphjomaa.ZFnClaims
open Go.RowKit Go.Proofs.YtjggdakbphjomaaW.PrintWords Go.Proofs.YtjggdakbphjomaaW.PrintLast Go.Proofs.YtjggdakbphjomaaW.PrintMore
attribute [local go_sem] max2_int min2_int max_two min_two max_three min_three max_four min_four   -- for this text's walks alone
set_option linter.unusedVariables false
set_option linter.unusedSimpArgs false

/-! ### spec_IsValidClaims: function 74 -/
mutual
def spec_IsValidClaims.l0 : Nat → Int → Int → List (S104) → Option (Bool)
 | 0, _, _, _ => none
 | k + 1, x3, x185000, x185001 => if x3 < (x185001.length : Int) then (if 0 ≤ x3 then ((spec_l1In.f ((rd_T104 x185001 x3).f0) 0 (wrap64 (x185000 - 1))).bind fun t188 => (if t188 = true then (if x3 > 0 then (if 0 ≤ (wrap64 (x3 - 1)) then (if (wrap64 (x3 - 1)) < (x185001.length : Int) then (if ((rd_T104 x185001 (wrap64 (x3 - 1))).f0) ≥ ((rd_T104 x185001 x3).f0) then (spec_IsValidClaims.j1 k x3 true x185000 x185001 ((rd_T104 x185001 x3).f0) ((rd_T104 x185001 x3).f1) ((rd_T104 x185001 x3).f2) ((rd_T104 x185001 x3).f3) ((rd_T104 x185001 x3).f4) ((rd_T104 x185001 x3).f5)) else ((spec_l1In.f ((rd_T104 x185001 x3).f1) 0 1000000).bind fun t190 => (if t190 = true then ((spec_l1In.f ((rd_T104 x185001 x3).f3) 0 1000000).bind fun t191 => (if t191 = true then (if ((rd_T104 x185001 x3).f4) = 30 then ((spec_l1In.f ((rd_T104 x185001 x3).f5) 1 3).bind fun t192 => (spec_IsValidClaims.j1 k x3 (!t192) x185000 x185001 ((rd_T104 x185001 x3).f0) ((rd_T104 x185001 x3).f1) ((rd_T104 x185001 x3).f2) ((rd_T104 x185001 x3).f3) ((rd_T104 x185001 x3).f4) ((rd_T104 x185001 x3).f5))) else (if ((rd_T104 x185001 x3).f4) = 90 then ((spec_l1In.f ((rd_T104 x185001 x3).f5) 1 3).bind fun t193 => (spec_IsValidClaims.j1 k x3 (!t193) x185000 x185001 ((rd_T104 x185001 x3).f0) ((rd_T104 x185001 x3).f1) ((rd_T104 x185001 x3).f2) ((rd_T104 x185001 x3).f3) ((rd_T104 x185001 x3).f4) ((rd_T104 x185001 x3).f5))) else (spec_IsValidClaims.j1 k x3 true x185000 x185001 ((rd_T104 x185001 x3).f0) ((rd_T104 x185001 x3).f1) ((rd_T104 x185001 x3).f2) ((rd_T104 x185001 x3).f3) ((rd_T104 x185001 x3).f4) ((rd_T104 x185001 x3).f5)))) else (spec_IsValidClaims.j1 k x3 true x185000 x185001 ((rd_T104 x185001 x3).f0) ((rd_T104 x185001 x3).f1) ((rd_T104 x185001 x3).f2) ((rd_T104 x185001 x3).f3) ((rd_T104 x185001 x3).f4) ((rd_T104 x185001 x3).f5)))) else (spec_IsValidClaims.j1 k x3 true x185000 x185001 ((rd_T104 x185001 x3).f0) ((rd_T104 x185001 x3).f1) ((rd_T104 x185001 x3).f2) ((rd_T104 x185001 x3).f3) ((rd_T104 x185001 x3).f4) ((rd_T104 x185001 x3).f5))))) else (none)) else (none)) else ((spec_l1In.f ((rd_T104 x185001 x3).f1) 0 1000000).bind fun t194 => (if t194 = true then ((spec_l1In.f ((rd_T104 x185001 x3).f3) 0 1000000).bind fun t195 => (if t195 = true then (if ((rd_T104 x185001 x3).f4) = 30 then ((spec_l1In.f ((rd_T104 x185001 x3).f5) 1 3).bind fun t196 => (spec_IsValidClaims.j1 k x3 (!t196) x185000 x185001 ((rd_T104 x185001 x3).f0) ((rd_T104 x185001 x3).f1) ((rd_T104 x185001 x3).f2) ((rd_T104 x185001 x3).f3) ((rd_T104 x185001 x3).f4) ((rd_T104 x185001 x3).f5))) else (if ((rd_T104 x185001 x3).f4) = 90 then ((spec_l1In.f ((rd_T104 x185001 x3).f5) 1 3).bind fun t197 => (spec_IsValidClaims.j1 k x3 (!t197) x185000 x185001 ((rd_T104 x185001 x3).f0) ((rd_T104 x185001 x3).f1) ((rd_T104 x185001 x3).f2) ((rd_T104 x185001 x3).f3) ((rd_T104 x185001 x3).f4) ((rd_T104 x185001 x3).f5))) else (spec_IsValidClaims.j1 k x3 true x185000 x185001 ((rd_T104 x185001 x3).f0) ((rd_T104 x185001 x3).f1) ((rd_T104 x185001 x3).f2) ((rd_T104 x185001 x3).f3) ((rd_T104 x185001 x3).f4) ((rd_T104 x185001 x3).f5)))) else (spec_IsValidClaims.j1 k x3 true x185000 x185001 ((rd_T104 x185001 x3).f0) ((rd_T104 x185001 x3).f1) ((rd_T104 x185001 x3).f2) ((rd_T104 x185001 x3).f3) ((rd_T104 x185001 x3).f4) ((rd_T104 x185001 x3).f5)))) else (spec_IsValidClaims.j1 k x3 true x185000 x185001 ((rd_T104 x185001 x3).f0) ((rd_T104 x185001 x3).f1) ((rd_T104 x185001 x3).f2) ((rd_T104 x185001 x3).f3) ((rd_T104 x185001 x3).f4) ((rd_T104 x185001 x3).f5))))) else (spec_IsValidClaims.j1 k x3 true x185000 x185001 ((rd_T104 x185001 x3).f0) ((rd_T104 x185001 x3).f1) ((rd_T104 x185001 x3).f2) ((rd_T104 x185001 x3).f3) ((rd_T104 x185001 x3).f4) ((rd_T104 x185001 x3).f5)))) else (none)) else ((spec_l1In.f x185000 0 1000000).bind fun t185 => (if t185 = true then (some (decide ((x185001.length : Int) ≤ 10))) else (some false)))
def spec_IsValidClaims.j1 : Nat → Int → Bool → Int → List (S104) → Int → Int → Int → Int → Int → Int → Option (Bool)
 | 0, _, _, _, _, _, _, _, _, _, _ => none
 | k + 1, x3, x67, x185000, x185001, x188000, x188001, x188002, x188003, x188004, x188005 => if x67 = true then (some false) else (if x188005 = 1 then ((spec_OpenClaims.f k x185000 x185001 x188001).bind fun t198 => (if (t198.length : Int) > 1 then (some false) else (spec_IsValidClaims.l0 k (wrap64 (x3 + 1)) x185000 x185001))) else (spec_IsValidClaims.l0 k (wrap64 (x3 + 1)) x185000 x185001))
end
def spec_IsValidClaims.f (k : Nat) (a0_0 : Int) (l0_1 : List (S104)) : Option (Bool) := spec_IsValidClaims.l0 k 0 a0_0 l0_1
theorem spec_IsValidClaims.mono_l : ∀ k, (∀ y0 y1 y2, LeO (spec_IsValidClaims.l0 k y0 y1 y2) (spec_IsValidClaims.l0 (k + 1) y0 y1 y2)) ∧ (∀ y0 y1 y2 y3 y4 y5 y6 y7 y8 y9, LeO (spec_IsValidClaims.j1 k y0 y1 y2 y3 y4 y5 y6 y7 y8 y9) (spec_IsValidClaims.j1 (k + 1) y0 y1 y2 y3 y4 y5 y6 y7 y8 y9))
 | 0 => ⟨fun _ _ _ r h => by simp [spec_IsValidClaims.l0] at h, fun _ _ _ _ _ _ _ _ _ _ r h => by simp [spec_IsValidClaims.j1] at h⟩
 | k + 1 => by
  obtain ⟨ih0, ih1⟩ := spec_IsValidClaims.mono_l k
  refine ⟨?_, ?_⟩
  ·intro y0 y1 y2
   unfold spec_IsValidClaims.l0
   repeat' first
   | (with_reducible exact ih0 _ _ _)
   | (with_reducible exact ih1 _ _ _ _ _ _ _ _ _ _)
   | (with_reducible exact spec_OpenClaims.mono _ _ _ _)
   | (with_reducible exact LeO.refl _)
   | (with_reducible exact LeO.none _)
   | (with_reducible refine LeO.ite ?_ ?_)
   | (with_reducible refine LeO.bind ?_ (fun _ => ?_))
   | exact ih0 _ _ _
   | exact ih1 _ _ _ _ _ _ _ _ _ _
   | exact spec_OpenClaims.mono _ _ _ _
   | exact LeO.none _
   | refine LeO.ite ?_ ?_
   | refine LeO.bind ?_ (fun _ => ?_)
  ·intro y0 y1 y2 y3 y4 y5 y6 y7 y8 y9
   unfold spec_IsValidClaims.j1
   repeat' first
   | (with_reducible exact ih0 _ _ _)
   | (with_reducible exact ih1 _ _ _ _ _ _ _ _ _ _)
   | (with_reducible exact spec_OpenClaims.mono _ _ _ _)
   | (with_reducible exact LeO.refl _)
   | (with_reducible exact LeO.none _)
   | (with_reducible refine LeO.ite ?_ ?_)
   | (with_reducible refine LeO.bind ?_ (fun _ => ?_))
   | exact ih0 _ _ _
   | exact ih1 _ _ _ _ _ _ _ _ _ _
   | exact spec_OpenClaims.mono _ _ _ _
   | exact LeO.none _
   | refine LeO.ite ?_ ?_
   | refine LeO.bind ?_ (fun _ => ?_)
theorem spec_IsValidClaims.mono : ∀ a0 a1 k, LeO (spec_IsValidClaims.f k a0 a1) (spec_IsValidClaims.f (k + 1) a0 a1) := by
 intro a0 a1 k
 obtain ⟨ih0, ih1⟩ := spec_IsValidClaims.mono_l k
 unfold spec_IsValidClaims.f
 repeat' first
   | (with_reducible exact ih0 _ _ _)
   | (with_reducible exact ih1 _ _ _ _ _ _ _ _ _ _)
   | (with_reducible exact spec_OpenClaims.mono _ _ _ _)
   | (with_reducible exact LeO.refl _)
   | (with_reducible exact LeO.none _)
   | (with_reducible refine LeO.ite ?_ ?_)
   | (with_reducible refine LeO.bind ?_ (fun _ => ?_))
   | exact ih0 _ _ _
   | exact ih1 _ _ _ _ _ _ _ _ _ _
   | exact spec_OpenClaims.mono _ _ _ _
   | exact LeO.none _
   | refine LeO.ite ?_ ?_
   | refine LeO.bind ?_ (fun _ => ?_)
set_option maxHeartbeats 8000000 in
set_option maxRecDepth 100000 in
theorem spec_IsValidClaims.calls (k : Nat) (a0_0 : Int) (A0_1 : Option Addr) (c0_1 : Nat) (l0_1 : List (S104)) (r : Bool) (w : World) (hr0_1 : Kd.C k104 w A0_1 l0_1.length l0_1) (hc0_1 : l0_1.length ≤ c0_1) (h : spec_IsValidClaims.f k a0_0 l0_1 = some r) :
  Calls Try.prog 74 #[.agg #[.int .i64 a0_0, .slice A0_1 l0_1.length c0_1]] w fun e w' => e = .returned (.bool r) ∧ Below w.heap.size w w' := by
 have hu35 := Try.underlying35
 have hu104 := Try.underlying104
 have HR0_1 := Aside0.mk hr0_1
 have HC0_1 := Aside0.mk hc0_1
 clear hr0_1 hc0_1
 have HB := Aside0.mk (Below.refl w.heap.size w)
 have H : (spec_IsValidClaims.l0 k 0 a0_0 l0_1) = some r := h
 clear h
 have H' := Aside0.mk H
 clear H
 go_enter Try.func74, Try.ntmps74
 go_wp2_with (first | ((with_reducible refine gate_dst (N := 1) rfl ?_); (try (refine gate_guard (by rfl) ?_; dsimp only)); refine box_event ?hg (N := 1) ?hd (cs := #[.int .i64 a0_0, .slice A0_1 l0_1.length c0_1]) (t := 35) ?hr ?_; (case hd => rfl); (case hg => rfl); (case hr => exact tG); intro gb184 hg w2 hbox hb; have BK184 := Aside0.mk (hbox); have GW184 := gW HB hg; have GE184 := gW HB hg; replace HB := bH HB hb; clear hb hbox hg))
 repeat (go_quiet (first | ((with_reducible refine gate_dst (N := 1) rfl ?_); (try (refine gate_guard (by rfl) ?_; dsimp only)); refine box_event ?hg (N := 1) ?hd (cs := #[.int .i64 a0_0, .slice A0_1 l0_1.length c0_1]) (t := 35) ?hr ?_; (case hd => rfl); (case hg => rfl); (case hr => exact tG); intro gb184 hg w2 hbox hb; have BK184 := Aside0.mk (hbox); have GW184 := gW HB hg; have GE184 := gW HB hg; replace HB := bH HB hb; clear hb hbox hg)); try go_wp2_with (first | ((with_reducible refine gate_dst (N := 1) rfl ?_); (try (refine gate_guard (by rfl) ?_; dsimp only)); refine box_event ?hg (N := 1) ?hd (cs := #[.int .i64 a0_0, .slice A0_1 l0_1.length c0_1]) (t := 35) ?hr ?_; (case hd => rfl); (case hg => rfl); (case hr => exact tG); intro gb184 hg w2 hbox hb; have BK184 := Aside0.mk (hbox); have GW184 := gW HB hg; have GE184 := gW HB hg; replace HB := bH HB hb; clear hb hbox hg)))
 go_loopg [3] k (fun kq v3 w' => ∃ (x3_1 : Int), v3 = .int .i64 x3_1 ∧ Aside0 (spec_IsValidClaims.l0 kq x3_1 a0_0 l0_1 = some r) ∧ Aside0 (kq ≤ k) ∧ Aside0 (w'.heap[gb184]? = some (.cells #[.int .i64 a0_0, (.slice A0_1 l0_1.length c0_1)] 35 (0, 0))) ∧ Aside0 (Below w.heap.size w w'))
 case atStart => exact ⟨(0), tS, H', ⟨Nat.le_refl _⟩, ⟨tK BK184⟩, ⟨tB⟩⟩
 case round =>
  clear H'
  try clear p2
  obtain ⟨x3_1, rfl, HA, HK1, BK184, HB⟩ := hrel
  cases gk with
  | zero => exact absurd HA.out (by simp [spec_IsValidClaims.l0])
  | succ k1 =>
   have H := HA.out
   clear HA
   simp only [spec_IsValidClaims.l0] at H
   by_cases c3 : x3_1 < (l0_1.length : Int)
   ·rw [if_pos c3] at H
    have c3b0 : decide (x3_1 < (l0_1.length : Int)) = true := decide_eq_true c3
    clear c3
    by_cases c4 : 0 ≤ x3_1
    ·rw [if_pos c4] at H
     have c4b0 : decide (0 ≤ x3_1) = true := decide_eq_true c4
     clear c4
     have HC5 := Aside0.mk H
     clear H
     obtain ⟨hcz6_0, hcz6_1, hfz6_0, hfz6_1⟩ := bc2 BK184.out
     have p186 : 0 ≤ (x3_1 : Int) := of_decide_eq_true tA
     have q186 : x3_1 < (l0_1.length : Int) := of_decide_eq_true tA
     obtain ⟨ad186, e186, hx186_0, hx186_1, hx186_2, hx186_3, hx186_4, hx186_5⟩ := at_T104 HR0_1.out x3_1 p186 q186
     cases e186
     replace hx186_0 := hbc HB hx186_0
     replace hx186_1 := hbc HB hx186_1
     replace hx186_2 := hbc HB hx186_2
     replace hx186_3 := hbc HB hx186_3
     replace hx186_4 := hbc HB hx186_4
     replace hx186_5 := hbc HB hx186_5
     replace p186 := eq_true p186
     replace q186 := eq_true q186
     go_upto_region 5 with (first | ((with_reducible refine gate_dst (N := 4) rfl ?_); (try (refine gate_guard (by rfl) ?_; dsimp only)); refine box_event ?hg (N := 4) ?hd (cs := #[.int .i64 0, .int .i64 0, .int .i64 0, .int .i64 0, .int .i64 0, .int .i64 0]) (t := 104) ?hr ?_; (case hd => rfl); (case hg => rfl); (case hr => exact tG); intro gb187 hg w7 hbox hb; have BK187 := Aside0.mk (hbox); have GW187 := gW HB hg; have GE187 := gW HB hg; replace HB := bH HB hb; have NB184_187 := nL BK184 hg; have NB187_184 := nR BK184 hg; replace BK184 := bB BK184 hb; clear hb hbox hg; have hnb8 := NB187_184.out; have hnc8 := NB184_187.out; obtain ⟨hcz9_0, hcz9_1, hcz9_2, hcz9_3, hcz9_4, hcz9_5, hfz9_0, hfz9_1, hfz9_2, hfz9_3, hfz9_4, hfz9_5⟩ := bc6 BK187.out))
     repeat (go_quiet (first | ((with_reducible refine gate_dst (N := 4) rfl ?_); (try (refine gate_guard (by rfl) ?_; dsimp only)); refine box_event ?hg (N := 4) ?hd (cs := #[.int .i64 0, .int .i64 0, .int .i64 0, .int .i64 0, .int .i64 0, .int .i64 0]) (t := 104) ?hr ?_; (case hd => rfl); (case hg => rfl); (case hr => exact tG); intro gb187 hg w7 hbox hb; have BK187 := Aside0.mk (hbox); have GW187 := gW HB hg; have GE187 := gW HB hg; replace HB := bH HB hb; have NB184_187 := nL BK184 hg; have NB187_184 := nR BK184 hg; replace BK184 := bB BK184 hb; clear hb hbox hg; have hnb8 := NB187_184.out; have hnc8 := NB184_187.out; obtain ⟨hcz9_0, hcz9_1, hcz9_2, hcz9_3, hcz9_4, hcz9_5, hfz9_0, hfz9_1, hfz9_2, hfz9_3, hfz9_4, hfz9_5⟩ := bc6 BK187.out)); go_upto_region 5 with (first | ((with_reducible refine gate_dst (N := 4) rfl ?_); (try (refine gate_guard (by rfl) ?_; dsimp only)); refine box_event ?hg (N := 4) ?hd (cs := #[.int .i64 0, .int .i64 0, .int .i64 0, .int .i64 0, .int .i64 0, .int .i64 0]) (t := 104) ?hr ?_; (case hd => rfl); (case hg => rfl); (case hr => exact tG); intro gb187 hg w7 hbox hb; have BK187 := Aside0.mk (hbox); have GW187 := gW HB hg; have GE187 := gW HB hg; replace HB := bH HB hb; have NB184_187 := nL BK184 hg; have NB187_184 := nR BK184 hg; replace BK184 := bB BK184 hb; clear hb hbox hg; have hnb8 := NB187_184.out; have hnc8 := NB184_187.out; obtain ⟨hcz9_0, hcz9_1, hcz9_2, hcz9_3, hcz9_4, hcz9_5, hfz9_0, hfz9_1, hfz9_2, hfz9_3, hfz9_4, hfz9_5⟩ := bc6 BK187.out)))
     (try simp only [Act.put, List.setIfInBounds_toArray, List.set_cons_zero, List.set_cons_succ])
     go_cut [67] (fun v67 wc => ∃ (kq : Nat) (x67_4 : Bool), v67 = .bool x67_4 ∧ Aside0 (spec_IsValidClaims.j1 kq x3_1 x67_4 a0_0 l0_1 ((rd_T104 l0_1 x3_1).f0) ((rd_T104 l0_1 x3_1).f1) ((rd_T104 l0_1 x3_1).f2) ((rd_T104 l0_1 x3_1).f3) ((rd_T104 l0_1 x3_1).f4) ((rd_T104 l0_1 x3_1).f5) = some r) ∧ Aside0 (kq ≤ k1) ∧ Aside0 (wc.heap[gb184]? = some (.cells #[.int .i64 a0_0, (.slice (some ad186) l0_1.length c0_1)] 35 (0, 0))) ∧ Aside0 (wc.heap[gb187]? = some (.cells #[.int .i64 ((rd_T104 l0_1 x3_1).f0), .int .i64 ((rd_T104 l0_1 x3_1).f1), .int .i64 ((rd_T104 l0_1 x3_1).f2), .int .i64 ((rd_T104 l0_1 x3_1).f3), .int .i64 ((rd_T104 l0_1 x3_1).f4), .int .i64 ((rd_T104 l0_1 x3_1).f5)] 104 (0, 0))) ∧ Aside0 (Below w.heap.size w wc))
     case first =>
      have H := HC5.out
      clear HC5
      replace H := Option.bind_eq_some_iff.mp H
      obtain ⟨t188, A100, H⟩ := H
      try dsimp only at H
      have A10 := Aside0.mk A100
      clear A100
      by_cases c11 : t188 = true
      ·subst c11
       have H1 : (if x3_1 > 0 then (if 0 ≤ (wrap64 (x3_1 - 1)) then (if (wrap64 (x3_1 - 1)) < (l0_1.length : Int) then (if ((rd_T104 l0_1 (wrap64 (x3_1 - 1))).f0) ≥ ((rd_T104 l0_1 x3_1).f0) then (spec_IsValidClaims.j1 k1 x3_1 true a0_0 l0_1 ((rd_T104 l0_1 x3_1).f0) ((rd_T104 l0_1 x3_1).f1) ((rd_T104 l0_1 x3_1).f2) ((rd_T104 l0_1 x3_1).f3) ((rd_T104 l0_1 x3_1).f4) ((rd_T104 l0_1 x3_1).f5)) else ((spec_l1In.f ((rd_T104 l0_1 x3_1).f1) 0 1000000).bind fun t190 => (if t190 = true then ((spec_l1In.f ((rd_T104 l0_1 x3_1).f3) 0 1000000).bind fun t191 => (if t191 = true then (if ((rd_T104 l0_1 x3_1).f4) = 30 then ((spec_l1In.f ((rd_T104 l0_1 x3_1).f5) 1 3).bind fun t192 => (spec_IsValidClaims.j1 k1 x3_1 (!t192) a0_0 l0_1 ((rd_T104 l0_1 x3_1).f0) ((rd_T104 l0_1 x3_1).f1) ((rd_T104 l0_1 x3_1).f2) ((rd_T104 l0_1 x3_1).f3) ((rd_T104 l0_1 x3_1).f4) ((rd_T104 l0_1 x3_1).f5))) else (if ((rd_T104 l0_1 x3_1).f4) = 90 then ((spec_l1In.f ((rd_T104 l0_1 x3_1).f5) 1 3).bind fun t193 => (spec_IsValidClaims.j1 k1 x3_1 (!t193) a0_0 l0_1 ((rd_T104 l0_1 x3_1).f0) ((rd_T104 l0_1 x3_1).f1) ((rd_T104 l0_1 x3_1).f2) ((rd_T104 l0_1 x3_1).f3) ((rd_T104 l0_1 x3_1).f4) ((rd_T104 l0_1 x3_1).f5))) else (spec_IsValidClaims.j1 k1 x3_1 true a0_0 l0_1 ((rd_T104 l0_1 x3_1).f0) ((rd_T104 l0_1 x3_1).f1) ((rd_T104 l0_1 x3_1).f2) ((rd_T104 l0_1 x3_1).f3) ((rd_T104 l0_1 x3_1).f4) ((rd_T104 l0_1 x3_1).f5)))) else (spec_IsValidClaims.j1 k1 x3_1 true a0_0 l0_1 ((rd_T104 l0_1 x3_1).f0) ((rd_T104 l0_1 x3_1).f1) ((rd_T104 l0_1 x3_1).f2) ((rd_T104 l0_1 x3_1).f3) ((rd_T104 l0_1 x3_1).f4) ((rd_T104 l0_1 x3_1).f5)))) else (spec_IsValidClaims.j1 k1 x3_1 true a0_0 l0_1 ((rd_T104 l0_1 x3_1).f0) ((rd_T104 l0_1 x3_1).f1) ((rd_T104 l0_1 x3_1).f2) ((rd_T104 l0_1 x3_1).f3) ((rd_T104 l0_1 x3_1).f4) ((rd_T104 l0_1 x3_1).f5))))) else (none)) else (none)) else ((spec_l1In.f ((rd_T104 l0_1 x3_1).f1) 0 1000000).bind fun t194 => (if t194 = true then ((spec_l1In.f ((rd_T104 l0_1 x3_1).f3) 0 1000000).bind fun t195 => (if t195 = true then (if ((rd_T104 l0_1 x3_1).f4) = 30 then ((spec_l1In.f ((rd_T104 l0_1 x3_1).f5) 1 3).bind fun t196 => (spec_IsValidClaims.j1 k1 x3_1 (!t196) a0_0 l0_1 ((rd_T104 l0_1 x3_1).f0) ((rd_T104 l0_1 x3_1).f1) ((rd_T104 l0_1 x3_1).f2) ((rd_T104 l0_1 x3_1).f3) ((rd_T104 l0_1 x3_1).f4) ((rd_T104 l0_1 x3_1).f5))) else (if ((rd_T104 l0_1 x3_1).f4) = 90 then ((spec_l1In.f ((rd_T104 l0_1 x3_1).f5) 1 3).bind fun t197 => (spec_IsValidClaims.j1 k1 x3_1 (!t197) a0_0 l0_1 ((rd_T104 l0_1 x3_1).f0) ((rd_T104 l0_1 x3_1).f1) ((rd_T104 l0_1 x3_1).f2) ((rd_T104 l0_1 x3_1).f3) ((rd_T104 l0_1 x3_1).f4) ((rd_T104 l0_1 x3_1).f5))) else (spec_IsValidClaims.j1 k1 x3_1 true a0_0 l0_1 ((rd_T104 l0_1 x3_1).f0) ((rd_T104 l0_1 x3_1).f1) ((rd_T104 l0_1 x3_1).f2) ((rd_T104 l0_1 x3_1).f3) ((rd_T104 l0_1 x3_1).f4) ((rd_T104 l0_1 x3_1).f5)))) else (spec_IsValidClaims.j1 k1 x3_1 true a0_0 l0_1 ((rd_T104 l0_1 x3_1).f0) ((rd_T104 l0_1 x3_1).f1) ((rd_T104 l0_1 x3_1).f2) ((rd_T104 l0_1 x3_1).f3) ((rd_T104 l0_1 x3_1).f4) ((rd_T104 l0_1 x3_1).f5)))) else (spec_IsValidClaims.j1 k1 x3_1 true a0_0 l0_1 ((rd_T104 l0_1 x3_1).f0) ((rd_T104 l0_1 x3_1).f1) ((rd_T104 l0_1 x3_1).f2) ((rd_T104 l0_1 x3_1).f3) ((rd_T104 l0_1 x3_1).f4) ((rd_T104 l0_1 x3_1).f5))))) = some r := by rw [if_pos rfl] at H; exact H
       clear H
       have H := H1
       clear H1
       by_cases c12 : x3_1 > 0
       ·rw [if_pos c12] at H
        have c12b0 : decide (0 < x3_1) = true := decide_eq_true c12
        clear c12
        (first | rw [c12b0] | (simp only [i64_w, i32_w]; rw [c12b0]) | skip)
        obtain ⟨ji13, hji13⟩ : ∃ j_ : Int, (wrap64 (x3_1 - 1)) = j_ := ⟨_, rfl⟩
        replace H : (if 0 ≤ (ji13) then (if (ji13) < (l0_1.length : Int) then (if ((rd_T104 l0_1 (ji13)).f0) ≥ ((rd_T104 l0_1 x3_1).f0) then (spec_IsValidClaims.j1 k1 x3_1 true a0_0 l0_1 ((rd_T104 l0_1 x3_1).f0) ((rd_T104 l0_1 x3_1).f1) ((rd_T104 l0_1 x3_1).f2) ((rd_T104 l0_1 x3_1).f3) ((rd_T104 l0_1 x3_1).f4) ((rd_T104 l0_1 x3_1).f5)) else ((spec_l1In.f ((rd_T104 l0_1 x3_1).f1) 0 1000000).bind fun t190 => (if t190 = true then ((spec_l1In.f ((rd_T104 l0_1 x3_1).f3) 0 1000000).bind fun t191 => (if t191 = true then (if ((rd_T104 l0_1 x3_1).f4) = 30 then ((spec_l1In.f ((rd_T104 l0_1 x3_1).f5) 1 3).bind fun t192 => (spec_IsValidClaims.j1 k1 x3_1 (!t192) a0_0 l0_1 ((rd_T104 l0_1 x3_1).f0) ((rd_T104 l0_1 x3_1).f1) ((rd_T104 l0_1 x3_1).f2) ((rd_T104 l0_1 x3_1).f3) ((rd_T104 l0_1 x3_1).f4) ((rd_T104 l0_1 x3_1).f5))) else (if ((rd_T104 l0_1 x3_1).f4) = 90 then ((spec_l1In.f ((rd_T104 l0_1 x3_1).f5) 1 3).bind fun t193 => (spec_IsValidClaims.j1 k1 x3_1 (!t193) a0_0 l0_1 ((rd_T104 l0_1 x3_1).f0) ((rd_T104 l0_1 x3_1).f1) ((rd_T104 l0_1 x3_1).f2) ((rd_T104 l0_1 x3_1).f3) ((rd_T104 l0_1 x3_1).f4) ((rd_T104 l0_1 x3_1).f5))) else (spec_IsValidClaims.j1 k1 x3_1 true a0_0 l0_1 ((rd_T104 l0_1 x3_1).f0) ((rd_T104 l0_1 x3_1).f1) ((rd_T104 l0_1 x3_1).f2) ((rd_T104 l0_1 x3_1).f3) ((rd_T104 l0_1 x3_1).f4) ((rd_T104 l0_1 x3_1).f5)))) else (spec_IsValidClaims.j1 k1 x3_1 true a0_0 l0_1 ((rd_T104 l0_1 x3_1).f0) ((rd_T104 l0_1 x3_1).f1) ((rd_T104 l0_1 x3_1).f2) ((rd_T104 l0_1 x3_1).f3) ((rd_T104 l0_1 x3_1).f4) ((rd_T104 l0_1 x3_1).f5)))) else (spec_IsValidClaims.j1 k1 x3_1 true a0_0 l0_1 ((rd_T104 l0_1 x3_1).f0) ((rd_T104 l0_1 x3_1).f1) ((rd_T104 l0_1 x3_1).f2) ((rd_T104 l0_1 x3_1).f3) ((rd_T104 l0_1 x3_1).f4) ((rd_T104 l0_1 x3_1).f5))))) else (none)) else (none)) = some r := by first | (rw [hji13] at H; exact H) | (simp only [hji13] at H ⊢; exact H)
        (try rw [hji13] at A10)
        have hji13w : (IntKind.i64.wrap (x3_1 - 1)) = ji13 := (i64_w _).trans hji13
        by_cases c14 : 0 ≤ (ji13)
        ·rw [if_pos c14] at H
         have c14b0 : decide (0 ≤ (ji13)) = true := decide_eq_true c14
         clear c14
         by_cases c15 : (ji13) < (l0_1.length : Int)
         ·rw [if_pos c15] at H
          have c15b0 : decide ((ji13) < (l0_1.length : Int)) = true := decide_eq_true c15
          clear c15
          by_cases c16 : ((rd_T104 l0_1 (ji13)).f0) ≥ ((rd_T104 l0_1 x3_1).f0)
          ·rw [if_pos c16] at H
           have c16b0 : decide (((rd_T104 l0_1 x3_1).f0) ≤ ((rd_T104 l0_1 (ji13)).f0)) = true := decide_eq_true c16
           clear c16
           have H' := Aside0.mk H
           clear H
           have hnb17 := NB187_184.out
           have hnc17 := NB184_187.out
           obtain ⟨hcz18_0, hcz18_1, hcz18_2, hcz18_3, hcz18_4, hcz18_5, hfz18_0, hfz18_1, hfz18_2, hfz18_3, hfz18_4, hfz18_5⟩ := bc6 BK187.out
           obtain ⟨hcz19_0, hcz19_1, hfz19_0, hfz19_1⟩ := bc2 BK184.out
           go_wp2_with (first | (go_at_call 81; (with_reducible refine (spec_l1In.calls ((rd_T104 l0_1 x3_1).f0) 0 (wrap64 (a0_0 - 1)) true _ A10.out).mono ?_); rintro e w' ⟨rfl, ⟨nd, rfl⟩⟩; (try exact tQ)))
           have p189 : 0 ≤ ((ji13) : Int) := of_decide_eq_true tA
           have q189 : (ji13) < (l0_1.length : Int) := of_decide_eq_true tA
           obtain ⟨ad189, e189, hx189_0, hx189_1, hx189_2, hx189_3, hx189_4, hx189_5⟩ := at_T104 HR0_1.out (ji13) p189 q189
           obtain rfl : ad186 = ad189 := (by injection e189)
           have hn189_0 : ad186.block ≠ gb187 := hN hx189_0 GW187
           have hn189_1 : ad186.block ≠ gb187 := hN hx189_0 GW187
           have hn189_2 : ad186.block ≠ gb187 := hN hx189_0 GW187
           have hn189_3 : ad186.block ≠ gb187 := hN hx189_0 GW187
           have hn189_4 : ad186.block ≠ gb187 := hN hx189_0 GW187
           have hn189_5 : ad186.block ≠ gb187 := hN hx189_0 GW187
           replace hx189_0 := hbc HB hx189_0
           replace hx189_1 := hbc HB hx189_1
           replace hx189_2 := hbc HB hx189_2
           replace hx189_3 := hbc HB hx189_3
           replace hx189_4 := hbc HB hx189_4
           replace hx189_5 := hbc HB hx189_5
           have F_ := @far6 gb187 (.int .i64 ((rd_T104 l0_1 x3_1).f0)) (.int .i64 ((rd_T104 l0_1 x3_1).f1)) (.int .i64 ((rd_T104 l0_1 x3_1).f2)) (.int .i64 ((rd_T104 l0_1 x3_1).f3)) (.int .i64 ((rd_T104 l0_1 x3_1).f4)) (.int .i64 ((rd_T104 l0_1 x3_1).f5))
           replace hx189_0 := (F_ tF).trans hx189_0
           replace hx189_1 := (F_ tF).trans hx189_1
           replace hx189_2 := (F_ tF).trans hx189_2
           replace hx189_3 := (F_ tF).trans hx189_3
           replace hx189_4 := (F_ tF).trans hx189_4
           replace hx189_5 := (F_ tF).trans hx189_5
           clear F_
           clear hn189_0
           clear hn189_1
           clear hn189_2
           clear hn189_3
           clear hn189_4
           clear hn189_5
           replace p189 := eq_true p189
           replace q189 := eq_true q189
           repeat (go_quiet (first | (go_at_call 81; (with_reducible refine (spec_l1In.calls ((rd_T104 l0_1 x3_1).f0) 0 (wrap64 (a0_0 - 1)) true _ A10.out).mono ?_); rintro e w' ⟨rfl, ⟨nd, rfl⟩⟩; (try exact tQ))); try go_wp2_with (first | (go_at_call 81; (with_reducible refine (spec_l1In.calls ((rd_T104 l0_1 x3_1).f0) 0 (wrap64 (a0_0 - 1)) true _ A10.out).mono ?_); rintro e w' ⟨rfl, ⟨nd, rfl⟩⟩; (try exact tQ))))
           go_meet
           case rel => exact ⟨_, (true), tS, H', ⟨by have := HK1.out; first | omega | exact Nat.le_refl _⟩, ⟨kF NB184_187 BK184⟩, ⟨by (with_reducible repeat (first | refine blk_drewN ?_ _ | refine blk_drew ?_ | refine blk_alloc ?_ _)); refine blk_put (cs := #[.int .i64 ((rd_T104 l0_1 x3_1).f0), .int .i64 ((rd_T104 l0_1 x3_1).f1), .int .i64 ((rd_T104 l0_1 x3_1).f2), .int .i64 ((rd_T104 l0_1 x3_1).f3), .int .i64 ((rd_T104 l0_1 x3_1).f4), .int .i64 0]) ?_ 5 _ rfl; (with_reducible repeat (first | refine blk_drewN ?_ _ | refine blk_drew ?_ | refine blk_alloc ?_ _)); refine blk_put (cs := #[.int .i64 ((rd_T104 l0_1 x3_1).f0), .int .i64 ((rd_T104 l0_1 x3_1).f1), .int .i64 ((rd_T104 l0_1 x3_1).f2), .int .i64 ((rd_T104 l0_1 x3_1).f3), .int .i64 0, .int .i64 0]) ?_ 4 _ rfl; (with_reducible repeat (first | refine blk_drewN ?_ _ | refine blk_drew ?_ | refine blk_alloc ?_ _)); refine blk_put (cs := #[.int .i64 ((rd_T104 l0_1 x3_1).f0), .int .i64 ((rd_T104 l0_1 x3_1).f1), .int .i64 ((rd_T104 l0_1 x3_1).f2), .int .i64 0, .int .i64 0, .int .i64 0]) ?_ 3 _ rfl; (with_reducible repeat (first | refine blk_drewN ?_ _ | refine blk_drew ?_ | refine blk_alloc ?_ _)); refine blk_put (cs := #[.int .i64 ((rd_T104 l0_1 x3_1).f0), .int .i64 ((rd_T104 l0_1 x3_1).f1), .int .i64 0, .int .i64 0, .int .i64 0, .int .i64 0]) ?_ 2 _ rfl; (with_reducible repeat (first | refine blk_drewN ?_ _ | refine blk_drew ?_ | refine blk_alloc ?_ _)); refine blk_put (cs := #[.int .i64 ((rd_T104 l0_1 x3_1).f0), .int .i64 0, .int .i64 0, .int .i64 0, .int .i64 0, .int .i64 0]) ?_ 1 _ rfl; (with_reducible repeat (first | refine blk_drewN ?_ _ | refine blk_drew ?_ | refine blk_alloc ?_ _)); refine blk_put (cs := #[.int .i64 0, .int .i64 0, .int .i64 0, .int .i64 0, .int .i64 0, .int .i64 0]) ?_ 0 _ rfl; (with_reducible repeat (first | refine blk_drewN ?_ _ | refine blk_drew ?_ | refine blk_alloc ?_ _)); exact BK187.out⟩, ⟨tB⟩⟩
          rw [if_neg c16] at H
          have c16b0 : decide (((rd_T104 l0_1 x3_1).f0) ≤ ((rd_T104 l0_1 (ji13)).f0)) = false := decide_eq_false c16
          clear c16
          replace H := Option.bind_eq_some_iff.mp H
          obtain ⟨t190, A200, H⟩ := H
          try dsimp only at H
          have A20 := Aside0.mk A200
          clear A200
          by_cases c21 : t190 = true
          ·subst c21
           have H1 : ((spec_l1In.f ((rd_T104 l0_1 x3_1).f3) 0 1000000).bind fun t191 => (if t191 = true then (if ((rd_T104 l0_1 x3_1).f4) = 30 then ((spec_l1In.f ((rd_T104 l0_1 x3_1).f5) 1 3).bind fun t192 => (spec_IsValidClaims.j1 k1 x3_1 (!t192) a0_0 l0_1 ((rd_T104 l0_1 x3_1).f0) ((rd_T104 l0_1 x3_1).f1) ((rd_T104 l0_1 x3_1).f2) ((rd_T104 l0_1 x3_1).f3) ((rd_T104 l0_1 x3_1).f4) ((rd_T104 l0_1 x3_1).f5))) else (if ((rd_T104 l0_1 x3_1).f4) = 90 then ((spec_l1In.f ((rd_T104 l0_1 x3_1).f5) 1 3).bind fun t193 => (spec_IsValidClaims.j1 k1 x3_1 (!t193) a0_0 l0_1 ((rd_T104 l0_1 x3_1).f0) ((rd_T104 l0_1 x3_1).f1) ((rd_T104 l0_1 x3_1).f2) ((rd_T104 l0_1 x3_1).f3) ((rd_T104 l0_1 x3_1).f4) ((rd_T104 l0_1 x3_1).f5))) else (spec_IsValidClaims.j1 k1 x3_1 true a0_0 l0_1 ((rd_T104 l0_1 x3_1).f0) ((rd_T104 l0_1 x3_1).f1) ((rd_T104 l0_1 x3_1).f2) ((rd_T104 l0_1 x3_1).f3) ((rd_T104 l0_1 x3_1).f4) ((rd_T104 l0_1 x3_1).f5)))) else (spec_IsValidClaims.j1 k1 x3_1 true a0_0 l0_1 ((rd_T104 l0_1 x3_1).f0) ((rd_T104 l0_1 x3_1).f1) ((rd_T104 l0_1 x3_1).f2) ((rd_T104 l0_1 x3_1).f3) ((rd_T104 l0_1 x3_1).f4) ((rd_T104 l0_1 x3_1).f5)))) = some r := by rw [if_pos rfl] at H; exact H
           clear H
           have H := H1
           clear H1
           replace H := Option.bind_eq_some_iff.mp H
           obtain ⟨t191, A220, H⟩ := H
           try dsimp only at H
           have A22 := Aside0.mk A220
           clear A220
           by_cases c23 : t191 = true
           ·subst c23
            have H1 : (if ((rd_T104 l0_1 x3_1).f4) = 30 then ((spec_l1In.f ((rd_T104 l0_1 x3_1).f5) 1 3).bind fun t192 => (spec_IsValidClaims.j1 k1 x3_1 (!t192) a0_0 l0_1 ((rd_T104 l0_1 x3_1).f0) ((rd_T104 l0_1 x3_1).f1) ((rd_T104 l0_1 x3_1).f2) ((rd_T104 l0_1 x3_1).f3) ((rd_T104 l0_1 x3_1).f4) ((rd_T104 l0_1 x3_1).f5))) else (if ((rd_T104 l0_1 x3_1).f4) = 90 then ((spec_l1In.f ((rd_T104 l0_1 x3_1).f5) 1 3).bind fun t193 => (spec_IsValidClaims.j1 k1 x3_1 (!t193) a0_0 l0_1 ((rd_T104 l0_1 x3_1).f0) ((rd_T104 l0_1 x3_1).f1) ((rd_T104 l0_1 x3_1).f2) ((rd_T104 l0_1 x3_1).f3) ((rd_T104 l0_1 x3_1).f4) ((rd_T104 l0_1 x3_1).f5))) else (spec_IsValidClaims.j1 k1 x3_1 true a0_0 l0_1 ((rd_T104 l0_1 x3_1).f0) ((rd_T104 l0_1 x3_1).f1) ((rd_T104 l0_1 x3_1).f2) ((rd_T104 l0_1 x3_1).f3) ((rd_T104 l0_1 x3_1).f4) ((rd_T104 l0_1 x3_1).f5)))) = some r := by rw [if_pos rfl] at H; exact H
            clear H
            have H := H1
            clear H1
            by_cases c24 : ((rd_T104 l0_1 x3_1).f4) = 30
            ·rw [if_pos c24] at H
             have c24b0 : (((rd_T104 l0_1 x3_1).f4) == 30) = true := beq_iff_eq.mpr c24
             have c24b1 : (((rd_T104 l0_1 x3_1).f4) != 30) = false := bne_eq_false_iff_eq.mpr c24
             clear c24
             replace H := Option.bind_eq_some_iff.mp H
             obtain ⟨t192, A250, H⟩ := H
             try dsimp only at H
             have A25 := Aside0.mk A250
             clear A250
             have H' := Aside0.mk H
             clear H
             have hnb26 := NB187_184.out
             have hnc26 := NB184_187.out
             obtain ⟨hcz27_0, hcz27_1, hcz27_2, hcz27_3, hcz27_4, hcz27_5, hfz27_0, hfz27_1, hfz27_2, hfz27_3, hfz27_4, hfz27_5⟩ := bc6 BK187.out
             obtain ⟨hcz28_0, hcz28_1, hfz28_0, hfz28_1⟩ := bc2 BK184.out
             go_wp2_with (first | (go_at_call 81; (with_reducible refine (spec_l1In.calls ((rd_T104 l0_1 x3_1).f0) 0 (wrap64 (a0_0 - 1)) true _ A10.out).mono ?_); rintro e w' ⟨rfl, ⟨nd, rfl⟩⟩; (try exact tQ)) | (go_at_call 81; (with_reducible refine (spec_l1In.calls ((rd_T104 l0_1 x3_1).f1) 0 1000000 true _ A20.out).mono ?_); rintro e w' ⟨rfl, ⟨nd, rfl⟩⟩; (try exact tQ)) | (go_at_call 81; (with_reducible refine (spec_l1In.calls ((rd_T104 l0_1 x3_1).f3) 0 1000000 true _ A22.out).mono ?_); rintro e w' ⟨rfl, ⟨nd, rfl⟩⟩; (try exact tQ)) | (go_at_call 81; (with_reducible refine (spec_l1In.calls ((rd_T104 l0_1 x3_1).f5) 1 3 t192 _ A25.out).mono ?_); rintro e w' ⟨rfl, ⟨nd, rfl⟩⟩; (try exact tQ)))
             have p189 : 0 ≤ ((ji13) : Int) := of_decide_eq_true tA
             have q189 : (ji13) < (l0_1.length : Int) := of_decide_eq_true tA
             obtain ⟨ad189, e189, hx189_0, hx189_1, hx189_2, hx189_3, hx189_4, hx189_5⟩ := at_T104 HR0_1.out (ji13) p189 q189
             obtain rfl : ad186 = ad189 := (by injection e189)
             have hn189_0 : ad186.block ≠ gb187 := hN hx189_0 GW187
             have hn189_1 : ad186.block ≠ gb187 := hN hx189_0 GW187
             have hn189_2 : ad186.block ≠ gb187 := hN hx189_0 GW187
             have hn189_3 : ad186.block ≠ gb187 := hN hx189_0 GW187
             have hn189_4 : ad186.block ≠ gb187 := hN hx189_0 GW187
             have hn189_5 : ad186.block ≠ gb187 := hN hx189_0 GW187
             replace hx189_0 := hbc HB hx189_0
             replace hx189_1 := hbc HB hx189_1
             replace hx189_2 := hbc HB hx189_2
             replace hx189_3 := hbc HB hx189_3
             replace hx189_4 := hbc HB hx189_4
             replace hx189_5 := hbc HB hx189_5
             have F_ := @far6 gb187 (.int .i64 ((rd_T104 l0_1 x3_1).f0)) (.int .i64 ((rd_T104 l0_1 x3_1).f1)) (.int .i64 ((rd_T104 l0_1 x3_1).f2)) (.int .i64 ((rd_T104 l0_1 x3_1).f3)) (.int .i64 ((rd_T104 l0_1 x3_1).f4)) (.int .i64 ((rd_T104 l0_1 x3_1).f5))
             replace hx189_0 := (F_ tF).trans hx189_0
             replace hx189_1 := (F_ tF).trans hx189_1
             replace hx189_2 := (F_ tF).trans hx189_2
             replace hx189_3 := (F_ tF).trans hx189_3
             replace hx189_4 := (F_ tF).trans hx189_4
             replace hx189_5 := (F_ tF).trans hx189_5
             clear F_
             clear hn189_0
             clear hn189_1
             clear hn189_2
             clear hn189_3
             clear hn189_4
             clear hn189_5
             replace p189 := eq_true p189
             replace q189 := eq_true q189
             repeat (go_quiet (first | (go_at_call 81; (with_reducible refine (spec_l1In.calls ((rd_T104 l0_1 x3_1).f0) 0 (wrap64 (a0_0 - 1)) true _ A10.out).mono ?_); rintro e w' ⟨rfl, ⟨nd, rfl⟩⟩; (try exact tQ)) | (go_at_call 81; (with_reducible refine (spec_l1In.calls ((rd_T104 l0_1 x3_1).f1) 0 1000000 true _ A20.out).mono ?_); rintro e w' ⟨rfl, ⟨nd, rfl⟩⟩; (try exact tQ)) | (go_at_call 81; (with_reducible refine (spec_l1In.calls ((rd_T104 l0_1 x3_1).f3) 0 1000000 true _ A22.out).mono ?_); rintro e w' ⟨rfl, ⟨nd, rfl⟩⟩; (try exact tQ)) | (go_at_call 81; (with_reducible refine (spec_l1In.calls ((rd_T104 l0_1 x3_1).f5) 1 3 t192 _ A25.out).mono ?_); rintro e w' ⟨rfl, ⟨nd, rfl⟩⟩; (try exact tQ))); try go_wp2_with (first | (go_at_call 81; (with_reducible refine (spec_l1In.calls ((rd_T104 l0_1 x3_1).f0) 0 (wrap64 (a0_0 - 1)) true _ A10.out).mono ?_); rintro e w' ⟨rfl, ⟨nd, rfl⟩⟩; (try exact tQ)) | (go_at_call 81; (with_reducible refine (spec_l1In.calls ((rd_T104 l0_1 x3_1).f1) 0 1000000 true _ A20.out).mono ?_); rintro e w' ⟨rfl, ⟨nd, rfl⟩⟩; (try exact tQ)) | (go_at_call 81; (with_reducible refine (spec_l1In.calls ((rd_T104 l0_1 x3_1).f3) 0 1000000 true _ A22.out).mono ?_); rintro e w' ⟨rfl, ⟨nd, rfl⟩⟩; (try exact tQ)) | (go_at_call 81; (with_reducible refine (spec_l1In.calls ((rd_T104 l0_1 x3_1).f5) 1 3 t192 _ A25.out).mono ?_); rintro e w' ⟨rfl, ⟨nd, rfl⟩⟩; (try exact tQ))))
             go_meet
             case rel => exact ⟨_, (!t192), tS, H', ⟨by have := HK1.out; first | omega | exact Nat.le_refl _⟩, ⟨kF NB184_187 BK184⟩, ⟨by (with_reducible repeat (first | refine blk_drewN ?_ _ | refine blk_drew ?_ | refine blk_alloc ?_ _)); refine blk_put (cs := #[.int .i64 ((rd_T104 l0_1 x3_1).f0), .int .i64 ((rd_T104 l0_1 x3_1).f1), .int .i64 ((rd_T104 l0_1 x3_1).f2), .int .i64 ((rd_T104 l0_1 x3_1).f3), .int .i64 ((rd_T104 l0_1 x3_1).f4), .int .i64 0]) ?_ 5 _ rfl; (with_reducible repeat (first | refine blk_drewN ?_ _ | refine blk_drew ?_ | refine blk_alloc ?_ _)); refine blk_put (cs := #[.int .i64 ((rd_T104 l0_1 x3_1).f0), .int .i64 ((rd_T104 l0_1 x3_1).f1), .int .i64 ((rd_T104 l0_1 x3_1).f2), .int .i64 ((rd_T104 l0_1 x3_1).f3), .int .i64 0, .int .i64 0]) ?_ 4 _ rfl; (with_reducible repeat (first | refine blk_drewN ?_ _ | refine blk_drew ?_ | refine blk_alloc ?_ _)); refine blk_put (cs := #[.int .i64 ((rd_T104 l0_1 x3_1).f0), .int .i64 ((rd_T104 l0_1 x3_1).f1), .int .i64 ((rd_T104 l0_1 x3_1).f2), .int .i64 0, .int .i64 0, .int .i64 0]) ?_ 3 _ rfl; (with_reducible repeat (first | refine blk_drewN ?_ _ | refine blk_drew ?_ | refine blk_alloc ?_ _)); refine blk_put (cs := #[.int .i64 ((rd_T104 l0_1 x3_1).f0), .int .i64 ((rd_T104 l0_1 x3_1).f1), .int .i64 0, .int .i64 0, .int .i64 0, .int .i64 0]) ?_ 2 _ rfl; (with_reducible repeat (first | refine blk_drewN ?_ _ | refine blk_drew ?_ | refine blk_alloc ?_ _)); refine blk_put (cs := #[.int .i64 ((rd_T104 l0_1 x3_1).f0), .int .i64 0, .int .i64 0, .int .i64 0, .int .i64 0, .int .i64 0]) ?_ 1 _ rfl; (with_reducible repeat (first | refine blk_drewN ?_ _ | refine blk_drew ?_ | refine blk_alloc ?_ _)); refine blk_put (cs := #[.int .i64 0, .int .i64 0, .int .i64 0, .int .i64 0, .int .i64 0, .int .i64 0]) ?_ 0 _ rfl; (with_reducible repeat (first | refine blk_drewN ?_ _ | refine blk_drew ?_ | refine blk_alloc ?_ _)); exact BK187.out⟩, ⟨tB⟩⟩
            rw [if_neg c24] at H
            have c24b0 : (((rd_T104 l0_1 x3_1).f4) == 30) = false := beq_eq_false_iff_ne.mpr c24
            have c24b1 : (((rd_T104 l0_1 x3_1).f4) != 30) = true := bne_iff_ne.mpr c24
            by_cases c29 : ((rd_T104 l0_1 x3_1).f4) = 90
            ·rw [if_pos c29] at H
             have c29b0 : (((rd_T104 l0_1 x3_1).f4) == 90) = true := beq_iff_eq.mpr c29
             have c29b1 : (((rd_T104 l0_1 x3_1).f4) != 90) = false := bne_eq_false_iff_eq.mpr c29
             clear c29
             replace H := Option.bind_eq_some_iff.mp H
             obtain ⟨t193, A300, H⟩ := H
             try dsimp only at H
             have A30 := Aside0.mk A300
             clear A300
             have H' := Aside0.mk H
             clear H
             have hnb31 := NB187_184.out
             have hnc31 := NB184_187.out
             obtain ⟨hcz32_0, hcz32_1, hcz32_2, hcz32_3, hcz32_4, hcz32_5, hfz32_0, hfz32_1, hfz32_2, hfz32_3, hfz32_4, hfz32_5⟩ := bc6 BK187.out
             obtain ⟨hcz33_0, hcz33_1, hfz33_0, hfz33_1⟩ := bc2 BK184.out
             go_wp2_with (first | (go_at_call 81; (with_reducible refine (spec_l1In.calls ((rd_T104 l0_1 x3_1).f0) 0 (wrap64 (a0_0 - 1)) true _ A10.out).mono ?_); rintro e w' ⟨rfl, ⟨nd, rfl⟩⟩; (try exact tQ)) | (go_at_call 81; (with_reducible refine (spec_l1In.calls ((rd_T104 l0_1 x3_1).f1) 0 1000000 true _ A20.out).mono ?_); rintro e w' ⟨rfl, ⟨nd, rfl⟩⟩; (try exact tQ)) | (go_at_call 81; (with_reducible refine (spec_l1In.calls ((rd_T104 l0_1 x3_1).f3) 0 1000000 true _ A22.out).mono ?_); rintro e w' ⟨rfl, ⟨nd, rfl⟩⟩; (try exact tQ)) | (go_at_call 81; (with_reducible refine (spec_l1In.calls ((rd_T104 l0_1 x3_1).f5) 1 3 t193 _ A30.out).mono ?_); rintro e w' ⟨rfl, ⟨nd, rfl⟩⟩; (try exact tQ)))
             have p189 : 0 ≤ ((ji13) : Int) := of_decide_eq_true tA
             have q189 : (ji13) < (l0_1.length : Int) := of_decide_eq_true tA
             obtain ⟨ad189, e189, hx189_0, hx189_1, hx189_2, hx189_3, hx189_4, hx189_5⟩ := at_T104 HR0_1.out (ji13) p189 q189
             obtain rfl : ad186 = ad189 := (by injection e189)
             have hn189_0 : ad186.block ≠ gb187 := hN hx189_0 GW187
             have hn189_1 : ad186.block ≠ gb187 := hN hx189_0 GW187
             have hn189_2 : ad186.block ≠ gb187 := hN hx189_0 GW187
             have hn189_3 : ad186.block ≠ gb187 := hN hx189_0 GW187
             have hn189_4 : ad186.block ≠ gb187 := hN hx189_0 GW187
             have hn189_5 : ad186.block ≠ gb187 := hN hx189_0 GW187
             replace hx189_0 := hbc HB hx189_0
             replace hx189_1 := hbc HB hx189_1
             replace hx189_2 := hbc HB hx189_2
             replace hx189_3 := hbc HB hx189_3
             replace hx189_4 := hbc HB hx189_4
             replace hx189_5 := hbc HB hx189_5
             have F_ := @far6 gb187 (.int .i64 ((rd_T104 l0_1 x3_1).f0)) (.int .i64 ((rd_T104 l0_1 x3_1).f1)) (.int .i64 ((rd_T104 l0_1 x3_1).f2)) (.int .i64 ((rd_T104 l0_1 x3_1).f3)) (.int .i64 ((rd_T104 l0_1 x3_1).f4)) (.int .i64 ((rd_T104 l0_1 x3_1).f5))
             replace hx189_0 := (F_ tF).trans hx189_0
             replace hx189_1 := (F_ tF).trans hx189_1
             replace hx189_2 := (F_ tF).trans hx189_2
             replace hx189_3 := (F_ tF).trans hx189_3
             replace hx189_4 := (F_ tF).trans hx189_4
             replace hx189_5 := (F_ tF).trans hx189_5
             clear F_
             clear hn189_0
             clear hn189_1
             clear hn189_2
             clear hn189_3
             clear hn189_4
             clear hn189_5
             replace p189 := eq_true p189
             replace q189 := eq_true q189
             repeat (go_quiet (first | (go_at_call 81; (with_reducible refine (spec_l1In.calls ((rd_T104 l0_1 x3_1).f0) 0 (wrap64 (a0_0 - 1)) true _ A10.out).mono ?_); rintro e w' ⟨rfl, ⟨nd, rfl⟩⟩; (try exact tQ)) | (go_at_call 81; (with_reducible refine (spec_l1In.calls ((rd_T104 l0_1 x3_1).f1) 0 1000000 true _ A20.out).mono ?_); rintro e w' ⟨rfl, ⟨nd, rfl⟩⟩; (try exact tQ)) | (go_at_call 81; (with_reducible refine (spec_l1In.calls ((rd_T104 l0_1 x3_1).f3) 0 1000000 true _ A22.out).mono ?_); rintro e w' ⟨rfl, ⟨nd, rfl⟩⟩; (try exact tQ)) | (go_at_call 81; (with_reducible refine (spec_l1In.calls ((rd_T104 l0_1 x3_1).f5) 1 3 t193 _ A30.out).mono ?_); rintro e w' ⟨rfl, ⟨nd, rfl⟩⟩; (try exact tQ))); try go_wp2_with (first | (go_at_call 81; (with_reducible refine (spec_l1In.calls ((rd_T104 l0_1 x3_1).f0) 0 (wrap64 (a0_0 - 1)) true _ A10.out).mono ?_); rintro e w' ⟨rfl, ⟨nd, rfl⟩⟩; (try exact tQ)) | (go_at_call 81; (with_reducible refine (spec_l1In.calls ((rd_T104 l0_1 x3_1).f1) 0 1000000 true _ A20.out).mono ?_); rintro e w' ⟨rfl, ⟨nd, rfl⟩⟩; (try exact tQ)) | (go_at_call 81; (with_reducible refine (spec_l1In.calls ((rd_T104 l0_1 x3_1).f3) 0 1000000 true _ A22.out).mono ?_); rintro e w' ⟨rfl, ⟨nd, rfl⟩⟩; (try exact tQ)) | (go_at_call 81; (with_reducible refine (spec_l1In.calls ((rd_T104 l0_1 x3_1).f5) 1 3 t193 _ A30.out).mono ?_); rintro e w' ⟨rfl, ⟨nd, rfl⟩⟩; (try exact tQ))))
             go_meet
             case rel => exact ⟨_, (!t193), tS, H', ⟨by have := HK1.out; first | omega | exact Nat.le_refl _⟩, ⟨kF NB184_187 BK184⟩, ⟨by (with_reducible repeat (first | refine blk_drewN ?_ _ | refine blk_drew ?_ | refine blk_alloc ?_ _)); refine blk_put (cs := #[.int .i64 ((rd_T104 l0_1 x3_1).f0), .int .i64 ((rd_T104 l0_1 x3_1).f1), .int .i64 ((rd_T104 l0_1 x3_1).f2), .int .i64 ((rd_T104 l0_1 x3_1).f3), .int .i64 ((rd_T104 l0_1 x3_1).f4), .int .i64 0]) ?_ 5 _ rfl; (with_reducible repeat (first | refine blk_drewN ?_ _ | refine blk_drew ?_ | refine blk_alloc ?_ _)); refine blk_put (cs := #[.int .i64 ((rd_T104 l0_1 x3_1).f0), .int .i64 ((rd_T104 l0_1 x3_1).f1), .int .i64 ((rd_T104 l0_1 x3_1).f2), .int .i64 ((rd_T104 l0_1 x3_1).f3), .int .i64 0, .int .i64 0]) ?_ 4 _ rfl; (with_reducible repeat (first | refine blk_drewN ?_ _ | refine blk_drew ?_ | refine blk_alloc ?_ _)); refine blk_put (cs := #[.int .i64 ((rd_T104 l0_1 x3_1).f0), .int .i64 ((rd_T104 l0_1 x3_1).f1), .int .i64 ((rd_T104 l0_1 x3_1).f2), .int .i64 0, .int .i64 0, .int .i64 0]) ?_ 3 _ rfl; (with_reducible repeat (first | refine blk_drewN ?_ _ | refine blk_drew ?_ | refine blk_alloc ?_ _)); refine blk_put (cs := #[.int .i64 ((rd_T104 l0_1 x3_1).f0), .int .i64 ((rd_T104 l0_1 x3_1).f1), .int .i64 0, .int .i64 0, .int .i64 0, .int .i64 0]) ?_ 2 _ rfl; (with_reducible repeat (first | refine blk_drewN ?_ _ | refine blk_drew ?_ | refine blk_alloc ?_ _)); refine blk_put (cs := #[.int .i64 ((rd_T104 l0_1 x3_1).f0), .int .i64 0, .int .i64 0, .int .i64 0, .int .i64 0, .int .i64 0]) ?_ 1 _ rfl; (with_reducible repeat (first | refine blk_drewN ?_ _ | refine blk_drew ?_ | refine blk_alloc ?_ _)); refine blk_put (cs := #[.int .i64 0, .int .i64 0, .int .i64 0, .int .i64 0, .int .i64 0, .int .i64 0]) ?_ 0 _ rfl; (with_reducible repeat (first | refine blk_drewN ?_ _ | refine blk_drew ?_ | refine blk_alloc ?_ _)); exact BK187.out⟩, ⟨tB⟩⟩
            rw [if_neg c29] at H
            have c29b0 : (((rd_T104 l0_1 x3_1).f4) == 90) = false := beq_eq_false_iff_ne.mpr c29
            have c29b1 : (((rd_T104 l0_1 x3_1).f4) != 90) = true := bne_iff_ne.mpr c29
            have H' := Aside0.mk H
            clear H
            have hnb34 := NB187_184.out
            have hnc34 := NB184_187.out
            obtain ⟨hcz35_0, hcz35_1, hcz35_2, hcz35_3, hcz35_4, hcz35_5, hfz35_0, hfz35_1, hfz35_2, hfz35_3, hfz35_4, hfz35_5⟩ := bc6 BK187.out
            obtain ⟨hcz36_0, hcz36_1, hfz36_0, hfz36_1⟩ := bc2 BK184.out
            go_wp2_with (first | (go_at_call 81; (with_reducible refine (spec_l1In.calls ((rd_T104 l0_1 x3_1).f0) 0 (wrap64 (a0_0 - 1)) true _ A10.out).mono ?_); rintro e w' ⟨rfl, ⟨nd, rfl⟩⟩; (try exact tQ)) | (go_at_call 81; (with_reducible refine (spec_l1In.calls ((rd_T104 l0_1 x3_1).f1) 0 1000000 true _ A20.out).mono ?_); rintro e w' ⟨rfl, ⟨nd, rfl⟩⟩; (try exact tQ)) | (go_at_call 81; (with_reducible refine (spec_l1In.calls ((rd_T104 l0_1 x3_1).f3) 0 1000000 true _ A22.out).mono ?_); rintro e w' ⟨rfl, ⟨nd, rfl⟩⟩; (try exact tQ)))
            have p189 : 0 ≤ ((ji13) : Int) := of_decide_eq_true tA
            have q189 : (ji13) < (l0_1.length : Int) := of_decide_eq_true tA
            obtain ⟨ad189, e189, hx189_0, hx189_1, hx189_2, hx189_3, hx189_4, hx189_5⟩ := at_T104 HR0_1.out (ji13) p189 q189
            obtain rfl : ad186 = ad189 := (by injection e189)
            have hn189_0 : ad186.block ≠ gb187 := hN hx189_0 GW187
            have hn189_1 : ad186.block ≠ gb187 := hN hx189_0 GW187
            have hn189_2 : ad186.block ≠ gb187 := hN hx189_0 GW187
            have hn189_3 : ad186.block ≠ gb187 := hN hx189_0 GW187
            have hn189_4 : ad186.block ≠ gb187 := hN hx189_0 GW187
            have hn189_5 : ad186.block ≠ gb187 := hN hx189_0 GW187
            replace hx189_0 := hbc HB hx189_0
            replace hx189_1 := hbc HB hx189_1
            replace hx189_2 := hbc HB hx189_2
            replace hx189_3 := hbc HB hx189_3
            replace hx189_4 := hbc HB hx189_4
            replace hx189_5 := hbc HB hx189_5
            have F_ := @far6 gb187 (.int .i64 ((rd_T104 l0_1 x3_1).f0)) (.int .i64 ((rd_T104 l0_1 x3_1).f1)) (.int .i64 ((rd_T104 l0_1 x3_1).f2)) (.int .i64 ((rd_T104 l0_1 x3_1).f3)) (.int .i64 ((rd_T104 l0_1 x3_1).f4)) (.int .i64 ((rd_T104 l0_1 x3_1).f5))
            replace hx189_0 := (F_ tF).trans hx189_0
            replace hx189_1 := (F_ tF).trans hx189_1
            replace hx189_2 := (F_ tF).trans hx189_2
            replace hx189_3 := (F_ tF).trans hx189_3
            replace hx189_4 := (F_ tF).trans hx189_4
            replace hx189_5 := (F_ tF).trans hx189_5
            clear F_
            clear hn189_0
            clear hn189_1
            clear hn189_2
            clear hn189_3
            clear hn189_4
            clear hn189_5
            replace p189 := eq_true p189
            replace q189 := eq_true q189
            repeat (go_quiet (first | (go_at_call 81; (with_reducible refine (spec_l1In.calls ((rd_T104 l0_1 x3_1).f0) 0 (wrap64 (a0_0 - 1)) true _ A10.out).mono ?_); rintro e w' ⟨rfl, ⟨nd, rfl⟩⟩; (try exact tQ)) | (go_at_call 81; (with_reducible refine (spec_l1In.calls ((rd_T104 l0_1 x3_1).f1) 0 1000000 true _ A20.out).mono ?_); rintro e w' ⟨rfl, ⟨nd, rfl⟩⟩; (try exact tQ)) | (go_at_call 81; (with_reducible refine (spec_l1In.calls ((rd_T104 l0_1 x3_1).f3) 0 1000000 true _ A22.out).mono ?_); rintro e w' ⟨rfl, ⟨nd, rfl⟩⟩; (try exact tQ))); try go_wp2_with (first | (go_at_call 81; (with_reducible refine (spec_l1In.calls ((rd_T104 l0_1 x3_1).f0) 0 (wrap64 (a0_0 - 1)) true _ A10.out).mono ?_); rintro e w' ⟨rfl, ⟨nd, rfl⟩⟩; (try exact tQ)) | (go_at_call 81; (with_reducible refine (spec_l1In.calls ((rd_T104 l0_1 x3_1).f1) 0 1000000 true _ A20.out).mono ?_); rintro e w' ⟨rfl, ⟨nd, rfl⟩⟩; (try exact tQ)) | (go_at_call 81; (with_reducible refine (spec_l1In.calls ((rd_T104 l0_1 x3_1).f3) 0 1000000 true _ A22.out).mono ?_); rintro e w' ⟨rfl, ⟨nd, rfl⟩⟩; (try exact tQ))))
            go_meet
            case rel => exact ⟨_, (true), tS, H', ⟨by have := HK1.out; first | omega | exact Nat.le_refl _⟩, ⟨kF NB184_187 BK184⟩, ⟨by (with_reducible repeat (first | refine blk_drewN ?_ _ | refine blk_drew ?_ | refine blk_alloc ?_ _)); refine blk_put (cs := #[.int .i64 ((rd_T104 l0_1 x3_1).f0), .int .i64 ((rd_T104 l0_1 x3_1).f1), .int .i64 ((rd_T104 l0_1 x3_1).f2), .int .i64 ((rd_T104 l0_1 x3_1).f3), .int .i64 ((rd_T104 l0_1 x3_1).f4), .int .i64 0]) ?_ 5 _ rfl; (with_reducible repeat (first | refine blk_drewN ?_ _ | refine blk_drew ?_ | refine blk_alloc ?_ _)); refine blk_put (cs := #[.int .i64 ((rd_T104 l0_1 x3_1).f0), .int .i64 ((rd_T104 l0_1 x3_1).f1), .int .i64 ((rd_T104 l0_1 x3_1).f2), .int .i64 ((rd_T104 l0_1 x3_1).f3), .int .i64 0, .int .i64 0]) ?_ 4 _ rfl; (with_reducible repeat (first | refine blk_drewN ?_ _ | refine blk_drew ?_ | refine blk_alloc ?_ _)); refine blk_put (cs := #[.int .i64 ((rd_T104 l0_1 x3_1).f0), .int .i64 ((rd_T104 l0_1 x3_1).f1), .int .i64 ((rd_T104 l0_1 x3_1).f2), .int .i64 0, .int .i64 0, .int .i64 0]) ?_ 3 _ rfl; (with_reducible repeat (first | refine blk_drewN ?_ _ | refine blk_drew ?_ | refine blk_alloc ?_ _)); refine blk_put (cs := #[.int .i64 ((rd_T104 l0_1 x3_1).f0), .int .i64 ((rd_T104 l0_1 x3_1).f1), .int .i64 0, .int .i64 0, .int .i64 0, .int .i64 0]) ?_ 2 _ rfl; (with_reducible repeat (first | refine blk_drewN ?_ _ | refine blk_drew ?_ | refine blk_alloc ?_ _)); refine blk_put (cs := #[.int .i64 ((rd_T104 l0_1 x3_1).f0), .int .i64 0, .int .i64 0, .int .i64 0, .int .i64 0, .int .i64 0]) ?_ 1 _ rfl; (with_reducible repeat (first | refine blk_drewN ?_ _ | refine blk_drew ?_ | refine blk_alloc ?_ _)); refine blk_put (cs := #[.int .i64 0, .int .i64 0, .int .i64 0, .int .i64 0, .int .i64 0, .int .i64 0]) ?_ 0 _ rfl; (with_reducible repeat (first | refine blk_drewN ?_ _ | refine blk_drew ?_ | refine blk_alloc ?_ _)); exact BK187.out⟩, ⟨tB⟩⟩
           replace c23 := Bool.eq_false_iff.mpr c23
           subst c23
           have H1 : (spec_IsValidClaims.j1 k1 x3_1 true a0_0 l0_1 ((rd_T104 l0_1 x3_1).f0) ((rd_T104 l0_1 x3_1).f1) ((rd_T104 l0_1 x3_1).f2) ((rd_T104 l0_1 x3_1).f3) ((rd_T104 l0_1 x3_1).f4) ((rd_T104 l0_1 x3_1).f5)) = some r := by rw [if_neg (show ¬ (false = true) by decide)] at H; exact H
           clear H
           have H := H1
           clear H1
           have H' := Aside0.mk H
           clear H
           have hnb37 := NB187_184.out
           have hnc37 := NB184_187.out
           obtain ⟨hcz38_0, hcz38_1, hcz38_2, hcz38_3, hcz38_4, hcz38_5, hfz38_0, hfz38_1, hfz38_2, hfz38_3, hfz38_4, hfz38_5⟩ := bc6 BK187.out
           obtain ⟨hcz39_0, hcz39_1, hfz39_0, hfz39_1⟩ := bc2 BK184.out
           go_wp2_with (first | (go_at_call 81; (with_reducible refine (spec_l1In.calls ((rd_T104 l0_1 x3_1).f0) 0 (wrap64 (a0_0 - 1)) true _ A10.out).mono ?_); rintro e w' ⟨rfl, ⟨nd, rfl⟩⟩; (try exact tQ)) | (go_at_call 81; (with_reducible refine (spec_l1In.calls ((rd_T104 l0_1 x3_1).f1) 0 1000000 true _ A20.out).mono ?_); rintro e w' ⟨rfl, ⟨nd, rfl⟩⟩; (try exact tQ)) | (go_at_call 81; (with_reducible refine (spec_l1In.calls ((rd_T104 l0_1 x3_1).f3) 0 1000000 false _ A22.out).mono ?_); rintro e w' ⟨rfl, ⟨nd, rfl⟩⟩; (try exact tQ)))
           have p189 : 0 ≤ ((ji13) : Int) := of_decide_eq_true tA
           have q189 : (ji13) < (l0_1.length : Int) := of_decide_eq_true tA
           obtain ⟨ad189, e189, hx189_0, hx189_1, hx189_2, hx189_3, hx189_4, hx189_5⟩ := at_T104 HR0_1.out (ji13) p189 q189
           obtain rfl : ad186 = ad189 := (by injection e189)
           have hn189_0 : ad186.block ≠ gb187 := hN hx189_0 GW187
           have hn189_1 : ad186.block ≠ gb187 := hN hx189_0 GW187
           have hn189_2 : ad186.block ≠ gb187 := hN hx189_0 GW187
           have hn189_3 : ad186.block ≠ gb187 := hN hx189_0 GW187
           have hn189_4 : ad186.block ≠ gb187 := hN hx189_0 GW187
           have hn189_5 : ad186.block ≠ gb187 := hN hx189_0 GW187
           replace hx189_0 := hbc HB hx189_0
           replace hx189_1 := hbc HB hx189_1
           replace hx189_2 := hbc HB hx189_2
           replace hx189_3 := hbc HB hx189_3
           replace hx189_4 := hbc HB hx189_4
           replace hx189_5 := hbc HB hx189_5
           have F_ := @far6 gb187 (.int .i64 ((rd_T104 l0_1 x3_1).f0)) (.int .i64 ((rd_T104 l0_1 x3_1).f1)) (.int .i64 ((rd_T104 l0_1 x3_1).f2)) (.int .i64 ((rd_T104 l0_1 x3_1).f3)) (.int .i64 ((rd_T104 l0_1 x3_1).f4)) (.int .i64 ((rd_T104 l0_1 x3_1).f5))
           replace hx189_0 := (F_ tF).trans hx189_0
           replace hx189_1 := (F_ tF).trans hx189_1
           replace hx189_2 := (F_ tF).trans hx189_2
           replace hx189_3 := (F_ tF).trans hx189_3
           replace hx189_4 := (F_ tF).trans hx189_4
           replace hx189_5 := (F_ tF).trans hx189_5
           clear F_
           clear hn189_0
           clear hn189_1
           clear hn189_2
           clear hn189_3
           clear hn189_4
           clear hn189_5
           replace p189 := eq_true p189
           replace q189 := eq_true q189
           repeat (go_quiet (first | (go_at_call 81; (with_reducible refine (spec_l1In.calls ((rd_T104 l0_1 x3_1).f0) 0 (wrap64 (a0_0 - 1)) true _ A10.out).mono ?_); rintro e w' ⟨rfl, ⟨nd, rfl⟩⟩; (try exact tQ)) | (go_at_call 81; (with_reducible refine (spec_l1In.calls ((rd_T104 l0_1 x3_1).f1) 0 1000000 true _ A20.out).mono ?_); rintro e w' ⟨rfl, ⟨nd, rfl⟩⟩; (try exact tQ)) | (go_at_call 81; (with_reducible refine (spec_l1In.calls ((rd_T104 l0_1 x3_1).f3) 0 1000000 false _ A22.out).mono ?_); rintro e w' ⟨rfl, ⟨nd, rfl⟩⟩; (try exact tQ))); try go_wp2_with (first | (go_at_call 81; (with_reducible refine (spec_l1In.calls ((rd_T104 l0_1 x3_1).f0) 0 (wrap64 (a0_0 - 1)) true _ A10.out).mono ?_); rintro e w' ⟨rfl, ⟨nd, rfl⟩⟩; (try exact tQ)) | (go_at_call 81; (with_reducible refine (spec_l1In.calls ((rd_T104 l0_1 x3_1).f1) 0 1000000 true _ A20.out).mono ?_); rintro e w' ⟨rfl, ⟨nd, rfl⟩⟩; (try exact tQ)) | (go_at_call 81; (with_reducible refine (spec_l1In.calls ((rd_T104 l0_1 x3_1).f3) 0 1000000 false _ A22.out).mono ?_); rintro e w' ⟨rfl, ⟨nd, rfl⟩⟩; (try exact tQ))))
           go_meet
           case rel => exact ⟨_, (true), tS, H', ⟨by have := HK1.out; first | omega | exact Nat.le_refl _⟩, ⟨kF NB184_187 BK184⟩, ⟨by (with_reducible repeat (first | refine blk_drewN ?_ _ | refine blk_drew ?_ | refine blk_alloc ?_ _)); refine blk_put (cs := #[.int .i64 ((rd_T104 l0_1 x3_1).f0), .int .i64 ((rd_T104 l0_1 x3_1).f1), .int .i64 ((rd_T104 l0_1 x3_1).f2), .int .i64 ((rd_T104 l0_1 x3_1).f3), .int .i64 ((rd_T104 l0_1 x3_1).f4), .int .i64 0]) ?_ 5 _ rfl; (with_reducible repeat (first | refine blk_drewN ?_ _ | refine blk_drew ?_ | refine blk_alloc ?_ _)); refine blk_put (cs := #[.int .i64 ((rd_T104 l0_1 x3_1).f0), .int .i64 ((rd_T104 l0_1 x3_1).f1), .int .i64 ((rd_T104 l0_1 x3_1).f2), .int .i64 ((rd_T104 l0_1 x3_1).f3), .int .i64 0, .int .i64 0]) ?_ 4 _ rfl; (with_reducible repeat (first | refine blk_drewN ?_ _ | refine blk_drew ?_ | refine blk_alloc ?_ _)); refine blk_put (cs := #[.int .i64 ((rd_T104 l0_1 x3_1).f0), .int .i64 ((rd_T104 l0_1 x3_1).f1), .int .i64 ((rd_T104 l0_1 x3_1).f2), .int .i64 0, .int .i64 0, .int .i64 0]) ?_ 3 _ rfl; (with_reducible repeat (first | refine blk_drewN ?_ _ | refine blk_drew ?_ | refine blk_alloc ?_ _)); refine blk_put (cs := #[.int .i64 ((rd_T104 l0_1 x3_1).f0), .int .i64 ((rd_T104 l0_1 x3_1).f1), .int .i64 0, .int .i64 0, .int .i64 0, .int .i64 0]) ?_ 2 _ rfl; (with_reducible repeat (first | refine blk_drewN ?_ _ | refine blk_drew ?_ | refine blk_alloc ?_ _)); refine blk_put (cs := #[.int .i64 ((rd_T104 l0_1 x3_1).f0), .int .i64 0, .int .i64 0, .int .i64 0, .int .i64 0, .int .i64 0]) ?_ 1 _ rfl; (with_reducible repeat (first | refine blk_drewN ?_ _ | refine blk_drew ?_ | refine blk_alloc ?_ _)); refine blk_put (cs := #[.int .i64 0, .int .i64 0, .int .i64 0, .int .i64 0, .int .i64 0, .int .i64 0]) ?_ 0 _ rfl; (with_reducible repeat (first | refine blk_drewN ?_ _ | refine blk_drew ?_ | refine blk_alloc ?_ _)); exact BK187.out⟩, ⟨tB⟩⟩
          replace c21 := Bool.eq_false_iff.mpr c21
          subst c21
          have H1 : (spec_IsValidClaims.j1 k1 x3_1 true a0_0 l0_1 ((rd_T104 l0_1 x3_1).f0) ((rd_T104 l0_1 x3_1).f1) ((rd_T104 l0_1 x3_1).f2) ((rd_T104 l0_1 x3_1).f3) ((rd_T104 l0_1 x3_1).f4) ((rd_T104 l0_1 x3_1).f5)) = some r := by rw [if_neg (show ¬ (false = true) by decide)] at H; exact H
          clear H
          have H := H1
          clear H1
          have H' := Aside0.mk H
          clear H
          have hnb40 := NB187_184.out
          have hnc40 := NB184_187.out
          obtain ⟨hcz41_0, hcz41_1, hcz41_2, hcz41_3, hcz41_4, hcz41_5, hfz41_0, hfz41_1, hfz41_2, hfz41_3, hfz41_4, hfz41_5⟩ := bc6 BK187.out
          obtain ⟨hcz42_0, hcz42_1, hfz42_0, hfz42_1⟩ := bc2 BK184.out
          go_wp2_with (first | (go_at_call 81; (with_reducible refine (spec_l1In.calls ((rd_T104 l0_1 x3_1).f0) 0 (wrap64 (a0_0 - 1)) true _ A10.out).mono ?_); rintro e w' ⟨rfl, ⟨nd, rfl⟩⟩; (try exact tQ)) | (go_at_call 81; (with_reducible refine (spec_l1In.calls ((rd_T104 l0_1 x3_1).f1) 0 1000000 false _ A20.out).mono ?_); rintro e w' ⟨rfl, ⟨nd, rfl⟩⟩; (try exact tQ)))
          have p189 : 0 ≤ ((ji13) : Int) := of_decide_eq_true tA
          have q189 : (ji13) < (l0_1.length : Int) := of_decide_eq_true tA
          obtain ⟨ad189, e189, hx189_0, hx189_1, hx189_2, hx189_3, hx189_4, hx189_5⟩ := at_T104 HR0_1.out (ji13) p189 q189
          obtain rfl : ad186 = ad189 := (by injection e189)
          have hn189_0 : ad186.block ≠ gb187 := hN hx189_0 GW187
          have hn189_1 : ad186.block ≠ gb187 := hN hx189_0 GW187
          have hn189_2 : ad186.block ≠ gb187 := hN hx189_0 GW187
          have hn189_3 : ad186.block ≠ gb187 := hN hx189_0 GW187
          have hn189_4 : ad186.block ≠ gb187 := hN hx189_0 GW187
          have hn189_5 : ad186.block ≠ gb187 := hN hx189_0 GW187
          replace hx189_0 := hbc HB hx189_0
          replace hx189_1 := hbc HB hx189_1
          replace hx189_2 := hbc HB hx189_2
          replace hx189_3 := hbc HB hx189_3
          replace hx189_4 := hbc HB hx189_4
          replace hx189_5 := hbc HB hx189_5
          have F_ := @far6 gb187 (.int .i64 ((rd_T104 l0_1 x3_1).f0)) (.int .i64 ((rd_T104 l0_1 x3_1).f1)) (.int .i64 ((rd_T104 l0_1 x3_1).f2)) (.int .i64 ((rd_T104 l0_1 x3_1).f3)) (.int .i64 ((rd_T104 l0_1 x3_1).f4)) (.int .i64 ((rd_T104 l0_1 x3_1).f5))
          replace hx189_0 := (F_ tF).trans hx189_0
          replace hx189_1 := (F_ tF).trans hx189_1
          replace hx189_2 := (F_ tF).trans hx189_2
          replace hx189_3 := (F_ tF).trans hx189_3
          replace hx189_4 := (F_ tF).trans hx189_4
          replace hx189_5 := (F_ tF).trans hx189_5
          clear F_
          clear hn189_0
          clear hn189_1
          clear hn189_2
          clear hn189_3
          clear hn189_4
          clear hn189_5
          replace p189 := eq_true p189
          replace q189 := eq_true q189
          repeat (go_quiet (first | (go_at_call 81; (with_reducible refine (spec_l1In.calls ((rd_T104 l0_1 x3_1).f0) 0 (wrap64 (a0_0 - 1)) true _ A10.out).mono ?_); rintro e w' ⟨rfl, ⟨nd, rfl⟩⟩; (try exact tQ)) | (go_at_call 81; (with_reducible refine (spec_l1In.calls ((rd_T104 l0_1 x3_1).f1) 0 1000000 false _ A20.out).mono ?_); rintro e w' ⟨rfl, ⟨nd, rfl⟩⟩; (try exact tQ))); try go_wp2_with (first | (go_at_call 81; (with_reducible refine (spec_l1In.calls ((rd_T104 l0_1 x3_1).f0) 0 (wrap64 (a0_0 - 1)) true _ A10.out).mono ?_); rintro e w' ⟨rfl, ⟨nd, rfl⟩⟩; (try exact tQ)) | (go_at_call 81; (with_reducible refine (spec_l1In.calls ((rd_T104 l0_1 x3_1).f1) 0 1000000 false _ A20.out).mono ?_); rintro e w' ⟨rfl, ⟨nd, rfl⟩⟩; (try exact tQ))))
          go_meet
          case rel => exact ⟨_, (true), tS, H', ⟨by have := HK1.out; first | omega | exact Nat.le_refl _⟩, ⟨kF NB184_187 BK184⟩, ⟨by (with_reducible repeat (first | refine blk_drewN ?_ _ | refine blk_drew ?_ | refine blk_alloc ?_ _)); refine blk_put (cs := #[.int .i64 ((rd_T104 l0_1 x3_1).f0), .int .i64 ((rd_T104 l0_1 x3_1).f1), .int .i64 ((rd_T104 l0_1 x3_1).f2), .int .i64 ((rd_T104 l0_1 x3_1).f3), .int .i64 ((rd_T104 l0_1 x3_1).f4), .int .i64 0]) ?_ 5 _ rfl; (with_reducible repeat (first | refine blk_drewN ?_ _ | refine blk_drew ?_ | refine blk_alloc ?_ _)); refine blk_put (cs := #[.int .i64 ((rd_T104 l0_1 x3_1).f0), .int .i64 ((rd_T104 l0_1 x3_1).f1), .int .i64 ((rd_T104 l0_1 x3_1).f2), .int .i64 ((rd_T104 l0_1 x3_1).f3), .int .i64 0, .int .i64 0]) ?_ 4 _ rfl; (with_reducible repeat (first | refine blk_drewN ?_ _ | refine blk_drew ?_ | refine blk_alloc ?_ _)); refine blk_put (cs := #[.int .i64 ((rd_T104 l0_1 x3_1).f0), .int .i64 ((rd_T104 l0_1 x3_1).f1), .int .i64 ((rd_T104 l0_1 x3_1).f2), .int .i64 0, .int .i64 0, .int .i64 0]) ?_ 3 _ rfl; (with_reducible repeat (first | refine blk_drewN ?_ _ | refine blk_drew ?_ | refine blk_alloc ?_ _)); refine blk_put (cs := #[.int .i64 ((rd_T104 l0_1 x3_1).f0), .int .i64 ((rd_T104 l0_1 x3_1).f1), .int .i64 0, .int .i64 0, .int .i64 0, .int .i64 0]) ?_ 2 _ rfl; (with_reducible repeat (first | refine blk_drewN ?_ _ | refine blk_drew ?_ | refine blk_alloc ?_ _)); refine blk_put (cs := #[.int .i64 ((rd_T104 l0_1 x3_1).f0), .int .i64 0, .int .i64 0, .int .i64 0, .int .i64 0, .int .i64 0]) ?_ 1 _ rfl; (with_reducible repeat (first | refine blk_drewN ?_ _ | refine blk_drew ?_ | refine blk_alloc ?_ _)); refine blk_put (cs := #[.int .i64 0, .int .i64 0, .int .i64 0, .int .i64 0, .int .i64 0, .int .i64 0]) ?_ 0 _ rfl; (with_reducible repeat (first | refine blk_drewN ?_ _ | refine blk_drew ?_ | refine blk_alloc ?_ _)); exact BK187.out⟩, ⟨tB⟩⟩
         rw [if_neg c15] at H
         exact absurd H (by simp)
        rw [if_neg c14] at H
        exact absurd H (by simp)
       rw [if_neg c12] at H
       have c12b0 : decide (0 < x3_1) = false := decide_eq_false c12
       clear c12
       (first | rw [c12b0] | (simp only [i64_w, i32_w]; rw [c12b0]) | skip)
       replace H := Option.bind_eq_some_iff.mp H
       obtain ⟨t194, A430, H⟩ := H
       try dsimp only at H
       have A43 := Aside0.mk A430
       clear A430
       by_cases c44 : t194 = true
       ·subst c44
        have H1 : ((spec_l1In.f ((rd_T104 l0_1 x3_1).f3) 0 1000000).bind fun t195 => (if t195 = true then (if ((rd_T104 l0_1 x3_1).f4) = 30 then ((spec_l1In.f ((rd_T104 l0_1 x3_1).f5) 1 3).bind fun t196 => (spec_IsValidClaims.j1 k1 x3_1 (!t196) a0_0 l0_1 ((rd_T104 l0_1 x3_1).f0) ((rd_T104 l0_1 x3_1).f1) ((rd_T104 l0_1 x3_1).f2) ((rd_T104 l0_1 x3_1).f3) ((rd_T104 l0_1 x3_1).f4) ((rd_T104 l0_1 x3_1).f5))) else (if ((rd_T104 l0_1 x3_1).f4) = 90 then ((spec_l1In.f ((rd_T104 l0_1 x3_1).f5) 1 3).bind fun t197 => (spec_IsValidClaims.j1 k1 x3_1 (!t197) a0_0 l0_1 ((rd_T104 l0_1 x3_1).f0) ((rd_T104 l0_1 x3_1).f1) ((rd_T104 l0_1 x3_1).f2) ((rd_T104 l0_1 x3_1).f3) ((rd_T104 l0_1 x3_1).f4) ((rd_T104 l0_1 x3_1).f5))) else (spec_IsValidClaims.j1 k1 x3_1 true a0_0 l0_1 ((rd_T104 l0_1 x3_1).f0) ((rd_T104 l0_1 x3_1).f1) ((rd_T104 l0_1 x3_1).f2) ((rd_T104 l0_1 x3_1).f3) ((rd_T104 l0_1 x3_1).f4) ((rd_T104 l0_1 x3_1).f5)))) else (spec_IsValidClaims.j1 k1 x3_1 true a0_0 l0_1 ((rd_T104 l0_1 x3_1).f0) ((rd_T104 l0_1 x3_1).f1) ((rd_T104 l0_1 x3_1).f2) ((rd_T104 l0_1 x3_1).f3) ((rd_T104 l0_1 x3_1).f4) ((rd_T104 l0_1 x3_1).f5)))) = some r := by rw [if_pos rfl] at H; exact H
        clear H
        have H := H1
        clear H1
        replace H := Option.bind_eq_some_iff.mp H
        obtain ⟨t195, A450, H⟩ := H
        try dsimp only at H
        have A45 := Aside0.mk A450
        clear A450
        by_cases c46 : t195 = true
        ·subst c46
         have H1 : (if ((rd_T104 l0_1 x3_1).f4) = 30 then ((spec_l1In.f ((rd_T104 l0_1 x3_1).f5) 1 3).bind fun t196 => (spec_IsValidClaims.j1 k1 x3_1 (!t196) a0_0 l0_1 ((rd_T104 l0_1 x3_1).f0) ((rd_T104 l0_1 x3_1).f1) ((rd_T104 l0_1 x3_1).f2) ((rd_T104 l0_1 x3_1).f3) ((rd_T104 l0_1 x3_1).f4) ((rd_T104 l0_1 x3_1).f5))) else (if ((rd_T104 l0_1 x3_1).f4) = 90 then ((spec_l1In.f ((rd_T104 l0_1 x3_1).f5) 1 3).bind fun t197 => (spec_IsValidClaims.j1 k1 x3_1 (!t197) a0_0 l0_1 ((rd_T104 l0_1 x3_1).f0) ((rd_T104 l0_1 x3_1).f1) ((rd_T104 l0_1 x3_1).f2) ((rd_T104 l0_1 x3_1).f3) ((rd_T104 l0_1 x3_1).f4) ((rd_T104 l0_1 x3_1).f5))) else (spec_IsValidClaims.j1 k1 x3_1 true a0_0 l0_1 ((rd_T104 l0_1 x3_1).f0) ((rd_T104 l0_1 x3_1).f1) ((rd_T104 l0_1 x3_1).f2) ((rd_T104 l0_1 x3_1).f3) ((rd_T104 l0_1 x3_1).f4) ((rd_T104 l0_1 x3_1).f5)))) = some r := by rw [if_pos rfl] at H; exact H
         clear H
         have H := H1
         clear H1
         by_cases c47 : ((rd_T104 l0_1 x3_1).f4) = 30
         ·rw [if_pos c47] at H
          have c47b0 : (((rd_T104 l0_1 x3_1).f4) == 30) = true := beq_iff_eq.mpr c47
          have c47b1 : (((rd_T104 l0_1 x3_1).f4) != 30) = false := bne_eq_false_iff_eq.mpr c47
          clear c47
          replace H := Option.bind_eq_some_iff.mp H
          obtain ⟨t196, A480, H⟩ := H
          try dsimp only at H
          have A48 := Aside0.mk A480
          clear A480
          have H' := Aside0.mk H
          clear H
          have hnb49 := NB187_184.out
          have hnc49 := NB184_187.out
          obtain ⟨hcz50_0, hcz50_1, hcz50_2, hcz50_3, hcz50_4, hcz50_5, hfz50_0, hfz50_1, hfz50_2, hfz50_3, hfz50_4, hfz50_5⟩ := bc6 BK187.out
          obtain ⟨hcz51_0, hcz51_1, hfz51_0, hfz51_1⟩ := bc2 BK184.out
          go_wp2_with (first | (go_at_call 81; (with_reducible refine (spec_l1In.calls ((rd_T104 l0_1 x3_1).f0) 0 (wrap64 (a0_0 - 1)) true _ A10.out).mono ?_); rintro e w' ⟨rfl, ⟨nd, rfl⟩⟩; (try exact tQ)) | (go_at_call 81; (with_reducible refine (spec_l1In.calls ((rd_T104 l0_1 x3_1).f1) 0 1000000 true _ A43.out).mono ?_); rintro e w' ⟨rfl, ⟨nd, rfl⟩⟩; (try exact tQ)) | (go_at_call 81; (with_reducible refine (spec_l1In.calls ((rd_T104 l0_1 x3_1).f3) 0 1000000 true _ A45.out).mono ?_); rintro e w' ⟨rfl, ⟨nd, rfl⟩⟩; (try exact tQ)) | (go_at_call 81; (with_reducible refine (spec_l1In.calls ((rd_T104 l0_1 x3_1).f5) 1 3 t196 _ A48.out).mono ?_); rintro e w' ⟨rfl, ⟨nd, rfl⟩⟩; (try exact tQ)))
          repeat (go_quiet (first | (go_at_call 81; (with_reducible refine (spec_l1In.calls ((rd_T104 l0_1 x3_1).f0) 0 (wrap64 (a0_0 - 1)) true _ A10.out).mono ?_); rintro e w' ⟨rfl, ⟨nd, rfl⟩⟩; (try exact tQ)) | (go_at_call 81; (with_reducible refine (spec_l1In.calls ((rd_T104 l0_1 x3_1).f1) 0 1000000 true _ A43.out).mono ?_); rintro e w' ⟨rfl, ⟨nd, rfl⟩⟩; (try exact tQ)) | (go_at_call 81; (with_reducible refine (spec_l1In.calls ((rd_T104 l0_1 x3_1).f3) 0 1000000 true _ A45.out).mono ?_); rintro e w' ⟨rfl, ⟨nd, rfl⟩⟩; (try exact tQ)) | (go_at_call 81; (with_reducible refine (spec_l1In.calls ((rd_T104 l0_1 x3_1).f5) 1 3 t196 _ A48.out).mono ?_); rintro e w' ⟨rfl, ⟨nd, rfl⟩⟩; (try exact tQ))); try go_wp2_with (first | (go_at_call 81; (with_reducible refine (spec_l1In.calls ((rd_T104 l0_1 x3_1).f0) 0 (wrap64 (a0_0 - 1)) true _ A10.out).mono ?_); rintro e w' ⟨rfl, ⟨nd, rfl⟩⟩; (try exact tQ)) | (go_at_call 81; (with_reducible refine (spec_l1In.calls ((rd_T104 l0_1 x3_1).f1) 0 1000000 true _ A43.out).mono ?_); rintro e w' ⟨rfl, ⟨nd, rfl⟩⟩; (try exact tQ)) | (go_at_call 81; (with_reducible refine (spec_l1In.calls ((rd_T104 l0_1 x3_1).f3) 0 1000000 true _ A45.out).mono ?_); rintro e w' ⟨rfl, ⟨nd, rfl⟩⟩; (try exact tQ)) | (go_at_call 81; (with_reducible refine (spec_l1In.calls ((rd_T104 l0_1 x3_1).f5) 1 3 t196 _ A48.out).mono ?_); rintro e w' ⟨rfl, ⟨nd, rfl⟩⟩; (try exact tQ))))
          go_meet
          case rel => exact ⟨_, (!t196), tS, H', ⟨by have := HK1.out; first | omega | exact Nat.le_refl _⟩, ⟨kF NB184_187 BK184⟩, ⟨by (with_reducible repeat (first | refine blk_drewN ?_ _ | refine blk_drew ?_ | refine blk_alloc ?_ _)); refine blk_put (cs := #[.int .i64 ((rd_T104 l0_1 x3_1).f0), .int .i64 ((rd_T104 l0_1 x3_1).f1), .int .i64 ((rd_T104 l0_1 x3_1).f2), .int .i64 ((rd_T104 l0_1 x3_1).f3), .int .i64 ((rd_T104 l0_1 x3_1).f4), .int .i64 0]) ?_ 5 _ rfl; (with_reducible repeat (first | refine blk_drewN ?_ _ | refine blk_drew ?_ | refine blk_alloc ?_ _)); refine blk_put (cs := #[.int .i64 ((rd_T104 l0_1 x3_1).f0), .int .i64 ((rd_T104 l0_1 x3_1).f1), .int .i64 ((rd_T104 l0_1 x3_1).f2), .int .i64 ((rd_T104 l0_1 x3_1).f3), .int .i64 0, .int .i64 0]) ?_ 4 _ rfl; (with_reducible repeat (first | refine blk_drewN ?_ _ | refine blk_drew ?_ | refine blk_alloc ?_ _)); refine blk_put (cs := #[.int .i64 ((rd_T104 l0_1 x3_1).f0), .int .i64 ((rd_T104 l0_1 x3_1).f1), .int .i64 ((rd_T104 l0_1 x3_1).f2), .int .i64 0, .int .i64 0, .int .i64 0]) ?_ 3 _ rfl; (with_reducible repeat (first | refine blk_drewN ?_ _ | refine blk_drew ?_ | refine blk_alloc ?_ _)); refine blk_put (cs := #[.int .i64 ((rd_T104 l0_1 x3_1).f0), .int .i64 ((rd_T104 l0_1 x3_1).f1), .int .i64 0, .int .i64 0, .int .i64 0, .int .i64 0]) ?_ 2 _ rfl; (with_reducible repeat (first | refine blk_drewN ?_ _ | refine blk_drew ?_ | refine blk_alloc ?_ _)); refine blk_put (cs := #[.int .i64 ((rd_T104 l0_1 x3_1).f0), .int .i64 0, .int .i64 0, .int .i64 0, .int .i64 0, .int .i64 0]) ?_ 1 _ rfl; (with_reducible repeat (first | refine blk_drewN ?_ _ | refine blk_drew ?_ | refine blk_alloc ?_ _)); refine blk_put (cs := #[.int .i64 0, .int .i64 0, .int .i64 0, .int .i64 0, .int .i64 0, .int .i64 0]) ?_ 0 _ rfl; (with_reducible repeat (first | refine blk_drewN ?_ _ | refine blk_drew ?_ | refine blk_alloc ?_ _)); exact BK187.out⟩, ⟨tB⟩⟩
         rw [if_neg c47] at H
         have c47b0 : (((rd_T104 l0_1 x3_1).f4) == 30) = false := beq_eq_false_iff_ne.mpr c47
         have c47b1 : (((rd_T104 l0_1 x3_1).f4) != 30) = true := bne_iff_ne.mpr c47
         by_cases c52 : ((rd_T104 l0_1 x3_1).f4) = 90
         ·rw [if_pos c52] at H
          have c52b0 : (((rd_T104 l0_1 x3_1).f4) == 90) = true := beq_iff_eq.mpr c52
          have c52b1 : (((rd_T104 l0_1 x3_1).f4) != 90) = false := bne_eq_false_iff_eq.mpr c52
          clear c52
          replace H := Option.bind_eq_some_iff.mp H
          obtain ⟨t197, A530, H⟩ := H
          try dsimp only at H
          have A53 := Aside0.mk A530
          clear A530
          have H' := Aside0.mk H
          clear H
          have hnb54 := NB187_184.out
          have hnc54 := NB184_187.out
          obtain ⟨hcz55_0, hcz55_1, hcz55_2, hcz55_3, hcz55_4, hcz55_5, hfz55_0, hfz55_1, hfz55_2, hfz55_3, hfz55_4, hfz55_5⟩ := bc6 BK187.out
          obtain ⟨hcz56_0, hcz56_1, hfz56_0, hfz56_1⟩ := bc2 BK184.out
          go_wp2_with (first | (go_at_call 81; (with_reducible refine (spec_l1In.calls ((rd_T104 l0_1 x3_1).f0) 0 (wrap64 (a0_0 - 1)) true _ A10.out).mono ?_); rintro e w' ⟨rfl, ⟨nd, rfl⟩⟩; (try exact tQ)) | (go_at_call 81; (with_reducible refine (spec_l1In.calls ((rd_T104 l0_1 x3_1).f1) 0 1000000 true _ A43.out).mono ?_); rintro e w' ⟨rfl, ⟨nd, rfl⟩⟩; (try exact tQ)) | (go_at_call 81; (with_reducible refine (spec_l1In.calls ((rd_T104 l0_1 x3_1).f3) 0 1000000 true _ A45.out).mono ?_); rintro e w' ⟨rfl, ⟨nd, rfl⟩⟩; (try exact tQ)) | (go_at_call 81; (with_reducible refine (spec_l1In.calls ((rd_T104 l0_1 x3_1).f5) 1 3 t197 _ A53.out).mono ?_); rintro e w' ⟨rfl, ⟨nd, rfl⟩⟩; (try exact tQ)))
          repeat (go_quiet (first | (go_at_call 81; (with_reducible refine (spec_l1In.calls ((rd_T104 l0_1 x3_1).f0) 0 (wrap64 (a0_0 - 1)) true _ A10.out).mono ?_); rintro e w' ⟨rfl, ⟨nd, rfl⟩⟩; (try exact tQ)) | (go_at_call 81; (with_reducible refine (spec_l1In.calls ((rd_T104 l0_1 x3_1).f1) 0 1000000 true _ A43.out).mono ?_); rintro e w' ⟨rfl, ⟨nd, rfl⟩⟩; (try exact tQ)) | (go_at_call 81; (with_reducible refine (spec_l1In.calls ((rd_T104 l0_1 x3_1).f3) 0 1000000 true _ A45.out).mono ?_); rintro e w' ⟨rfl, ⟨nd, rfl⟩⟩; (try exact tQ)) | (go_at_call 81; (with_reducible refine (spec_l1In.calls ((rd_T104 l0_1 x3_1).f5) 1 3 t197 _ A53.out).mono ?_); rintro e w' ⟨rfl, ⟨nd, rfl⟩⟩; (try exact tQ))); try go_wp2_with (first | (go_at_call 81; (with_reducible refine (spec_l1In.calls ((rd_T104 l0_1 x3_1).f0) 0 (wrap64 (a0_0 - 1)) true _ A10.out).mono ?_); rintro e w' ⟨rfl, ⟨nd, rfl⟩⟩; (try exact tQ)) | (go_at_call 81; (with_reducible refine (spec_l1In.calls ((rd_T104 l0_1 x3_1).f1) 0 1000000 true _ A43.out).mono ?_); rintro e w' ⟨rfl, ⟨nd, rfl⟩⟩; (try exact tQ)) | (go_at_call 81; (with_reducible refine (spec_l1In.calls ((rd_T104 l0_1 x3_1).f3) 0 1000000 true _ A45.out).mono ?_); rintro e w' ⟨rfl, ⟨nd, rfl⟩⟩; (try exact tQ)) | (go_at_call 81; (with_reducible refine (spec_l1In.calls ((rd_T104 l0_1 x3_1).f5) 1 3 t197 _ A53.out).mono ?_); rintro e w' ⟨rfl, ⟨nd, rfl⟩⟩; (try exact tQ))))
          go_meet
          case rel => exact ⟨_, (!t197), tS, H', ⟨by have := HK1.out; first | omega | exact Nat.le_refl _⟩, ⟨kF NB184_187 BK184⟩, ⟨by (with_reducible repeat (first | refine blk_drewN ?_ _ | refine blk_drew ?_ | refine blk_alloc ?_ _)); refine blk_put (cs := #[.int .i64 ((rd_T104 l0_1 x3_1).f0), .int .i64 ((rd_T104 l0_1 x3_1).f1), .int .i64 ((rd_T104 l0_1 x3_1).f2), .int .i64 ((rd_T104 l0_1 x3_1).f3), .int .i64 ((rd_T104 l0_1 x3_1).f4), .int .i64 0]) ?_ 5 _ rfl; (with_reducible repeat (first | refine blk_drewN ?_ _ | refine blk_drew ?_ | refine blk_alloc ?_ _)); refine blk_put (cs := #[.int .i64 ((rd_T104 l0_1 x3_1).f0), .int .i64 ((rd_T104 l0_1 x3_1).f1), .int .i64 ((rd_T104 l0_1 x3_1).f2), .int .i64 ((rd_T104 l0_1 x3_1).f3), .int .i64 0, .int .i64 0]) ?_ 4 _ rfl; (with_reducible repeat (first | refine blk_drewN ?_ _ | refine blk_drew ?_ | refine blk_alloc ?_ _)); refine blk_put (cs := #[.int .i64 ((rd_T104 l0_1 x3_1).f0), .int .i64 ((rd_T104 l0_1 x3_1).f1), .int .i64 ((rd_T104 l0_1 x3_1).f2), .int .i64 0, .int .i64 0, .int .i64 0]) ?_ 3 _ rfl; (with_reducible repeat (first | refine blk_drewN ?_ _ | refine blk_drew ?_ | refine blk_alloc ?_ _)); refine blk_put (cs := #[.int .i64 ((rd_T104 l0_1 x3_1).f0), .int .i64 ((rd_T104 l0_1 x3_1).f1), .int .i64 0, .int .i64 0, .int .i64 0, .int .i64 0]) ?_ 2 _ rfl; (with_reducible repeat (first | refine blk_drewN ?_ _ | refine blk_drew ?_ | refine blk_alloc ?_ _)); refine blk_put (cs := #[.int .i64 ((rd_T104 l0_1 x3_1).f0), .int .i64 0, .int .i64 0, .int .i64 0, .int .i64 0, .int .i64 0]) ?_ 1 _ rfl; (with_reducible repeat (first | refine blk_drewN ?_ _ | refine blk_drew ?_ | refine blk_alloc ?_ _)); refine blk_put (cs := #[.int .i64 0, .int .i64 0, .int .i64 0, .int .i64 0, .int .i64 0, .int .i64 0]) ?_ 0 _ rfl; (with_reducible repeat (first | refine blk_drewN ?_ _ | refine blk_drew ?_ | refine blk_alloc ?_ _)); exact BK187.out⟩, ⟨tB⟩⟩
         rw [if_neg c52] at H
         have c52b0 : (((rd_T104 l0_1 x3_1).f4) == 90) = false := beq_eq_false_iff_ne.mpr c52
         have c52b1 : (((rd_T104 l0_1 x3_1).f4) != 90) = true := bne_iff_ne.mpr c52
         have H' := Aside0.mk H
         clear H
         have hnb57 := NB187_184.out
         have hnc57 := NB184_187.out
         obtain ⟨hcz58_0, hcz58_1, hcz58_2, hcz58_3, hcz58_4, hcz58_5, hfz58_0, hfz58_1, hfz58_2, hfz58_3, hfz58_4, hfz58_5⟩ := bc6 BK187.out
         obtain ⟨hcz59_0, hcz59_1, hfz59_0, hfz59_1⟩ := bc2 BK184.out
         go_wp2_with (first | (go_at_call 81; (with_reducible refine (spec_l1In.calls ((rd_T104 l0_1 x3_1).f0) 0 (wrap64 (a0_0 - 1)) true _ A10.out).mono ?_); rintro e w' ⟨rfl, ⟨nd, rfl⟩⟩; (try exact tQ)) | (go_at_call 81; (with_reducible refine (spec_l1In.calls ((rd_T104 l0_1 x3_1).f1) 0 1000000 true _ A43.out).mono ?_); rintro e w' ⟨rfl, ⟨nd, rfl⟩⟩; (try exact tQ)) | (go_at_call 81; (with_reducible refine (spec_l1In.calls ((rd_T104 l0_1 x3_1).f3) 0 1000000 true _ A45.out).mono ?_); rintro e w' ⟨rfl, ⟨nd, rfl⟩⟩; (try exact tQ)))
         repeat (go_quiet (first | (go_at_call 81; (with_reducible refine (spec_l1In.calls ((rd_T104 l0_1 x3_1).f0) 0 (wrap64 (a0_0 - 1)) true _ A10.out).mono ?_); rintro e w' ⟨rfl, ⟨nd, rfl⟩⟩; (try exact tQ)) | (go_at_call 81; (with_reducible refine (spec_l1In.calls ((rd_T104 l0_1 x3_1).f1) 0 1000000 true _ A43.out).mono ?_); rintro e w' ⟨rfl, ⟨nd, rfl⟩⟩; (try exact tQ)) | (go_at_call 81; (with_reducible refine (spec_l1In.calls ((rd_T104 l0_1 x3_1).f3) 0 1000000 true _ A45.out).mono ?_); rintro e w' ⟨rfl, ⟨nd, rfl⟩⟩; (try exact tQ))); try go_wp2_with (first | (go_at_call 81; (with_reducible refine (spec_l1In.calls ((rd_T104 l0_1 x3_1).f0) 0 (wrap64 (a0_0 - 1)) true _ A10.out).mono ?_); rintro e w' ⟨rfl, ⟨nd, rfl⟩⟩; (try exact tQ)) | (go_at_call 81; (with_reducible refine (spec_l1In.calls ((rd_T104 l0_1 x3_1).f1) 0 1000000 true _ A43.out).mono ?_); rintro e w' ⟨rfl, ⟨nd, rfl⟩⟩; (try exact tQ)) | (go_at_call 81; (with_reducible refine (spec_l1In.calls ((rd_T104 l0_1 x3_1).f3) 0 1000000 true _ A45.out).mono ?_); rintro e w' ⟨rfl, ⟨nd, rfl⟩⟩; (try exact tQ))))
         go_meet
         case rel => exact ⟨_, (true), tS, H', ⟨by have := HK1.out; first | omega | exact Nat.le_refl _⟩, ⟨kF NB184_187 BK184⟩, ⟨by (with_reducible repeat (first | refine blk_drewN ?_ _ | refine blk_drew ?_ | refine blk_alloc ?_ _)); refine blk_put (cs := #[.int .i64 ((rd_T104 l0_1 x3_1).f0), .int .i64 ((rd_T104 l0_1 x3_1).f1), .int .i64 ((rd_T104 l0_1 x3_1).f2), .int .i64 ((rd_T104 l0_1 x3_1).f3), .int .i64 ((rd_T104 l0_1 x3_1).f4), .int .i64 0]) ?_ 5 _ rfl; (with_reducible repeat (first | refine blk_drewN ?_ _ | refine blk_drew ?_ | refine blk_alloc ?_ _)); refine blk_put (cs := #[.int .i64 ((rd_T104 l0_1 x3_1).f0), .int .i64 ((rd_T104 l0_1 x3_1).f1), .int .i64 ((rd_T104 l0_1 x3_1).f2), .int .i64 ((rd_T104 l0_1 x3_1).f3), .int .i64 0, .int .i64 0]) ?_ 4 _ rfl; (with_reducible repeat (first | refine blk_drewN ?_ _ | refine blk_drew ?_ | refine blk_alloc ?_ _)); refine blk_put (cs := #[.int .i64 ((rd_T104 l0_1 x3_1).f0), .int .i64 ((rd_T104 l0_1 x3_1).f1), .int .i64 ((rd_T104 l0_1 x3_1).f2), .int .i64 0, .int .i64 0, .int .i64 0]) ?_ 3 _ rfl; (with_reducible repeat (first | refine blk_drewN ?_ _ | refine blk_drew ?_ | refine blk_alloc ?_ _)); refine blk_put (cs := #[.int .i64 ((rd_T104 l0_1 x3_1).f0), .int .i64 ((rd_T104 l0_1 x3_1).f1), .int .i64 0, .int .i64 0, .int .i64 0, .int .i64 0]) ?_ 2 _ rfl; (with_reducible repeat (first | refine blk_drewN ?_ _ | refine blk_drew ?_ | refine blk_alloc ?_ _)); refine blk_put (cs := #[.int .i64 ((rd_T104 l0_1 x3_1).f0), .int .i64 0, .int .i64 0, .int .i64 0, .int .i64 0, .int .i64 0]) ?_ 1 _ rfl; (with_reducible repeat (first | refine blk_drewN ?_ _ | refine blk_drew ?_ | refine blk_alloc ?_ _)); refine blk_put (cs := #[.int .i64 0, .int .i64 0, .int .i64 0, .int .i64 0, .int .i64 0, .int .i64 0]) ?_ 0 _ rfl; (with_reducible repeat (first | refine blk_drewN ?_ _ | refine blk_drew ?_ | refine blk_alloc ?_ _)); exact BK187.out⟩, ⟨tB⟩⟩
        replace c46 := Bool.eq_false_iff.mpr c46
        subst c46
        have H1 : (spec_IsValidClaims.j1 k1 x3_1 true a0_0 l0_1 ((rd_T104 l0_1 x3_1).f0) ((rd_T104 l0_1 x3_1).f1) ((rd_T104 l0_1 x3_1).f2) ((rd_T104 l0_1 x3_1).f3) ((rd_T104 l0_1 x3_1).f4) ((rd_T104 l0_1 x3_1).f5)) = some r := by rw [if_neg (show ¬ (false = true) by decide)] at H; exact H
        clear H
        have H := H1
        clear H1
        have H' := Aside0.mk H
        clear H
        have hnb60 := NB187_184.out
        have hnc60 := NB184_187.out
        obtain ⟨hcz61_0, hcz61_1, hcz61_2, hcz61_3, hcz61_4, hcz61_5, hfz61_0, hfz61_1, hfz61_2, hfz61_3, hfz61_4, hfz61_5⟩ := bc6 BK187.out
        obtain ⟨hcz62_0, hcz62_1, hfz62_0, hfz62_1⟩ := bc2 BK184.out
        go_wp2_with (first | (go_at_call 81; (with_reducible refine (spec_l1In.calls ((rd_T104 l0_1 x3_1).f0) 0 (wrap64 (a0_0 - 1)) true _ A10.out).mono ?_); rintro e w' ⟨rfl, ⟨nd, rfl⟩⟩; (try exact tQ)) | (go_at_call 81; (with_reducible refine (spec_l1In.calls ((rd_T104 l0_1 x3_1).f1) 0 1000000 true _ A43.out).mono ?_); rintro e w' ⟨rfl, ⟨nd, rfl⟩⟩; (try exact tQ)) | (go_at_call 81; (with_reducible refine (spec_l1In.calls ((rd_T104 l0_1 x3_1).f3) 0 1000000 false _ A45.out).mono ?_); rintro e w' ⟨rfl, ⟨nd, rfl⟩⟩; (try exact tQ)))
        repeat (go_quiet (first | (go_at_call 81; (with_reducible refine (spec_l1In.calls ((rd_T104 l0_1 x3_1).f0) 0 (wrap64 (a0_0 - 1)) true _ A10.out).mono ?_); rintro e w' ⟨rfl, ⟨nd, rfl⟩⟩; (try exact tQ)) | (go_at_call 81; (with_reducible refine (spec_l1In.calls ((rd_T104 l0_1 x3_1).f1) 0 1000000 true _ A43.out).mono ?_); rintro e w' ⟨rfl, ⟨nd, rfl⟩⟩; (try exact tQ)) | (go_at_call 81; (with_reducible refine (spec_l1In.calls ((rd_T104 l0_1 x3_1).f3) 0 1000000 false _ A45.out).mono ?_); rintro e w' ⟨rfl, ⟨nd, rfl⟩⟩; (try exact tQ))); try go_wp2_with (first | (go_at_call 81; (with_reducible refine (spec_l1In.calls ((rd_T104 l0_1 x3_1).f0) 0 (wrap64 (a0_0 - 1)) true _ A10.out).mono ?_); rintro e w' ⟨rfl, ⟨nd, rfl⟩⟩; (try exact tQ)) | (go_at_call 81; (with_reducible refine (spec_l1In.calls ((rd_T104 l0_1 x3_1).f1) 0 1000000 true _ A43.out).mono ?_); rintro e w' ⟨rfl, ⟨nd, rfl⟩⟩; (try exact tQ)) | (go_at_call 81; (with_reducible refine (spec_l1In.calls ((rd_T104 l0_1 x3_1).f3) 0 1000000 false _ A45.out).mono ?_); rintro e w' ⟨rfl, ⟨nd, rfl⟩⟩; (try exact tQ))))
        go_meet
        case rel => exact ⟨_, (true), tS, H', ⟨by have := HK1.out; first | omega | exact Nat.le_refl _⟩, ⟨kF NB184_187 BK184⟩, ⟨by (with_reducible repeat (first | refine blk_drewN ?_ _ | refine blk_drew ?_ | refine blk_alloc ?_ _)); refine blk_put (cs := #[.int .i64 ((rd_T104 l0_1 x3_1).f0), .int .i64 ((rd_T104 l0_1 x3_1).f1), .int .i64 ((rd_T104 l0_1 x3_1).f2), .int .i64 ((rd_T104 l0_1 x3_1).f3), .int .i64 ((rd_T104 l0_1 x3_1).f4), .int .i64 0]) ?_ 5 _ rfl; (with_reducible repeat (first | refine blk_drewN ?_ _ | refine blk_drew ?_ | refine blk_alloc ?_ _)); refine blk_put (cs := #[.int .i64 ((rd_T104 l0_1 x3_1).f0), .int .i64 ((rd_T104 l0_1 x3_1).f1), .int .i64 ((rd_T104 l0_1 x3_1).f2), .int .i64 ((rd_T104 l0_1 x3_1).f3), .int .i64 0, .int .i64 0]) ?_ 4 _ rfl; (with_reducible repeat (first | refine blk_drewN ?_ _ | refine blk_drew ?_ | refine blk_alloc ?_ _)); refine blk_put (cs := #[.int .i64 ((rd_T104 l0_1 x3_1).f0), .int .i64 ((rd_T104 l0_1 x3_1).f1), .int .i64 ((rd_T104 l0_1 x3_1).f2), .int .i64 0, .int .i64 0, .int .i64 0]) ?_ 3 _ rfl; (with_reducible repeat (first | refine blk_drewN ?_ _ | refine blk_drew ?_ | refine blk_alloc ?_ _)); refine blk_put (cs := #[.int .i64 ((rd_T104 l0_1 x3_1).f0), .int .i64 ((rd_T104 l0_1 x3_1).f1), .int .i64 0, .int .i64 0, .int .i64 0, .int .i64 0]) ?_ 2 _ rfl; (with_reducible repeat (first | refine blk_drewN ?_ _ | refine blk_drew ?_ | refine blk_alloc ?_ _)); refine blk_put (cs := #[.int .i64 ((rd_T104 l0_1 x3_1).f0), .int .i64 0, .int .i64 0, .int .i64 0, .int .i64 0, .int .i64 0]) ?_ 1 _ rfl; (with_reducible repeat (first | refine blk_drewN ?_ _ | refine blk_drew ?_ | refine blk_alloc ?_ _)); refine blk_put (cs := #[.int .i64 0, .int .i64 0, .int .i64 0, .int .i64 0, .int .i64 0, .int .i64 0]) ?_ 0 _ rfl; (with_reducible repeat (first | refine blk_drewN ?_ _ | refine blk_drew ?_ | refine blk_alloc ?_ _)); exact BK187.out⟩, ⟨tB⟩⟩
       replace c44 := Bool.eq_false_iff.mpr c44
       subst c44
       have H1 : (spec_IsValidClaims.j1 k1 x3_1 true a0_0 l0_1 ((rd_T104 l0_1 x3_1).f0) ((rd_T104 l0_1 x3_1).f1) ((rd_T104 l0_1 x3_1).f2) ((rd_T104 l0_1 x3_1).f3) ((rd_T104 l0_1 x3_1).f4) ((rd_T104 l0_1 x3_1).f5)) = some r := by rw [if_neg (show ¬ (false = true) by decide)] at H; exact H
       clear H
       have H := H1
       clear H1
       have H' := Aside0.mk H
       clear H
       have hnb63 := NB187_184.out
       have hnc63 := NB184_187.out
       obtain ⟨hcz64_0, hcz64_1, hcz64_2, hcz64_3, hcz64_4, hcz64_5, hfz64_0, hfz64_1, hfz64_2, hfz64_3, hfz64_4, hfz64_5⟩ := bc6 BK187.out
       obtain ⟨hcz65_0, hcz65_1, hfz65_0, hfz65_1⟩ := bc2 BK184.out
       go_wp2_with (first | (go_at_call 81; (with_reducible refine (spec_l1In.calls ((rd_T104 l0_1 x3_1).f0) 0 (wrap64 (a0_0 - 1)) true _ A10.out).mono ?_); rintro e w' ⟨rfl, ⟨nd, rfl⟩⟩; (try exact tQ)) | (go_at_call 81; (with_reducible refine (spec_l1In.calls ((rd_T104 l0_1 x3_1).f1) 0 1000000 false _ A43.out).mono ?_); rintro e w' ⟨rfl, ⟨nd, rfl⟩⟩; (try exact tQ)))
       repeat (go_quiet (first | (go_at_call 81; (with_reducible refine (spec_l1In.calls ((rd_T104 l0_1 x3_1).f0) 0 (wrap64 (a0_0 - 1)) true _ A10.out).mono ?_); rintro e w' ⟨rfl, ⟨nd, rfl⟩⟩; (try exact tQ)) | (go_at_call 81; (with_reducible refine (spec_l1In.calls ((rd_T104 l0_1 x3_1).f1) 0 1000000 false _ A43.out).mono ?_); rintro e w' ⟨rfl, ⟨nd, rfl⟩⟩; (try exact tQ))); try go_wp2_with (first | (go_at_call 81; (with_reducible refine (spec_l1In.calls ((rd_T104 l0_1 x3_1).f0) 0 (wrap64 (a0_0 - 1)) true _ A10.out).mono ?_); rintro e w' ⟨rfl, ⟨nd, rfl⟩⟩; (try exact tQ)) | (go_at_call 81; (with_reducible refine (spec_l1In.calls ((rd_T104 l0_1 x3_1).f1) 0 1000000 false _ A43.out).mono ?_); rintro e w' ⟨rfl, ⟨nd, rfl⟩⟩; (try exact tQ))))
       go_meet
       case rel => exact ⟨_, (true), tS, H', ⟨by have := HK1.out; first | omega | exact Nat.le_refl _⟩, ⟨kF NB184_187 BK184⟩, ⟨by (with_reducible repeat (first | refine blk_drewN ?_ _ | refine blk_drew ?_ | refine blk_alloc ?_ _)); refine blk_put (cs := #[.int .i64 ((rd_T104 l0_1 x3_1).f0), .int .i64 ((rd_T104 l0_1 x3_1).f1), .int .i64 ((rd_T104 l0_1 x3_1).f2), .int .i64 ((rd_T104 l0_1 x3_1).f3), .int .i64 ((rd_T104 l0_1 x3_1).f4), .int .i64 0]) ?_ 5 _ rfl; (with_reducible repeat (first | refine blk_drewN ?_ _ | refine blk_drew ?_ | refine blk_alloc ?_ _)); refine blk_put (cs := #[.int .i64 ((rd_T104 l0_1 x3_1).f0), .int .i64 ((rd_T104 l0_1 x3_1).f1), .int .i64 ((rd_T104 l0_1 x3_1).f2), .int .i64 ((rd_T104 l0_1 x3_1).f3), .int .i64 0, .int .i64 0]) ?_ 4 _ rfl; (with_reducible repeat (first | refine blk_drewN ?_ _ | refine blk_drew ?_ | refine blk_alloc ?_ _)); refine blk_put (cs := #[.int .i64 ((rd_T104 l0_1 x3_1).f0), .int .i64 ((rd_T104 l0_1 x3_1).f1), .int .i64 ((rd_T104 l0_1 x3_1).f2), .int .i64 0, .int .i64 0, .int .i64 0]) ?_ 3 _ rfl; (with_reducible repeat (first | refine blk_drewN ?_ _ | refine blk_drew ?_ | refine blk_alloc ?_ _)); refine blk_put (cs := #[.int .i64 ((rd_T104 l0_1 x3_1).f0), .int .i64 ((rd_T104 l0_1 x3_1).f1), .int .i64 0, .int .i64 0, .int .i64 0, .int .i64 0]) ?_ 2 _ rfl; (with_reducible repeat (first | refine blk_drewN ?_ _ | refine blk_drew ?_ | refine blk_alloc ?_ _)); refine blk_put (cs := #[.int .i64 ((rd_T104 l0_1 x3_1).f0), .int .i64 0, .int .i64 0, .int .i64 0, .int .i64 0, .int .i64 0]) ?_ 1 _ rfl; (with_reducible repeat (first | refine blk_drewN ?_ _ | refine blk_drew ?_ | refine blk_alloc ?_ _)); refine blk_put (cs := #[.int .i64 0, .int .i64 0, .int .i64 0, .int .i64 0, .int .i64 0, .int .i64 0]) ?_ 0 _ rfl; (with_reducible repeat (first | refine blk_drewN ?_ _ | refine blk_drew ?_ | refine blk_alloc ?_ _)); exact BK187.out⟩, ⟨tB⟩⟩
      replace c11 := Bool.eq_false_iff.mpr c11
      subst c11
      have H1 : (spec_IsValidClaims.j1 k1 x3_1 true a0_0 l0_1 ((rd_T104 l0_1 x3_1).f0) ((rd_T104 l0_1 x3_1).f1) ((rd_T104 l0_1 x3_1).f2) ((rd_T104 l0_1 x3_1).f3) ((rd_T104 l0_1 x3_1).f4) ((rd_T104 l0_1 x3_1).f5)) = some r := by rw [if_neg (show ¬ (false = true) by decide)] at H; exact H
      clear H
      have H := H1
      clear H1
      have H' := Aside0.mk H
      clear H
      have hnb66 := NB187_184.out
      have hnc66 := NB184_187.out
      obtain ⟨hcz67_0, hcz67_1, hcz67_2, hcz67_3, hcz67_4, hcz67_5, hfz67_0, hfz67_1, hfz67_2, hfz67_3, hfz67_4, hfz67_5⟩ := bc6 BK187.out
      obtain ⟨hcz68_0, hcz68_1, hfz68_0, hfz68_1⟩ := bc2 BK184.out
      go_wp2_with (first | (go_at_call 81; (with_reducible refine (spec_l1In.calls ((rd_T104 l0_1 x3_1).f0) 0 (wrap64 (a0_0 - 1)) false _ A10.out).mono ?_); rintro e w' ⟨rfl, ⟨nd, rfl⟩⟩; (try exact tQ)))
      repeat (go_quiet (first | (go_at_call 81; (with_reducible refine (spec_l1In.calls ((rd_T104 l0_1 x3_1).f0) 0 (wrap64 (a0_0 - 1)) false _ A10.out).mono ?_); rintro e w' ⟨rfl, ⟨nd, rfl⟩⟩; (try exact tQ))); try go_wp2_with (first | (go_at_call 81; (with_reducible refine (spec_l1In.calls ((rd_T104 l0_1 x3_1).f0) 0 (wrap64 (a0_0 - 1)) false _ A10.out).mono ?_); rintro e w' ⟨rfl, ⟨nd, rfl⟩⟩; (try exact tQ))))
      go_meet
      case rel => exact ⟨_, (true), tS, H', ⟨by have := HK1.out; first | omega | exact Nat.le_refl _⟩, ⟨kF NB184_187 BK184⟩, ⟨by (with_reducible repeat (first | refine blk_drewN ?_ _ | refine blk_drew ?_ | refine blk_alloc ?_ _)); refine blk_put (cs := #[.int .i64 ((rd_T104 l0_1 x3_1).f0), .int .i64 ((rd_T104 l0_1 x3_1).f1), .int .i64 ((rd_T104 l0_1 x3_1).f2), .int .i64 ((rd_T104 l0_1 x3_1).f3), .int .i64 ((rd_T104 l0_1 x3_1).f4), .int .i64 0]) ?_ 5 _ rfl; (with_reducible repeat (first | refine blk_drewN ?_ _ | refine blk_drew ?_ | refine blk_alloc ?_ _)); refine blk_put (cs := #[.int .i64 ((rd_T104 l0_1 x3_1).f0), .int .i64 ((rd_T104 l0_1 x3_1).f1), .int .i64 ((rd_T104 l0_1 x3_1).f2), .int .i64 ((rd_T104 l0_1 x3_1).f3), .int .i64 0, .int .i64 0]) ?_ 4 _ rfl; (with_reducible repeat (first | refine blk_drewN ?_ _ | refine blk_drew ?_ | refine blk_alloc ?_ _)); refine blk_put (cs := #[.int .i64 ((rd_T104 l0_1 x3_1).f0), .int .i64 ((rd_T104 l0_1 x3_1).f1), .int .i64 ((rd_T104 l0_1 x3_1).f2), .int .i64 0, .int .i64 0, .int .i64 0]) ?_ 3 _ rfl; (with_reducible repeat (first | refine blk_drewN ?_ _ | refine blk_drew ?_ | refine blk_alloc ?_ _)); refine blk_put (cs := #[.int .i64 ((rd_T104 l0_1 x3_1).f0), .int .i64 ((rd_T104 l0_1 x3_1).f1), .int .i64 0, .int .i64 0, .int .i64 0, .int .i64 0]) ?_ 2 _ rfl; (with_reducible repeat (first | refine blk_drewN ?_ _ | refine blk_drew ?_ | refine blk_alloc ?_ _)); refine blk_put (cs := #[.int .i64 ((rd_T104 l0_1 x3_1).f0), .int .i64 0, .int .i64 0, .int .i64 0, .int .i64 0, .int .i64 0]) ?_ 1 _ rfl; (with_reducible repeat (first | refine blk_drewN ?_ _ | refine blk_drew ?_ | refine blk_alloc ?_ _)); refine blk_put (cs := #[.int .i64 0, .int .i64 0, .int .i64 0, .int .i64 0, .int .i64 0, .int .i64 0]) ?_ 0 _ rfl; (with_reducible repeat (first | refine blk_drewN ?_ _ | refine blk_drew ?_ | refine blk_alloc ?_ _)); exact BK187.out⟩, ⟨tB⟩⟩
     case rest =>
      clear HC5
      try clear c1
      try clear p1
      try clear q1
      try clear hx1
      try clear c2
      try clear p2
      try clear c3
      try clear c3b0
      try clear c4
      try clear c4b0
      try clear c5
      try clear c6
      try clear p6
      try clear c7
      try clear c8
      try clear c11
      try clear c12
      try clear c12b0
      try clear c14
      try clear c14b0
      try clear c15
      try clear c15b0
      try clear c16
      try clear c16b0
      try clear c17
      try clear p18
      try clear q18
      try clear hx18
      try clear c21
      try clear c23
      try clear c24
      try clear c24b0
      try clear c24b1
      try clear c26
      try clear c29
      try clear c29b0
      try clear c29b1
      try clear c31
      try clear c34
      try clear c37
      try clear c40
      try clear c44
      try clear c46
      try clear c47
      try clear c47b0
      try clear c47b1
      try clear c49
      try clear c52
      try clear c52b0
      try clear c52b1
      try clear c54
      try clear c57
      try clear c60
      try clear c63
      try clear p64
      try clear c66
      try clear hx186_0
      try clear hx186_1
      try clear hx186_2
      try clear hx186_3
      try clear hx186_4
      try clear hx186_5
      try clear hx189_0
      try clear hx189_1
      try clear hx189_2
      try clear hx189_3
      try clear hx189_4
      try clear hx189_5
      try clear p186
      try clear p189
      try clear p2
      try clear q186
      try clear q189
      obtain ⟨kq, x67_4, rfl, HA, HJ4, BK184, BK187, HB⟩ := hcut
      cases kq with
      | zero => exact absurd HA.out (by simp [spec_IsValidClaims.j1])
      | succ kj4 =>
       have H := HA.out
       clear HA
       simp only [spec_IsValidClaims.j1] at H
       by_cases c69 : x67_4 = true
       ·subst c69
        have H1 : (some false) = some r := by rw [if_pos rfl] at H; exact H
        clear H
        have H := H1
        clear H1
        obtain rfl := Option.some.inj H
        go_wp2
        repeat (go_quiet (fail); try go_wp2)
        go_ret
        exact ⟨tE, tB⟩
       replace c69 := Bool.eq_false_iff.mpr c69
       subst c69
       have H1 : (if ((rd_T104 l0_1 x3_1).f5) = 1 then ((spec_OpenClaims.f kj4 a0_0 l0_1 ((rd_T104 l0_1 x3_1).f1)).bind fun t198 => (if (t198.length : Int) > 1 then (some false) else (spec_IsValidClaims.l0 kj4 (wrap64 (x3_1 + 1)) a0_0 l0_1))) else (spec_IsValidClaims.l0 kj4 (wrap64 (x3_1 + 1)) a0_0 l0_1)) = some r := by rw [if_neg (show ¬ (false = true) by decide)] at H; exact H
       clear H
       have H := H1
       clear H1
       by_cases c70 : ((rd_T104 l0_1 x3_1).f5) = 1
       ·rw [if_pos c70] at H
        have c70b0 : (((rd_T104 l0_1 x3_1).f5) == 1) = true := beq_iff_eq.mpr c70
        have c70b1 : (((rd_T104 l0_1 x3_1).f5) != 1) = false := bne_eq_false_iff_eq.mpr c70
        clear c70
        replace H := Option.bind_eq_some_iff.mp H
        obtain ⟨t198, A710, H⟩ := H
        try dsimp only at H
        have A71 := Aside0.mk A710
        clear A710
        by_cases c72 : (t198.length : Int) > 1
        ·rw [if_pos c72] at H
         have c72b0 : decide (1 < (t198.length : Int)) = true := decide_eq_true c72
         have c72b1 : decide (1 < t198.length) = true := decide_eq_true (by omega)
         clear c72
         obtain rfl := Option.some.inj H
         have hnb73 := NB187_184.out
         have hnc73 := NB184_187.out
         obtain ⟨hcz74_0, hcz74_1, hcz74_2, hcz74_3, hcz74_4, hcz74_5, hfz74_0, hfz74_1, hfz74_2, hfz74_3, hfz74_4, hfz74_5⟩ := bc6 BK187.out
         obtain ⟨hcz75_0, hcz75_1, hfz75_0, hfz75_1⟩ := bc2 BK184.out
         go_wp2_with (first | (go_at_call 121; (with_reducible refine (spec_OpenClaims.calls kj4 a0_0 _ _ l0_1 ((rd_T104 l0_1 x3_1).f1) t198 _ ?side1 ?side2 A71.out).mono ?_); (case side1 => exact tC (Kd.C_below HR0_1.out HB.out)); (case side2 => exact HC0_1.out); rintro e w76 ⟨v199, rfl, ho0, hb⟩; have HO200 := Aside0.mk (Kd.R_lower ho0 (below_size tB)); replace BK184 := bB BK184 hb; replace BK187 := bB BK187 hb; replace HB := bH HB hb; (try clear hb); (try clear hb2); (try clear hk); (try clear hi); (try clear ho0); obtain ⟨Ao77, co77, eo77⟩ := Kd.R_slice HO200.out; subst eo77))
         repeat (go_quiet (first | (go_at_call 121; (with_reducible refine (spec_OpenClaims.calls kj4 a0_0 _ _ l0_1 ((rd_T104 l0_1 x3_1).f1) t198 _ ?side1 ?side2 A71.out).mono ?_); (case side1 => exact tC (Kd.C_below HR0_1.out HB.out)); (case side2 => exact HC0_1.out); rintro e w76 ⟨v199, rfl, ho0, hb⟩; have HO200 := Aside0.mk (Kd.R_lower ho0 (below_size tB)); replace BK184 := bB BK184 hb; replace BK187 := bB BK187 hb; replace HB := bH HB hb; (try clear hb); (try clear hb2); (try clear hk); (try clear hi); (try clear ho0); obtain ⟨Ao77, co77, eo77⟩ := Kd.R_slice HO200.out; subst eo77)); try go_wp2_with (first | (go_at_call 121; (with_reducible refine (spec_OpenClaims.calls kj4 a0_0 _ _ l0_1 ((rd_T104 l0_1 x3_1).f1) t198 _ ?side1 ?side2 A71.out).mono ?_); (case side1 => exact tC (Kd.C_below HR0_1.out HB.out)); (case side2 => exact HC0_1.out); rintro e w76 ⟨v199, rfl, ho0, hb⟩; have HO200 := Aside0.mk (Kd.R_lower ho0 (below_size tB)); replace BK184 := bB BK184 hb; replace BK187 := bB BK187 hb; replace HB := bH HB hb; (try clear hb); (try clear hb2); (try clear hk); (try clear hi); (try clear ho0); obtain ⟨Ao77, co77, eo77⟩ := Kd.R_slice HO200.out; subst eo77)))
         go_ret
         exact ⟨tE, tB⟩
        rw [if_neg c72] at H
        have c72b0 : decide (1 < (t198.length : Int)) = false := decide_eq_false c72
        have c72b1 : decide (1 < t198.length) = false := decide_eq_false (by omega)
        clear c72
        have H' := Aside0.mk H
        clear H
        have hnb78 := NB187_184.out
        have hnc78 := NB184_187.out
        obtain ⟨hcz79_0, hcz79_1, hcz79_2, hcz79_3, hcz79_4, hcz79_5, hfz79_0, hfz79_1, hfz79_2, hfz79_3, hfz79_4, hfz79_5⟩ := bc6 BK187.out
        obtain ⟨hcz80_0, hcz80_1, hfz80_0, hfz80_1⟩ := bc2 BK184.out
        go_wp2_with (first | (go_at_call 121; (with_reducible refine (spec_OpenClaims.calls kj4 a0_0 _ _ l0_1 ((rd_T104 l0_1 x3_1).f1) t198 _ ?side1 ?side2 A71.out).mono ?_); (case side1 => exact tC (Kd.C_below HR0_1.out HB.out)); (case side2 => exact HC0_1.out); rintro e w81 ⟨v199, rfl, ho0, hb⟩; have HO200 := Aside0.mk (Kd.R_lower ho0 (below_size tB)); replace BK184 := bB BK184 hb; replace BK187 := bB BK187 hb; replace HB := bH HB hb; (try clear hb); (try clear hb2); (try clear hk); (try clear hi); (try clear ho0); obtain ⟨Ao82, co82, eo82⟩ := Kd.R_slice HO200.out; subst eo82))
        repeat (go_quiet (first | (go_at_call 121; (with_reducible refine (spec_OpenClaims.calls kj4 a0_0 _ _ l0_1 ((rd_T104 l0_1 x3_1).f1) t198 _ ?side1 ?side2 A71.out).mono ?_); (case side1 => exact tC (Kd.C_below HR0_1.out HB.out)); (case side2 => exact HC0_1.out); rintro e w81 ⟨v199, rfl, ho0, hb⟩; have HO200 := Aside0.mk (Kd.R_lower ho0 (below_size tB)); replace BK184 := bB BK184 hb; replace BK187 := bB BK187 hb; replace HB := bH HB hb; (try clear hb); (try clear hb2); (try clear hk); (try clear hi); (try clear ho0); obtain ⟨Ao82, co82, eo82⟩ := Kd.R_slice HO200.out; subst eo82)); try go_wp2_with (first | (go_at_call 121; (with_reducible refine (spec_OpenClaims.calls kj4 a0_0 _ _ l0_1 ((rd_T104 l0_1 x3_1).f1) t198 _ ?side1 ?side2 A71.out).mono ?_); (case side1 => exact tC (Kd.C_below HR0_1.out HB.out)); (case side2 => exact HC0_1.out); rintro e w81 ⟨v199, rfl, ho0, hb⟩; have HO200 := Aside0.mk (Kd.R_lower ho0 (below_size tB)); replace BK184 := bB BK184 hb; replace BK187 := bB BK187 hb; replace HB := bH HB hb; (try clear hb); (try clear hb2); (try clear hk); (try clear hi); (try clear ho0); obtain ⟨Ao82, co82, eo82⟩ := Kd.R_slice HO200.out; subst eo82)))
        go_roundg kj4
        case measure => have := HK1.out; have := HJ4.out; omega
        case rel => exact ⟨(wrap64 (x3_1 + 1)), tS, H', ⟨by have := HK1.out; have := HJ4.out; omega⟩, ⟨tK BK184⟩, ⟨tB⟩⟩
       rw [if_neg c70] at H
       have c70b0 : (((rd_T104 l0_1 x3_1).f5) == 1) = false := beq_eq_false_iff_ne.mpr c70
       have c70b1 : (((rd_T104 l0_1 x3_1).f5) != 1) = true := bne_iff_ne.mpr c70
       have H' := Aside0.mk H
       clear H
       have hnb83 := NB187_184.out
       have hnc83 := NB184_187.out
       obtain ⟨hcz84_0, hcz84_1, hcz84_2, hcz84_3, hcz84_4, hcz84_5, hfz84_0, hfz84_1, hfz84_2, hfz84_3, hfz84_4, hfz84_5⟩ := bc6 BK187.out
       go_wp2
       repeat (go_quiet (fail); try go_wp2)
       go_roundg kj4
       case measure => have := HK1.out; have := HJ4.out; omega
       case rel => exact ⟨(wrap64 (x3_1 + 1)), tS, H', ⟨by have := HK1.out; have := HJ4.out; omega⟩, ⟨tK BK184⟩, ⟨tB⟩⟩
    rw [if_neg c4] at H
    exact absurd H (by simp)
   rw [if_neg c3] at H
   have c3b0 : decide (x3_1 < (l0_1.length : Int)) = false := decide_eq_false c3
   clear c3
   replace H := Option.bind_eq_some_iff.mp H
   obtain ⟨t185, A850, H⟩ := H
   try dsimp only at H
   have A85 := Aside0.mk A850
   clear A850
   by_cases c86 : t185 = true
   ·subst c86
    have H1 : (some (decide ((l0_1.length : Int) ≤ 10))) = some r := by rw [if_pos rfl] at H; exact H
    clear H
    have H := H1
    clear H1
    obtain rfl := Option.some.inj H
    obtain ⟨hcz87_0, hcz87_1, hfz87_0, hfz87_1⟩ := bc2 BK184.out
    go_wp2_with (first | (go_at_call 81; (with_reducible refine (spec_l1In.calls a0_0 0 1000000 true _ A85.out).mono ?_); rintro e w' ⟨rfl, ⟨nd, rfl⟩⟩; (try exact tQ)))
    repeat (go_quiet (first | (go_at_call 81; (with_reducible refine (spec_l1In.calls a0_0 0 1000000 true _ A85.out).mono ?_); rintro e w' ⟨rfl, ⟨nd, rfl⟩⟩; (try exact tQ))); try go_wp2_with (first | (go_at_call 81; (with_reducible refine (spec_l1In.calls a0_0 0 1000000 true _ A85.out).mono ?_); rintro e w' ⟨rfl, ⟨nd, rfl⟩⟩; (try exact tQ))))
    go_ret
    exact ⟨tE, tB⟩
   replace c86 := Bool.eq_false_iff.mpr c86
   subst c86
   have H1 : (some false) = some r := by rw [if_neg (show ¬ (false = true) by decide)] at H; exact H
   clear H
   have H := H1
   clear H1
   obtain rfl := Option.some.inj H
   obtain ⟨hcz88_0, hcz88_1, hfz88_0, hfz88_1⟩ := bc2 BK184.out
   go_wp2_with (first | (go_at_call 81; (with_reducible refine (spec_l1In.calls a0_0 0 1000000 false _ A85.out).mono ?_); rintro e w' ⟨rfl, ⟨nd, rfl⟩⟩; (try exact tQ)))
   repeat (go_quiet (first | (go_at_call 81; (with_reducible refine (spec_l1In.calls a0_0 0 1000000 false _ A85.out).mono ?_); rintro e w' ⟨rfl, ⟨nd, rfl⟩⟩; (try exact tQ))); try go_wp2_with (first | (go_at_call 81; (with_reducible refine (spec_l1In.calls a0_0 0 1000000 false _ A85.out).mono ?_); rintro e w' ⟨rfl, ⟨nd, rfl⟩⟩; (try exact tQ))))
   go_ret
   exact ⟨tE, tB⟩

end Go.Proofs.Ytjggdakbphjomaa.ZFnClaims
