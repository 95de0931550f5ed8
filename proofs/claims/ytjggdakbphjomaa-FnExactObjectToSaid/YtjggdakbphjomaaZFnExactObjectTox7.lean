/- The machine side: for each Go function a Lean function and the contract that the Go code answers as it does; printed by program (wip/tmpl/pprint.sh). -/
import Derived.Test.YtjggdakbphjomaaZFnExactObjectTox0
import Derived.Test.YtjggdakbphjomaaZFnExactObjectTox6
namespace Go.Proofs.Ytjggdakbphjomaa.ZFnExactObjectTo
open Go.RowKit Go.Proofs.YtjggdakbphjomaaW.PrintWords Go.Proofs.YtjggdakbphjomaaW.PrintLast Go.Proofs.YtjggdakbphjomaaW.PrintMore
attribute [local go_sem] max2_int min2_int max_two min_two max_three min_three max_four min_four   -- for this text's walks alone
set_option linter.unusedVariables false
set_option linter.unusedSimpArgs false

/-! ### impl_IsValidClaims: function 56 -/
mutual
def impl_IsValidClaims.j0 : Nat → Bool → Int → List (S104) → Option (Bool)
 | 0, _, _, _ => none
 | k + 1, x16, x201000, x201001 => if x16 = true then (some false) else (impl_IsValidClaims.l0 k x201001 (x201001.length : Int) 0 x201000 x201001)
def impl_IsValidClaims.l0 : Nat → List (S104) → Int → Int → Int → List (S104) → Option (Bool)
 | 0, _, _, _, _, _ => none
 | k + 1, x18, x19, x20, x201000, x201001 => if x20 < x19 then (if 0 ≤ x20 then (if x20 < (x18.length : Int) then ((impl_InRange.f ((rd_T104 x18 x20).f0) 0 (wrap64 (x201000 - 1))).bind fun t204 => (if t204 = true then (if x20 > 0 then (if 0 ≤ (wrap64 (x20 - 1)) then (if (wrap64 (x20 - 1)) < (x201001.length : Int) then (if ((rd_T104 x201001 (wrap64 (x20 - 1))).f0) ≥ ((rd_T104 x18 x20).f0) then (impl_IsValidClaims.j2 k x20 x18 x19 x20 true x201000 x201001 ((rd_T104 x18 x20).f0) ((rd_T104 x18 x20).f1) ((rd_T104 x18 x20).f2) ((rd_T104 x18 x20).f3) ((rd_T104 x18 x20).f4) ((rd_T104 x18 x20).f5)) else ((impl_InRange.f ((rd_T104 x18 x20).f1) 0 1000000).bind fun t206 => (if t206 = true then ((impl_InRange.f ((rd_T104 x18 x20).f3) 0 1000000).bind fun t207 => (if t207 = true then (if ((rd_T104 x18 x20).f4) = 30 then ((impl_InRange.f ((rd_T104 x18 x20).f5) 1 3).bind fun t208 => (impl_IsValidClaims.j2 k x20 x18 x19 x20 (!t208) x201000 x201001 ((rd_T104 x18 x20).f0) ((rd_T104 x18 x20).f1) ((rd_T104 x18 x20).f2) ((rd_T104 x18 x20).f3) ((rd_T104 x18 x20).f4) ((rd_T104 x18 x20).f5))) else (if ((rd_T104 x18 x20).f4) = 90 then ((impl_InRange.f ((rd_T104 x18 x20).f5) 1 3).bind fun t209 => (impl_IsValidClaims.j2 k x20 x18 x19 x20 (!t209) x201000 x201001 ((rd_T104 x18 x20).f0) ((rd_T104 x18 x20).f1) ((rd_T104 x18 x20).f2) ((rd_T104 x18 x20).f3) ((rd_T104 x18 x20).f4) ((rd_T104 x18 x20).f5))) else (impl_IsValidClaims.j2 k x20 x18 x19 x20 true x201000 x201001 ((rd_T104 x18 x20).f0) ((rd_T104 x18 x20).f1) ((rd_T104 x18 x20).f2) ((rd_T104 x18 x20).f3) ((rd_T104 x18 x20).f4) ((rd_T104 x18 x20).f5)))) else (impl_IsValidClaims.j2 k x20 x18 x19 x20 true x201000 x201001 ((rd_T104 x18 x20).f0) ((rd_T104 x18 x20).f1) ((rd_T104 x18 x20).f2) ((rd_T104 x18 x20).f3) ((rd_T104 x18 x20).f4) ((rd_T104 x18 x20).f5)))) else (impl_IsValidClaims.j2 k x20 x18 x19 x20 true x201000 x201001 ((rd_T104 x18 x20).f0) ((rd_T104 x18 x20).f1) ((rd_T104 x18 x20).f2) ((rd_T104 x18 x20).f3) ((rd_T104 x18 x20).f4) ((rd_T104 x18 x20).f5))))) else (none)) else (none)) else ((impl_InRange.f ((rd_T104 x18 x20).f1) 0 1000000).bind fun t210 => (if t210 = true then ((impl_InRange.f ((rd_T104 x18 x20).f3) 0 1000000).bind fun t211 => (if t211 = true then (if ((rd_T104 x18 x20).f4) = 30 then ((impl_InRange.f ((rd_T104 x18 x20).f5) 1 3).bind fun t212 => (impl_IsValidClaims.j2 k x20 x18 x19 x20 (!t212) x201000 x201001 ((rd_T104 x18 x20).f0) ((rd_T104 x18 x20).f1) ((rd_T104 x18 x20).f2) ((rd_T104 x18 x20).f3) ((rd_T104 x18 x20).f4) ((rd_T104 x18 x20).f5))) else (if ((rd_T104 x18 x20).f4) = 90 then ((impl_InRange.f ((rd_T104 x18 x20).f5) 1 3).bind fun t213 => (impl_IsValidClaims.j2 k x20 x18 x19 x20 (!t213) x201000 x201001 ((rd_T104 x18 x20).f0) ((rd_T104 x18 x20).f1) ((rd_T104 x18 x20).f2) ((rd_T104 x18 x20).f3) ((rd_T104 x18 x20).f4) ((rd_T104 x18 x20).f5))) else (impl_IsValidClaims.j2 k x20 x18 x19 x20 true x201000 x201001 ((rd_T104 x18 x20).f0) ((rd_T104 x18 x20).f1) ((rd_T104 x18 x20).f2) ((rd_T104 x18 x20).f3) ((rd_T104 x18 x20).f4) ((rd_T104 x18 x20).f5)))) else (impl_IsValidClaims.j2 k x20 x18 x19 x20 true x201000 x201001 ((rd_T104 x18 x20).f0) ((rd_T104 x18 x20).f1) ((rd_T104 x18 x20).f2) ((rd_T104 x18 x20).f3) ((rd_T104 x18 x20).f4) ((rd_T104 x18 x20).f5)))) else (impl_IsValidClaims.j2 k x20 x18 x19 x20 true x201000 x201001 ((rd_T104 x18 x20).f0) ((rd_T104 x18 x20).f1) ((rd_T104 x18 x20).f2) ((rd_T104 x18 x20).f3) ((rd_T104 x18 x20).f4) ((rd_T104 x18 x20).f5))))) else (impl_IsValidClaims.j2 k x20 x18 x19 x20 true x201000 x201001 ((rd_T104 x18 x20).f0) ((rd_T104 x18 x20).f1) ((rd_T104 x18 x20).f2) ((rd_T104 x18 x20).f3) ((rd_T104 x18 x20).f4) ((rd_T104 x18 x20).f5)))) else (none)) else (none)) else (some true)
def impl_IsValidClaims.j2 : Nat → Int → List (S104) → Int → Int → Bool → Int → List (S104) → Int → Int → Int → Int → Int → Int → Option (Bool)
 | 0, _, _, _, _, _, _, _, _, _, _, _, _, _ => none
 | k + 1, x3, x18, x19, x20, x75, x201000, x201001, x204000, x204001, x204002, x204003, x204004, x204005 => if x75 = true then (some false) else (if 0 ≤ x3 then (if x3 ≤ (x201001.length : Int) then ((some (x201001.take (x3 : Int).toNat : List (S104))).bind fun y214 => (impl_IsValidClaims.l1 k x18 x19 x20 y214 (y214.length : Int) 0 x201000 x201001 x204000 x204001 x204002 x204003 x204004 x204005)) else (none)) else (none))
def impl_IsValidClaims.l1 : Nat → List (S104) → Int → Int → List (S104) → Int → Int → Int → List (S104) → Int → Int → Int → Int → Int → Int → Option (Bool)
 | 0, _, _, _, _, _, _, _, _, _, _, _, _, _, _ => none
 | k + 1, x18, x19, x20, x79, x80, x81, x201000, x201001, x204000, x204001, x204002, x204003, x204004, x204005 => if x81 < x80 then (if 0 ≤ x81 then (if x81 < (x79.length : Int) then (if ((rd_T104 x79 x81).f5) = 1 then (if x204005 = 1 then (if ((rd_T104 x79 x81).f1) = x204001 then (some false) else (impl_IsValidClaims.l1 k x18 x19 x20 x79 x80 (wrap64 (x81 + 1)) x201000 x201001 x204000 x204001 x204002 x204003 x204004 x204005)) else (impl_IsValidClaims.l1 k x18 x19 x20 x79 x80 (wrap64 (x81 + 1)) x201000 x201001 x204000 x204001 x204002 x204003 x204004 x204005)) else (impl_IsValidClaims.l1 k x18 x19 x20 x79 x80 (wrap64 (x81 + 1)) x201000 x201001 x204000 x204001 x204002 x204003 x204004 x204005)) else (none)) else (none)) else (impl_IsValidClaims.l0 k x18 x19 (wrap64 (x20 + 1)) x201000 x201001)
end
def impl_IsValidClaims.f (k : Nat) (a0_0 : Int) (l0_1 : List (S104)) : Option (Bool) := (impl_InRange.f a0_0 0 1000000).bind fun t201 => (if t201 = true then (impl_IsValidClaims.j0 k (decide ((l0_1.length : Int) > 10)) a0_0 l0_1) else (impl_IsValidClaims.j0 k true a0_0 l0_1))
theorem impl_IsValidClaims.mono_l : ∀ k, (∀ y0 y1 y2, LeO (impl_IsValidClaims.j0 k y0 y1 y2) (impl_IsValidClaims.j0 (k + 1) y0 y1 y2)) ∧ (∀ y0 y1 y2 y3 y4, LeO (impl_IsValidClaims.l0 k y0 y1 y2 y3 y4) (impl_IsValidClaims.l0 (k + 1) y0 y1 y2 y3 y4)) ∧ (∀ y0 y1 y2 y3 y4 y5 y6 y7 y8 y9 y10 y11 y12, LeO (impl_IsValidClaims.j2 k y0 y1 y2 y3 y4 y5 y6 y7 y8 y9 y10 y11 y12) (impl_IsValidClaims.j2 (k + 1) y0 y1 y2 y3 y4 y5 y6 y7 y8 y9 y10 y11 y12)) ∧ (∀ y0 y1 y2 y3 y4 y5 y6 y7 y8 y9 y10 y11 y12 y13, LeO (impl_IsValidClaims.l1 k y0 y1 y2 y3 y4 y5 y6 y7 y8 y9 y10 y11 y12 y13) (impl_IsValidClaims.l1 (k + 1) y0 y1 y2 y3 y4 y5 y6 y7 y8 y9 y10 y11 y12 y13))
 | 0 => ⟨fun _ _ _ r h => by simp [impl_IsValidClaims.j0] at h, fun _ _ _ _ _ r h => by simp [impl_IsValidClaims.l0] at h, fun _ _ _ _ _ _ _ _ _ _ _ _ _ r h => by simp [impl_IsValidClaims.j2] at h, fun _ _ _ _ _ _ _ _ _ _ _ _ _ _ r h => by simp [impl_IsValidClaims.l1] at h⟩
 | k + 1 => by
  obtain ⟨ih0, ih1, ih2, ih3⟩ := impl_IsValidClaims.mono_l k
  refine ⟨?_, ?_, ?_, ?_⟩
  ·intro y0 y1 y2
   unfold impl_IsValidClaims.j0
   repeat' first
   | (with_reducible exact ih0 _ _ _)
   | (with_reducible exact ih1 _ _ _ _ _)
   | (with_reducible exact ih2 _ _ _ _ _ _ _ _ _ _ _ _ _)
   | (with_reducible exact ih3 _ _ _ _ _ _ _ _ _ _ _ _ _ _)
   | (with_reducible exact LeO.refl _)
   | (with_reducible exact LeO.none _)
   | (with_reducible refine LeO.ite ?_ ?_)
   | (with_reducible refine LeO.bind ?_ (fun _ => ?_))
   | exact ih0 _ _ _
   | exact ih1 _ _ _ _ _
   | exact ih2 _ _ _ _ _ _ _ _ _ _ _ _ _
   | exact ih3 _ _ _ _ _ _ _ _ _ _ _ _ _ _
   | exact LeO.none _
   | refine LeO.ite ?_ ?_
   | refine LeO.bind ?_ (fun _ => ?_)
  ·intro y0 y1 y2 y3 y4
   unfold impl_IsValidClaims.l0
   repeat' first
   | (with_reducible exact ih0 _ _ _)
   | (with_reducible exact ih1 _ _ _ _ _)
   | (with_reducible exact ih2 _ _ _ _ _ _ _ _ _ _ _ _ _)
   | (with_reducible exact ih3 _ _ _ _ _ _ _ _ _ _ _ _ _ _)
   | (with_reducible exact LeO.refl _)
   | (with_reducible exact LeO.none _)
   | (with_reducible refine LeO.ite ?_ ?_)
   | (with_reducible refine LeO.bind ?_ (fun _ => ?_))
   | exact ih0 _ _ _
   | exact ih1 _ _ _ _ _
   | exact ih2 _ _ _ _ _ _ _ _ _ _ _ _ _
   | exact ih3 _ _ _ _ _ _ _ _ _ _ _ _ _ _
   | exact LeO.none _
   | refine LeO.ite ?_ ?_
   | refine LeO.bind ?_ (fun _ => ?_)
  ·intro y0 y1 y2 y3 y4 y5 y6 y7 y8 y9 y10 y11 y12
   unfold impl_IsValidClaims.j2
   repeat' first
   | (with_reducible exact ih0 _ _ _)
   | (with_reducible exact ih1 _ _ _ _ _)
   | (with_reducible exact ih2 _ _ _ _ _ _ _ _ _ _ _ _ _)
   | (with_reducible exact ih3 _ _ _ _ _ _ _ _ _ _ _ _ _ _)
   | (with_reducible exact LeO.refl _)
   | (with_reducible exact LeO.none _)
   | (with_reducible refine LeO.ite ?_ ?_)
   | (with_reducible refine LeO.bind ?_ (fun _ => ?_))
   | exact ih0 _ _ _
   | exact ih1 _ _ _ _ _
   | exact ih2 _ _ _ _ _ _ _ _ _ _ _ _ _
   | exact ih3 _ _ _ _ _ _ _ _ _ _ _ _ _ _
   | exact LeO.none _
   | refine LeO.ite ?_ ?_
   | refine LeO.bind ?_ (fun _ => ?_)
  ·intro y0 y1 y2 y3 y4 y5 y6 y7 y8 y9 y10 y11 y12 y13
   unfold impl_IsValidClaims.l1
   repeat' first
   | (with_reducible exact ih0 _ _ _)
   | (with_reducible exact ih1 _ _ _ _ _)
   | (with_reducible exact ih2 _ _ _ _ _ _ _ _ _ _ _ _ _)
   | (with_reducible exact ih3 _ _ _ _ _ _ _ _ _ _ _ _ _ _)
   | (with_reducible exact LeO.refl _)
   | (with_reducible exact LeO.none _)
   | (with_reducible refine LeO.ite ?_ ?_)
   | (with_reducible refine LeO.bind ?_ (fun _ => ?_))
   | exact ih0 _ _ _
   | exact ih1 _ _ _ _ _
   | exact ih2 _ _ _ _ _ _ _ _ _ _ _ _ _
   | exact ih3 _ _ _ _ _ _ _ _ _ _ _ _ _ _
   | exact LeO.none _
   | refine LeO.ite ?_ ?_
   | refine LeO.bind ?_ (fun _ => ?_)
theorem impl_IsValidClaims.mono : ∀ a0 a1 k, LeO (impl_IsValidClaims.f k a0 a1) (impl_IsValidClaims.f (k + 1) a0 a1) := by
 intro a0 a1 k
 obtain ⟨ih0, ih1, ih2, ih3⟩ := impl_IsValidClaims.mono_l k
 unfold impl_IsValidClaims.f
 repeat' first
   | (with_reducible exact ih0 _ _ _)
   | (with_reducible exact ih1 _ _ _ _ _)
   | (with_reducible exact ih2 _ _ _ _ _ _ _ _ _ _ _ _ _)
   | (with_reducible exact ih3 _ _ _ _ _ _ _ _ _ _ _ _ _ _)
   | (with_reducible exact LeO.refl _)
   | (with_reducible exact LeO.none _)
   | (with_reducible refine LeO.ite ?_ ?_)
   | (with_reducible refine LeO.bind ?_ (fun _ => ?_))
   | exact ih0 _ _ _
   | exact ih1 _ _ _ _ _
   | exact ih2 _ _ _ _ _ _ _ _ _ _ _ _ _
   | exact ih3 _ _ _ _ _ _ _ _ _ _ _ _ _ _
   | exact LeO.none _
   | refine LeO.ite ?_ ?_
   | refine LeO.bind ?_ (fun _ => ?_)
set_option maxHeartbeats 8000000 in
set_option maxRecDepth 100000 in
theorem impl_IsValidClaims.calls (k : Nat) (a0_0 : Int) (A0_1 : Option Addr) (c0_1 : Nat) (l0_1 : List (S104)) (r : Bool) (w : World) (hr0_1 : Kd.C k104 w A0_1 l0_1.length l0_1) (hc0_1 : l0_1.length ≤ c0_1) (h : impl_IsValidClaims.f k a0_0 l0_1 = some r) :
  Calls Try.prog 56 #[.agg #[.int .i64 a0_0, .slice A0_1 l0_1.length c0_1]] w fun e w' => e = .returned (.bool r) ∧ Below w.heap.size w w' := by
 have hu35 := Try.underlying35
 have hu104 := Try.underlying104
 have HR0_1 := Aside0.mk hr0_1
 have HC0_1 := Aside0.mk hc0_1
 clear hr0_1 hc0_1
 have HB := Aside0.mk (Below.refl w.heap.size w)
 have H : ((impl_InRange.f a0_0 0 1000000).bind fun t201 => (if t201 = true then (impl_IsValidClaims.j0 k (decide ((l0_1.length : Int) > 10)) a0_0 l0_1) else (impl_IsValidClaims.j0 k true a0_0 l0_1))) = some r := h
 clear h
 have HC2 := Aside0.mk H
 clear H
 go_enter Try.func56, Try.ntmps56
 go_upto_region 1 with (first | ((with_reducible refine gate_dst (N := 1) rfl ?_); (try (refine gate_guard (by rfl) ?_; dsimp only)); refine box_event ?hg (N := 1) ?hd (cs := #[.int .i64 a0_0, .slice A0_1 l0_1.length c0_1]) (t := 35) ?hr ?_; (case hd => rfl); (case hg => rfl); (case hr => exact tG); intro gb200 hg w3 hbox hb; have n0_ := Aside0.mk (below_step tB hb); have n1_ := Aside0.mk (hbox); have n2_ := Aside0.mk ((by rw [hg]; exact (below_size tB) : w.heap.size ≤ gb200)); have n3_ := Aside0.mk ((by rw [hg]; exact (below_size tB) : w.heap.size ≤ gb200)); clear HB; have HB := n0_; have BK200 := n1_; have GW200 := n2_; have GE200 := n3_; clear n0_ n1_ n2_ n3_; clear hb hbox hg))
 repeat (go_quiet (first | ((with_reducible refine gate_dst (N := 1) rfl ?_); (try (refine gate_guard (by rfl) ?_; dsimp only)); refine box_event ?hg (N := 1) ?hd (cs := #[.int .i64 a0_0, .slice A0_1 l0_1.length c0_1]) (t := 35) ?hr ?_; (case hd => rfl); (case hg => rfl); (case hr => exact tG); intro gb200 hg w3 hbox hb; have n0_ := Aside0.mk (below_step tB hb); have n1_ := Aside0.mk (hbox); have n2_ := Aside0.mk ((by rw [hg]; exact (below_size tB) : w.heap.size ≤ gb200)); have n3_ := Aside0.mk ((by rw [hg]; exact (below_size tB) : w.heap.size ≤ gb200)); clear HB; have HB := n0_; have BK200 := n1_; have GW200 := n2_; have GE200 := n3_; clear n0_ n1_ n2_ n3_; clear hb hbox hg)); go_upto_region 1 with (first | ((with_reducible refine gate_dst (N := 1) rfl ?_); (try (refine gate_guard (by rfl) ?_; dsimp only)); refine box_event ?hg (N := 1) ?hd (cs := #[.int .i64 a0_0, .slice A0_1 l0_1.length c0_1]) (t := 35) ?hr ?_; (case hd => rfl); (case hg => rfl); (case hr => exact tG); intro gb200 hg w3 hbox hb; have n0_ := Aside0.mk (below_step tB hb); have n1_ := Aside0.mk (hbox); have n2_ := Aside0.mk ((by rw [hg]; exact (below_size tB) : w.heap.size ≤ gb200)); have n3_ := Aside0.mk ((by rw [hg]; exact (below_size tB) : w.heap.size ≤ gb200)); clear HB; have HB := n0_; have BK200 := n1_; have GW200 := n2_; have GE200 := n3_; clear n0_ n1_ n2_ n3_; clear hb hbox hg)))
 (try simp only [Act.put, List.setIfInBounds_toArray, List.set_cons_zero, List.set_cons_succ])
 go_cut [16] (fun v16 wc => ∃ (kq : Nat) (x16_1 : Bool), v16 = .bool x16_1 ∧ Aside0 (impl_IsValidClaims.j0 kq x16_1 a0_0 l0_1 = some r) ∧ Aside0 (kq ≤ k) ∧ Aside0 (wc.heap[gb200]? = some (.cells #[.int .i64 a0_0, (.slice A0_1 l0_1.length c0_1)] 35 (0, 0))) ∧ Aside0 (Below w.heap.size w wc))
 case first =>
  have H := HC2.out
  clear HC2
  replace H := Option.bind_eq_some_iff.mp H
  obtain ⟨t201, A40, H⟩ := H
  replace H : (if t201 = true then (impl_IsValidClaims.j0 k (decide ((l0_1.length : Int) > 10)) a0_0 l0_1) else (impl_IsValidClaims.j0 k true a0_0 l0_1)) = some r := H
  have A4 := Aside0.mk A40
  clear A40
  by_cases c5 : t201 = true
  ·subst c5
   have H1 : (impl_IsValidClaims.j0 k (decide ((l0_1.length : Int) > 10)) a0_0 l0_1) = some r := by rw [if_pos rfl] at H; exact H
   clear H
   have H := H1
   clear H1
   have H' := Aside0.mk H
   clear H
   obtain ⟨hcz6_0, hcz6_1, hfz6_0, hfz6_1⟩ := bc2 BK200.out
   go_wp2_with (first | (go_at_call 82; (with_reducible refine (impl_InRange.calls a0_0 0 1000000 true _ A4.out).mono ?_); rintro e w' ⟨rfl, ⟨nd, rfl⟩⟩; (try exact tQ)))
   repeat (go_quiet (first | (go_at_call 82; (with_reducible refine (impl_InRange.calls a0_0 0 1000000 true _ A4.out).mono ?_); rintro e w' ⟨rfl, ⟨nd, rfl⟩⟩; (try exact tQ))); try go_wp2_with (first | (go_at_call 82; (with_reducible refine (impl_InRange.calls a0_0 0 1000000 true _ A4.out).mono ?_); rintro e w' ⟨rfl, ⟨nd, rfl⟩⟩; (try exact tQ))))
   go_meet
   case rel => exact ⟨_, (decide ((l0_1.length : Int) > 10)), tS, H', ⟨by first | omega | exact Nat.le_refl _⟩, ⟨tK BK200⟩, ⟨tB⟩⟩
  ·replace c5 := Bool.eq_false_iff.mpr c5
   subst c5
   have H1 : (impl_IsValidClaims.j0 k true a0_0 l0_1) = some r := by rw [if_neg (show ¬ (false = true) by decide)] at H; exact H
   clear H
   have H := H1
   clear H1
   have H' := Aside0.mk H
   clear H
   obtain ⟨hcz7_0, hcz7_1, hfz7_0, hfz7_1⟩ := bc2 BK200.out
   go_wp2_with (first | (go_at_call 82; (with_reducible refine (impl_InRange.calls a0_0 0 1000000 false _ A4.out).mono ?_); rintro e w' ⟨rfl, ⟨nd, rfl⟩⟩; (try exact tQ)))
   repeat (go_quiet (first | (go_at_call 82; (with_reducible refine (impl_InRange.calls a0_0 0 1000000 false _ A4.out).mono ?_); rintro e w' ⟨rfl, ⟨nd, rfl⟩⟩; (try exact tQ))); try go_wp2_with (first | (go_at_call 82; (with_reducible refine (impl_InRange.calls a0_0 0 1000000 false _ A4.out).mono ?_); rintro e w' ⟨rfl, ⟨nd, rfl⟩⟩; (try exact tQ))))
   go_meet
   case rel => exact ⟨_, (true), tS, H', ⟨by first | omega | exact Nat.le_refl _⟩, ⟨tK BK200⟩, ⟨tB⟩⟩
 case rest =>
  clear HC2
  try clear p2
  try clear c5
  try clear hcz6_0
  try clear hcz6_1
  try clear hcz7_0
  try clear hcz7_1
  try clear hfz6_0
  try clear hfz6_1
  try clear hfz7_0
  try clear hfz7_1
  obtain ⟨kq, x16_1, rfl, HA, HJ1, BK200, HB⟩ := hcut
  cases kq with
  | zero => exact absurd HA.out (by simp [impl_IsValidClaims.j0])
  | succ kj1 =>
   have H := HA.out
   clear HA
   simp only [impl_IsValidClaims.j0] at H
   by_cases c8 : x16_1 = true
   ·subst c8
    have H1 : (some false) = some r := by rw [if_pos rfl] at H; exact H
    clear H
    have H := H1
    clear H1
    obtain rfl := Option.some.inj H
    go_wp2
    repeat (go_quiet (fail); try go_wp2)
    go_ret
    exact ⟨tE, tB⟩
   ·replace c8 := Bool.eq_false_iff.mpr c8
    subst c8
    have H1 : (impl_IsValidClaims.l0 kj1 l0_1 (l0_1.length : Int) 0 a0_0 l0_1) = some r := by rw [if_neg (show ¬ (false = true) by decide)] at H; exact H
    clear H
    have H := H1
    clear H1
    have H' := Aside0.mk H
    clear H
    obtain ⟨hcz9_0, hcz9_1, hfz9_0, hfz9_1⟩ := bc2 BK200.out
    go_wp2
    repeat (go_quiet (fail); try go_wp2)
    go_loopg [20] kj1 (fun kq v20 w' => ∃ (x20_2 : Int), v20 = .int .i64 x20_2 ∧ Aside0 (impl_IsValidClaims.l0 kq l0_1 (l0_1.length : Int) x20_2 a0_0 l0_1 = some r) ∧ Aside0 (kq ≤ kj1) ∧ Aside0 (w'.heap[gb200]? = some (.cells #[.int .i64 a0_0, (.slice A0_1 l0_1.length c0_1)] 35 (0, 0))) ∧ Aside0 (Below w.heap.size w w'))
    case atStart => exact ⟨(0), tS, H', ⟨Nat.le_refl _⟩, ⟨tK BK200⟩, ⟨tB⟩⟩
    case round =>
     clear H'
     try clear p2
     try clear c5
     try clear c8
     try clear hcz6_0
     try clear hcz6_1
     try clear hcz7_0
     try clear hcz7_1
     try clear hcz9_0
     try clear hcz9_1
     try clear hfz6_0
     try clear hfz6_1
     try clear hfz7_0
     try clear hfz7_1
     try clear hfz9_0
     try clear hfz9_1
     try clear p2
     obtain ⟨x20_2, rfl, HA, HK2, BK200, HB⟩ := hrel
     cases gk with
     | zero => exact absurd HA.out (by simp [impl_IsValidClaims.l0])
     | succ k2 =>
      have H := HA.out
      clear HA
      simp only [impl_IsValidClaims.l0] at H
      by_cases c10 : x20_2 < (l0_1.length : Int)
      ·rw [if_pos c10] at H
       have c10b0 : decide (x20_2 < (l0_1.length : Int)) = true := decide_eq_true c10
       clear c10
       by_cases c11 : 0 ≤ x20_2
       ·rw [if_pos c11] at H
        have c11b0 : decide (0 ≤ x20_2) = true := decide_eq_true c11
        clear c11
        by_cases c12 : x20_2 < (l0_1.length : Int)
        ·rw [if_pos c12] at H
         have c12b0 : decide (x20_2 < (l0_1.length : Int)) = true := decide_eq_true c12
         clear c12
         have HC13 := Aside0.mk H
         clear H
         have p202 : 0 ≤ (x20_2 : Int) := of_decide_eq_true tA
         have q202 : x20_2 < (l0_1.length : Int) := of_decide_eq_true tA
         obtain ⟨ad202, e202, hx202_0, hx202_1, hx202_2, hx202_3, hx202_4, hx202_5⟩ := at_T104 HR0_1.out x20_2 p202 q202
         cases e202
         replace hx202_0 := hbc HB hx202_0
         replace hx202_1 := hbc HB hx202_1
         replace hx202_2 := hbc HB hx202_2
         replace hx202_3 := hbc HB hx202_3
         replace hx202_4 := hbc HB hx202_4
         replace hx202_5 := hbc HB hx202_5
         replace p202 := eq_true p202
         replace q202 := eq_true q202
         go_upto_region 6 with (first | ((with_reducible refine gate_dst (N := 4) rfl ?_); (try (refine gate_guard (by rfl) ?_; dsimp only)); refine box_event ?hg (N := 4) ?hd (cs := #[.int .i64 0, .int .i64 0, .int .i64 0, .int .i64 0, .int .i64 0, .int .i64 0]) (t := 104) ?hr ?_; (case hd => rfl); (case hg => rfl); (case hr => exact tG); intro gb203 hg w14 hbox hb; have n0_ := Aside0.mk (blk_below (g := gb200) (o := .cells #[.int .i64 a0_0, .slice (some ad202) l0_1.length c0_1] 35 (0, 0)) (tK BK200) hb); have n1_ := Aside0.mk (below_step tB hb); have n2_ := Aside0.mk (hbox); have n3_ := Aside0.mk ((by rw [hg]; exact (below_size tB) : w.heap.size ≤ gb203)); have n4_ := Aside0.mk ((by rw [hg]; exact (below_size tB) : w.heap.size ≤ gb203)); have n5_ := Aside0.mk ((by rw [hg]; exact Nat.ne_of_lt (blk_lt (g := gb200) (o := .cells #[.int .i64 a0_0, .slice (some ad202) l0_1.length c0_1] 35 (0, 0)) (tK BK200)) : gb200 ≠ gb203)); have n6_ := Aside0.mk ((by rw [hg]; exact Nat.ne_of_gt (blk_lt (g := gb200) (o := .cells #[.int .i64 a0_0, .slice (some ad202) l0_1.length c0_1] 35 (0, 0)) (tK BK200)) : gb203 ≠ gb200)); clear BK200; clear HB; have BK200 := n0_; have HB := n1_; have BK203 := n2_; have GW203 := n3_; have GE203 := n4_; have NB200_203 := n5_; have NB203_200 := n6_; clear n0_ n1_ n2_ n3_ n4_ n5_ n6_; clear hb hbox hg; have hnb15 := NB203_200.out; have hnc15 := NB200_203.out; obtain ⟨hcz16_0, hcz16_1, hcz16_2, hcz16_3, hcz16_4, hcz16_5, hfz16_0, hfz16_1, hfz16_2, hfz16_3, hfz16_4, hfz16_5⟩ := bc6 BK203.out))
         repeat (go_quiet (first | ((with_reducible refine gate_dst (N := 4) rfl ?_); (try (refine gate_guard (by rfl) ?_; dsimp only)); refine box_event ?hg (N := 4) ?hd (cs := #[.int .i64 0, .int .i64 0, .int .i64 0, .int .i64 0, .int .i64 0, .int .i64 0]) (t := 104) ?hr ?_; (case hd => rfl); (case hg => rfl); (case hr => exact tG); intro gb203 hg w14 hbox hb; have n0_ := Aside0.mk (blk_below (g := gb200) (o := .cells #[.int .i64 a0_0, .slice (some ad202) l0_1.length c0_1] 35 (0, 0)) (tK BK200) hb); have n1_ := Aside0.mk (below_step tB hb); have n2_ := Aside0.mk (hbox); have n3_ := Aside0.mk ((by rw [hg]; exact (below_size tB) : w.heap.size ≤ gb203)); have n4_ := Aside0.mk ((by rw [hg]; exact (below_size tB) : w.heap.size ≤ gb203)); have n5_ := Aside0.mk ((by rw [hg]; exact Nat.ne_of_lt (blk_lt (g := gb200) (o := .cells #[.int .i64 a0_0, .slice (some ad202) l0_1.length c0_1] 35 (0, 0)) (tK BK200)) : gb200 ≠ gb203)); have n6_ := Aside0.mk ((by rw [hg]; exact Nat.ne_of_gt (blk_lt (g := gb200) (o := .cells #[.int .i64 a0_0, .slice (some ad202) l0_1.length c0_1] 35 (0, 0)) (tK BK200)) : gb203 ≠ gb200)); clear BK200; clear HB; have BK200 := n0_; have HB := n1_; have BK203 := n2_; have GW203 := n3_; have GE203 := n4_; have NB200_203 := n5_; have NB203_200 := n6_; clear n0_ n1_ n2_ n3_ n4_ n5_ n6_; clear hb hbox hg; have hnb15 := NB203_200.out; have hnc15 := NB200_203.out; obtain ⟨hcz16_0, hcz16_1, hcz16_2, hcz16_3, hcz16_4, hcz16_5, hfz16_0, hfz16_1, hfz16_2, hfz16_3, hfz16_4, hfz16_5⟩ := bc6 BK203.out)); go_upto_region 6 with (first | ((with_reducible refine gate_dst (N := 4) rfl ?_); (try (refine gate_guard (by rfl) ?_; dsimp only)); refine box_event ?hg (N := 4) ?hd (cs := #[.int .i64 0, .int .i64 0, .int .i64 0, .int .i64 0, .int .i64 0, .int .i64 0]) (t := 104) ?hr ?_; (case hd => rfl); (case hg => rfl); (case hr => exact tG); intro gb203 hg w14 hbox hb; have n0_ := Aside0.mk (blk_below (g := gb200) (o := .cells #[.int .i64 a0_0, .slice (some ad202) l0_1.length c0_1] 35 (0, 0)) (tK BK200) hb); have n1_ := Aside0.mk (below_step tB hb); have n2_ := Aside0.mk (hbox); have n3_ := Aside0.mk ((by rw [hg]; exact (below_size tB) : w.heap.size ≤ gb203)); have n4_ := Aside0.mk ((by rw [hg]; exact (below_size tB) : w.heap.size ≤ gb203)); have n5_ := Aside0.mk ((by rw [hg]; exact Nat.ne_of_lt (blk_lt (g := gb200) (o := .cells #[.int .i64 a0_0, .slice (some ad202) l0_1.length c0_1] 35 (0, 0)) (tK BK200)) : gb200 ≠ gb203)); have n6_ := Aside0.mk ((by rw [hg]; exact Nat.ne_of_gt (blk_lt (g := gb200) (o := .cells #[.int .i64 a0_0, .slice (some ad202) l0_1.length c0_1] 35 (0, 0)) (tK BK200)) : gb203 ≠ gb200)); clear BK200; clear HB; have BK200 := n0_; have HB := n1_; have BK203 := n2_; have GW203 := n3_; have GE203 := n4_; have NB200_203 := n5_; have NB203_200 := n6_; clear n0_ n1_ n2_ n3_ n4_ n5_ n6_; clear hb hbox hg; have hnb15 := NB203_200.out; have hnc15 := NB200_203.out; obtain ⟨hcz16_0, hcz16_1, hcz16_2, hcz16_3, hcz16_4, hcz16_5, hfz16_0, hfz16_1, hfz16_2, hfz16_3, hfz16_4, hfz16_5⟩ := bc6 BK203.out)))
         (try simp only [Act.put, List.setIfInBounds_toArray, List.set_cons_zero, List.set_cons_succ])
         go_cut [75] (fun v75 wc => ∃ (kq : Nat) (x75_12 : Bool), v75 = .bool x75_12 ∧ Aside0 (impl_IsValidClaims.j2 kq x20_2 l0_1 (l0_1.length : Int) x20_2 x75_12 a0_0 l0_1 ((rd_T104 l0_1 x20_2).f0) ((rd_T104 l0_1 x20_2).f1) ((rd_T104 l0_1 x20_2).f2) ((rd_T104 l0_1 x20_2).f3) ((rd_T104 l0_1 x20_2).f4) ((rd_T104 l0_1 x20_2).f5) = some r) ∧ Aside0 (kq ≤ k2) ∧ Aside0 (wc.heap[gb200]? = some (.cells #[.int .i64 a0_0, (.slice (some ad202) l0_1.length c0_1)] 35 (0, 0))) ∧ Aside0 (wc.heap[gb203]? = some (.cells #[.int .i64 ((rd_T104 l0_1 x20_2).f0), .int .i64 ((rd_T104 l0_1 x20_2).f1), .int .i64 ((rd_T104 l0_1 x20_2).f2), .int .i64 ((rd_T104 l0_1 x20_2).f3), .int .i64 ((rd_T104 l0_1 x20_2).f4), .int .i64 ((rd_T104 l0_1 x20_2).f5)] 104 (0, 0))) ∧ Aside0 (Below w.heap.size w wc))
         case first =>
          have H := HC13.out
          clear HC13
          replace H := Option.bind_eq_some_iff.mp H
          obtain ⟨t204, A170, H⟩ := H
          replace H : (if t204 = true then (if x20_2 > 0 then (if 0 ≤ (wrap64 (x20_2 - 1)) then (if (wrap64 (x20_2 - 1)) < (l0_1.length : Int) then (if ((rd_T104 l0_1 (wrap64 (x20_2 - 1))).f0) ≥ ((rd_T104 l0_1 x20_2).f0) then (impl_IsValidClaims.j2 k2 x20_2 l0_1 (l0_1.length : Int) x20_2 true a0_0 l0_1 ((rd_T104 l0_1 x20_2).f0) ((rd_T104 l0_1 x20_2).f1) ((rd_T104 l0_1 x20_2).f2) ((rd_T104 l0_1 x20_2).f3) ((rd_T104 l0_1 x20_2).f4) ((rd_T104 l0_1 x20_2).f5)) else ((impl_InRange.f ((rd_T104 l0_1 x20_2).f1) 0 1000000).bind fun t206 => (if t206 = true then ((impl_InRange.f ((rd_T104 l0_1 x20_2).f3) 0 1000000).bind fun t207 => (if t207 = true then (if ((rd_T104 l0_1 x20_2).f4) = 30 then ((impl_InRange.f ((rd_T104 l0_1 x20_2).f5) 1 3).bind fun t208 => (impl_IsValidClaims.j2 k2 x20_2 l0_1 (l0_1.length : Int) x20_2 (!t208) a0_0 l0_1 ((rd_T104 l0_1 x20_2).f0) ((rd_T104 l0_1 x20_2).f1) ((rd_T104 l0_1 x20_2).f2) ((rd_T104 l0_1 x20_2).f3) ((rd_T104 l0_1 x20_2).f4) ((rd_T104 l0_1 x20_2).f5))) else (if ((rd_T104 l0_1 x20_2).f4) = 90 then ((impl_InRange.f ((rd_T104 l0_1 x20_2).f5) 1 3).bind fun t209 => (impl_IsValidClaims.j2 k2 x20_2 l0_1 (l0_1.length : Int) x20_2 (!t209) a0_0 l0_1 ((rd_T104 l0_1 x20_2).f0) ((rd_T104 l0_1 x20_2).f1) ((rd_T104 l0_1 x20_2).f2) ((rd_T104 l0_1 x20_2).f3) ((rd_T104 l0_1 x20_2).f4) ((rd_T104 l0_1 x20_2).f5))) else (impl_IsValidClaims.j2 k2 x20_2 l0_1 (l0_1.length : Int) x20_2 true a0_0 l0_1 ((rd_T104 l0_1 x20_2).f0) ((rd_T104 l0_1 x20_2).f1) ((rd_T104 l0_1 x20_2).f2) ((rd_T104 l0_1 x20_2).f3) ((rd_T104 l0_1 x20_2).f4) ((rd_T104 l0_1 x20_2).f5)))) else (impl_IsValidClaims.j2 k2 x20_2 l0_1 (l0_1.length : Int) x20_2 true a0_0 l0_1 ((rd_T104 l0_1 x20_2).f0) ((rd_T104 l0_1 x20_2).f1) ((rd_T104 l0_1 x20_2).f2) ((rd_T104 l0_1 x20_2).f3) ((rd_T104 l0_1 x20_2).f4) ((rd_T104 l0_1 x20_2).f5)))) else (impl_IsValidClaims.j2 k2 x20_2 l0_1 (l0_1.length : Int) x20_2 true a0_0 l0_1 ((rd_T104 l0_1 x20_2).f0) ((rd_T104 l0_1 x20_2).f1) ((rd_T104 l0_1 x20_2).f2) ((rd_T104 l0_1 x20_2).f3) ((rd_T104 l0_1 x20_2).f4) ((rd_T104 l0_1 x20_2).f5))))) else (none)) else (none)) else ((impl_InRange.f ((rd_T104 l0_1 x20_2).f1) 0 1000000).bind fun t210 => (if t210 = true then ((impl_InRange.f ((rd_T104 l0_1 x20_2).f3) 0 1000000).bind fun t211 => (if t211 = true then (if ((rd_T104 l0_1 x20_2).f4) = 30 then ((impl_InRange.f ((rd_T104 l0_1 x20_2).f5) 1 3).bind fun t212 => (impl_IsValidClaims.j2 k2 x20_2 l0_1 (l0_1.length : Int) x20_2 (!t212) a0_0 l0_1 ((rd_T104 l0_1 x20_2).f0) ((rd_T104 l0_1 x20_2).f1) ((rd_T104 l0_1 x20_2).f2) ((rd_T104 l0_1 x20_2).f3) ((rd_T104 l0_1 x20_2).f4) ((rd_T104 l0_1 x20_2).f5))) else (if ((rd_T104 l0_1 x20_2).f4) = 90 then ((impl_InRange.f ((rd_T104 l0_1 x20_2).f5) 1 3).bind fun t213 => (impl_IsValidClaims.j2 k2 x20_2 l0_1 (l0_1.length : Int) x20_2 (!t213) a0_0 l0_1 ((rd_T104 l0_1 x20_2).f0) ((rd_T104 l0_1 x20_2).f1) ((rd_T104 l0_1 x20_2).f2) ((rd_T104 l0_1 x20_2).f3) ((rd_T104 l0_1 x20_2).f4) ((rd_T104 l0_1 x20_2).f5))) else (impl_IsValidClaims.j2 k2 x20_2 l0_1 (l0_1.length : Int) x20_2 true a0_0 l0_1 ((rd_T104 l0_1 x20_2).f0) ((rd_T104 l0_1 x20_2).f1) ((rd_T104 l0_1 x20_2).f2) ((rd_T104 l0_1 x20_2).f3) ((rd_T104 l0_1 x20_2).f4) ((rd_T104 l0_1 x20_2).f5)))) else (impl_IsValidClaims.j2 k2 x20_2 l0_1 (l0_1.length : Int) x20_2 true a0_0 l0_1 ((rd_T104 l0_1 x20_2).f0) ((rd_T104 l0_1 x20_2).f1) ((rd_T104 l0_1 x20_2).f2) ((rd_T104 l0_1 x20_2).f3) ((rd_T104 l0_1 x20_2).f4) ((rd_T104 l0_1 x20_2).f5)))) else (impl_IsValidClaims.j2 k2 x20_2 l0_1 (l0_1.length : Int) x20_2 true a0_0 l0_1 ((rd_T104 l0_1 x20_2).f0) ((rd_T104 l0_1 x20_2).f1) ((rd_T104 l0_1 x20_2).f2) ((rd_T104 l0_1 x20_2).f3) ((rd_T104 l0_1 x20_2).f4) ((rd_T104 l0_1 x20_2).f5))))) else (impl_IsValidClaims.j2 k2 x20_2 l0_1 (l0_1.length : Int) x20_2 true a0_0 l0_1 ((rd_T104 l0_1 x20_2).f0) ((rd_T104 l0_1 x20_2).f1) ((rd_T104 l0_1 x20_2).f2) ((rd_T104 l0_1 x20_2).f3) ((rd_T104 l0_1 x20_2).f4) ((rd_T104 l0_1 x20_2).f5))) = some r := H
          have A17 := Aside0.mk A170
          clear A170
          by_cases c18 : t204 = true
          ·subst c18
           have H1 : (if x20_2 > 0 then (if 0 ≤ (wrap64 (x20_2 - 1)) then (if (wrap64 (x20_2 - 1)) < (l0_1.length : Int) then (if ((rd_T104 l0_1 (wrap64 (x20_2 - 1))).f0) ≥ ((rd_T104 l0_1 x20_2).f0) then (impl_IsValidClaims.j2 k2 x20_2 l0_1 (l0_1.length : Int) x20_2 true a0_0 l0_1 ((rd_T104 l0_1 x20_2).f0) ((rd_T104 l0_1 x20_2).f1) ((rd_T104 l0_1 x20_2).f2) ((rd_T104 l0_1 x20_2).f3) ((rd_T104 l0_1 x20_2).f4) ((rd_T104 l0_1 x20_2).f5)) else ((impl_InRange.f ((rd_T104 l0_1 x20_2).f1) 0 1000000).bind fun t206 => (if t206 = true then ((impl_InRange.f ((rd_T104 l0_1 x20_2).f3) 0 1000000).bind fun t207 => (if t207 = true then (if ((rd_T104 l0_1 x20_2).f4) = 30 then ((impl_InRange.f ((rd_T104 l0_1 x20_2).f5) 1 3).bind fun t208 => (impl_IsValidClaims.j2 k2 x20_2 l0_1 (l0_1.length : Int) x20_2 (!t208) a0_0 l0_1 ((rd_T104 l0_1 x20_2).f0) ((rd_T104 l0_1 x20_2).f1) ((rd_T104 l0_1 x20_2).f2) ((rd_T104 l0_1 x20_2).f3) ((rd_T104 l0_1 x20_2).f4) ((rd_T104 l0_1 x20_2).f5))) else (if ((rd_T104 l0_1 x20_2).f4) = 90 then ((impl_InRange.f ((rd_T104 l0_1 x20_2).f5) 1 3).bind fun t209 => (impl_IsValidClaims.j2 k2 x20_2 l0_1 (l0_1.length : Int) x20_2 (!t209) a0_0 l0_1 ((rd_T104 l0_1 x20_2).f0) ((rd_T104 l0_1 x20_2).f1) ((rd_T104 l0_1 x20_2).f2) ((rd_T104 l0_1 x20_2).f3) ((rd_T104 l0_1 x20_2).f4) ((rd_T104 l0_1 x20_2).f5))) else (impl_IsValidClaims.j2 k2 x20_2 l0_1 (l0_1.length : Int) x20_2 true a0_0 l0_1 ((rd_T104 l0_1 x20_2).f0) ((rd_T104 l0_1 x20_2).f1) ((rd_T104 l0_1 x20_2).f2) ((rd_T104 l0_1 x20_2).f3) ((rd_T104 l0_1 x20_2).f4) ((rd_T104 l0_1 x20_2).f5)))) else (impl_IsValidClaims.j2 k2 x20_2 l0_1 (l0_1.length : Int) x20_2 true a0_0 l0_1 ((rd_T104 l0_1 x20_2).f0) ((rd_T104 l0_1 x20_2).f1) ((rd_T104 l0_1 x20_2).f2) ((rd_T104 l0_1 x20_2).f3) ((rd_T104 l0_1 x20_2).f4) ((rd_T104 l0_1 x20_2).f5)))) else (impl_IsValidClaims.j2 k2 x20_2 l0_1 (l0_1.length : Int) x20_2 true a0_0 l0_1 ((rd_T104 l0_1 x20_2).f0) ((rd_T104 l0_1 x20_2).f1) ((rd_T104 l0_1 x20_2).f2) ((rd_T104 l0_1 x20_2).f3) ((rd_T104 l0_1 x20_2).f4) ((rd_T104 l0_1 x20_2).f5))))) else (none)) else (none)) else ((impl_InRange.f ((rd_T104 l0_1 x20_2).f1) 0 1000000).bind fun t210 => (if t210 = true then ((impl_InRange.f ((rd_T104 l0_1 x20_2).f3) 0 1000000).bind fun t211 => (if t211 = true then (if ((rd_T104 l0_1 x20_2).f4) = 30 then ((impl_InRange.f ((rd_T104 l0_1 x20_2).f5) 1 3).bind fun t212 => (impl_IsValidClaims.j2 k2 x20_2 l0_1 (l0_1.length : Int) x20_2 (!t212) a0_0 l0_1 ((rd_T104 l0_1 x20_2).f0) ((rd_T104 l0_1 x20_2).f1) ((rd_T104 l0_1 x20_2).f2) ((rd_T104 l0_1 x20_2).f3) ((rd_T104 l0_1 x20_2).f4) ((rd_T104 l0_1 x20_2).f5))) else (if ((rd_T104 l0_1 x20_2).f4) = 90 then ((impl_InRange.f ((rd_T104 l0_1 x20_2).f5) 1 3).bind fun t213 => (impl_IsValidClaims.j2 k2 x20_2 l0_1 (l0_1.length : Int) x20_2 (!t213) a0_0 l0_1 ((rd_T104 l0_1 x20_2).f0) ((rd_T104 l0_1 x20_2).f1) ((rd_T104 l0_1 x20_2).f2) ((rd_T104 l0_1 x20_2).f3) ((rd_T104 l0_1 x20_2).f4) ((rd_T104 l0_1 x20_2).f5))) else (impl_IsValidClaims.j2 k2 x20_2 l0_1 (l0_1.length : Int) x20_2 true a0_0 l0_1 ((rd_T104 l0_1 x20_2).f0) ((rd_T104 l0_1 x20_2).f1) ((rd_T104 l0_1 x20_2).f2) ((rd_T104 l0_1 x20_2).f3) ((rd_T104 l0_1 x20_2).f4) ((rd_T104 l0_1 x20_2).f5)))) else (impl_IsValidClaims.j2 k2 x20_2 l0_1 (l0_1.length : Int) x20_2 true a0_0 l0_1 ((rd_T104 l0_1 x20_2).f0) ((rd_T104 l0_1 x20_2).f1) ((rd_T104 l0_1 x20_2).f2) ((rd_T104 l0_1 x20_2).f3) ((rd_T104 l0_1 x20_2).f4) ((rd_T104 l0_1 x20_2).f5)))) else (impl_IsValidClaims.j2 k2 x20_2 l0_1 (l0_1.length : Int) x20_2 true a0_0 l0_1 ((rd_T104 l0_1 x20_2).f0) ((rd_T104 l0_1 x20_2).f1) ((rd_T104 l0_1 x20_2).f2) ((rd_T104 l0_1 x20_2).f3) ((rd_T104 l0_1 x20_2).f4) ((rd_T104 l0_1 x20_2).f5))))) = some r := by rw [if_pos rfl] at H; exact H
           clear H
           have H := H1
           clear H1
           by_cases c19 : x20_2 > 0
           ·rw [if_pos c19] at H
            have c19b0 : decide (0 < x20_2) = true := decide_eq_true c19
            clear c19
            (first | rw [c19b0] | (simp only [i64_w, i32_w]; rw [c19b0]) | skip)
            obtain ⟨ji20, hji20⟩ : ∃ j_ : Int, (wrap64 (x20_2 - 1)) = j_ := ⟨_, rfl⟩
            replace H : (if 0 ≤ (ji20) then (if (ji20) < (l0_1.length : Int) then (if ((rd_T104 l0_1 (ji20)).f0) ≥ ((rd_T104 l0_1 x20_2).f0) then (impl_IsValidClaims.j2 k2 x20_2 l0_1 (l0_1.length : Int) x20_2 true a0_0 l0_1 ((rd_T104 l0_1 x20_2).f0) ((rd_T104 l0_1 x20_2).f1) ((rd_T104 l0_1 x20_2).f2) ((rd_T104 l0_1 x20_2).f3) ((rd_T104 l0_1 x20_2).f4) ((rd_T104 l0_1 x20_2).f5)) else ((impl_InRange.f ((rd_T104 l0_1 x20_2).f1) 0 1000000).bind fun t206 => (if t206 = true then ((impl_InRange.f ((rd_T104 l0_1 x20_2).f3) 0 1000000).bind fun t207 => (if t207 = true then (if ((rd_T104 l0_1 x20_2).f4) = 30 then ((impl_InRange.f ((rd_T104 l0_1 x20_2).f5) 1 3).bind fun t208 => (impl_IsValidClaims.j2 k2 x20_2 l0_1 (l0_1.length : Int) x20_2 (!t208) a0_0 l0_1 ((rd_T104 l0_1 x20_2).f0) ((rd_T104 l0_1 x20_2).f1) ((rd_T104 l0_1 x20_2).f2) ((rd_T104 l0_1 x20_2).f3) ((rd_T104 l0_1 x20_2).f4) ((rd_T104 l0_1 x20_2).f5))) else (if ((rd_T104 l0_1 x20_2).f4) = 90 then ((impl_InRange.f ((rd_T104 l0_1 x20_2).f5) 1 3).bind fun t209 => (impl_IsValidClaims.j2 k2 x20_2 l0_1 (l0_1.length : Int) x20_2 (!t209) a0_0 l0_1 ((rd_T104 l0_1 x20_2).f0) ((rd_T104 l0_1 x20_2).f1) ((rd_T104 l0_1 x20_2).f2) ((rd_T104 l0_1 x20_2).f3) ((rd_T104 l0_1 x20_2).f4) ((rd_T104 l0_1 x20_2).f5))) else (impl_IsValidClaims.j2 k2 x20_2 l0_1 (l0_1.length : Int) x20_2 true a0_0 l0_1 ((rd_T104 l0_1 x20_2).f0) ((rd_T104 l0_1 x20_2).f1) ((rd_T104 l0_1 x20_2).f2) ((rd_T104 l0_1 x20_2).f3) ((rd_T104 l0_1 x20_2).f4) ((rd_T104 l0_1 x20_2).f5)))) else (impl_IsValidClaims.j2 k2 x20_2 l0_1 (l0_1.length : Int) x20_2 true a0_0 l0_1 ((rd_T104 l0_1 x20_2).f0) ((rd_T104 l0_1 x20_2).f1) ((rd_T104 l0_1 x20_2).f2) ((rd_T104 l0_1 x20_2).f3) ((rd_T104 l0_1 x20_2).f4) ((rd_T104 l0_1 x20_2).f5)))) else (impl_IsValidClaims.j2 k2 x20_2 l0_1 (l0_1.length : Int) x20_2 true a0_0 l0_1 ((rd_T104 l0_1 x20_2).f0) ((rd_T104 l0_1 x20_2).f1) ((rd_T104 l0_1 x20_2).f2) ((rd_T104 l0_1 x20_2).f3) ((rd_T104 l0_1 x20_2).f4) ((rd_T104 l0_1 x20_2).f5))))) else (none)) else (none)) = some r := by first | (rw [hji20] at H; exact H) | (simp only [hji20] at H ⊢; exact H)
            (try rw [hji20] at A17)
            have hji20w : (IntKind.i64.wrap (x20_2 - 1)) = ji20 := (i64_w _).trans hji20
            by_cases c21 : 0 ≤ (ji20)
            ·rw [if_pos c21] at H
             have c21b0 : decide (0 ≤ (ji20)) = true := decide_eq_true c21
             clear c21
             by_cases c22 : (ji20) < (l0_1.length : Int)
             ·rw [if_pos c22] at H
              have c22b0 : decide ((ji20) < (l0_1.length : Int)) = true := decide_eq_true c22
              clear c22
              by_cases c23 : ((rd_T104 l0_1 (ji20)).f0) ≥ ((rd_T104 l0_1 x20_2).f0)
              ·rw [if_pos c23] at H
               have c23b0 : decide (((rd_T104 l0_1 x20_2).f0) ≤ ((rd_T104 l0_1 (ji20)).f0)) = true := decide_eq_true c23
               clear c23
               have H' := Aside0.mk H
               clear H
               have hnb24 := NB203_200.out
               have hnc24 := NB200_203.out
               obtain ⟨hcz25_0, hcz25_1, hcz25_2, hcz25_3, hcz25_4, hcz25_5, hfz25_0, hfz25_1, hfz25_2, hfz25_3, hfz25_4, hfz25_5⟩ := bc6 BK203.out
               obtain ⟨hcz26_0, hcz26_1, hfz26_0, hfz26_1⟩ := bc2 BK200.out
               go_wp2_with (first | (go_at_call 82; (with_reducible refine (impl_InRange.calls ((rd_T104 l0_1 x20_2).f0) 0 (wrap64 (a0_0 - 1)) true _ A17.out).mono ?_); rintro e w' ⟨rfl, ⟨nd, rfl⟩⟩; (try exact tQ)))
               have p205 : 0 ≤ ((ji20) : Int) := of_decide_eq_true tA
               have q205 : (ji20) < (l0_1.length : Int) := of_decide_eq_true tA
               obtain ⟨ad205, e205, hx205_0, hx205_1, hx205_2, hx205_3, hx205_4, hx205_5⟩ := at_T104 HR0_1.out (ji20) p205 q205
               obtain rfl : ad202 = ad205 := (by injection e205)
               have hn205_0 : ad202.block ≠ gb203 := Nat.ne_of_lt (Nat.lt_of_lt_of_le (by have := World.block_lt_of_cell? _ _ hx205_0; first | rwa [add_block] at this | exact this) GW203.out)
               have hn205_1 : ad202.block ≠ gb203 := Nat.ne_of_lt (Nat.lt_of_lt_of_le (by have := World.block_lt_of_cell? _ _ hx205_0; first | rwa [add_block] at this | exact this) GW203.out)
               have hn205_2 : ad202.block ≠ gb203 := Nat.ne_of_lt (Nat.lt_of_lt_of_le (by have := World.block_lt_of_cell? _ _ hx205_0; first | rwa [add_block] at this | exact this) GW203.out)
               have hn205_3 : ad202.block ≠ gb203 := Nat.ne_of_lt (Nat.lt_of_lt_of_le (by have := World.block_lt_of_cell? _ _ hx205_0; first | rwa [add_block] at this | exact this) GW203.out)
               have hn205_4 : ad202.block ≠ gb203 := Nat.ne_of_lt (Nat.lt_of_lt_of_le (by have := World.block_lt_of_cell? _ _ hx205_0; first | rwa [add_block] at this | exact this) GW203.out)
               have hn205_5 : ad202.block ≠ gb203 := Nat.ne_of_lt (Nat.lt_of_lt_of_le (by have := World.block_lt_of_cell? _ _ hx205_0; first | rwa [add_block] at this | exact this) GW203.out)
               replace hx205_0 := hbc HB hx205_0
               replace hx205_1 := hbc HB hx205_1
               replace hx205_2 := hbc HB hx205_2
               replace hx205_3 := hbc HB hx205_3
               replace hx205_4 := hbc HB hx205_4
               replace hx205_5 := hbc HB hx205_5
               have F_ := @far6 gb203 (.int .i64 ((rd_T104 l0_1 x20_2).f0)) (.int .i64 ((rd_T104 l0_1 x20_2).f1)) (.int .i64 ((rd_T104 l0_1 x20_2).f2)) (.int .i64 ((rd_T104 l0_1 x20_2).f3)) (.int .i64 ((rd_T104 l0_1 x20_2).f4)) (.int .i64 ((rd_T104 l0_1 x20_2).f5))
               replace hx205_0 := (F_ tF).trans hx205_0
               replace hx205_1 := (F_ tF).trans hx205_1
               replace hx205_2 := (F_ tF).trans hx205_2
               replace hx205_3 := (F_ tF).trans hx205_3
               replace hx205_4 := (F_ tF).trans hx205_4
               replace hx205_5 := (F_ tF).trans hx205_5
               clear F_
               clear hn205_0
               clear hn205_1
               clear hn205_2
               clear hn205_3
               clear hn205_4
               clear hn205_5
               replace p205 := eq_true p205
               replace q205 := eq_true q205
               repeat (go_quiet (first | (go_at_call 82; (with_reducible refine (impl_InRange.calls ((rd_T104 l0_1 x20_2).f0) 0 (wrap64 (a0_0 - 1)) true _ A17.out).mono ?_); rintro e w' ⟨rfl, ⟨nd, rfl⟩⟩; (try exact tQ))); try go_wp2_with (first | (go_at_call 82; (with_reducible refine (impl_InRange.calls ((rd_T104 l0_1 x20_2).f0) 0 (wrap64 (a0_0 - 1)) true _ A17.out).mono ?_); rintro e w' ⟨rfl, ⟨nd, rfl⟩⟩; (try exact tQ))))
               go_meet
               case rel => exact ⟨_, (true), tS, H', ⟨by have := HJ1.out; have := HK2.out; first | omega | exact Nat.le_refl _⟩, ⟨by (with_reducible repeat (first | refine blk_drewN ?_ _ | refine blk_drew ?_ | refine blk_alloc ?_ _)); refine blk_far ?_ NB200_203.out _; (with_reducible repeat (first | refine blk_drewN ?_ _ | refine blk_drew ?_ | refine blk_alloc ?_ _)); refine blk_far ?_ NB200_203.out _; (with_reducible repeat (first | refine blk_drewN ?_ _ | refine blk_drew ?_ | refine blk_alloc ?_ _)); refine blk_far ?_ NB200_203.out _; (with_reducible repeat (first | refine blk_drewN ?_ _ | refine blk_drew ?_ | refine blk_alloc ?_ _)); refine blk_far ?_ NB200_203.out _; (with_reducible repeat (first | refine blk_drewN ?_ _ | refine blk_drew ?_ | refine blk_alloc ?_ _)); refine blk_far ?_ NB200_203.out _; (with_reducible repeat (first | refine blk_drewN ?_ _ | refine blk_drew ?_ | refine blk_alloc ?_ _)); refine blk_far ?_ NB200_203.out _; (with_reducible repeat (first | refine blk_drewN ?_ _ | refine blk_drew ?_ | refine blk_alloc ?_ _)); exact BK200.out⟩, ⟨by (with_reducible repeat (first | refine blk_drewN ?_ _ | refine blk_drew ?_ | refine blk_alloc ?_ _)); refine blk_put (cs := #[.int .i64 ((rd_T104 l0_1 x20_2).f0), .int .i64 ((rd_T104 l0_1 x20_2).f1), .int .i64 ((rd_T104 l0_1 x20_2).f2), .int .i64 ((rd_T104 l0_1 x20_2).f3), .int .i64 ((rd_T104 l0_1 x20_2).f4), .int .i64 0]) ?_ 5 _ rfl; (with_reducible repeat (first | refine blk_drewN ?_ _ | refine blk_drew ?_ | refine blk_alloc ?_ _)); refine blk_put (cs := #[.int .i64 ((rd_T104 l0_1 x20_2).f0), .int .i64 ((rd_T104 l0_1 x20_2).f1), .int .i64 ((rd_T104 l0_1 x20_2).f2), .int .i64 ((rd_T104 l0_1 x20_2).f3), .int .i64 0, .int .i64 0]) ?_ 4 _ rfl; (with_reducible repeat (first | refine blk_drewN ?_ _ | refine blk_drew ?_ | refine blk_alloc ?_ _)); refine blk_put (cs := #[.int .i64 ((rd_T104 l0_1 x20_2).f0), .int .i64 ((rd_T104 l0_1 x20_2).f1), .int .i64 ((rd_T104 l0_1 x20_2).f2), .int .i64 0, .int .i64 0, .int .i64 0]) ?_ 3 _ rfl; (with_reducible repeat (first | refine blk_drewN ?_ _ | refine blk_drew ?_ | refine blk_alloc ?_ _)); refine blk_put (cs := #[.int .i64 ((rd_T104 l0_1 x20_2).f0), .int .i64 ((rd_T104 l0_1 x20_2).f1), .int .i64 0, .int .i64 0, .int .i64 0, .int .i64 0]) ?_ 2 _ rfl; (with_reducible repeat (first | refine blk_drewN ?_ _ | refine blk_drew ?_ | refine blk_alloc ?_ _)); refine blk_put (cs := #[.int .i64 ((rd_T104 l0_1 x20_2).f0), .int .i64 0, .int .i64 0, .int .i64 0, .int .i64 0, .int .i64 0]) ?_ 1 _ rfl; (with_reducible repeat (first | refine blk_drewN ?_ _ | refine blk_drew ?_ | refine blk_alloc ?_ _)); refine blk_put (cs := #[.int .i64 0, .int .i64 0, .int .i64 0, .int .i64 0, .int .i64 0, .int .i64 0]) ?_ 0 _ rfl; (with_reducible repeat (first | refine blk_drewN ?_ _ | refine blk_drew ?_ | refine blk_alloc ?_ _)); exact BK203.out⟩, ⟨tB⟩⟩
              ·rw [if_neg c23] at H
               have c23b0 : decide (((rd_T104 l0_1 x20_2).f0) ≤ ((rd_T104 l0_1 (ji20)).f0)) = false := decide_eq_false c23
               clear c23
               replace H := Option.bind_eq_some_iff.mp H
               obtain ⟨t206, A270, H⟩ := H
               replace H : (if t206 = true then ((impl_InRange.f ((rd_T104 l0_1 x20_2).f3) 0 1000000).bind fun t207 => (if t207 = true then (if ((rd_T104 l0_1 x20_2).f4) = 30 then ((impl_InRange.f ((rd_T104 l0_1 x20_2).f5) 1 3).bind fun t208 => (impl_IsValidClaims.j2 k2 x20_2 l0_1 (l0_1.length : Int) x20_2 (!t208) a0_0 l0_1 ((rd_T104 l0_1 x20_2).f0) ((rd_T104 l0_1 x20_2).f1) ((rd_T104 l0_1 x20_2).f2) ((rd_T104 l0_1 x20_2).f3) ((rd_T104 l0_1 x20_2).f4) ((rd_T104 l0_1 x20_2).f5))) else (if ((rd_T104 l0_1 x20_2).f4) = 90 then ((impl_InRange.f ((rd_T104 l0_1 x20_2).f5) 1 3).bind fun t209 => (impl_IsValidClaims.j2 k2 x20_2 l0_1 (l0_1.length : Int) x20_2 (!t209) a0_0 l0_1 ((rd_T104 l0_1 x20_2).f0) ((rd_T104 l0_1 x20_2).f1) ((rd_T104 l0_1 x20_2).f2) ((rd_T104 l0_1 x20_2).f3) ((rd_T104 l0_1 x20_2).f4) ((rd_T104 l0_1 x20_2).f5))) else (impl_IsValidClaims.j2 k2 x20_2 l0_1 (l0_1.length : Int) x20_2 true a0_0 l0_1 ((rd_T104 l0_1 x20_2).f0) ((rd_T104 l0_1 x20_2).f1) ((rd_T104 l0_1 x20_2).f2) ((rd_T104 l0_1 x20_2).f3) ((rd_T104 l0_1 x20_2).f4) ((rd_T104 l0_1 x20_2).f5)))) else (impl_IsValidClaims.j2 k2 x20_2 l0_1 (l0_1.length : Int) x20_2 true a0_0 l0_1 ((rd_T104 l0_1 x20_2).f0) ((rd_T104 l0_1 x20_2).f1) ((rd_T104 l0_1 x20_2).f2) ((rd_T104 l0_1 x20_2).f3) ((rd_T104 l0_1 x20_2).f4) ((rd_T104 l0_1 x20_2).f5)))) else (impl_IsValidClaims.j2 k2 x20_2 l0_1 (l0_1.length : Int) x20_2 true a0_0 l0_1 ((rd_T104 l0_1 x20_2).f0) ((rd_T104 l0_1 x20_2).f1) ((rd_T104 l0_1 x20_2).f2) ((rd_T104 l0_1 x20_2).f3) ((rd_T104 l0_1 x20_2).f4) ((rd_T104 l0_1 x20_2).f5))) = some r := H
               have A27 := Aside0.mk A270
               clear A270
               by_cases c28 : t206 = true
               ·subst c28
                have H1 : ((impl_InRange.f ((rd_T104 l0_1 x20_2).f3) 0 1000000).bind fun t207 => (if t207 = true then (if ((rd_T104 l0_1 x20_2).f4) = 30 then ((impl_InRange.f ((rd_T104 l0_1 x20_2).f5) 1 3).bind fun t208 => (impl_IsValidClaims.j2 k2 x20_2 l0_1 (l0_1.length : Int) x20_2 (!t208) a0_0 l0_1 ((rd_T104 l0_1 x20_2).f0) ((rd_T104 l0_1 x20_2).f1) ((rd_T104 l0_1 x20_2).f2) ((rd_T104 l0_1 x20_2).f3) ((rd_T104 l0_1 x20_2).f4) ((rd_T104 l0_1 x20_2).f5))) else (if ((rd_T104 l0_1 x20_2).f4) = 90 then ((impl_InRange.f ((rd_T104 l0_1 x20_2).f5) 1 3).bind fun t209 => (impl_IsValidClaims.j2 k2 x20_2 l0_1 (l0_1.length : Int) x20_2 (!t209) a0_0 l0_1 ((rd_T104 l0_1 x20_2).f0) ((rd_T104 l0_1 x20_2).f1) ((rd_T104 l0_1 x20_2).f2) ((rd_T104 l0_1 x20_2).f3) ((rd_T104 l0_1 x20_2).f4) ((rd_T104 l0_1 x20_2).f5))) else (impl_IsValidClaims.j2 k2 x20_2 l0_1 (l0_1.length : Int) x20_2 true a0_0 l0_1 ((rd_T104 l0_1 x20_2).f0) ((rd_T104 l0_1 x20_2).f1) ((rd_T104 l0_1 x20_2).f2) ((rd_T104 l0_1 x20_2).f3) ((rd_T104 l0_1 x20_2).f4) ((rd_T104 l0_1 x20_2).f5)))) else (impl_IsValidClaims.j2 k2 x20_2 l0_1 (l0_1.length : Int) x20_2 true a0_0 l0_1 ((rd_T104 l0_1 x20_2).f0) ((rd_T104 l0_1 x20_2).f1) ((rd_T104 l0_1 x20_2).f2) ((rd_T104 l0_1 x20_2).f3) ((rd_T104 l0_1 x20_2).f4) ((rd_T104 l0_1 x20_2).f5)))) = some r := by rw [if_pos rfl] at H; exact H
                clear H
                have H := H1
                clear H1
                replace H := Option.bind_eq_some_iff.mp H
                obtain ⟨t207, A290, H⟩ := H
                replace H : (if t207 = true then (if ((rd_T104 l0_1 x20_2).f4) = 30 then ((impl_InRange.f ((rd_T104 l0_1 x20_2).f5) 1 3).bind fun t208 => (impl_IsValidClaims.j2 k2 x20_2 l0_1 (l0_1.length : Int) x20_2 (!t208) a0_0 l0_1 ((rd_T104 l0_1 x20_2).f0) ((rd_T104 l0_1 x20_2).f1) ((rd_T104 l0_1 x20_2).f2) ((rd_T104 l0_1 x20_2).f3) ((rd_T104 l0_1 x20_2).f4) ((rd_T104 l0_1 x20_2).f5))) else (if ((rd_T104 l0_1 x20_2).f4) = 90 then ((impl_InRange.f ((rd_T104 l0_1 x20_2).f5) 1 3).bind fun t209 => (impl_IsValidClaims.j2 k2 x20_2 l0_1 (l0_1.length : Int) x20_2 (!t209) a0_0 l0_1 ((rd_T104 l0_1 x20_2).f0) ((rd_T104 l0_1 x20_2).f1) ((rd_T104 l0_1 x20_2).f2) ((rd_T104 l0_1 x20_2).f3) ((rd_T104 l0_1 x20_2).f4) ((rd_T104 l0_1 x20_2).f5))) else (impl_IsValidClaims.j2 k2 x20_2 l0_1 (l0_1.length : Int) x20_2 true a0_0 l0_1 ((rd_T104 l0_1 x20_2).f0) ((rd_T104 l0_1 x20_2).f1) ((rd_T104 l0_1 x20_2).f2) ((rd_T104 l0_1 x20_2).f3) ((rd_T104 l0_1 x20_2).f4) ((rd_T104 l0_1 x20_2).f5)))) else (impl_IsValidClaims.j2 k2 x20_2 l0_1 (l0_1.length : Int) x20_2 true a0_0 l0_1 ((rd_T104 l0_1 x20_2).f0) ((rd_T104 l0_1 x20_2).f1) ((rd_T104 l0_1 x20_2).f2) ((rd_T104 l0_1 x20_2).f3) ((rd_T104 l0_1 x20_2).f4) ((rd_T104 l0_1 x20_2).f5))) = some r := H
                have A29 := Aside0.mk A290
                clear A290
                by_cases c30 : t207 = true
                ·subst c30
                 have H1 : (if ((rd_T104 l0_1 x20_2).f4) = 30 then ((impl_InRange.f ((rd_T104 l0_1 x20_2).f5) 1 3).bind fun t208 => (impl_IsValidClaims.j2 k2 x20_2 l0_1 (l0_1.length : Int) x20_2 (!t208) a0_0 l0_1 ((rd_T104 l0_1 x20_2).f0) ((rd_T104 l0_1 x20_2).f1) ((rd_T104 l0_1 x20_2).f2) ((rd_T104 l0_1 x20_2).f3) ((rd_T104 l0_1 x20_2).f4) ((rd_T104 l0_1 x20_2).f5))) else (if ((rd_T104 l0_1 x20_2).f4) = 90 then ((impl_InRange.f ((rd_T104 l0_1 x20_2).f5) 1 3).bind fun t209 => (impl_IsValidClaims.j2 k2 x20_2 l0_1 (l0_1.length : Int) x20_2 (!t209) a0_0 l0_1 ((rd_T104 l0_1 x20_2).f0) ((rd_T104 l0_1 x20_2).f1) ((rd_T104 l0_1 x20_2).f2) ((rd_T104 l0_1 x20_2).f3) ((rd_T104 l0_1 x20_2).f4) ((rd_T104 l0_1 x20_2).f5))) else (impl_IsValidClaims.j2 k2 x20_2 l0_1 (l0_1.length : Int) x20_2 true a0_0 l0_1 ((rd_T104 l0_1 x20_2).f0) ((rd_T104 l0_1 x20_2).f1) ((rd_T104 l0_1 x20_2).f2) ((rd_T104 l0_1 x20_2).f3) ((rd_T104 l0_1 x20_2).f4) ((rd_T104 l0_1 x20_2).f5)))) = some r := by rw [if_pos rfl] at H; exact H
                 clear H
                 have H := H1
                 clear H1
                 by_cases c31 : ((rd_T104 l0_1 x20_2).f4) = 30
                 ·rw [if_pos c31] at H
                  have c31b0 : (((rd_T104 l0_1 x20_2).f4) == 30) = true := beq_iff_eq.mpr c31
                  have c31b1 : (((rd_T104 l0_1 x20_2).f4) != 30) = false := bne_eq_false_iff_eq.mpr c31
                  clear c31
                  replace H := Option.bind_eq_some_iff.mp H
                  obtain ⟨t208, A320, H⟩ := H
                  replace H : (impl_IsValidClaims.j2 k2 x20_2 l0_1 (l0_1.length : Int) x20_2 (!t208) a0_0 l0_1 ((rd_T104 l0_1 x20_2).f0) ((rd_T104 l0_1 x20_2).f1) ((rd_T104 l0_1 x20_2).f2) ((rd_T104 l0_1 x20_2).f3) ((rd_T104 l0_1 x20_2).f4) ((rd_T104 l0_1 x20_2).f5)) = some r := H
                  have A32 := Aside0.mk A320
                  clear A320
                  have H' := Aside0.mk H
                  clear H
                  have hnb33 := NB203_200.out
                  have hnc33 := NB200_203.out
                  obtain ⟨hcz34_0, hcz34_1, hcz34_2, hcz34_3, hcz34_4, hcz34_5, hfz34_0, hfz34_1, hfz34_2, hfz34_3, hfz34_4, hfz34_5⟩ := bc6 BK203.out
                  obtain ⟨hcz35_0, hcz35_1, hfz35_0, hfz35_1⟩ := bc2 BK200.out
                  go_wp2_with (first | (go_at_call 82; (with_reducible refine (impl_InRange.calls ((rd_T104 l0_1 x20_2).f0) 0 (wrap64 (a0_0 - 1)) true _ A17.out).mono ?_); rintro e w' ⟨rfl, ⟨nd, rfl⟩⟩; (try exact tQ)) | (go_at_call 82; (with_reducible refine (impl_InRange.calls ((rd_T104 l0_1 x20_2).f1) 0 1000000 true _ A27.out).mono ?_); rintro e w' ⟨rfl, ⟨nd, rfl⟩⟩; (try exact tQ)) | (go_at_call 82; (with_reducible refine (impl_InRange.calls ((rd_T104 l0_1 x20_2).f3) 0 1000000 true _ A29.out).mono ?_); rintro e w' ⟨rfl, ⟨nd, rfl⟩⟩; (try exact tQ)) | (go_at_call 82; (with_reducible refine (impl_InRange.calls ((rd_T104 l0_1 x20_2).f5) 1 3 t208 _ A32.out).mono ?_); rintro e w' ⟨rfl, ⟨nd, rfl⟩⟩; (try exact tQ)))
                  have p205 : 0 ≤ ((ji20) : Int) := of_decide_eq_true tA
                  have q205 : (ji20) < (l0_1.length : Int) := of_decide_eq_true tA
                  obtain ⟨ad205, e205, hx205_0, hx205_1, hx205_2, hx205_3, hx205_4, hx205_5⟩ := at_T104 HR0_1.out (ji20) p205 q205
                  obtain rfl : ad202 = ad205 := (by injection e205)
                  have hn205_0 : ad202.block ≠ gb203 := Nat.ne_of_lt (Nat.lt_of_lt_of_le (by have := World.block_lt_of_cell? _ _ hx205_0; first | rwa [add_block] at this | exact this) GW203.out)
                  have hn205_1 : ad202.block ≠ gb203 := Nat.ne_of_lt (Nat.lt_of_lt_of_le (by have := World.block_lt_of_cell? _ _ hx205_0; first | rwa [add_block] at this | exact this) GW203.out)
                  have hn205_2 : ad202.block ≠ gb203 := Nat.ne_of_lt (Nat.lt_of_lt_of_le (by have := World.block_lt_of_cell? _ _ hx205_0; first | rwa [add_block] at this | exact this) GW203.out)
                  have hn205_3 : ad202.block ≠ gb203 := Nat.ne_of_lt (Nat.lt_of_lt_of_le (by have := World.block_lt_of_cell? _ _ hx205_0; first | rwa [add_block] at this | exact this) GW203.out)
                  have hn205_4 : ad202.block ≠ gb203 := Nat.ne_of_lt (Nat.lt_of_lt_of_le (by have := World.block_lt_of_cell? _ _ hx205_0; first | rwa [add_block] at this | exact this) GW203.out)
                  have hn205_5 : ad202.block ≠ gb203 := Nat.ne_of_lt (Nat.lt_of_lt_of_le (by have := World.block_lt_of_cell? _ _ hx205_0; first | rwa [add_block] at this | exact this) GW203.out)
                  replace hx205_0 := hbc HB hx205_0
                  replace hx205_1 := hbc HB hx205_1
                  replace hx205_2 := hbc HB hx205_2
                  replace hx205_3 := hbc HB hx205_3
                  replace hx205_4 := hbc HB hx205_4
                  replace hx205_5 := hbc HB hx205_5
                  have F_ := @far6 gb203 (.int .i64 ((rd_T104 l0_1 x20_2).f0)) (.int .i64 ((rd_T104 l0_1 x20_2).f1)) (.int .i64 ((rd_T104 l0_1 x20_2).f2)) (.int .i64 ((rd_T104 l0_1 x20_2).f3)) (.int .i64 ((rd_T104 l0_1 x20_2).f4)) (.int .i64 ((rd_T104 l0_1 x20_2).f5))
                  replace hx205_0 := (F_ tF).trans hx205_0
                  replace hx205_1 := (F_ tF).trans hx205_1
                  replace hx205_2 := (F_ tF).trans hx205_2
                  replace hx205_3 := (F_ tF).trans hx205_3
                  replace hx205_4 := (F_ tF).trans hx205_4
                  replace hx205_5 := (F_ tF).trans hx205_5
                  clear F_
                  clear hn205_0
                  clear hn205_1
                  clear hn205_2
                  clear hn205_3
                  clear hn205_4
                  clear hn205_5
                  replace p205 := eq_true p205
                  replace q205 := eq_true q205
                  repeat (go_quiet (first | (go_at_call 82; (with_reducible refine (impl_InRange.calls ((rd_T104 l0_1 x20_2).f0) 0 (wrap64 (a0_0 - 1)) true _ A17.out).mono ?_); rintro e w' ⟨rfl, ⟨nd, rfl⟩⟩; (try exact tQ)) | (go_at_call 82; (with_reducible refine (impl_InRange.calls ((rd_T104 l0_1 x20_2).f1) 0 1000000 true _ A27.out).mono ?_); rintro e w' ⟨rfl, ⟨nd, rfl⟩⟩; (try exact tQ)) | (go_at_call 82; (with_reducible refine (impl_InRange.calls ((rd_T104 l0_1 x20_2).f3) 0 1000000 true _ A29.out).mono ?_); rintro e w' ⟨rfl, ⟨nd, rfl⟩⟩; (try exact tQ)) | (go_at_call 82; (with_reducible refine (impl_InRange.calls ((rd_T104 l0_1 x20_2).f5) 1 3 t208 _ A32.out).mono ?_); rintro e w' ⟨rfl, ⟨nd, rfl⟩⟩; (try exact tQ))); try go_wp2_with (first | (go_at_call 82; (with_reducible refine (impl_InRange.calls ((rd_T104 l0_1 x20_2).f0) 0 (wrap64 (a0_0 - 1)) true _ A17.out).mono ?_); rintro e w' ⟨rfl, ⟨nd, rfl⟩⟩; (try exact tQ)) | (go_at_call 82; (with_reducible refine (impl_InRange.calls ((rd_T104 l0_1 x20_2).f1) 0 1000000 true _ A27.out).mono ?_); rintro e w' ⟨rfl, ⟨nd, rfl⟩⟩; (try exact tQ)) | (go_at_call 82; (with_reducible refine (impl_InRange.calls ((rd_T104 l0_1 x20_2).f3) 0 1000000 true _ A29.out).mono ?_); rintro e w' ⟨rfl, ⟨nd, rfl⟩⟩; (try exact tQ)) | (go_at_call 82; (with_reducible refine (impl_InRange.calls ((rd_T104 l0_1 x20_2).f5) 1 3 t208 _ A32.out).mono ?_); rintro e w' ⟨rfl, ⟨nd, rfl⟩⟩; (try exact tQ))))
                  go_meet
                  case rel => exact ⟨_, (!t208), tS, H', ⟨by have := HJ1.out; have := HK2.out; first | omega | exact Nat.le_refl _⟩, ⟨by (with_reducible repeat (first | refine blk_drewN ?_ _ | refine blk_drew ?_ | refine blk_alloc ?_ _)); refine blk_far ?_ NB200_203.out _; (with_reducible repeat (first | refine blk_drewN ?_ _ | refine blk_drew ?_ | refine blk_alloc ?_ _)); refine blk_far ?_ NB200_203.out _; (with_reducible repeat (first | refine blk_drewN ?_ _ | refine blk_drew ?_ | refine blk_alloc ?_ _)); refine blk_far ?_ NB200_203.out _; (with_reducible repeat (first | refine blk_drewN ?_ _ | refine blk_drew ?_ | refine blk_alloc ?_ _)); refine blk_far ?_ NB200_203.out _; (with_reducible repeat (first | refine blk_drewN ?_ _ | refine blk_drew ?_ | refine blk_alloc ?_ _)); refine blk_far ?_ NB200_203.out _; (with_reducible repeat (first | refine blk_drewN ?_ _ | refine blk_drew ?_ | refine blk_alloc ?_ _)); refine blk_far ?_ NB200_203.out _; (with_reducible repeat (first | refine blk_drewN ?_ _ | refine blk_drew ?_ | refine blk_alloc ?_ _)); exact BK200.out⟩, ⟨by (with_reducible repeat (first | refine blk_drewN ?_ _ | refine blk_drew ?_ | refine blk_alloc ?_ _)); refine blk_put (cs := #[.int .i64 ((rd_T104 l0_1 x20_2).f0), .int .i64 ((rd_T104 l0_1 x20_2).f1), .int .i64 ((rd_T104 l0_1 x20_2).f2), .int .i64 ((rd_T104 l0_1 x20_2).f3), .int .i64 ((rd_T104 l0_1 x20_2).f4), .int .i64 0]) ?_ 5 _ rfl; (with_reducible repeat (first | refine blk_drewN ?_ _ | refine blk_drew ?_ | refine blk_alloc ?_ _)); refine blk_put (cs := #[.int .i64 ((rd_T104 l0_1 x20_2).f0), .int .i64 ((rd_T104 l0_1 x20_2).f1), .int .i64 ((rd_T104 l0_1 x20_2).f2), .int .i64 ((rd_T104 l0_1 x20_2).f3), .int .i64 0, .int .i64 0]) ?_ 4 _ rfl; (with_reducible repeat (first | refine blk_drewN ?_ _ | refine blk_drew ?_ | refine blk_alloc ?_ _)); refine blk_put (cs := #[.int .i64 ((rd_T104 l0_1 x20_2).f0), .int .i64 ((rd_T104 l0_1 x20_2).f1), .int .i64 ((rd_T104 l0_1 x20_2).f2), .int .i64 0, .int .i64 0, .int .i64 0]) ?_ 3 _ rfl; (with_reducible repeat (first | refine blk_drewN ?_ _ | refine blk_drew ?_ | refine blk_alloc ?_ _)); refine blk_put (cs := #[.int .i64 ((rd_T104 l0_1 x20_2).f0), .int .i64 ((rd_T104 l0_1 x20_2).f1), .int .i64 0, .int .i64 0, .int .i64 0, .int .i64 0]) ?_ 2 _ rfl; (with_reducible repeat (first | refine blk_drewN ?_ _ | refine blk_drew ?_ | refine blk_alloc ?_ _)); refine blk_put (cs := #[.int .i64 ((rd_T104 l0_1 x20_2).f0), .int .i64 0, .int .i64 0, .int .i64 0, .int .i64 0, .int .i64 0]) ?_ 1 _ rfl; (with_reducible repeat (first | refine blk_drewN ?_ _ | refine blk_drew ?_ | refine blk_alloc ?_ _)); refine blk_put (cs := #[.int .i64 0, .int .i64 0, .int .i64 0, .int .i64 0, .int .i64 0, .int .i64 0]) ?_ 0 _ rfl; (with_reducible repeat (first | refine blk_drewN ?_ _ | refine blk_drew ?_ | refine blk_alloc ?_ _)); exact BK203.out⟩, ⟨tB⟩⟩
                 ·rw [if_neg c31] at H
                  have c31b0 : (((rd_T104 l0_1 x20_2).f4) == 30) = false := beq_eq_false_iff_ne.mpr c31
                  have c31b1 : (((rd_T104 l0_1 x20_2).f4) != 30) = true := bne_iff_ne.mpr c31
                  by_cases c36 : ((rd_T104 l0_1 x20_2).f4) = 90
                  ·rw [if_pos c36] at H
                   have c36b0 : (((rd_T104 l0_1 x20_2).f4) == 90) = true := beq_iff_eq.mpr c36
                   have c36b1 : (((rd_T104 l0_1 x20_2).f4) != 90) = false := bne_eq_false_iff_eq.mpr c36
                   clear c36
                   replace H := Option.bind_eq_some_iff.mp H
                   obtain ⟨t209, A370, H⟩ := H
                   replace H : (impl_IsValidClaims.j2 k2 x20_2 l0_1 (l0_1.length : Int) x20_2 (!t209) a0_0 l0_1 ((rd_T104 l0_1 x20_2).f0) ((rd_T104 l0_1 x20_2).f1) ((rd_T104 l0_1 x20_2).f2) ((rd_T104 l0_1 x20_2).f3) ((rd_T104 l0_1 x20_2).f4) ((rd_T104 l0_1 x20_2).f5)) = some r := H
                   have A37 := Aside0.mk A370
                   clear A370
                   have H' := Aside0.mk H
                   clear H
                   have hnb38 := NB203_200.out
                   have hnc38 := NB200_203.out
                   obtain ⟨hcz39_0, hcz39_1, hcz39_2, hcz39_3, hcz39_4, hcz39_5, hfz39_0, hfz39_1, hfz39_2, hfz39_3, hfz39_4, hfz39_5⟩ := bc6 BK203.out
                   obtain ⟨hcz40_0, hcz40_1, hfz40_0, hfz40_1⟩ := bc2 BK200.out
                   go_wp2_with (first | (go_at_call 82; (with_reducible refine (impl_InRange.calls ((rd_T104 l0_1 x20_2).f0) 0 (wrap64 (a0_0 - 1)) true _ A17.out).mono ?_); rintro e w' ⟨rfl, ⟨nd, rfl⟩⟩; (try exact tQ)) | (go_at_call 82; (with_reducible refine (impl_InRange.calls ((rd_T104 l0_1 x20_2).f1) 0 1000000 true _ A27.out).mono ?_); rintro e w' ⟨rfl, ⟨nd, rfl⟩⟩; (try exact tQ)) | (go_at_call 82; (with_reducible refine (impl_InRange.calls ((rd_T104 l0_1 x20_2).f3) 0 1000000 true _ A29.out).mono ?_); rintro e w' ⟨rfl, ⟨nd, rfl⟩⟩; (try exact tQ)) | (go_at_call 82; (with_reducible refine (impl_InRange.calls ((rd_T104 l0_1 x20_2).f5) 1 3 t209 _ A37.out).mono ?_); rintro e w' ⟨rfl, ⟨nd, rfl⟩⟩; (try exact tQ)))
                   have p205 : 0 ≤ ((ji20) : Int) := of_decide_eq_true tA
                   have q205 : (ji20) < (l0_1.length : Int) := of_decide_eq_true tA
                   obtain ⟨ad205, e205, hx205_0, hx205_1, hx205_2, hx205_3, hx205_4, hx205_5⟩ := at_T104 HR0_1.out (ji20) p205 q205
                   obtain rfl : ad202 = ad205 := (by injection e205)
                   have hn205_0 : ad202.block ≠ gb203 := Nat.ne_of_lt (Nat.lt_of_lt_of_le (by have := World.block_lt_of_cell? _ _ hx205_0; first | rwa [add_block] at this | exact this) GW203.out)
                   have hn205_1 : ad202.block ≠ gb203 := Nat.ne_of_lt (Nat.lt_of_lt_of_le (by have := World.block_lt_of_cell? _ _ hx205_0; first | rwa [add_block] at this | exact this) GW203.out)
                   have hn205_2 : ad202.block ≠ gb203 := Nat.ne_of_lt (Nat.lt_of_lt_of_le (by have := World.block_lt_of_cell? _ _ hx205_0; first | rwa [add_block] at this | exact this) GW203.out)
                   have hn205_3 : ad202.block ≠ gb203 := Nat.ne_of_lt (Nat.lt_of_lt_of_le (by have := World.block_lt_of_cell? _ _ hx205_0; first | rwa [add_block] at this | exact this) GW203.out)
                   have hn205_4 : ad202.block ≠ gb203 := Nat.ne_of_lt (Nat.lt_of_lt_of_le (by have := World.block_lt_of_cell? _ _ hx205_0; first | rwa [add_block] at this | exact this) GW203.out)
                   have hn205_5 : ad202.block ≠ gb203 := Nat.ne_of_lt (Nat.lt_of_lt_of_le (by have := World.block_lt_of_cell? _ _ hx205_0; first | rwa [add_block] at this | exact this) GW203.out)
                   replace hx205_0 := hbc HB hx205_0
                   replace hx205_1 := hbc HB hx205_1
                   replace hx205_2 := hbc HB hx205_2
                   replace hx205_3 := hbc HB hx205_3
                   replace hx205_4 := hbc HB hx205_4
                   replace hx205_5 := hbc HB hx205_5
                   have F_ := @far6 gb203 (.int .i64 ((rd_T104 l0_1 x20_2).f0)) (.int .i64 ((rd_T104 l0_1 x20_2).f1)) (.int .i64 ((rd_T104 l0_1 x20_2).f2)) (.int .i64 ((rd_T104 l0_1 x20_2).f3)) (.int .i64 ((rd_T104 l0_1 x20_2).f4)) (.int .i64 ((rd_T104 l0_1 x20_2).f5))
                   replace hx205_0 := (F_ tF).trans hx205_0
                   replace hx205_1 := (F_ tF).trans hx205_1
                   replace hx205_2 := (F_ tF).trans hx205_2
                   replace hx205_3 := (F_ tF).trans hx205_3
                   replace hx205_4 := (F_ tF).trans hx205_4
                   replace hx205_5 := (F_ tF).trans hx205_5
                   clear F_
                   clear hn205_0
                   clear hn205_1
                   clear hn205_2
                   clear hn205_3
                   clear hn205_4
                   clear hn205_5
                   replace p205 := eq_true p205
                   replace q205 := eq_true q205
                   repeat (go_quiet (first | (go_at_call 82; (with_reducible refine (impl_InRange.calls ((rd_T104 l0_1 x20_2).f0) 0 (wrap64 (a0_0 - 1)) true _ A17.out).mono ?_); rintro e w' ⟨rfl, ⟨nd, rfl⟩⟩; (try exact tQ)) | (go_at_call 82; (with_reducible refine (impl_InRange.calls ((rd_T104 l0_1 x20_2).f1) 0 1000000 true _ A27.out).mono ?_); rintro e w' ⟨rfl, ⟨nd, rfl⟩⟩; (try exact tQ)) | (go_at_call 82; (with_reducible refine (impl_InRange.calls ((rd_T104 l0_1 x20_2).f3) 0 1000000 true _ A29.out).mono ?_); rintro e w' ⟨rfl, ⟨nd, rfl⟩⟩; (try exact tQ)) | (go_at_call 82; (with_reducible refine (impl_InRange.calls ((rd_T104 l0_1 x20_2).f5) 1 3 t209 _ A37.out).mono ?_); rintro e w' ⟨rfl, ⟨nd, rfl⟩⟩; (try exact tQ))); try go_wp2_with (first | (go_at_call 82; (with_reducible refine (impl_InRange.calls ((rd_T104 l0_1 x20_2).f0) 0 (wrap64 (a0_0 - 1)) true _ A17.out).mono ?_); rintro e w' ⟨rfl, ⟨nd, rfl⟩⟩; (try exact tQ)) | (go_at_call 82; (with_reducible refine (impl_InRange.calls ((rd_T104 l0_1 x20_2).f1) 0 1000000 true _ A27.out).mono ?_); rintro e w' ⟨rfl, ⟨nd, rfl⟩⟩; (try exact tQ)) | (go_at_call 82; (with_reducible refine (impl_InRange.calls ((rd_T104 l0_1 x20_2).f3) 0 1000000 true _ A29.out).mono ?_); rintro e w' ⟨rfl, ⟨nd, rfl⟩⟩; (try exact tQ)) | (go_at_call 82; (with_reducible refine (impl_InRange.calls ((rd_T104 l0_1 x20_2).f5) 1 3 t209 _ A37.out).mono ?_); rintro e w' ⟨rfl, ⟨nd, rfl⟩⟩; (try exact tQ))))
                   go_meet
                   case rel => exact ⟨_, (!t209), tS, H', ⟨by have := HJ1.out; have := HK2.out; first | omega | exact Nat.le_refl _⟩, ⟨by (with_reducible repeat (first | refine blk_drewN ?_ _ | refine blk_drew ?_ | refine blk_alloc ?_ _)); refine blk_far ?_ NB200_203.out _; (with_reducible repeat (first | refine blk_drewN ?_ _ | refine blk_drew ?_ | refine blk_alloc ?_ _)); refine blk_far ?_ NB200_203.out _; (with_reducible repeat (first | refine blk_drewN ?_ _ | refine blk_drew ?_ | refine blk_alloc ?_ _)); refine blk_far ?_ NB200_203.out _; (with_reducible repeat (first | refine blk_drewN ?_ _ | refine blk_drew ?_ | refine blk_alloc ?_ _)); refine blk_far ?_ NB200_203.out _; (with_reducible repeat (first | refine blk_drewN ?_ _ | refine blk_drew ?_ | refine blk_alloc ?_ _)); refine blk_far ?_ NB200_203.out _; (with_reducible repeat (first | refine blk_drewN ?_ _ | refine blk_drew ?_ | refine blk_alloc ?_ _)); refine blk_far ?_ NB200_203.out _; (with_reducible repeat (first | refine blk_drewN ?_ _ | refine blk_drew ?_ | refine blk_alloc ?_ _)); exact BK200.out⟩, ⟨by (with_reducible repeat (first | refine blk_drewN ?_ _ | refine blk_drew ?_ | refine blk_alloc ?_ _)); refine blk_put (cs := #[.int .i64 ((rd_T104 l0_1 x20_2).f0), .int .i64 ((rd_T104 l0_1 x20_2).f1), .int .i64 ((rd_T104 l0_1 x20_2).f2), .int .i64 ((rd_T104 l0_1 x20_2).f3), .int .i64 ((rd_T104 l0_1 x20_2).f4), .int .i64 0]) ?_ 5 _ rfl; (with_reducible repeat (first | refine blk_drewN ?_ _ | refine blk_drew ?_ | refine blk_alloc ?_ _)); refine blk_put (cs := #[.int .i64 ((rd_T104 l0_1 x20_2).f0), .int .i64 ((rd_T104 l0_1 x20_2).f1), .int .i64 ((rd_T104 l0_1 x20_2).f2), .int .i64 ((rd_T104 l0_1 x20_2).f3), .int .i64 0, .int .i64 0]) ?_ 4 _ rfl; (with_reducible repeat (first | refine blk_drewN ?_ _ | refine blk_drew ?_ | refine blk_alloc ?_ _)); refine blk_put (cs := #[.int .i64 ((rd_T104 l0_1 x20_2).f0), .int .i64 ((rd_T104 l0_1 x20_2).f1), .int .i64 ((rd_T104 l0_1 x20_2).f2), .int .i64 0, .int .i64 0, .int .i64 0]) ?_ 3 _ rfl; (with_reducible repeat (first | refine blk_drewN ?_ _ | refine blk_drew ?_ | refine blk_alloc ?_ _)); refine blk_put (cs := #[.int .i64 ((rd_T104 l0_1 x20_2).f0), .int .i64 ((rd_T104 l0_1 x20_2).f1), .int .i64 0, .int .i64 0, .int .i64 0, .int .i64 0]) ?_ 2 _ rfl; (with_reducible repeat (first | refine blk_drewN ?_ _ | refine blk_drew ?_ | refine blk_alloc ?_ _)); refine blk_put (cs := #[.int .i64 ((rd_T104 l0_1 x20_2).f0), .int .i64 0, .int .i64 0, .int .i64 0, .int .i64 0, .int .i64 0]) ?_ 1 _ rfl; (with_reducible repeat (first | refine blk_drewN ?_ _ | refine blk_drew ?_ | refine blk_alloc ?_ _)); refine blk_put (cs := #[.int .i64 0, .int .i64 0, .int .i64 0, .int .i64 0, .int .i64 0, .int .i64 0]) ?_ 0 _ rfl; (with_reducible repeat (first | refine blk_drewN ?_ _ | refine blk_drew ?_ | refine blk_alloc ?_ _)); exact BK203.out⟩, ⟨tB⟩⟩
                  ·rw [if_neg c36] at H
                   have c36b0 : (((rd_T104 l0_1 x20_2).f4) == 90) = false := beq_eq_false_iff_ne.mpr c36
                   have c36b1 : (((rd_T104 l0_1 x20_2).f4) != 90) = true := bne_iff_ne.mpr c36
                   have H' := Aside0.mk H
                   clear H
                   have hnb41 := NB203_200.out
                   have hnc41 := NB200_203.out
                   obtain ⟨hcz42_0, hcz42_1, hcz42_2, hcz42_3, hcz42_4, hcz42_5, hfz42_0, hfz42_1, hfz42_2, hfz42_3, hfz42_4, hfz42_5⟩ := bc6 BK203.out
                   obtain ⟨hcz43_0, hcz43_1, hfz43_0, hfz43_1⟩ := bc2 BK200.out
                   go_wp2_with (first | (go_at_call 82; (with_reducible refine (impl_InRange.calls ((rd_T104 l0_1 x20_2).f0) 0 (wrap64 (a0_0 - 1)) true _ A17.out).mono ?_); rintro e w' ⟨rfl, ⟨nd, rfl⟩⟩; (try exact tQ)) | (go_at_call 82; (with_reducible refine (impl_InRange.calls ((rd_T104 l0_1 x20_2).f1) 0 1000000 true _ A27.out).mono ?_); rintro e w' ⟨rfl, ⟨nd, rfl⟩⟩; (try exact tQ)) | (go_at_call 82; (with_reducible refine (impl_InRange.calls ((rd_T104 l0_1 x20_2).f3) 0 1000000 true _ A29.out).mono ?_); rintro e w' ⟨rfl, ⟨nd, rfl⟩⟩; (try exact tQ)))
                   have p205 : 0 ≤ ((ji20) : Int) := of_decide_eq_true tA
                   have q205 : (ji20) < (l0_1.length : Int) := of_decide_eq_true tA
                   obtain ⟨ad205, e205, hx205_0, hx205_1, hx205_2, hx205_3, hx205_4, hx205_5⟩ := at_T104 HR0_1.out (ji20) p205 q205
                   obtain rfl : ad202 = ad205 := (by injection e205)
                   have hn205_0 : ad202.block ≠ gb203 := Nat.ne_of_lt (Nat.lt_of_lt_of_le (by have := World.block_lt_of_cell? _ _ hx205_0; first | rwa [add_block] at this | exact this) GW203.out)
                   have hn205_1 : ad202.block ≠ gb203 := Nat.ne_of_lt (Nat.lt_of_lt_of_le (by have := World.block_lt_of_cell? _ _ hx205_0; first | rwa [add_block] at this | exact this) GW203.out)
                   have hn205_2 : ad202.block ≠ gb203 := Nat.ne_of_lt (Nat.lt_of_lt_of_le (by have := World.block_lt_of_cell? _ _ hx205_0; first | rwa [add_block] at this | exact this) GW203.out)
                   have hn205_3 : ad202.block ≠ gb203 := Nat.ne_of_lt (Nat.lt_of_lt_of_le (by have := World.block_lt_of_cell? _ _ hx205_0; first | rwa [add_block] at this | exact this) GW203.out)
                   have hn205_4 : ad202.block ≠ gb203 := Nat.ne_of_lt (Nat.lt_of_lt_of_le (by have := World.block_lt_of_cell? _ _ hx205_0; first | rwa [add_block] at this | exact this) GW203.out)
                   have hn205_5 : ad202.block ≠ gb203 := Nat.ne_of_lt (Nat.lt_of_lt_of_le (by have := World.block_lt_of_cell? _ _ hx205_0; first | rwa [add_block] at this | exact this) GW203.out)
                   replace hx205_0 := hbc HB hx205_0
                   replace hx205_1 := hbc HB hx205_1
                   replace hx205_2 := hbc HB hx205_2
                   replace hx205_3 := hbc HB hx205_3
                   replace hx205_4 := hbc HB hx205_4
                   replace hx205_5 := hbc HB hx205_5
                   have F_ := @far6 gb203 (.int .i64 ((rd_T104 l0_1 x20_2).f0)) (.int .i64 ((rd_T104 l0_1 x20_2).f1)) (.int .i64 ((rd_T104 l0_1 x20_2).f2)) (.int .i64 ((rd_T104 l0_1 x20_2).f3)) (.int .i64 ((rd_T104 l0_1 x20_2).f4)) (.int .i64 ((rd_T104 l0_1 x20_2).f5))
                   replace hx205_0 := (F_ tF).trans hx205_0
                   replace hx205_1 := (F_ tF).trans hx205_1
                   replace hx205_2 := (F_ tF).trans hx205_2
                   replace hx205_3 := (F_ tF).trans hx205_3
                   replace hx205_4 := (F_ tF).trans hx205_4
                   replace hx205_5 := (F_ tF).trans hx205_5
                   clear F_
                   clear hn205_0
                   clear hn205_1
                   clear hn205_2
                   clear hn205_3
                   clear hn205_4
                   clear hn205_5
                   replace p205 := eq_true p205
                   replace q205 := eq_true q205
                   repeat (go_quiet (first | (go_at_call 82; (with_reducible refine (impl_InRange.calls ((rd_T104 l0_1 x20_2).f0) 0 (wrap64 (a0_0 - 1)) true _ A17.out).mono ?_); rintro e w' ⟨rfl, ⟨nd, rfl⟩⟩; (try exact tQ)) | (go_at_call 82; (with_reducible refine (impl_InRange.calls ((rd_T104 l0_1 x20_2).f1) 0 1000000 true _ A27.out).mono ?_); rintro e w' ⟨rfl, ⟨nd, rfl⟩⟩; (try exact tQ)) | (go_at_call 82; (with_reducible refine (impl_InRange.calls ((rd_T104 l0_1 x20_2).f3) 0 1000000 true _ A29.out).mono ?_); rintro e w' ⟨rfl, ⟨nd, rfl⟩⟩; (try exact tQ))); try go_wp2_with (first | (go_at_call 82; (with_reducible refine (impl_InRange.calls ((rd_T104 l0_1 x20_2).f0) 0 (wrap64 (a0_0 - 1)) true _ A17.out).mono ?_); rintro e w' ⟨rfl, ⟨nd, rfl⟩⟩; (try exact tQ)) | (go_at_call 82; (with_reducible refine (impl_InRange.calls ((rd_T104 l0_1 x20_2).f1) 0 1000000 true _ A27.out).mono ?_); rintro e w' ⟨rfl, ⟨nd, rfl⟩⟩; (try exact tQ)) | (go_at_call 82; (with_reducible refine (impl_InRange.calls ((rd_T104 l0_1 x20_2).f3) 0 1000000 true _ A29.out).mono ?_); rintro e w' ⟨rfl, ⟨nd, rfl⟩⟩; (try exact tQ))))
                   go_meet
                   case rel => exact ⟨_, (true), tS, H', ⟨by have := HJ1.out; have := HK2.out; first | omega | exact Nat.le_refl _⟩, ⟨by (with_reducible repeat (first | refine blk_drewN ?_ _ | refine blk_drew ?_ | refine blk_alloc ?_ _)); refine blk_far ?_ NB200_203.out _; (with_reducible repeat (first | refine blk_drewN ?_ _ | refine blk_drew ?_ | refine blk_alloc ?_ _)); refine blk_far ?_ NB200_203.out _; (with_reducible repeat (first | refine blk_drewN ?_ _ | refine blk_drew ?_ | refine blk_alloc ?_ _)); refine blk_far ?_ NB200_203.out _; (with_reducible repeat (first | refine blk_drewN ?_ _ | refine blk_drew ?_ | refine blk_alloc ?_ _)); refine blk_far ?_ NB200_203.out _; (with_reducible repeat (first | refine blk_drewN ?_ _ | refine blk_drew ?_ | refine blk_alloc ?_ _)); refine blk_far ?_ NB200_203.out _; (with_reducible repeat (first | refine blk_drewN ?_ _ | refine blk_drew ?_ | refine blk_alloc ?_ _)); refine blk_far ?_ NB200_203.out _; (with_reducible repeat (first | refine blk_drewN ?_ _ | refine blk_drew ?_ | refine blk_alloc ?_ _)); exact BK200.out⟩, ⟨by (with_reducible repeat (first | refine blk_drewN ?_ _ | refine blk_drew ?_ | refine blk_alloc ?_ _)); refine blk_put (cs := #[.int .i64 ((rd_T104 l0_1 x20_2).f0), .int .i64 ((rd_T104 l0_1 x20_2).f1), .int .i64 ((rd_T104 l0_1 x20_2).f2), .int .i64 ((rd_T104 l0_1 x20_2).f3), .int .i64 ((rd_T104 l0_1 x20_2).f4), .int .i64 0]) ?_ 5 _ rfl; (with_reducible repeat (first | refine blk_drewN ?_ _ | refine blk_drew ?_ | refine blk_alloc ?_ _)); refine blk_put (cs := #[.int .i64 ((rd_T104 l0_1 x20_2).f0), .int .i64 ((rd_T104 l0_1 x20_2).f1), .int .i64 ((rd_T104 l0_1 x20_2).f2), .int .i64 ((rd_T104 l0_1 x20_2).f3), .int .i64 0, .int .i64 0]) ?_ 4 _ rfl; (with_reducible repeat (first | refine blk_drewN ?_ _ | refine blk_drew ?_ | refine blk_alloc ?_ _)); refine blk_put (cs := #[.int .i64 ((rd_T104 l0_1 x20_2).f0), .int .i64 ((rd_T104 l0_1 x20_2).f1), .int .i64 ((rd_T104 l0_1 x20_2).f2), .int .i64 0, .int .i64 0, .int .i64 0]) ?_ 3 _ rfl; (with_reducible repeat (first | refine blk_drewN ?_ _ | refine blk_drew ?_ | refine blk_alloc ?_ _)); refine blk_put (cs := #[.int .i64 ((rd_T104 l0_1 x20_2).f0), .int .i64 ((rd_T104 l0_1 x20_2).f1), .int .i64 0, .int .i64 0, .int .i64 0, .int .i64 0]) ?_ 2 _ rfl; (with_reducible repeat (first | refine blk_drewN ?_ _ | refine blk_drew ?_ | refine blk_alloc ?_ _)); refine blk_put (cs := #[.int .i64 ((rd_T104 l0_1 x20_2).f0), .int .i64 0, .int .i64 0, .int .i64 0, .int .i64 0, .int .i64 0]) ?_ 1 _ rfl; (with_reducible repeat (first | refine blk_drewN ?_ _ | refine blk_drew ?_ | refine blk_alloc ?_ _)); refine blk_put (cs := #[.int .i64 0, .int .i64 0, .int .i64 0, .int .i64 0, .int .i64 0, .int .i64 0]) ?_ 0 _ rfl; (with_reducible repeat (first | refine blk_drewN ?_ _ | refine blk_drew ?_ | refine blk_alloc ?_ _)); exact BK203.out⟩, ⟨tB⟩⟩
                ·replace c30 := Bool.eq_false_iff.mpr c30
                 subst c30
                 have H1 : (impl_IsValidClaims.j2 k2 x20_2 l0_1 (l0_1.length : Int) x20_2 true a0_0 l0_1 ((rd_T104 l0_1 x20_2).f0) ((rd_T104 l0_1 x20_2).f1) ((rd_T104 l0_1 x20_2).f2) ((rd_T104 l0_1 x20_2).f3) ((rd_T104 l0_1 x20_2).f4) ((rd_T104 l0_1 x20_2).f5)) = some r := by rw [if_neg (show ¬ (false = true) by decide)] at H; exact H
                 clear H
                 have H := H1
                 clear H1
                 have H' := Aside0.mk H
                 clear H
                 have hnb44 := NB203_200.out
                 have hnc44 := NB200_203.out
                 obtain ⟨hcz45_0, hcz45_1, hcz45_2, hcz45_3, hcz45_4, hcz45_5, hfz45_0, hfz45_1, hfz45_2, hfz45_3, hfz45_4, hfz45_5⟩ := bc6 BK203.out
                 obtain ⟨hcz46_0, hcz46_1, hfz46_0, hfz46_1⟩ := bc2 BK200.out
                 go_wp2_with (first | (go_at_call 82; (with_reducible refine (impl_InRange.calls ((rd_T104 l0_1 x20_2).f0) 0 (wrap64 (a0_0 - 1)) true _ A17.out).mono ?_); rintro e w' ⟨rfl, ⟨nd, rfl⟩⟩; (try exact tQ)) | (go_at_call 82; (with_reducible refine (impl_InRange.calls ((rd_T104 l0_1 x20_2).f1) 0 1000000 true _ A27.out).mono ?_); rintro e w' ⟨rfl, ⟨nd, rfl⟩⟩; (try exact tQ)) | (go_at_call 82; (with_reducible refine (impl_InRange.calls ((rd_T104 l0_1 x20_2).f3) 0 1000000 false _ A29.out).mono ?_); rintro e w' ⟨rfl, ⟨nd, rfl⟩⟩; (try exact tQ)))
                 have p205 : 0 ≤ ((ji20) : Int) := of_decide_eq_true tA
                 have q205 : (ji20) < (l0_1.length : Int) := of_decide_eq_true tA
                 obtain ⟨ad205, e205, hx205_0, hx205_1, hx205_2, hx205_3, hx205_4, hx205_5⟩ := at_T104 HR0_1.out (ji20) p205 q205
                 obtain rfl : ad202 = ad205 := (by injection e205)
                 have hn205_0 : ad202.block ≠ gb203 := Nat.ne_of_lt (Nat.lt_of_lt_of_le (by have := World.block_lt_of_cell? _ _ hx205_0; first | rwa [add_block] at this | exact this) GW203.out)
                 have hn205_1 : ad202.block ≠ gb203 := Nat.ne_of_lt (Nat.lt_of_lt_of_le (by have := World.block_lt_of_cell? _ _ hx205_0; first | rwa [add_block] at this | exact this) GW203.out)
                 have hn205_2 : ad202.block ≠ gb203 := Nat.ne_of_lt (Nat.lt_of_lt_of_le (by have := World.block_lt_of_cell? _ _ hx205_0; first | rwa [add_block] at this | exact this) GW203.out)
                 have hn205_3 : ad202.block ≠ gb203 := Nat.ne_of_lt (Nat.lt_of_lt_of_le (by have := World.block_lt_of_cell? _ _ hx205_0; first | rwa [add_block] at this | exact this) GW203.out)
                 have hn205_4 : ad202.block ≠ gb203 := Nat.ne_of_lt (Nat.lt_of_lt_of_le (by have := World.block_lt_of_cell? _ _ hx205_0; first | rwa [add_block] at this | exact this) GW203.out)
                 have hn205_5 : ad202.block ≠ gb203 := Nat.ne_of_lt (Nat.lt_of_lt_of_le (by have := World.block_lt_of_cell? _ _ hx205_0; first | rwa [add_block] at this | exact this) GW203.out)
                 replace hx205_0 := hbc HB hx205_0
                 replace hx205_1 := hbc HB hx205_1
                 replace hx205_2 := hbc HB hx205_2
                 replace hx205_3 := hbc HB hx205_3
                 replace hx205_4 := hbc HB hx205_4
                 replace hx205_5 := hbc HB hx205_5
                 have F_ := @far6 gb203 (.int .i64 ((rd_T104 l0_1 x20_2).f0)) (.int .i64 ((rd_T104 l0_1 x20_2).f1)) (.int .i64 ((rd_T104 l0_1 x20_2).f2)) (.int .i64 ((rd_T104 l0_1 x20_2).f3)) (.int .i64 ((rd_T104 l0_1 x20_2).f4)) (.int .i64 ((rd_T104 l0_1 x20_2).f5))
                 replace hx205_0 := (F_ tF).trans hx205_0
                 replace hx205_1 := (F_ tF).trans hx205_1
                 replace hx205_2 := (F_ tF).trans hx205_2
                 replace hx205_3 := (F_ tF).trans hx205_3
                 replace hx205_4 := (F_ tF).trans hx205_4
                 replace hx205_5 := (F_ tF).trans hx205_5
                 clear F_
                 clear hn205_0
                 clear hn205_1
                 clear hn205_2
                 clear hn205_3
                 clear hn205_4
                 clear hn205_5
                 replace p205 := eq_true p205
                 replace q205 := eq_true q205
                 repeat (go_quiet (first | (go_at_call 82; (with_reducible refine (impl_InRange.calls ((rd_T104 l0_1 x20_2).f0) 0 (wrap64 (a0_0 - 1)) true _ A17.out).mono ?_); rintro e w' ⟨rfl, ⟨nd, rfl⟩⟩; (try exact tQ)) | (go_at_call 82; (with_reducible refine (impl_InRange.calls ((rd_T104 l0_1 x20_2).f1) 0 1000000 true _ A27.out).mono ?_); rintro e w' ⟨rfl, ⟨nd, rfl⟩⟩; (try exact tQ)) | (go_at_call 82; (with_reducible refine (impl_InRange.calls ((rd_T104 l0_1 x20_2).f3) 0 1000000 false _ A29.out).mono ?_); rintro e w' ⟨rfl, ⟨nd, rfl⟩⟩; (try exact tQ))); try go_wp2_with (first | (go_at_call 82; (with_reducible refine (impl_InRange.calls ((rd_T104 l0_1 x20_2).f0) 0 (wrap64 (a0_0 - 1)) true _ A17.out).mono ?_); rintro e w' ⟨rfl, ⟨nd, rfl⟩⟩; (try exact tQ)) | (go_at_call 82; (with_reducible refine (impl_InRange.calls ((rd_T104 l0_1 x20_2).f1) 0 1000000 true _ A27.out).mono ?_); rintro e w' ⟨rfl, ⟨nd, rfl⟩⟩; (try exact tQ)) | (go_at_call 82; (with_reducible refine (impl_InRange.calls ((rd_T104 l0_1 x20_2).f3) 0 1000000 false _ A29.out).mono ?_); rintro e w' ⟨rfl, ⟨nd, rfl⟩⟩; (try exact tQ))))
                 go_meet
                 case rel => exact ⟨_, (true), tS, H', ⟨by have := HJ1.out; have := HK2.out; first | omega | exact Nat.le_refl _⟩, ⟨by (with_reducible repeat (first | refine blk_drewN ?_ _ | refine blk_drew ?_ | refine blk_alloc ?_ _)); refine blk_far ?_ NB200_203.out _; (with_reducible repeat (first | refine blk_drewN ?_ _ | refine blk_drew ?_ | refine blk_alloc ?_ _)); refine blk_far ?_ NB200_203.out _; (with_reducible repeat (first | refine blk_drewN ?_ _ | refine blk_drew ?_ | refine blk_alloc ?_ _)); refine blk_far ?_ NB200_203.out _; (with_reducible repeat (first | refine blk_drewN ?_ _ | refine blk_drew ?_ | refine blk_alloc ?_ _)); refine blk_far ?_ NB200_203.out _; (with_reducible repeat (first | refine blk_drewN ?_ _ | refine blk_drew ?_ | refine blk_alloc ?_ _)); refine blk_far ?_ NB200_203.out _; (with_reducible repeat (first | refine blk_drewN ?_ _ | refine blk_drew ?_ | refine blk_alloc ?_ _)); refine blk_far ?_ NB200_203.out _; (with_reducible repeat (first | refine blk_drewN ?_ _ | refine blk_drew ?_ | refine blk_alloc ?_ _)); exact BK200.out⟩, ⟨by (with_reducible repeat (first | refine blk_drewN ?_ _ | refine blk_drew ?_ | refine blk_alloc ?_ _)); refine blk_put (cs := #[.int .i64 ((rd_T104 l0_1 x20_2).f0), .int .i64 ((rd_T104 l0_1 x20_2).f1), .int .i64 ((rd_T104 l0_1 x20_2).f2), .int .i64 ((rd_T104 l0_1 x20_2).f3), .int .i64 ((rd_T104 l0_1 x20_2).f4), .int .i64 0]) ?_ 5 _ rfl; (with_reducible repeat (first | refine blk_drewN ?_ _ | refine blk_drew ?_ | refine blk_alloc ?_ _)); refine blk_put (cs := #[.int .i64 ((rd_T104 l0_1 x20_2).f0), .int .i64 ((rd_T104 l0_1 x20_2).f1), .int .i64 ((rd_T104 l0_1 x20_2).f2), .int .i64 ((rd_T104 l0_1 x20_2).f3), .int .i64 0, .int .i64 0]) ?_ 4 _ rfl; (with_reducible repeat (first | refine blk_drewN ?_ _ | refine blk_drew ?_ | refine blk_alloc ?_ _)); refine blk_put (cs := #[.int .i64 ((rd_T104 l0_1 x20_2).f0), .int .i64 ((rd_T104 l0_1 x20_2).f1), .int .i64 ((rd_T104 l0_1 x20_2).f2), .int .i64 0, .int .i64 0, .int .i64 0]) ?_ 3 _ rfl; (with_reducible repeat (first | refine blk_drewN ?_ _ | refine blk_drew ?_ | refine blk_alloc ?_ _)); refine blk_put (cs := #[.int .i64 ((rd_T104 l0_1 x20_2).f0), .int .i64 ((rd_T104 l0_1 x20_2).f1), .int .i64 0, .int .i64 0, .int .i64 0, .int .i64 0]) ?_ 2 _ rfl; (with_reducible repeat (first | refine blk_drewN ?_ _ | refine blk_drew ?_ | refine blk_alloc ?_ _)); refine blk_put (cs := #[.int .i64 ((rd_T104 l0_1 x20_2).f0), .int .i64 0, .int .i64 0, .int .i64 0, .int .i64 0, .int .i64 0]) ?_ 1 _ rfl; (with_reducible repeat (first | refine blk_drewN ?_ _ | refine blk_drew ?_ | refine blk_alloc ?_ _)); refine blk_put (cs := #[.int .i64 0, .int .i64 0, .int .i64 0, .int .i64 0, .int .i64 0, .int .i64 0]) ?_ 0 _ rfl; (with_reducible repeat (first | refine blk_drewN ?_ _ | refine blk_drew ?_ | refine blk_alloc ?_ _)); exact BK203.out⟩, ⟨tB⟩⟩
               ·replace c28 := Bool.eq_false_iff.mpr c28
                subst c28
                have H1 : (impl_IsValidClaims.j2 k2 x20_2 l0_1 (l0_1.length : Int) x20_2 true a0_0 l0_1 ((rd_T104 l0_1 x20_2).f0) ((rd_T104 l0_1 x20_2).f1) ((rd_T104 l0_1 x20_2).f2) ((rd_T104 l0_1 x20_2).f3) ((rd_T104 l0_1 x20_2).f4) ((rd_T104 l0_1 x20_2).f5)) = some r := by rw [if_neg (show ¬ (false = true) by decide)] at H; exact H
                clear H
                have H := H1
                clear H1
                have H' := Aside0.mk H
                clear H
                have hnb47 := NB203_200.out
                have hnc47 := NB200_203.out
                obtain ⟨hcz48_0, hcz48_1, hcz48_2, hcz48_3, hcz48_4, hcz48_5, hfz48_0, hfz48_1, hfz48_2, hfz48_3, hfz48_4, hfz48_5⟩ := bc6 BK203.out
                obtain ⟨hcz49_0, hcz49_1, hfz49_0, hfz49_1⟩ := bc2 BK200.out
                go_wp2_with (first | (go_at_call 82; (with_reducible refine (impl_InRange.calls ((rd_T104 l0_1 x20_2).f0) 0 (wrap64 (a0_0 - 1)) true _ A17.out).mono ?_); rintro e w' ⟨rfl, ⟨nd, rfl⟩⟩; (try exact tQ)) | (go_at_call 82; (with_reducible refine (impl_InRange.calls ((rd_T104 l0_1 x20_2).f1) 0 1000000 false _ A27.out).mono ?_); rintro e w' ⟨rfl, ⟨nd, rfl⟩⟩; (try exact tQ)))
                have p205 : 0 ≤ ((ji20) : Int) := of_decide_eq_true tA
                have q205 : (ji20) < (l0_1.length : Int) := of_decide_eq_true tA
                obtain ⟨ad205, e205, hx205_0, hx205_1, hx205_2, hx205_3, hx205_4, hx205_5⟩ := at_T104 HR0_1.out (ji20) p205 q205
                obtain rfl : ad202 = ad205 := (by injection e205)
                have hn205_0 : ad202.block ≠ gb203 := Nat.ne_of_lt (Nat.lt_of_lt_of_le (by have := World.block_lt_of_cell? _ _ hx205_0; first | rwa [add_block] at this | exact this) GW203.out)
                have hn205_1 : ad202.block ≠ gb203 := Nat.ne_of_lt (Nat.lt_of_lt_of_le (by have := World.block_lt_of_cell? _ _ hx205_0; first | rwa [add_block] at this | exact this) GW203.out)
                have hn205_2 : ad202.block ≠ gb203 := Nat.ne_of_lt (Nat.lt_of_lt_of_le (by have := World.block_lt_of_cell? _ _ hx205_0; first | rwa [add_block] at this | exact this) GW203.out)
                have hn205_3 : ad202.block ≠ gb203 := Nat.ne_of_lt (Nat.lt_of_lt_of_le (by have := World.block_lt_of_cell? _ _ hx205_0; first | rwa [add_block] at this | exact this) GW203.out)
                have hn205_4 : ad202.block ≠ gb203 := Nat.ne_of_lt (Nat.lt_of_lt_of_le (by have := World.block_lt_of_cell? _ _ hx205_0; first | rwa [add_block] at this | exact this) GW203.out)
                have hn205_5 : ad202.block ≠ gb203 := Nat.ne_of_lt (Nat.lt_of_lt_of_le (by have := World.block_lt_of_cell? _ _ hx205_0; first | rwa [add_block] at this | exact this) GW203.out)
                replace hx205_0 := hbc HB hx205_0
                replace hx205_1 := hbc HB hx205_1
                replace hx205_2 := hbc HB hx205_2
                replace hx205_3 := hbc HB hx205_3
                replace hx205_4 := hbc HB hx205_4
                replace hx205_5 := hbc HB hx205_5
                have F_ := @far6 gb203 (.int .i64 ((rd_T104 l0_1 x20_2).f0)) (.int .i64 ((rd_T104 l0_1 x20_2).f1)) (.int .i64 ((rd_T104 l0_1 x20_2).f2)) (.int .i64 ((rd_T104 l0_1 x20_2).f3)) (.int .i64 ((rd_T104 l0_1 x20_2).f4)) (.int .i64 ((rd_T104 l0_1 x20_2).f5))
                replace hx205_0 := (F_ tF).trans hx205_0
                replace hx205_1 := (F_ tF).trans hx205_1
                replace hx205_2 := (F_ tF).trans hx205_2
                replace hx205_3 := (F_ tF).trans hx205_3
                replace hx205_4 := (F_ tF).trans hx205_4
                replace hx205_5 := (F_ tF).trans hx205_5
                clear F_
                clear hn205_0
                clear hn205_1
                clear hn205_2
                clear hn205_3
                clear hn205_4
                clear hn205_5
                replace p205 := eq_true p205
                replace q205 := eq_true q205
                repeat (go_quiet (first | (go_at_call 82; (with_reducible refine (impl_InRange.calls ((rd_T104 l0_1 x20_2).f0) 0 (wrap64 (a0_0 - 1)) true _ A17.out).mono ?_); rintro e w' ⟨rfl, ⟨nd, rfl⟩⟩; (try exact tQ)) | (go_at_call 82; (with_reducible refine (impl_InRange.calls ((rd_T104 l0_1 x20_2).f1) 0 1000000 false _ A27.out).mono ?_); rintro e w' ⟨rfl, ⟨nd, rfl⟩⟩; (try exact tQ))); try go_wp2_with (first | (go_at_call 82; (with_reducible refine (impl_InRange.calls ((rd_T104 l0_1 x20_2).f0) 0 (wrap64 (a0_0 - 1)) true _ A17.out).mono ?_); rintro e w' ⟨rfl, ⟨nd, rfl⟩⟩; (try exact tQ)) | (go_at_call 82; (with_reducible refine (impl_InRange.calls ((rd_T104 l0_1 x20_2).f1) 0 1000000 false _ A27.out).mono ?_); rintro e w' ⟨rfl, ⟨nd, rfl⟩⟩; (try exact tQ))))
                go_meet
                case rel => exact ⟨_, (true), tS, H', ⟨by have := HJ1.out; have := HK2.out; first | omega | exact Nat.le_refl _⟩, ⟨by (with_reducible repeat (first | refine blk_drewN ?_ _ | refine blk_drew ?_ | refine blk_alloc ?_ _)); refine blk_far ?_ NB200_203.out _; (with_reducible repeat (first | refine blk_drewN ?_ _ | refine blk_drew ?_ | refine blk_alloc ?_ _)); refine blk_far ?_ NB200_203.out _; (with_reducible repeat (first | refine blk_drewN ?_ _ | refine blk_drew ?_ | refine blk_alloc ?_ _)); refine blk_far ?_ NB200_203.out _; (with_reducible repeat (first | refine blk_drewN ?_ _ | refine blk_drew ?_ | refine blk_alloc ?_ _)); refine blk_far ?_ NB200_203.out _; (with_reducible repeat (first | refine blk_drewN ?_ _ | refine blk_drew ?_ | refine blk_alloc ?_ _)); refine blk_far ?_ NB200_203.out _; (with_reducible repeat (first | refine blk_drewN ?_ _ | refine blk_drew ?_ | refine blk_alloc ?_ _)); refine blk_far ?_ NB200_203.out _; (with_reducible repeat (first | refine blk_drewN ?_ _ | refine blk_drew ?_ | refine blk_alloc ?_ _)); exact BK200.out⟩, ⟨by (with_reducible repeat (first | refine blk_drewN ?_ _ | refine blk_drew ?_ | refine blk_alloc ?_ _)); refine blk_put (cs := #[.int .i64 ((rd_T104 l0_1 x20_2).f0), .int .i64 ((rd_T104 l0_1 x20_2).f1), .int .i64 ((rd_T104 l0_1 x20_2).f2), .int .i64 ((rd_T104 l0_1 x20_2).f3), .int .i64 ((rd_T104 l0_1 x20_2).f4), .int .i64 0]) ?_ 5 _ rfl; (with_reducible repeat (first | refine blk_drewN ?_ _ | refine blk_drew ?_ | refine blk_alloc ?_ _)); refine blk_put (cs := #[.int .i64 ((rd_T104 l0_1 x20_2).f0), .int .i64 ((rd_T104 l0_1 x20_2).f1), .int .i64 ((rd_T104 l0_1 x20_2).f2), .int .i64 ((rd_T104 l0_1 x20_2).f3), .int .i64 0, .int .i64 0]) ?_ 4 _ rfl; (with_reducible repeat (first | refine blk_drewN ?_ _ | refine blk_drew ?_ | refine blk_alloc ?_ _)); refine blk_put (cs := #[.int .i64 ((rd_T104 l0_1 x20_2).f0), .int .i64 ((rd_T104 l0_1 x20_2).f1), .int .i64 ((rd_T104 l0_1 x20_2).f2), .int .i64 0, .int .i64 0, .int .i64 0]) ?_ 3 _ rfl; (with_reducible repeat (first | refine blk_drewN ?_ _ | refine blk_drew ?_ | refine blk_alloc ?_ _)); refine blk_put (cs := #[.int .i64 ((rd_T104 l0_1 x20_2).f0), .int .i64 ((rd_T104 l0_1 x20_2).f1), .int .i64 0, .int .i64 0, .int .i64 0, .int .i64 0]) ?_ 2 _ rfl; (with_reducible repeat (first | refine blk_drewN ?_ _ | refine blk_drew ?_ | refine blk_alloc ?_ _)); refine blk_put (cs := #[.int .i64 ((rd_T104 l0_1 x20_2).f0), .int .i64 0, .int .i64 0, .int .i64 0, .int .i64 0, .int .i64 0]) ?_ 1 _ rfl; (with_reducible repeat (first | refine blk_drewN ?_ _ | refine blk_drew ?_ | refine blk_alloc ?_ _)); refine blk_put (cs := #[.int .i64 0, .int .i64 0, .int .i64 0, .int .i64 0, .int .i64 0, .int .i64 0]) ?_ 0 _ rfl; (with_reducible repeat (first | refine blk_drewN ?_ _ | refine blk_drew ?_ | refine blk_alloc ?_ _)); exact BK203.out⟩, ⟨tB⟩⟩
             ·rw [if_neg c22] at H
              exact absurd H (by simp)
            ·rw [if_neg c21] at H
             exact absurd H (by simp)
           ·rw [if_neg c19] at H
            have c19b0 : decide (0 < x20_2) = false := decide_eq_false c19
            clear c19
            (first | rw [c19b0] | (simp only [i64_w, i32_w]; rw [c19b0]) | skip)
            replace H := Option.bind_eq_some_iff.mp H
            obtain ⟨t210, A500, H⟩ := H
            replace H : (if t210 = true then ((impl_InRange.f ((rd_T104 l0_1 x20_2).f3) 0 1000000).bind fun t211 => (if t211 = true then (if ((rd_T104 l0_1 x20_2).f4) = 30 then ((impl_InRange.f ((rd_T104 l0_1 x20_2).f5) 1 3).bind fun t212 => (impl_IsValidClaims.j2 k2 x20_2 l0_1 (l0_1.length : Int) x20_2 (!t212) a0_0 l0_1 ((rd_T104 l0_1 x20_2).f0) ((rd_T104 l0_1 x20_2).f1) ((rd_T104 l0_1 x20_2).f2) ((rd_T104 l0_1 x20_2).f3) ((rd_T104 l0_1 x20_2).f4) ((rd_T104 l0_1 x20_2).f5))) else (if ((rd_T104 l0_1 x20_2).f4) = 90 then ((impl_InRange.f ((rd_T104 l0_1 x20_2).f5) 1 3).bind fun t213 => (impl_IsValidClaims.j2 k2 x20_2 l0_1 (l0_1.length : Int) x20_2 (!t213) a0_0 l0_1 ((rd_T104 l0_1 x20_2).f0) ((rd_T104 l0_1 x20_2).f1) ((rd_T104 l0_1 x20_2).f2) ((rd_T104 l0_1 x20_2).f3) ((rd_T104 l0_1 x20_2).f4) ((rd_T104 l0_1 x20_2).f5))) else (impl_IsValidClaims.j2 k2 x20_2 l0_1 (l0_1.length : Int) x20_2 true a0_0 l0_1 ((rd_T104 l0_1 x20_2).f0) ((rd_T104 l0_1 x20_2).f1) ((rd_T104 l0_1 x20_2).f2) ((rd_T104 l0_1 x20_2).f3) ((rd_T104 l0_1 x20_2).f4) ((rd_T104 l0_1 x20_2).f5)))) else (impl_IsValidClaims.j2 k2 x20_2 l0_1 (l0_1.length : Int) x20_2 true a0_0 l0_1 ((rd_T104 l0_1 x20_2).f0) ((rd_T104 l0_1 x20_2).f1) ((rd_T104 l0_1 x20_2).f2) ((rd_T104 l0_1 x20_2).f3) ((rd_T104 l0_1 x20_2).f4) ((rd_T104 l0_1 x20_2).f5)))) else (impl_IsValidClaims.j2 k2 x20_2 l0_1 (l0_1.length : Int) x20_2 true a0_0 l0_1 ((rd_T104 l0_1 x20_2).f0) ((rd_T104 l0_1 x20_2).f1) ((rd_T104 l0_1 x20_2).f2) ((rd_T104 l0_1 x20_2).f3) ((rd_T104 l0_1 x20_2).f4) ((rd_T104 l0_1 x20_2).f5))) = some r := H
            have A50 := Aside0.mk A500
            clear A500
            by_cases c51 : t210 = true
            ·subst c51
             have H1 : ((impl_InRange.f ((rd_T104 l0_1 x20_2).f3) 0 1000000).bind fun t211 => (if t211 = true then (if ((rd_T104 l0_1 x20_2).f4) = 30 then ((impl_InRange.f ((rd_T104 l0_1 x20_2).f5) 1 3).bind fun t212 => (impl_IsValidClaims.j2 k2 x20_2 l0_1 (l0_1.length : Int) x20_2 (!t212) a0_0 l0_1 ((rd_T104 l0_1 x20_2).f0) ((rd_T104 l0_1 x20_2).f1) ((rd_T104 l0_1 x20_2).f2) ((rd_T104 l0_1 x20_2).f3) ((rd_T104 l0_1 x20_2).f4) ((rd_T104 l0_1 x20_2).f5))) else (if ((rd_T104 l0_1 x20_2).f4) = 90 then ((impl_InRange.f ((rd_T104 l0_1 x20_2).f5) 1 3).bind fun t213 => (impl_IsValidClaims.j2 k2 x20_2 l0_1 (l0_1.length : Int) x20_2 (!t213) a0_0 l0_1 ((rd_T104 l0_1 x20_2).f0) ((rd_T104 l0_1 x20_2).f1) ((rd_T104 l0_1 x20_2).f2) ((rd_T104 l0_1 x20_2).f3) ((rd_T104 l0_1 x20_2).f4) ((rd_T104 l0_1 x20_2).f5))) else (impl_IsValidClaims.j2 k2 x20_2 l0_1 (l0_1.length : Int) x20_2 true a0_0 l0_1 ((rd_T104 l0_1 x20_2).f0) ((rd_T104 l0_1 x20_2).f1) ((rd_T104 l0_1 x20_2).f2) ((rd_T104 l0_1 x20_2).f3) ((rd_T104 l0_1 x20_2).f4) ((rd_T104 l0_1 x20_2).f5)))) else (impl_IsValidClaims.j2 k2 x20_2 l0_1 (l0_1.length : Int) x20_2 true a0_0 l0_1 ((rd_T104 l0_1 x20_2).f0) ((rd_T104 l0_1 x20_2).f1) ((rd_T104 l0_1 x20_2).f2) ((rd_T104 l0_1 x20_2).f3) ((rd_T104 l0_1 x20_2).f4) ((rd_T104 l0_1 x20_2).f5)))) = some r := by rw [if_pos rfl] at H; exact H
             clear H
             have H := H1
             clear H1
             replace H := Option.bind_eq_some_iff.mp H
             obtain ⟨t211, A520, H⟩ := H
             replace H : (if t211 = true then (if ((rd_T104 l0_1 x20_2).f4) = 30 then ((impl_InRange.f ((rd_T104 l0_1 x20_2).f5) 1 3).bind fun t212 => (impl_IsValidClaims.j2 k2 x20_2 l0_1 (l0_1.length : Int) x20_2 (!t212) a0_0 l0_1 ((rd_T104 l0_1 x20_2).f0) ((rd_T104 l0_1 x20_2).f1) ((rd_T104 l0_1 x20_2).f2) ((rd_T104 l0_1 x20_2).f3) ((rd_T104 l0_1 x20_2).f4) ((rd_T104 l0_1 x20_2).f5))) else (if ((rd_T104 l0_1 x20_2).f4) = 90 then ((impl_InRange.f ((rd_T104 l0_1 x20_2).f5) 1 3).bind fun t213 => (impl_IsValidClaims.j2 k2 x20_2 l0_1 (l0_1.length : Int) x20_2 (!t213) a0_0 l0_1 ((rd_T104 l0_1 x20_2).f0) ((rd_T104 l0_1 x20_2).f1) ((rd_T104 l0_1 x20_2).f2) ((rd_T104 l0_1 x20_2).f3) ((rd_T104 l0_1 x20_2).f4) ((rd_T104 l0_1 x20_2).f5))) else (impl_IsValidClaims.j2 k2 x20_2 l0_1 (l0_1.length : Int) x20_2 true a0_0 l0_1 ((rd_T104 l0_1 x20_2).f0) ((rd_T104 l0_1 x20_2).f1) ((rd_T104 l0_1 x20_2).f2) ((rd_T104 l0_1 x20_2).f3) ((rd_T104 l0_1 x20_2).f4) ((rd_T104 l0_1 x20_2).f5)))) else (impl_IsValidClaims.j2 k2 x20_2 l0_1 (l0_1.length : Int) x20_2 true a0_0 l0_1 ((rd_T104 l0_1 x20_2).f0) ((rd_T104 l0_1 x20_2).f1) ((rd_T104 l0_1 x20_2).f2) ((rd_T104 l0_1 x20_2).f3) ((rd_T104 l0_1 x20_2).f4) ((rd_T104 l0_1 x20_2).f5))) = some r := H
             have A52 := Aside0.mk A520
             clear A520
             by_cases c53 : t211 = true
             ·subst c53
              have H1 : (if ((rd_T104 l0_1 x20_2).f4) = 30 then ((impl_InRange.f ((rd_T104 l0_1 x20_2).f5) 1 3).bind fun t212 => (impl_IsValidClaims.j2 k2 x20_2 l0_1 (l0_1.length : Int) x20_2 (!t212) a0_0 l0_1 ((rd_T104 l0_1 x20_2).f0) ((rd_T104 l0_1 x20_2).f1) ((rd_T104 l0_1 x20_2).f2) ((rd_T104 l0_1 x20_2).f3) ((rd_T104 l0_1 x20_2).f4) ((rd_T104 l0_1 x20_2).f5))) else (if ((rd_T104 l0_1 x20_2).f4) = 90 then ((impl_InRange.f ((rd_T104 l0_1 x20_2).f5) 1 3).bind fun t213 => (impl_IsValidClaims.j2 k2 x20_2 l0_1 (l0_1.length : Int) x20_2 (!t213) a0_0 l0_1 ((rd_T104 l0_1 x20_2).f0) ((rd_T104 l0_1 x20_2).f1) ((rd_T104 l0_1 x20_2).f2) ((rd_T104 l0_1 x20_2).f3) ((rd_T104 l0_1 x20_2).f4) ((rd_T104 l0_1 x20_2).f5))) else (impl_IsValidClaims.j2 k2 x20_2 l0_1 (l0_1.length : Int) x20_2 true a0_0 l0_1 ((rd_T104 l0_1 x20_2).f0) ((rd_T104 l0_1 x20_2).f1) ((rd_T104 l0_1 x20_2).f2) ((rd_T104 l0_1 x20_2).f3) ((rd_T104 l0_1 x20_2).f4) ((rd_T104 l0_1 x20_2).f5)))) = some r := by rw [if_pos rfl] at H; exact H
              clear H
              have H := H1
              clear H1
              by_cases c54 : ((rd_T104 l0_1 x20_2).f4) = 30
              ·rw [if_pos c54] at H
               have c54b0 : (((rd_T104 l0_1 x20_2).f4) == 30) = true := beq_iff_eq.mpr c54
               have c54b1 : (((rd_T104 l0_1 x20_2).f4) != 30) = false := bne_eq_false_iff_eq.mpr c54
               clear c54
               replace H := Option.bind_eq_some_iff.mp H
               obtain ⟨t212, A550, H⟩ := H
               replace H : (impl_IsValidClaims.j2 k2 x20_2 l0_1 (l0_1.length : Int) x20_2 (!t212) a0_0 l0_1 ((rd_T104 l0_1 x20_2).f0) ((rd_T104 l0_1 x20_2).f1) ((rd_T104 l0_1 x20_2).f2) ((rd_T104 l0_1 x20_2).f3) ((rd_T104 l0_1 x20_2).f4) ((rd_T104 l0_1 x20_2).f5)) = some r := H
               have A55 := Aside0.mk A550
               clear A550
               have H' := Aside0.mk H
               clear H
               have hnb56 := NB203_200.out
               have hnc56 := NB200_203.out
               obtain ⟨hcz57_0, hcz57_1, hcz57_2, hcz57_3, hcz57_4, hcz57_5, hfz57_0, hfz57_1, hfz57_2, hfz57_3, hfz57_4, hfz57_5⟩ := bc6 BK203.out
               obtain ⟨hcz58_0, hcz58_1, hfz58_0, hfz58_1⟩ := bc2 BK200.out
               go_wp2_with (first | (go_at_call 82; (with_reducible refine (impl_InRange.calls ((rd_T104 l0_1 x20_2).f0) 0 (wrap64 (a0_0 - 1)) true _ A17.out).mono ?_); rintro e w' ⟨rfl, ⟨nd, rfl⟩⟩; (try exact tQ)) | (go_at_call 82; (with_reducible refine (impl_InRange.calls ((rd_T104 l0_1 x20_2).f1) 0 1000000 true _ A50.out).mono ?_); rintro e w' ⟨rfl, ⟨nd, rfl⟩⟩; (try exact tQ)) | (go_at_call 82; (with_reducible refine (impl_InRange.calls ((rd_T104 l0_1 x20_2).f3) 0 1000000 true _ A52.out).mono ?_); rintro e w' ⟨rfl, ⟨nd, rfl⟩⟩; (try exact tQ)) | (go_at_call 82; (with_reducible refine (impl_InRange.calls ((rd_T104 l0_1 x20_2).f5) 1 3 t212 _ A55.out).mono ?_); rintro e w' ⟨rfl, ⟨nd, rfl⟩⟩; (try exact tQ)))
               repeat (go_quiet (first | (go_at_call 82; (with_reducible refine (impl_InRange.calls ((rd_T104 l0_1 x20_2).f0) 0 (wrap64 (a0_0 - 1)) true _ A17.out).mono ?_); rintro e w' ⟨rfl, ⟨nd, rfl⟩⟩; (try exact tQ)) | (go_at_call 82; (with_reducible refine (impl_InRange.calls ((rd_T104 l0_1 x20_2).f1) 0 1000000 true _ A50.out).mono ?_); rintro e w' ⟨rfl, ⟨nd, rfl⟩⟩; (try exact tQ)) | (go_at_call 82; (with_reducible refine (impl_InRange.calls ((rd_T104 l0_1 x20_2).f3) 0 1000000 true _ A52.out).mono ?_); rintro e w' ⟨rfl, ⟨nd, rfl⟩⟩; (try exact tQ)) | (go_at_call 82; (with_reducible refine (impl_InRange.calls ((rd_T104 l0_1 x20_2).f5) 1 3 t212 _ A55.out).mono ?_); rintro e w' ⟨rfl, ⟨nd, rfl⟩⟩; (try exact tQ))); try go_wp2_with (first | (go_at_call 82; (with_reducible refine (impl_InRange.calls ((rd_T104 l0_1 x20_2).f0) 0 (wrap64 (a0_0 - 1)) true _ A17.out).mono ?_); rintro e w' ⟨rfl, ⟨nd, rfl⟩⟩; (try exact tQ)) | (go_at_call 82; (with_reducible refine (impl_InRange.calls ((rd_T104 l0_1 x20_2).f1) 0 1000000 true _ A50.out).mono ?_); rintro e w' ⟨rfl, ⟨nd, rfl⟩⟩; (try exact tQ)) | (go_at_call 82; (with_reducible refine (impl_InRange.calls ((rd_T104 l0_1 x20_2).f3) 0 1000000 true _ A52.out).mono ?_); rintro e w' ⟨rfl, ⟨nd, rfl⟩⟩; (try exact tQ)) | (go_at_call 82; (with_reducible refine (impl_InRange.calls ((rd_T104 l0_1 x20_2).f5) 1 3 t212 _ A55.out).mono ?_); rintro e w' ⟨rfl, ⟨nd, rfl⟩⟩; (try exact tQ))))
               go_meet
               case rel => exact ⟨_, (!t212), tS, H', ⟨by have := HJ1.out; have := HK2.out; first | omega | exact Nat.le_refl _⟩, ⟨by (with_reducible repeat (first | refine blk_drewN ?_ _ | refine blk_drew ?_ | refine blk_alloc ?_ _)); refine blk_far ?_ NB200_203.out _; (with_reducible repeat (first | refine blk_drewN ?_ _ | refine blk_drew ?_ | refine blk_alloc ?_ _)); refine blk_far ?_ NB200_203.out _; (with_reducible repeat (first | refine blk_drewN ?_ _ | refine blk_drew ?_ | refine blk_alloc ?_ _)); refine blk_far ?_ NB200_203.out _; (with_reducible repeat (first | refine blk_drewN ?_ _ | refine blk_drew ?_ | refine blk_alloc ?_ _)); refine blk_far ?_ NB200_203.out _; (with_reducible repeat (first | refine blk_drewN ?_ _ | refine blk_drew ?_ | refine blk_alloc ?_ _)); refine blk_far ?_ NB200_203.out _; (with_reducible repeat (first | refine blk_drewN ?_ _ | refine blk_drew ?_ | refine blk_alloc ?_ _)); refine blk_far ?_ NB200_203.out _; (with_reducible repeat (first | refine blk_drewN ?_ _ | refine blk_drew ?_ | refine blk_alloc ?_ _)); exact BK200.out⟩, ⟨by (with_reducible repeat (first | refine blk_drewN ?_ _ | refine blk_drew ?_ | refine blk_alloc ?_ _)); refine blk_put (cs := #[.int .i64 ((rd_T104 l0_1 x20_2).f0), .int .i64 ((rd_T104 l0_1 x20_2).f1), .int .i64 ((rd_T104 l0_1 x20_2).f2), .int .i64 ((rd_T104 l0_1 x20_2).f3), .int .i64 ((rd_T104 l0_1 x20_2).f4), .int .i64 0]) ?_ 5 _ rfl; (with_reducible repeat (first | refine blk_drewN ?_ _ | refine blk_drew ?_ | refine blk_alloc ?_ _)); refine blk_put (cs := #[.int .i64 ((rd_T104 l0_1 x20_2).f0), .int .i64 ((rd_T104 l0_1 x20_2).f1), .int .i64 ((rd_T104 l0_1 x20_2).f2), .int .i64 ((rd_T104 l0_1 x20_2).f3), .int .i64 0, .int .i64 0]) ?_ 4 _ rfl; (with_reducible repeat (first | refine blk_drewN ?_ _ | refine blk_drew ?_ | refine blk_alloc ?_ _)); refine blk_put (cs := #[.int .i64 ((rd_T104 l0_1 x20_2).f0), .int .i64 ((rd_T104 l0_1 x20_2).f1), .int .i64 ((rd_T104 l0_1 x20_2).f2), .int .i64 0, .int .i64 0, .int .i64 0]) ?_ 3 _ rfl; (with_reducible repeat (first | refine blk_drewN ?_ _ | refine blk_drew ?_ | refine blk_alloc ?_ _)); refine blk_put (cs := #[.int .i64 ((rd_T104 l0_1 x20_2).f0), .int .i64 ((rd_T104 l0_1 x20_2).f1), .int .i64 0, .int .i64 0, .int .i64 0, .int .i64 0]) ?_ 2 _ rfl; (with_reducible repeat (first | refine blk_drewN ?_ _ | refine blk_drew ?_ | refine blk_alloc ?_ _)); refine blk_put (cs := #[.int .i64 ((rd_T104 l0_1 x20_2).f0), .int .i64 0, .int .i64 0, .int .i64 0, .int .i64 0, .int .i64 0]) ?_ 1 _ rfl; (with_reducible repeat (first | refine blk_drewN ?_ _ | refine blk_drew ?_ | refine blk_alloc ?_ _)); refine blk_put (cs := #[.int .i64 0, .int .i64 0, .int .i64 0, .int .i64 0, .int .i64 0, .int .i64 0]) ?_ 0 _ rfl; (with_reducible repeat (first | refine blk_drewN ?_ _ | refine blk_drew ?_ | refine blk_alloc ?_ _)); exact BK203.out⟩, ⟨tB⟩⟩
              ·rw [if_neg c54] at H
               have c54b0 : (((rd_T104 l0_1 x20_2).f4) == 30) = false := beq_eq_false_iff_ne.mpr c54
               have c54b1 : (((rd_T104 l0_1 x20_2).f4) != 30) = true := bne_iff_ne.mpr c54
               by_cases c59 : ((rd_T104 l0_1 x20_2).f4) = 90
               ·rw [if_pos c59] at H
                have c59b0 : (((rd_T104 l0_1 x20_2).f4) == 90) = true := beq_iff_eq.mpr c59
                have c59b1 : (((rd_T104 l0_1 x20_2).f4) != 90) = false := bne_eq_false_iff_eq.mpr c59
                clear c59
                replace H := Option.bind_eq_some_iff.mp H
                obtain ⟨t213, A600, H⟩ := H
                replace H : (impl_IsValidClaims.j2 k2 x20_2 l0_1 (l0_1.length : Int) x20_2 (!t213) a0_0 l0_1 ((rd_T104 l0_1 x20_2).f0) ((rd_T104 l0_1 x20_2).f1) ((rd_T104 l0_1 x20_2).f2) ((rd_T104 l0_1 x20_2).f3) ((rd_T104 l0_1 x20_2).f4) ((rd_T104 l0_1 x20_2).f5)) = some r := H
                have A60 := Aside0.mk A600
                clear A600
                have H' := Aside0.mk H
                clear H
                have hnb61 := NB203_200.out
                have hnc61 := NB200_203.out
                obtain ⟨hcz62_0, hcz62_1, hcz62_2, hcz62_3, hcz62_4, hcz62_5, hfz62_0, hfz62_1, hfz62_2, hfz62_3, hfz62_4, hfz62_5⟩ := bc6 BK203.out
                obtain ⟨hcz63_0, hcz63_1, hfz63_0, hfz63_1⟩ := bc2 BK200.out
                go_wp2_with (first | (go_at_call 82; (with_reducible refine (impl_InRange.calls ((rd_T104 l0_1 x20_2).f0) 0 (wrap64 (a0_0 - 1)) true _ A17.out).mono ?_); rintro e w' ⟨rfl, ⟨nd, rfl⟩⟩; (try exact tQ)) | (go_at_call 82; (with_reducible refine (impl_InRange.calls ((rd_T104 l0_1 x20_2).f1) 0 1000000 true _ A50.out).mono ?_); rintro e w' ⟨rfl, ⟨nd, rfl⟩⟩; (try exact tQ)) | (go_at_call 82; (with_reducible refine (impl_InRange.calls ((rd_T104 l0_1 x20_2).f3) 0 1000000 true _ A52.out).mono ?_); rintro e w' ⟨rfl, ⟨nd, rfl⟩⟩; (try exact tQ)) | (go_at_call 82; (with_reducible refine (impl_InRange.calls ((rd_T104 l0_1 x20_2).f5) 1 3 t213 _ A60.out).mono ?_); rintro e w' ⟨rfl, ⟨nd, rfl⟩⟩; (try exact tQ)))
                repeat (go_quiet (first | (go_at_call 82; (with_reducible refine (impl_InRange.calls ((rd_T104 l0_1 x20_2).f0) 0 (wrap64 (a0_0 - 1)) true _ A17.out).mono ?_); rintro e w' ⟨rfl, ⟨nd, rfl⟩⟩; (try exact tQ)) | (go_at_call 82; (with_reducible refine (impl_InRange.calls ((rd_T104 l0_1 x20_2).f1) 0 1000000 true _ A50.out).mono ?_); rintro e w' ⟨rfl, ⟨nd, rfl⟩⟩; (try exact tQ)) | (go_at_call 82; (with_reducible refine (impl_InRange.calls ((rd_T104 l0_1 x20_2).f3) 0 1000000 true _ A52.out).mono ?_); rintro e w' ⟨rfl, ⟨nd, rfl⟩⟩; (try exact tQ)) | (go_at_call 82; (with_reducible refine (impl_InRange.calls ((rd_T104 l0_1 x20_2).f5) 1 3 t213 _ A60.out).mono ?_); rintro e w' ⟨rfl, ⟨nd, rfl⟩⟩; (try exact tQ))); try go_wp2_with (first | (go_at_call 82; (with_reducible refine (impl_InRange.calls ((rd_T104 l0_1 x20_2).f0) 0 (wrap64 (a0_0 - 1)) true _ A17.out).mono ?_); rintro e w' ⟨rfl, ⟨nd, rfl⟩⟩; (try exact tQ)) | (go_at_call 82; (with_reducible refine (impl_InRange.calls ((rd_T104 l0_1 x20_2).f1) 0 1000000 true _ A50.out).mono ?_); rintro e w' ⟨rfl, ⟨nd, rfl⟩⟩; (try exact tQ)) | (go_at_call 82; (with_reducible refine (impl_InRange.calls ((rd_T104 l0_1 x20_2).f3) 0 1000000 true _ A52.out).mono ?_); rintro e w' ⟨rfl, ⟨nd, rfl⟩⟩; (try exact tQ)) | (go_at_call 82; (with_reducible refine (impl_InRange.calls ((rd_T104 l0_1 x20_2).f5) 1 3 t213 _ A60.out).mono ?_); rintro e w' ⟨rfl, ⟨nd, rfl⟩⟩; (try exact tQ))))
                go_meet
                case rel => exact ⟨_, (!t213), tS, H', ⟨by have := HJ1.out; have := HK2.out; first | omega | exact Nat.le_refl _⟩, ⟨by (with_reducible repeat (first | refine blk_drewN ?_ _ | refine blk_drew ?_ | refine blk_alloc ?_ _)); refine blk_far ?_ NB200_203.out _; (with_reducible repeat (first | refine blk_drewN ?_ _ | refine blk_drew ?_ | refine blk_alloc ?_ _)); refine blk_far ?_ NB200_203.out _; (with_reducible repeat (first | refine blk_drewN ?_ _ | refine blk_drew ?_ | refine blk_alloc ?_ _)); refine blk_far ?_ NB200_203.out _; (with_reducible repeat (first | refine blk_drewN ?_ _ | refine blk_drew ?_ | refine blk_alloc ?_ _)); refine blk_far ?_ NB200_203.out _; (with_reducible repeat (first | refine blk_drewN ?_ _ | refine blk_drew ?_ | refine blk_alloc ?_ _)); refine blk_far ?_ NB200_203.out _; (with_reducible repeat (first | refine blk_drewN ?_ _ | refine blk_drew ?_ | refine blk_alloc ?_ _)); refine blk_far ?_ NB200_203.out _; (with_reducible repeat (first | refine blk_drewN ?_ _ | refine blk_drew ?_ | refine blk_alloc ?_ _)); exact BK200.out⟩, ⟨by (with_reducible repeat (first | refine blk_drewN ?_ _ | refine blk_drew ?_ | refine blk_alloc ?_ _)); refine blk_put (cs := #[.int .i64 ((rd_T104 l0_1 x20_2).f0), .int .i64 ((rd_T104 l0_1 x20_2).f1), .int .i64 ((rd_T104 l0_1 x20_2).f2), .int .i64 ((rd_T104 l0_1 x20_2).f3), .int .i64 ((rd_T104 l0_1 x20_2).f4), .int .i64 0]) ?_ 5 _ rfl; (with_reducible repeat (first | refine blk_drewN ?_ _ | refine blk_drew ?_ | refine blk_alloc ?_ _)); refine blk_put (cs := #[.int .i64 ((rd_T104 l0_1 x20_2).f0), .int .i64 ((rd_T104 l0_1 x20_2).f1), .int .i64 ((rd_T104 l0_1 x20_2).f2), .int .i64 ((rd_T104 l0_1 x20_2).f3), .int .i64 0, .int .i64 0]) ?_ 4 _ rfl; (with_reducible repeat (first | refine blk_drewN ?_ _ | refine blk_drew ?_ | refine blk_alloc ?_ _)); refine blk_put (cs := #[.int .i64 ((rd_T104 l0_1 x20_2).f0), .int .i64 ((rd_T104 l0_1 x20_2).f1), .int .i64 ((rd_T104 l0_1 x20_2).f2), .int .i64 0, .int .i64 0, .int .i64 0]) ?_ 3 _ rfl; (with_reducible repeat (first | refine blk_drewN ?_ _ | refine blk_drew ?_ | refine blk_alloc ?_ _)); refine blk_put (cs := #[.int .i64 ((rd_T104 l0_1 x20_2).f0), .int .i64 ((rd_T104 l0_1 x20_2).f1), .int .i64 0, .int .i64 0, .int .i64 0, .int .i64 0]) ?_ 2 _ rfl; (with_reducible repeat (first | refine blk_drewN ?_ _ | refine blk_drew ?_ | refine blk_alloc ?_ _)); refine blk_put (cs := #[.int .i64 ((rd_T104 l0_1 x20_2).f0), .int .i64 0, .int .i64 0, .int .i64 0, .int .i64 0, .int .i64 0]) ?_ 1 _ rfl; (with_reducible repeat (first | refine blk_drewN ?_ _ | refine blk_drew ?_ | refine blk_alloc ?_ _)); refine blk_put (cs := #[.int .i64 0, .int .i64 0, .int .i64 0, .int .i64 0, .int .i64 0, .int .i64 0]) ?_ 0 _ rfl; (with_reducible repeat (first | refine blk_drewN ?_ _ | refine blk_drew ?_ | refine blk_alloc ?_ _)); exact BK203.out⟩, ⟨tB⟩⟩
               ·rw [if_neg c59] at H
                have c59b0 : (((rd_T104 l0_1 x20_2).f4) == 90) = false := beq_eq_false_iff_ne.mpr c59
                have c59b1 : (((rd_T104 l0_1 x20_2).f4) != 90) = true := bne_iff_ne.mpr c59
                have H' := Aside0.mk H
                clear H
                have hnb64 := NB203_200.out
                have hnc64 := NB200_203.out
                obtain ⟨hcz65_0, hcz65_1, hcz65_2, hcz65_3, hcz65_4, hcz65_5, hfz65_0, hfz65_1, hfz65_2, hfz65_3, hfz65_4, hfz65_5⟩ := bc6 BK203.out
                obtain ⟨hcz66_0, hcz66_1, hfz66_0, hfz66_1⟩ := bc2 BK200.out
                go_wp2_with (first | (go_at_call 82; (with_reducible refine (impl_InRange.calls ((rd_T104 l0_1 x20_2).f0) 0 (wrap64 (a0_0 - 1)) true _ A17.out).mono ?_); rintro e w' ⟨rfl, ⟨nd, rfl⟩⟩; (try exact tQ)) | (go_at_call 82; (with_reducible refine (impl_InRange.calls ((rd_T104 l0_1 x20_2).f1) 0 1000000 true _ A50.out).mono ?_); rintro e w' ⟨rfl, ⟨nd, rfl⟩⟩; (try exact tQ)) | (go_at_call 82; (with_reducible refine (impl_InRange.calls ((rd_T104 l0_1 x20_2).f3) 0 1000000 true _ A52.out).mono ?_); rintro e w' ⟨rfl, ⟨nd, rfl⟩⟩; (try exact tQ)))
                repeat (go_quiet (first | (go_at_call 82; (with_reducible refine (impl_InRange.calls ((rd_T104 l0_1 x20_2).f0) 0 (wrap64 (a0_0 - 1)) true _ A17.out).mono ?_); rintro e w' ⟨rfl, ⟨nd, rfl⟩⟩; (try exact tQ)) | (go_at_call 82; (with_reducible refine (impl_InRange.calls ((rd_T104 l0_1 x20_2).f1) 0 1000000 true _ A50.out).mono ?_); rintro e w' ⟨rfl, ⟨nd, rfl⟩⟩; (try exact tQ)) | (go_at_call 82; (with_reducible refine (impl_InRange.calls ((rd_T104 l0_1 x20_2).f3) 0 1000000 true _ A52.out).mono ?_); rintro e w' ⟨rfl, ⟨nd, rfl⟩⟩; (try exact tQ))); try go_wp2_with (first | (go_at_call 82; (with_reducible refine (impl_InRange.calls ((rd_T104 l0_1 x20_2).f0) 0 (wrap64 (a0_0 - 1)) true _ A17.out).mono ?_); rintro e w' ⟨rfl, ⟨nd, rfl⟩⟩; (try exact tQ)) | (go_at_call 82; (with_reducible refine (impl_InRange.calls ((rd_T104 l0_1 x20_2).f1) 0 1000000 true _ A50.out).mono ?_); rintro e w' ⟨rfl, ⟨nd, rfl⟩⟩; (try exact tQ)) | (go_at_call 82; (with_reducible refine (impl_InRange.calls ((rd_T104 l0_1 x20_2).f3) 0 1000000 true _ A52.out).mono ?_); rintro e w' ⟨rfl, ⟨nd, rfl⟩⟩; (try exact tQ))))
                go_meet
                case rel => exact ⟨_, (true), tS, H', ⟨by have := HJ1.out; have := HK2.out; first | omega | exact Nat.le_refl _⟩, ⟨by (with_reducible repeat (first | refine blk_drewN ?_ _ | refine blk_drew ?_ | refine blk_alloc ?_ _)); refine blk_far ?_ NB200_203.out _; (with_reducible repeat (first | refine blk_drewN ?_ _ | refine blk_drew ?_ | refine blk_alloc ?_ _)); refine blk_far ?_ NB200_203.out _; (with_reducible repeat (first | refine blk_drewN ?_ _ | refine blk_drew ?_ | refine blk_alloc ?_ _)); refine blk_far ?_ NB200_203.out _; (with_reducible repeat (first | refine blk_drewN ?_ _ | refine blk_drew ?_ | refine blk_alloc ?_ _)); refine blk_far ?_ NB200_203.out _; (with_reducible repeat (first | refine blk_drewN ?_ _ | refine blk_drew ?_ | refine blk_alloc ?_ _)); refine blk_far ?_ NB200_203.out _; (with_reducible repeat (first | refine blk_drewN ?_ _ | refine blk_drew ?_ | refine blk_alloc ?_ _)); refine blk_far ?_ NB200_203.out _; (with_reducible repeat (first | refine blk_drewN ?_ _ | refine blk_drew ?_ | refine blk_alloc ?_ _)); exact BK200.out⟩, ⟨by (with_reducible repeat (first | refine blk_drewN ?_ _ | refine blk_drew ?_ | refine blk_alloc ?_ _)); refine blk_put (cs := #[.int .i64 ((rd_T104 l0_1 x20_2).f0), .int .i64 ((rd_T104 l0_1 x20_2).f1), .int .i64 ((rd_T104 l0_1 x20_2).f2), .int .i64 ((rd_T104 l0_1 x20_2).f3), .int .i64 ((rd_T104 l0_1 x20_2).f4), .int .i64 0]) ?_ 5 _ rfl; (with_reducible repeat (first | refine blk_drewN ?_ _ | refine blk_drew ?_ | refine blk_alloc ?_ _)); refine blk_put (cs := #[.int .i64 ((rd_T104 l0_1 x20_2).f0), .int .i64 ((rd_T104 l0_1 x20_2).f1), .int .i64 ((rd_T104 l0_1 x20_2).f2), .int .i64 ((rd_T104 l0_1 x20_2).f3), .int .i64 0, .int .i64 0]) ?_ 4 _ rfl; (with_reducible repeat (first | refine blk_drewN ?_ _ | refine blk_drew ?_ | refine blk_alloc ?_ _)); refine blk_put (cs := #[.int .i64 ((rd_T104 l0_1 x20_2).f0), .int .i64 ((rd_T104 l0_1 x20_2).f1), .int .i64 ((rd_T104 l0_1 x20_2).f2), .int .i64 0, .int .i64 0, .int .i64 0]) ?_ 3 _ rfl; (with_reducible repeat (first | refine blk_drewN ?_ _ | refine blk_drew ?_ | refine blk_alloc ?_ _)); refine blk_put (cs := #[.int .i64 ((rd_T104 l0_1 x20_2).f0), .int .i64 ((rd_T104 l0_1 x20_2).f1), .int .i64 0, .int .i64 0, .int .i64 0, .int .i64 0]) ?_ 2 _ rfl; (with_reducible repeat (first | refine blk_drewN ?_ _ | refine blk_drew ?_ | refine blk_alloc ?_ _)); refine blk_put (cs := #[.int .i64 ((rd_T104 l0_1 x20_2).f0), .int .i64 0, .int .i64 0, .int .i64 0, .int .i64 0, .int .i64 0]) ?_ 1 _ rfl; (with_reducible repeat (first | refine blk_drewN ?_ _ | refine blk_drew ?_ | refine blk_alloc ?_ _)); refine blk_put (cs := #[.int .i64 0, .int .i64 0, .int .i64 0, .int .i64 0, .int .i64 0, .int .i64 0]) ?_ 0 _ rfl; (with_reducible repeat (first | refine blk_drewN ?_ _ | refine blk_drew ?_ | refine blk_alloc ?_ _)); exact BK203.out⟩, ⟨tB⟩⟩
             ·replace c53 := Bool.eq_false_iff.mpr c53
              subst c53
              have H1 : (impl_IsValidClaims.j2 k2 x20_2 l0_1 (l0_1.length : Int) x20_2 true a0_0 l0_1 ((rd_T104 l0_1 x20_2).f0) ((rd_T104 l0_1 x20_2).f1) ((rd_T104 l0_1 x20_2).f2) ((rd_T104 l0_1 x20_2).f3) ((rd_T104 l0_1 x20_2).f4) ((rd_T104 l0_1 x20_2).f5)) = some r := by rw [if_neg (show ¬ (false = true) by decide)] at H; exact H
              clear H
              have H := H1
              clear H1
              have H' := Aside0.mk H
              clear H
              have hnb67 := NB203_200.out
              have hnc67 := NB200_203.out
              obtain ⟨hcz68_0, hcz68_1, hcz68_2, hcz68_3, hcz68_4, hcz68_5, hfz68_0, hfz68_1, hfz68_2, hfz68_3, hfz68_4, hfz68_5⟩ := bc6 BK203.out
              obtain ⟨hcz69_0, hcz69_1, hfz69_0, hfz69_1⟩ := bc2 BK200.out
              go_wp2_with (first | (go_at_call 82; (with_reducible refine (impl_InRange.calls ((rd_T104 l0_1 x20_2).f0) 0 (wrap64 (a0_0 - 1)) true _ A17.out).mono ?_); rintro e w' ⟨rfl, ⟨nd, rfl⟩⟩; (try exact tQ)) | (go_at_call 82; (with_reducible refine (impl_InRange.calls ((rd_T104 l0_1 x20_2).f1) 0 1000000 true _ A50.out).mono ?_); rintro e w' ⟨rfl, ⟨nd, rfl⟩⟩; (try exact tQ)) | (go_at_call 82; (with_reducible refine (impl_InRange.calls ((rd_T104 l0_1 x20_2).f3) 0 1000000 false _ A52.out).mono ?_); rintro e w' ⟨rfl, ⟨nd, rfl⟩⟩; (try exact tQ)))
              repeat (go_quiet (first | (go_at_call 82; (with_reducible refine (impl_InRange.calls ((rd_T104 l0_1 x20_2).f0) 0 (wrap64 (a0_0 - 1)) true _ A17.out).mono ?_); rintro e w' ⟨rfl, ⟨nd, rfl⟩⟩; (try exact tQ)) | (go_at_call 82; (with_reducible refine (impl_InRange.calls ((rd_T104 l0_1 x20_2).f1) 0 1000000 true _ A50.out).mono ?_); rintro e w' ⟨rfl, ⟨nd, rfl⟩⟩; (try exact tQ)) | (go_at_call 82; (with_reducible refine (impl_InRange.calls ((rd_T104 l0_1 x20_2).f3) 0 1000000 false _ A52.out).mono ?_); rintro e w' ⟨rfl, ⟨nd, rfl⟩⟩; (try exact tQ))); try go_wp2_with (first | (go_at_call 82; (with_reducible refine (impl_InRange.calls ((rd_T104 l0_1 x20_2).f0) 0 (wrap64 (a0_0 - 1)) true _ A17.out).mono ?_); rintro e w' ⟨rfl, ⟨nd, rfl⟩⟩; (try exact tQ)) | (go_at_call 82; (with_reducible refine (impl_InRange.calls ((rd_T104 l0_1 x20_2).f1) 0 1000000 true _ A50.out).mono ?_); rintro e w' ⟨rfl, ⟨nd, rfl⟩⟩; (try exact tQ)) | (go_at_call 82; (with_reducible refine (impl_InRange.calls ((rd_T104 l0_1 x20_2).f3) 0 1000000 false _ A52.out).mono ?_); rintro e w' ⟨rfl, ⟨nd, rfl⟩⟩; (try exact tQ))))
              go_meet
              case rel => exact ⟨_, (true), tS, H', ⟨by have := HJ1.out; have := HK2.out; first | omega | exact Nat.le_refl _⟩, ⟨by (with_reducible repeat (first | refine blk_drewN ?_ _ | refine blk_drew ?_ | refine blk_alloc ?_ _)); refine blk_far ?_ NB200_203.out _; (with_reducible repeat (first | refine blk_drewN ?_ _ | refine blk_drew ?_ | refine blk_alloc ?_ _)); refine blk_far ?_ NB200_203.out _; (with_reducible repeat (first | refine blk_drewN ?_ _ | refine blk_drew ?_ | refine blk_alloc ?_ _)); refine blk_far ?_ NB200_203.out _; (with_reducible repeat (first | refine blk_drewN ?_ _ | refine blk_drew ?_ | refine blk_alloc ?_ _)); refine blk_far ?_ NB200_203.out _; (with_reducible repeat (first | refine blk_drewN ?_ _ | refine blk_drew ?_ | refine blk_alloc ?_ _)); refine blk_far ?_ NB200_203.out _; (with_reducible repeat (first | refine blk_drewN ?_ _ | refine blk_drew ?_ | refine blk_alloc ?_ _)); refine blk_far ?_ NB200_203.out _; (with_reducible repeat (first | refine blk_drewN ?_ _ | refine blk_drew ?_ | refine blk_alloc ?_ _)); exact BK200.out⟩, ⟨by (with_reducible repeat (first | refine blk_drewN ?_ _ | refine blk_drew ?_ | refine blk_alloc ?_ _)); refine blk_put (cs := #[.int .i64 ((rd_T104 l0_1 x20_2).f0), .int .i64 ((rd_T104 l0_1 x20_2).f1), .int .i64 ((rd_T104 l0_1 x20_2).f2), .int .i64 ((rd_T104 l0_1 x20_2).f3), .int .i64 ((rd_T104 l0_1 x20_2).f4), .int .i64 0]) ?_ 5 _ rfl; (with_reducible repeat (first | refine blk_drewN ?_ _ | refine blk_drew ?_ | refine blk_alloc ?_ _)); refine blk_put (cs := #[.int .i64 ((rd_T104 l0_1 x20_2).f0), .int .i64 ((rd_T104 l0_1 x20_2).f1), .int .i64 ((rd_T104 l0_1 x20_2).f2), .int .i64 ((rd_T104 l0_1 x20_2).f3), .int .i64 0, .int .i64 0]) ?_ 4 _ rfl; (with_reducible repeat (first | refine blk_drewN ?_ _ | refine blk_drew ?_ | refine blk_alloc ?_ _)); refine blk_put (cs := #[.int .i64 ((rd_T104 l0_1 x20_2).f0), .int .i64 ((rd_T104 l0_1 x20_2).f1), .int .i64 ((rd_T104 l0_1 x20_2).f2), .int .i64 0, .int .i64 0, .int .i64 0]) ?_ 3 _ rfl; (with_reducible repeat (first | refine blk_drewN ?_ _ | refine blk_drew ?_ | refine blk_alloc ?_ _)); refine blk_put (cs := #[.int .i64 ((rd_T104 l0_1 x20_2).f0), .int .i64 ((rd_T104 l0_1 x20_2).f1), .int .i64 0, .int .i64 0, .int .i64 0, .int .i64 0]) ?_ 2 _ rfl; (with_reducible repeat (first | refine blk_drewN ?_ _ | refine blk_drew ?_ | refine blk_alloc ?_ _)); refine blk_put (cs := #[.int .i64 ((rd_T104 l0_1 x20_2).f0), .int .i64 0, .int .i64 0, .int .i64 0, .int .i64 0, .int .i64 0]) ?_ 1 _ rfl; (with_reducible repeat (first | refine blk_drewN ?_ _ | refine blk_drew ?_ | refine blk_alloc ?_ _)); refine blk_put (cs := #[.int .i64 0, .int .i64 0, .int .i64 0, .int .i64 0, .int .i64 0, .int .i64 0]) ?_ 0 _ rfl; (with_reducible repeat (first | refine blk_drewN ?_ _ | refine blk_drew ?_ | refine blk_alloc ?_ _)); exact BK203.out⟩, ⟨tB⟩⟩
            ·replace c51 := Bool.eq_false_iff.mpr c51
             subst c51
             have H1 : (impl_IsValidClaims.j2 k2 x20_2 l0_1 (l0_1.length : Int) x20_2 true a0_0 l0_1 ((rd_T104 l0_1 x20_2).f0) ((rd_T104 l0_1 x20_2).f1) ((rd_T104 l0_1 x20_2).f2) ((rd_T104 l0_1 x20_2).f3) ((rd_T104 l0_1 x20_2).f4) ((rd_T104 l0_1 x20_2).f5)) = some r := by rw [if_neg (show ¬ (false = true) by decide)] at H; exact H
             clear H
             have H := H1
             clear H1
             have H' := Aside0.mk H
             clear H
             have hnb70 := NB203_200.out
             have hnc70 := NB200_203.out
             obtain ⟨hcz71_0, hcz71_1, hcz71_2, hcz71_3, hcz71_4, hcz71_5, hfz71_0, hfz71_1, hfz71_2, hfz71_3, hfz71_4, hfz71_5⟩ := bc6 BK203.out
             obtain ⟨hcz72_0, hcz72_1, hfz72_0, hfz72_1⟩ := bc2 BK200.out
             go_wp2_with (first | (go_at_call 82; (with_reducible refine (impl_InRange.calls ((rd_T104 l0_1 x20_2).f0) 0 (wrap64 (a0_0 - 1)) true _ A17.out).mono ?_); rintro e w' ⟨rfl, ⟨nd, rfl⟩⟩; (try exact tQ)) | (go_at_call 82; (with_reducible refine (impl_InRange.calls ((rd_T104 l0_1 x20_2).f1) 0 1000000 false _ A50.out).mono ?_); rintro e w' ⟨rfl, ⟨nd, rfl⟩⟩; (try exact tQ)))
             repeat (go_quiet (first | (go_at_call 82; (with_reducible refine (impl_InRange.calls ((rd_T104 l0_1 x20_2).f0) 0 (wrap64 (a0_0 - 1)) true _ A17.out).mono ?_); rintro e w' ⟨rfl, ⟨nd, rfl⟩⟩; (try exact tQ)) | (go_at_call 82; (with_reducible refine (impl_InRange.calls ((rd_T104 l0_1 x20_2).f1) 0 1000000 false _ A50.out).mono ?_); rintro e w' ⟨rfl, ⟨nd, rfl⟩⟩; (try exact tQ))); try go_wp2_with (first | (go_at_call 82; (with_reducible refine (impl_InRange.calls ((rd_T104 l0_1 x20_2).f0) 0 (wrap64 (a0_0 - 1)) true _ A17.out).mono ?_); rintro e w' ⟨rfl, ⟨nd, rfl⟩⟩; (try exact tQ)) | (go_at_call 82; (with_reducible refine (impl_InRange.calls ((rd_T104 l0_1 x20_2).f1) 0 1000000 false _ A50.out).mono ?_); rintro e w' ⟨rfl, ⟨nd, rfl⟩⟩; (try exact tQ))))
             go_meet
             case rel => exact ⟨_, (true), tS, H', ⟨by have := HJ1.out; have := HK2.out; first | omega | exact Nat.le_refl _⟩, ⟨by (with_reducible repeat (first | refine blk_drewN ?_ _ | refine blk_drew ?_ | refine blk_alloc ?_ _)); refine blk_far ?_ NB200_203.out _; (with_reducible repeat (first | refine blk_drewN ?_ _ | refine blk_drew ?_ | refine blk_alloc ?_ _)); refine blk_far ?_ NB200_203.out _; (with_reducible repeat (first | refine blk_drewN ?_ _ | refine blk_drew ?_ | refine blk_alloc ?_ _)); refine blk_far ?_ NB200_203.out _; (with_reducible repeat (first | refine blk_drewN ?_ _ | refine blk_drew ?_ | refine blk_alloc ?_ _)); refine blk_far ?_ NB200_203.out _; (with_reducible repeat (first | refine blk_drewN ?_ _ | refine blk_drew ?_ | refine blk_alloc ?_ _)); refine blk_far ?_ NB200_203.out _; (with_reducible repeat (first | refine blk_drewN ?_ _ | refine blk_drew ?_ | refine blk_alloc ?_ _)); refine blk_far ?_ NB200_203.out _; (with_reducible repeat (first | refine blk_drewN ?_ _ | refine blk_drew ?_ | refine blk_alloc ?_ _)); exact BK200.out⟩, ⟨by (with_reducible repeat (first | refine blk_drewN ?_ _ | refine blk_drew ?_ | refine blk_alloc ?_ _)); refine blk_put (cs := #[.int .i64 ((rd_T104 l0_1 x20_2).f0), .int .i64 ((rd_T104 l0_1 x20_2).f1), .int .i64 ((rd_T104 l0_1 x20_2).f2), .int .i64 ((rd_T104 l0_1 x20_2).f3), .int .i64 ((rd_T104 l0_1 x20_2).f4), .int .i64 0]) ?_ 5 _ rfl; (with_reducible repeat (first | refine blk_drewN ?_ _ | refine blk_drew ?_ | refine blk_alloc ?_ _)); refine blk_put (cs := #[.int .i64 ((rd_T104 l0_1 x20_2).f0), .int .i64 ((rd_T104 l0_1 x20_2).f1), .int .i64 ((rd_T104 l0_1 x20_2).f2), .int .i64 ((rd_T104 l0_1 x20_2).f3), .int .i64 0, .int .i64 0]) ?_ 4 _ rfl; (with_reducible repeat (first | refine blk_drewN ?_ _ | refine blk_drew ?_ | refine blk_alloc ?_ _)); refine blk_put (cs := #[.int .i64 ((rd_T104 l0_1 x20_2).f0), .int .i64 ((rd_T104 l0_1 x20_2).f1), .int .i64 ((rd_T104 l0_1 x20_2).f2), .int .i64 0, .int .i64 0, .int .i64 0]) ?_ 3 _ rfl; (with_reducible repeat (first | refine blk_drewN ?_ _ | refine blk_drew ?_ | refine blk_alloc ?_ _)); refine blk_put (cs := #[.int .i64 ((rd_T104 l0_1 x20_2).f0), .int .i64 ((rd_T104 l0_1 x20_2).f1), .int .i64 0, .int .i64 0, .int .i64 0, .int .i64 0]) ?_ 2 _ rfl; (with_reducible repeat (first | refine blk_drewN ?_ _ | refine blk_drew ?_ | refine blk_alloc ?_ _)); refine blk_put (cs := #[.int .i64 ((rd_T104 l0_1 x20_2).f0), .int .i64 0, .int .i64 0, .int .i64 0, .int .i64 0, .int .i64 0]) ?_ 1 _ rfl; (with_reducible repeat (first | refine blk_drewN ?_ _ | refine blk_drew ?_ | refine blk_alloc ?_ _)); refine blk_put (cs := #[.int .i64 0, .int .i64 0, .int .i64 0, .int .i64 0, .int .i64 0, .int .i64 0]) ?_ 0 _ rfl; (with_reducible repeat (first | refine blk_drewN ?_ _ | refine blk_drew ?_ | refine blk_alloc ?_ _)); exact BK203.out⟩, ⟨tB⟩⟩
          ·replace c18 := Bool.eq_false_iff.mpr c18
           subst c18
           have H1 : (impl_IsValidClaims.j2 k2 x20_2 l0_1 (l0_1.length : Int) x20_2 true a0_0 l0_1 ((rd_T104 l0_1 x20_2).f0) ((rd_T104 l0_1 x20_2).f1) ((rd_T104 l0_1 x20_2).f2) ((rd_T104 l0_1 x20_2).f3) ((rd_T104 l0_1 x20_2).f4) ((rd_T104 l0_1 x20_2).f5)) = some r := by rw [if_neg (show ¬ (false = true) by decide)] at H; exact H
           clear H
           have H := H1
           clear H1
           have H' := Aside0.mk H
           clear H
           have hnb73 := NB203_200.out
           have hnc73 := NB200_203.out
           obtain ⟨hcz74_0, hcz74_1, hcz74_2, hcz74_3, hcz74_4, hcz74_5, hfz74_0, hfz74_1, hfz74_2, hfz74_3, hfz74_4, hfz74_5⟩ := bc6 BK203.out
           obtain ⟨hcz75_0, hcz75_1, hfz75_0, hfz75_1⟩ := bc2 BK200.out
           go_wp2_with (first | (go_at_call 82; (with_reducible refine (impl_InRange.calls ((rd_T104 l0_1 x20_2).f0) 0 (wrap64 (a0_0 - 1)) false _ A17.out).mono ?_); rintro e w' ⟨rfl, ⟨nd, rfl⟩⟩; (try exact tQ)))
           repeat (go_quiet (first | (go_at_call 82; (with_reducible refine (impl_InRange.calls ((rd_T104 l0_1 x20_2).f0) 0 (wrap64 (a0_0 - 1)) false _ A17.out).mono ?_); rintro e w' ⟨rfl, ⟨nd, rfl⟩⟩; (try exact tQ))); try go_wp2_with (first | (go_at_call 82; (with_reducible refine (impl_InRange.calls ((rd_T104 l0_1 x20_2).f0) 0 (wrap64 (a0_0 - 1)) false _ A17.out).mono ?_); rintro e w' ⟨rfl, ⟨nd, rfl⟩⟩; (try exact tQ))))
           go_meet
           case rel => exact ⟨_, (true), tS, H', ⟨by have := HJ1.out; have := HK2.out; first | omega | exact Nat.le_refl _⟩, ⟨by (with_reducible repeat (first | refine blk_drewN ?_ _ | refine blk_drew ?_ | refine blk_alloc ?_ _)); refine blk_far ?_ NB200_203.out _; (with_reducible repeat (first | refine blk_drewN ?_ _ | refine blk_drew ?_ | refine blk_alloc ?_ _)); refine blk_far ?_ NB200_203.out _; (with_reducible repeat (first | refine blk_drewN ?_ _ | refine blk_drew ?_ | refine blk_alloc ?_ _)); refine blk_far ?_ NB200_203.out _; (with_reducible repeat (first | refine blk_drewN ?_ _ | refine blk_drew ?_ | refine blk_alloc ?_ _)); refine blk_far ?_ NB200_203.out _; (with_reducible repeat (first | refine blk_drewN ?_ _ | refine blk_drew ?_ | refine blk_alloc ?_ _)); refine blk_far ?_ NB200_203.out _; (with_reducible repeat (first | refine blk_drewN ?_ _ | refine blk_drew ?_ | refine blk_alloc ?_ _)); refine blk_far ?_ NB200_203.out _; (with_reducible repeat (first | refine blk_drewN ?_ _ | refine blk_drew ?_ | refine blk_alloc ?_ _)); exact BK200.out⟩, ⟨by (with_reducible repeat (first | refine blk_drewN ?_ _ | refine blk_drew ?_ | refine blk_alloc ?_ _)); refine blk_put (cs := #[.int .i64 ((rd_T104 l0_1 x20_2).f0), .int .i64 ((rd_T104 l0_1 x20_2).f1), .int .i64 ((rd_T104 l0_1 x20_2).f2), .int .i64 ((rd_T104 l0_1 x20_2).f3), .int .i64 ((rd_T104 l0_1 x20_2).f4), .int .i64 0]) ?_ 5 _ rfl; (with_reducible repeat (first | refine blk_drewN ?_ _ | refine blk_drew ?_ | refine blk_alloc ?_ _)); refine blk_put (cs := #[.int .i64 ((rd_T104 l0_1 x20_2).f0), .int .i64 ((rd_T104 l0_1 x20_2).f1), .int .i64 ((rd_T104 l0_1 x20_2).f2), .int .i64 ((rd_T104 l0_1 x20_2).f3), .int .i64 0, .int .i64 0]) ?_ 4 _ rfl; (with_reducible repeat (first | refine blk_drewN ?_ _ | refine blk_drew ?_ | refine blk_alloc ?_ _)); refine blk_put (cs := #[.int .i64 ((rd_T104 l0_1 x20_2).f0), .int .i64 ((rd_T104 l0_1 x20_2).f1), .int .i64 ((rd_T104 l0_1 x20_2).f2), .int .i64 0, .int .i64 0, .int .i64 0]) ?_ 3 _ rfl; (with_reducible repeat (first | refine blk_drewN ?_ _ | refine blk_drew ?_ | refine blk_alloc ?_ _)); refine blk_put (cs := #[.int .i64 ((rd_T104 l0_1 x20_2).f0), .int .i64 ((rd_T104 l0_1 x20_2).f1), .int .i64 0, .int .i64 0, .int .i64 0, .int .i64 0]) ?_ 2 _ rfl; (with_reducible repeat (first | refine blk_drewN ?_ _ | refine blk_drew ?_ | refine blk_alloc ?_ _)); refine blk_put (cs := #[.int .i64 ((rd_T104 l0_1 x20_2).f0), .int .i64 0, .int .i64 0, .int .i64 0, .int .i64 0, .int .i64 0]) ?_ 1 _ rfl; (with_reducible repeat (first | refine blk_drewN ?_ _ | refine blk_drew ?_ | refine blk_alloc ?_ _)); refine blk_put (cs := #[.int .i64 0, .int .i64 0, .int .i64 0, .int .i64 0, .int .i64 0, .int .i64 0]) ?_ 0 _ rfl; (with_reducible repeat (first | refine blk_drewN ?_ _ | refine blk_drew ?_ | refine blk_alloc ?_ _)); exact BK203.out⟩, ⟨tB⟩⟩
         case rest =>
          clear HC13
          try clear c1
          try clear c2
          try clear p2
          try clear q2
          try clear hx2
          try clear c3
          try clear c4
          try clear c5
          try clear c6
          try clear p6
          try clear c7
          try clear c8
          try clear c10
          try clear c10b0
          try clear c11
          try clear c11b0
          try clear c12
          try clear c12b0
          try clear c15
          try clear c18
          try clear c19
          try clear c19b0
          try clear p20
          try clear q20
          try clear hx20
          try clear c21
          try clear c21b0
          try clear c22
          try clear c22b0
          try clear c23
          try clear c23b0
          try clear c24
          try clear c28
          try clear c30
          try clear c31
          try clear c31b0
          try clear c31b1
          try clear c33
          try clear c36
          try clear c36b0
          try clear c36b1
          try clear c38
          try clear c41
          try clear c44
          try clear c47
          try clear c51
          try clear c53
          try clear c54
          try clear c54b0
          try clear c54b1
          try clear c56
          try clear c59
          try clear c59b0
          try clear c59b1
          try clear c61
          try clear c64
          try clear p64
          try clear c67
          try clear c70
          try clear c73
          try clear hcz16_0
          try clear hcz16_1
          try clear hcz16_2
          try clear hcz16_3
          try clear hcz16_4
          try clear hcz16_5
          try clear hcz25_0
          try clear hcz25_1
          try clear hcz25_2
          try clear hcz25_3
          try clear hcz25_4
          try clear hcz25_5
          try clear hcz26_0
          try clear hcz26_1
          try clear hcz34_0
          try clear hcz34_1
          try clear hcz34_2
          try clear hcz34_3
          try clear hcz34_4
          try clear hcz34_5
          try clear hcz35_0
          try clear hcz35_1
          try clear hcz39_0
          try clear hcz39_1
          try clear hcz39_2
          try clear hcz39_3
          try clear hcz39_4
          try clear hcz39_5
          try clear hcz40_0
          try clear hcz40_1
          try clear hcz42_0
          try clear hcz42_1
          try clear hcz42_2
          try clear hcz42_3
          try clear hcz42_4
          try clear hcz42_5
          try clear hcz43_0
          try clear hcz43_1
          try clear hcz45_0
          try clear hcz45_1
          try clear hcz45_2
          try clear hcz45_3
          try clear hcz45_4
          try clear hcz45_5
          try clear hcz46_0
          try clear hcz46_1
          try clear hcz48_0
          try clear hcz48_1
          try clear hcz48_2
          try clear hcz48_3
          try clear hcz48_4
          try clear hcz48_5
          try clear hcz49_0
          try clear hcz49_1
          try clear hcz57_0
          try clear hcz57_1
          try clear hcz57_2
          try clear hcz57_3
          try clear hcz57_4
          try clear hcz57_5
          try clear hcz58_0
          try clear hcz58_1
          try clear hcz62_0
          try clear hcz62_1
          try clear hcz62_2
          try clear hcz62_3
          try clear hcz62_4
          try clear hcz62_5
          try clear hcz63_0
          try clear hcz63_1
          try clear hcz65_0
          try clear hcz65_1
          try clear hcz65_2
          try clear hcz65_3
          try clear hcz65_4
          try clear hcz65_5
          try clear hcz66_0
          try clear hcz66_1
          try clear hcz68_0
          try clear hcz68_1
          try clear hcz68_2
          try clear hcz68_3
          try clear hcz68_4
          try clear hcz68_5
          try clear hcz69_0
          try clear hcz69_1
          try clear hcz6_0
          try clear hcz6_1
          try clear hcz71_0
          try clear hcz71_1
          try clear hcz71_2
          try clear hcz71_3
          try clear hcz71_4
          try clear hcz71_5
          try clear hcz72_0
          try clear hcz72_1
          try clear hcz74_0
          try clear hcz74_1
          try clear hcz74_2
          try clear hcz74_3
          try clear hcz74_4
          try clear hcz74_5
          try clear hcz75_0
          try clear hcz75_1
          try clear hcz7_0
          try clear hcz7_1
          try clear hcz9_0
          try clear hcz9_1
          try clear hfz16_0
          try clear hfz16_1
          try clear hfz16_2
          try clear hfz16_3
          try clear hfz16_4
          try clear hfz16_5
          try clear hfz25_0
          try clear hfz25_1
          try clear hfz25_2
          try clear hfz25_3
          try clear hfz25_4
          try clear hfz25_5
          try clear hfz26_0
          try clear hfz26_1
          try clear hfz34_0
          try clear hfz34_1
          try clear hfz34_2
          try clear hfz34_3
          try clear hfz34_4
          try clear hfz34_5
          try clear hfz35_0
          try clear hfz35_1
          try clear hfz39_0
          try clear hfz39_1
          try clear hfz39_2
          try clear hfz39_3
          try clear hfz39_4
          try clear hfz39_5
          try clear hfz40_0
          try clear hfz40_1
          try clear hfz42_0
          try clear hfz42_1
          try clear hfz42_2
          try clear hfz42_3
          try clear hfz42_4
          try clear hfz42_5
          try clear hfz43_0
          try clear hfz43_1
          try clear hfz45_0
          try clear hfz45_1
          try clear hfz45_2
          try clear hfz45_3
          try clear hfz45_4
          try clear hfz45_5
          try clear hfz46_0
          try clear hfz46_1
          try clear hfz48_0
          try clear hfz48_1
          try clear hfz48_2
          try clear hfz48_3
          try clear hfz48_4
          try clear hfz48_5
          try clear hfz49_0
          try clear hfz49_1
          try clear hfz57_0
          try clear hfz57_1
          try clear hfz57_2
          try clear hfz57_3
          try clear hfz57_4
          try clear hfz57_5
          try clear hfz58_0
          try clear hfz58_1
          try clear hfz62_0
          try clear hfz62_1
          try clear hfz62_2
          try clear hfz62_3
          try clear hfz62_4
          try clear hfz62_5
          try clear hfz63_0
          try clear hfz63_1
          try clear hfz65_0
          try clear hfz65_1
          try clear hfz65_2
          try clear hfz65_3
          try clear hfz65_4
          try clear hfz65_5
          try clear hfz66_0
          try clear hfz66_1
          try clear hfz68_0
          try clear hfz68_1
          try clear hfz68_2
          try clear hfz68_3
          try clear hfz68_4
          try clear hfz68_5
          try clear hfz69_0
          try clear hfz69_1
          try clear hfz6_0
          try clear hfz6_1
          try clear hfz71_0
          try clear hfz71_1
          try clear hfz71_2
          try clear hfz71_3
          try clear hfz71_4
          try clear hfz71_5
          try clear hfz72_0
          try clear hfz72_1
          try clear hfz74_0
          try clear hfz74_1
          try clear hfz74_2
          try clear hfz74_3
          try clear hfz74_4
          try clear hfz74_5
          try clear hfz75_0
          try clear hfz75_1
          try clear hfz7_0
          try clear hfz7_1
          try clear hfz9_0
          try clear hfz9_1
          try clear hx202_0
          try clear hx202_1
          try clear hx202_2
          try clear hx202_3
          try clear hx202_4
          try clear hx202_5
          try clear hx205_0
          try clear hx205_1
          try clear hx205_2
          try clear hx205_3
          try clear hx205_4
          try clear hx205_5
          try clear p2
          try clear p202
          try clear p205
          try clear q202
          try clear q205
          obtain ⟨kq, x75_12, rfl, HA, HJ12, BK200, BK203, HB⟩ := hcut
          cases kq with
          | zero => exact absurd HA.out (by simp [impl_IsValidClaims.j2])
          | succ kj12 =>
           have H := HA.out
           clear HA
           simp only [impl_IsValidClaims.j2] at H
           by_cases c76 : x75_12 = true
           ·subst c76
            have H1 : (some false) = some r := by rw [if_pos rfl] at H; exact H
            clear H
            have H := H1
            clear H1
            obtain rfl := Option.some.inj H
            go_wp2
            repeat (go_quiet (fail); try go_wp2)
            go_ret
            exact ⟨tE, tB⟩
           ·replace c76 := Bool.eq_false_iff.mpr c76
            subst c76
            have H1 : (if 0 ≤ x20_2 then (if x20_2 ≤ (l0_1.length : Int) then ((some (l0_1.take (x20_2 : Int).toNat : List (S104))).bind fun y214 => (impl_IsValidClaims.l1 kj12 l0_1 (l0_1.length : Int) x20_2 y214 (y214.length : Int) 0 a0_0 l0_1 ((rd_T104 l0_1 x20_2).f0) ((rd_T104 l0_1 x20_2).f1) ((rd_T104 l0_1 x20_2).f2) ((rd_T104 l0_1 x20_2).f3) ((rd_T104 l0_1 x20_2).f4) ((rd_T104 l0_1 x20_2).f5))) else (none)) else (none)) = some r := by rw [if_neg (show ¬ (false = true) by decide)] at H; exact H
            clear H
            have H := H1
            clear H1
            by_cases c77 : 0 ≤ x20_2
            ·rw [if_pos c77] at H
             have c77b0 := eq_true c77
             have c77b1 : decide (0 ≤ x20_2) = true := decide_eq_true c77
             clear c77
             by_cases c78 : x20_2 ≤ (l0_1.length : Int)
             ·rw [if_pos c78] at H
              have c78b0 := eq_true c78
              have c78b1 : decide (x20_2 ≤ (l0_1.length : Int)) = true := decide_eq_true c78
              clear c78
              obtain ⟨y214, hy214⟩ : ∃ y_ : List (S104), y_ = (l0_1.take (x20_2 : Int).toNat) := ⟨_, rfl⟩
              replace H : (impl_IsValidClaims.l1 kj12 l0_1 (l0_1.length : Int) x20_2 y214 (y214.length : Int) 0 a0_0 l0_1 ((rd_T104 l0_1 x20_2).f0) ((rd_T104 l0_1 x20_2).f1) ((rd_T104 l0_1 x20_2).f2) ((rd_T104 l0_1 x20_2).f3) ((rd_T104 l0_1 x20_2).f4) ((rd_T104 l0_1 x20_2).f5)) = some r := by first | (rw [hy214]; with_reducible exact H) | (have H2_ := (Option.bind_some _ _).symm.trans H; rw [hy214]; with_reducible exact H2_) | (have H2_ := (Option.bind_some _ _).symm.trans H; with_reducible exact H2_) | with_reducible exact H | (rw [hy214]; exact H) | exact H
              have Ny214 := Aside0.mk hy214
              clear hy214
              have H' := Aside0.mk H
              clear H
              have hnb79 := NB200_203.out
              have hnc79 := NB203_200.out
              obtain ⟨hcz80_0, hcz80_1, hfz80_0, hfz80_1⟩ := bc2 BK200.out
              have q81 : (x20_2 : Int) ≤ ((l0_1.length : Int) : Int) := of_decide_eq_true tA
              obtain ⟨i081, hi081, _, hsz81, _⟩ := info_parts info104
              have hroom81 : l0_1.length ≤ c0_1 := HC0_1.out
              have hC81 : Kd.C k104 _ (some ad202) l0_1.length l0_1 := HR0_1.out
              have hcut81 := cut_to (P := Try.prog) 33 104 .i64 Try.underlying33 hi081 (some ad202) l0_1.length c0_1 x20_2 (of_decide_eq_true tA) q81 hroom81
              have hr81 := Kd.C_take (m := (x20_2 : Int).toNat) hC81 (by omega)
              have hy81 : y214.length = (x20_2 : Int).toNat := (by rw [Ny214.out, List.length_take]; omega)
              rw [← Ny214.out] at hr81
              rw [← hy81] at hcut81
              have HR217 := Aside0.mk hr81
              have HC217 := Aside0.mk (show y214.length ≤ c0_1 from by omega)
              clear hr81 hC81 hroom81 hi081 hsz81
              have KY81 := Aside0.mk hy81
              clear hy81
              replace q81 := eq_true q81
              go_wp2
              repeat (go_quiet (fail); try go_wp2)
              go_loopg [81] kj12 (fun kq v81 w' => ∃ (x81_4 : Int), v81 = .int .i64 x81_4 ∧ Aside0 (impl_IsValidClaims.l1 kq l0_1 (l0_1.length : Int) x20_2 y214 (y214.length : Int) x81_4 a0_0 l0_1 ((rd_T104 l0_1 x20_2).f0) ((rd_T104 l0_1 x20_2).f1) ((rd_T104 l0_1 x20_2).f2) ((rd_T104 l0_1 x20_2).f3) ((rd_T104 l0_1 x20_2).f4) ((rd_T104 l0_1 x20_2).f5) = some r) ∧ Aside0 (kq ≤ kj12) ∧ Aside0 (w'.heap[gb200]? = some (.cells #[.int .i64 a0_0, (.slice (some ad202) l0_1.length c0_1)] 35 (0, 0))) ∧ Aside0 (w'.heap[gb203]? = some (.cells #[.int .i64 ((rd_T104 l0_1 x20_2).f0), .int .i64 ((rd_T104 l0_1 x20_2).f1), .int .i64 ((rd_T104 l0_1 x20_2).f2), .int .i64 ((rd_T104 l0_1 x20_2).f3), .int .i64 ((rd_T104 l0_1 x20_2).f4), .int .i64 ((rd_T104 l0_1 x20_2).f5)] 104 (0, 0))) ∧ Aside0 (Below w.heap.size w w'))
              case atStart => exact ⟨(0), tS, H', ⟨Nat.le_refl _⟩, ⟨tK BK200⟩, ⟨tK BK203⟩, ⟨tB⟩⟩
              case round =>
               clear H'
               try clear c1
               try clear c2
               try clear p2
               try clear q2
               try clear hx2
               try clear c3
               try clear c4
               try clear c5
               try clear c6
               try clear p6
               try clear c7
               try clear c8
               try clear q8
               try clear c10
               try clear c10b0
               try clear c11
               try clear c11b0
               try clear c12
               try clear c12b0
               try clear c15
               try clear c18
               try clear c19
               try clear c19b0
               try clear p20
               try clear q20
               try clear hx20
               try clear c21
               try clear c21b0
               try clear c22
               try clear c22b0
               try clear c23
               try clear c23b0
               try clear c24
               try clear c28
               try clear c30
               try clear c31
               try clear c31b0
               try clear c31b1
               try clear c33
               try clear c36
               try clear c36b0
               try clear c36b1
               try clear c38
               try clear c41
               try clear c44
               try clear c47
               try clear c51
               try clear c53
               try clear c54
               try clear c54b0
               try clear c54b1
               try clear c56
               try clear c59
               try clear c59b0
               try clear c59b1
               try clear c61
               try clear c64
               try clear p64
               try clear c67
               try clear c70
               try clear c73
               try clear c76
               try clear c77
               try clear c77b0
               try clear c77b1
               try clear c78
               try clear c78b0
               try clear c78b1
               try clear c79
               try clear q81
               try clear hcz16_0
               try clear hcz16_1
               try clear hcz16_2
               try clear hcz16_3
               try clear hcz16_4
               try clear hcz16_5
               try clear hcz25_0
               try clear hcz25_1
               try clear hcz25_2
               try clear hcz25_3
               try clear hcz25_4
               try clear hcz25_5
               try clear hcz26_0
               try clear hcz26_1
               try clear hcz34_0
               try clear hcz34_1
               try clear hcz34_2
               try clear hcz34_3
               try clear hcz34_4
               try clear hcz34_5
               try clear hcz35_0
               try clear hcz35_1
               try clear hcz39_0
               try clear hcz39_1
               try clear hcz39_2
               try clear hcz39_3
               try clear hcz39_4
               try clear hcz39_5
               try clear hcz40_0
               try clear hcz40_1
               try clear hcz42_0
               try clear hcz42_1
               try clear hcz42_2
               try clear hcz42_3
               try clear hcz42_4
               try clear hcz42_5
               try clear hcz43_0
               try clear hcz43_1
               try clear hcz45_0
               try clear hcz45_1
               try clear hcz45_2
               try clear hcz45_3
               try clear hcz45_4
               try clear hcz45_5
               try clear hcz46_0
               try clear hcz46_1
               try clear hcz48_0
               try clear hcz48_1
               try clear hcz48_2
               try clear hcz48_3
               try clear hcz48_4
               try clear hcz48_5
               try clear hcz49_0
               try clear hcz49_1
               try clear hcz57_0
               try clear hcz57_1
               try clear hcz57_2
               try clear hcz57_3
               try clear hcz57_4
               try clear hcz57_5
               try clear hcz58_0
               try clear hcz58_1
               try clear hcz62_0
               try clear hcz62_1
               try clear hcz62_2
               try clear hcz62_3
               try clear hcz62_4
               try clear hcz62_5
               try clear hcz63_0
               try clear hcz63_1
               try clear hcz65_0
               try clear hcz65_1
               try clear hcz65_2
               try clear hcz65_3
               try clear hcz65_4
               try clear hcz65_5
               try clear hcz66_0
               try clear hcz66_1
               try clear hcz68_0
               try clear hcz68_1
               try clear hcz68_2
               try clear hcz68_3
               try clear hcz68_4
               try clear hcz68_5
               try clear hcz69_0
               try clear hcz69_1
               try clear hcz6_0
               try clear hcz6_1
               try clear hcz71_0
               try clear hcz71_1
               try clear hcz71_2
               try clear hcz71_3
               try clear hcz71_4
               try clear hcz71_5
               try clear hcz72_0
               try clear hcz72_1
               try clear hcz74_0
               try clear hcz74_1
               try clear hcz74_2
               try clear hcz74_3
               try clear hcz74_4
               try clear hcz74_5
               try clear hcz75_0
               try clear hcz75_1
               try clear hcz7_0
               try clear hcz7_1
               try clear hcz80_0
               try clear hcz80_1
               try clear hcz9_0
               try clear hcz9_1
               try clear hfz16_0
               try clear hfz16_1
               try clear hfz16_2
               try clear hfz16_3
               try clear hfz16_4
               try clear hfz16_5
               try clear hfz25_0
               try clear hfz25_1
               try clear hfz25_2
               try clear hfz25_3
               try clear hfz25_4
               try clear hfz25_5
               try clear hfz26_0
               try clear hfz26_1
               try clear hfz34_0
               try clear hfz34_1
               try clear hfz34_2
               try clear hfz34_3
               try clear hfz34_4
               try clear hfz34_5
               try clear hfz35_0
               try clear hfz35_1
               try clear hfz39_0
               try clear hfz39_1
               try clear hfz39_2
               try clear hfz39_3
               try clear hfz39_4
               try clear hfz39_5
               try clear hfz40_0
               try clear hfz40_1
               try clear hfz42_0
               try clear hfz42_1
               try clear hfz42_2
               try clear hfz42_3
               try clear hfz42_4
               try clear hfz42_5
               try clear hfz43_0
               try clear hfz43_1
               try clear hfz45_0
               try clear hfz45_1
               try clear hfz45_2
               try clear hfz45_3
               try clear hfz45_4
               try clear hfz45_5
               try clear hfz46_0
               try clear hfz46_1
               try clear hfz48_0
               try clear hfz48_1
               try clear hfz48_2
               try clear hfz48_3
               try clear hfz48_4
               try clear hfz48_5
               try clear hfz49_0
               try clear hfz49_1
               try clear hfz57_0
               try clear hfz57_1
               try clear hfz57_2
               try clear hfz57_3
               try clear hfz57_4
               try clear hfz57_5
               try clear hfz58_0
               try clear hfz58_1
               try clear hfz62_0
               try clear hfz62_1
               try clear hfz62_2
               try clear hfz62_3
               try clear hfz62_4
               try clear hfz62_5
               try clear hfz63_0
               try clear hfz63_1
               try clear hfz65_0
               try clear hfz65_1
               try clear hfz65_2
               try clear hfz65_3
               try clear hfz65_4
               try clear hfz65_5
               try clear hfz66_0
               try clear hfz66_1
               try clear hfz68_0
               try clear hfz68_1
               try clear hfz68_2
               try clear hfz68_3
               try clear hfz68_4
               try clear hfz68_5
               try clear hfz69_0
               try clear hfz69_1
               try clear hfz6_0
               try clear hfz6_1
               try clear hfz71_0
               try clear hfz71_1
               try clear hfz71_2
               try clear hfz71_3
               try clear hfz71_4
               try clear hfz71_5
               try clear hfz72_0
               try clear hfz72_1
               try clear hfz74_0
               try clear hfz74_1
               try clear hfz74_2
               try clear hfz74_3
               try clear hfz74_4
               try clear hfz74_5
               try clear hfz75_0
               try clear hfz75_1
               try clear hfz7_0
               try clear hfz7_1
               try clear hfz80_0
               try clear hfz80_1
               try clear hfz9_0
               try clear hfz9_1
               try clear hx202_0
               try clear hx202_1
               try clear hx202_2
               try clear hx202_3
               try clear hx202_4
               try clear hx202_5
               try clear hx205_0
               try clear hx205_1
               try clear hx205_2
               try clear hx205_3
               try clear hx205_4
               try clear hx205_5
               try clear p2
               try clear p20
               try clear p202
               try clear p205
               try clear p6
               try clear p64
               try clear q2
               try clear q20
               try clear q202
               try clear q205
               try clear q81
               obtain ⟨x81_4, rfl, HA, HK4, BK200, BK203, HB⟩ := hrel
               cases gk with
               | zero => exact absurd HA.out (by simp [impl_IsValidClaims.l1])
               | succ k4 =>
                have H := HA.out
                clear HA
                simp only [impl_IsValidClaims.l1] at H
                by_cases c82 : x81_4 < (y214.length : Int)
                ·rw [if_pos c82] at H
                 have c82b0 : decide (x81_4 < (y214.length : Int)) = true := decide_eq_true c82
                 clear c82
                 by_cases c83 : 0 ≤ x81_4
                 ·rw [if_pos c83] at H
                  have c83b0 : decide (0 ≤ x81_4) = true := decide_eq_true c83
                  clear c83
                  by_cases c84 : x81_4 < (y214.length : Int)
                  ·rw [if_pos c84] at H
                   have c84b0 : decide (x81_4 < (y214.length : Int)) = true := decide_eq_true c84
                   clear c84
                   by_cases c85 : ((rd_T104 y214 x81_4).f5) = 1
                   ·rw [if_pos c85] at H
                    have c85b0 : (((rd_T104 y214 x81_4).f5) == 1) = true := beq_iff_eq.mpr c85
                    have c85b1 : (((rd_T104 y214 x81_4).f5) != 1) = false := bne_eq_false_iff_eq.mpr c85
                    clear c85
                    by_cases c86 : ((rd_T104 l0_1 x20_2).f5) = 1
                    ·rw [if_pos c86] at H
                     have c86b0 : (((rd_T104 l0_1 x20_2).f5) == 1) = true := beq_iff_eq.mpr c86
                     have c86b1 : (((rd_T104 l0_1 x20_2).f5) != 1) = false := bne_eq_false_iff_eq.mpr c86
                     clear c86
                     by_cases c87 : ((rd_T104 y214 x81_4).f1) = ((rd_T104 l0_1 x20_2).f1)
                     ·rw [if_pos c87] at H
                      have c87b0 : (((rd_T104 y214 x81_4).f1) == ((rd_T104 l0_1 x20_2).f1)) = true := beq_iff_eq.mpr c87
                      have c87b1 : (((rd_T104 y214 x81_4).f1) != ((rd_T104 l0_1 x20_2).f1)) = false := bne_eq_false_iff_eq.mpr c87
                      clear c87
                      obtain rfl := Option.some.inj H
                      have p218 : 0 ≤ (x81_4 : Int) := of_decide_eq_true tA
                      have q218 : x81_4 < (y214.length : Int) := of_decide_eq_true tA
                      obtain ⟨ad218, e218, hx218_0, hx218_1, hx218_2, hx218_3, hx218_4, hx218_5⟩ := at_T104 HR217.out x81_4 p218 q218
                      obtain rfl : ad202 = ad218 := (by injection e218)
                      replace hx218_0 := hbc HB hx218_0
                      replace hx218_1 := hbc HB hx218_1
                      replace hx218_2 := hbc HB hx218_2
                      replace hx218_3 := hbc HB hx218_3
                      replace hx218_4 := hbc HB hx218_4
                      replace hx218_5 := hbc HB hx218_5
                      replace p218 := eq_true p218
                      replace q218 := eq_true q218
                      go_wp2_with (first | ((with_reducible refine gate_dst (N := 6) rfl ?_); (try (refine gate_guard (by rfl) ?_; dsimp only)); refine box_event ?hg (N := 6) ?hd (cs := #[.int .i64 0, .int .i64 0, .int .i64 0, .int .i64 0, .int .i64 0, .int .i64 0]) (t := 104) ?hr ?_; (case hd => rfl); (case hg => rfl); (case hr => exact tG); intro gb219 hg w88 hbox hb; have n0_ := Aside0.mk (blk_below (g := gb200) (o := .cells #[.int .i64 a0_0, .slice (some ad202) l0_1.length c0_1] 35 (0, 0)) (tK BK200) hb); have n1_ := Aside0.mk (blk_below (g := gb203) (o := .cells #[.int .i64 ((rd_T104 l0_1 x20_2).f0), .int .i64 ((rd_T104 l0_1 x20_2).f1), .int .i64 ((rd_T104 l0_1 x20_2).f2), .int .i64 ((rd_T104 l0_1 x20_2).f3), .int .i64 ((rd_T104 l0_1 x20_2).f4), .int .i64 ((rd_T104 l0_1 x20_2).f5)] 104 (0, 0)) (tK BK203) hb); have n2_ := Aside0.mk (below_step tB hb); have n3_ := Aside0.mk (hbox); have n4_ := Aside0.mk ((by rw [hg]; exact (below_size tB) : w.heap.size ≤ gb219)); have n5_ := Aside0.mk ((by rw [hg]; exact (below_size tB) : w.heap.size ≤ gb219)); have n6_ := Aside0.mk ((by rw [hg]; exact Nat.ne_of_lt (blk_lt (g := gb200) (o := .cells #[.int .i64 a0_0, .slice (some ad202) l0_1.length c0_1] 35 (0, 0)) (tK BK200)) : gb200 ≠ gb219)); have n7_ := Aside0.mk ((by rw [hg]; exact Nat.ne_of_gt (blk_lt (g := gb200) (o := .cells #[.int .i64 a0_0, .slice (some ad202) l0_1.length c0_1] 35 (0, 0)) (tK BK200)) : gb219 ≠ gb200)); have n8_ := Aside0.mk ((by rw [hg]; exact Nat.ne_of_lt (blk_lt (g := gb203) (o := .cells #[.int .i64 ((rd_T104 l0_1 x20_2).f0), .int .i64 ((rd_T104 l0_1 x20_2).f1), .int .i64 ((rd_T104 l0_1 x20_2).f2), .int .i64 ((rd_T104 l0_1 x20_2).f3), .int .i64 ((rd_T104 l0_1 x20_2).f4), .int .i64 ((rd_T104 l0_1 x20_2).f5)] 104 (0, 0)) (tK BK203)) : gb203 ≠ gb219)); have n9_ := Aside0.mk ((by rw [hg]; exact Nat.ne_of_gt (blk_lt (g := gb203) (o := .cells #[.int .i64 ((rd_T104 l0_1 x20_2).f0), .int .i64 ((rd_T104 l0_1 x20_2).f1), .int .i64 ((rd_T104 l0_1 x20_2).f2), .int .i64 ((rd_T104 l0_1 x20_2).f3), .int .i64 ((rd_T104 l0_1 x20_2).f4), .int .i64 ((rd_T104 l0_1 x20_2).f5)] 104 (0, 0)) (tK BK203)) : gb219 ≠ gb203)); clear BK200; clear BK203; clear HB; have BK200 := n0_; have BK203 := n1_; have HB := n2_; have BK219 := n3_; have GW219 := n4_; have GE219 := n5_; have NB200_219 := n6_; have NB219_200 := n7_; have NB203_219 := n8_; have NB219_203 := n9_; clear n0_ n1_ n2_ n3_ n4_ n5_ n6_ n7_ n8_ n9_; clear hb hbox hg; have hnb89 := NB219_200.out; have hnc89 := NB200_219.out; have hnb90 := NB219_203.out; have hnc90 := NB203_219.out; obtain ⟨hcz91_0, hcz91_1, hcz91_2, hcz91_3, hcz91_4, hcz91_5, hfz91_0, hfz91_1, hfz91_2, hfz91_3, hfz91_4, hfz91_5⟩ := bc6 BK219.out; have hnb92 := NB203_200.out; have hnc92 := NB200_203.out; obtain ⟨hcz93_0, hcz93_1, hcz93_2, hcz93_3, hcz93_4, hcz93_5, hfz93_0, hfz93_1, hfz93_2, hfz93_3, hfz93_4, hfz93_5⟩ := bc6 BK203.out))
                      repeat (go_quiet (first | ((with_reducible refine gate_dst (N := 6) rfl ?_); (try (refine gate_guard (by rfl) ?_; dsimp only)); refine box_event ?hg (N := 6) ?hd (cs := #[.int .i64 0, .int .i64 0, .int .i64 0, .int .i64 0, .int .i64 0, .int .i64 0]) (t := 104) ?hr ?_; (case hd => rfl); (case hg => rfl); (case hr => exact tG); intro gb219 hg w88 hbox hb; have n0_ := Aside0.mk (blk_below (g := gb200) (o := .cells #[.int .i64 a0_0, .slice (some ad202) l0_1.length c0_1] 35 (0, 0)) (tK BK200) hb); have n1_ := Aside0.mk (blk_below (g := gb203) (o := .cells #[.int .i64 ((rd_T104 l0_1 x20_2).f0), .int .i64 ((rd_T104 l0_1 x20_2).f1), .int .i64 ((rd_T104 l0_1 x20_2).f2), .int .i64 ((rd_T104 l0_1 x20_2).f3), .int .i64 ((rd_T104 l0_1 x20_2).f4), .int .i64 ((rd_T104 l0_1 x20_2).f5)] 104 (0, 0)) (tK BK203) hb); have n2_ := Aside0.mk (below_step tB hb); have n3_ := Aside0.mk (hbox); have n4_ := Aside0.mk ((by rw [hg]; exact (below_size tB) : w.heap.size ≤ gb219)); have n5_ := Aside0.mk ((by rw [hg]; exact (below_size tB) : w.heap.size ≤ gb219)); have n6_ := Aside0.mk ((by rw [hg]; exact Nat.ne_of_lt (blk_lt (g := gb200) (o := .cells #[.int .i64 a0_0, .slice (some ad202) l0_1.length c0_1] 35 (0, 0)) (tK BK200)) : gb200 ≠ gb219)); have n7_ := Aside0.mk ((by rw [hg]; exact Nat.ne_of_gt (blk_lt (g := gb200) (o := .cells #[.int .i64 a0_0, .slice (some ad202) l0_1.length c0_1] 35 (0, 0)) (tK BK200)) : gb219 ≠ gb200)); have n8_ := Aside0.mk ((by rw [hg]; exact Nat.ne_of_lt (blk_lt (g := gb203) (o := .cells #[.int .i64 ((rd_T104 l0_1 x20_2).f0), .int .i64 ((rd_T104 l0_1 x20_2).f1), .int .i64 ((rd_T104 l0_1 x20_2).f2), .int .i64 ((rd_T104 l0_1 x20_2).f3), .int .i64 ((rd_T104 l0_1 x20_2).f4), .int .i64 ((rd_T104 l0_1 x20_2).f5)] 104 (0, 0)) (tK BK203)) : gb203 ≠ gb219)); have n9_ := Aside0.mk ((by rw [hg]; exact Nat.ne_of_gt (blk_lt (g := gb203) (o := .cells #[.int .i64 ((rd_T104 l0_1 x20_2).f0), .int .i64 ((rd_T104 l0_1 x20_2).f1), .int .i64 ((rd_T104 l0_1 x20_2).f2), .int .i64 ((rd_T104 l0_1 x20_2).f3), .int .i64 ((rd_T104 l0_1 x20_2).f4), .int .i64 ((rd_T104 l0_1 x20_2).f5)] 104 (0, 0)) (tK BK203)) : gb219 ≠ gb203)); clear BK200; clear BK203; clear HB; have BK200 := n0_; have BK203 := n1_; have HB := n2_; have BK219 := n3_; have GW219 := n4_; have GE219 := n5_; have NB200_219 := n6_; have NB219_200 := n7_; have NB203_219 := n8_; have NB219_203 := n9_; clear n0_ n1_ n2_ n3_ n4_ n5_ n6_ n7_ n8_ n9_; clear hb hbox hg; have hnb89 := NB219_200.out; have hnc89 := NB200_219.out; have hnb90 := NB219_203.out; have hnc90 := NB203_219.out; obtain ⟨hcz91_0, hcz91_1, hcz91_2, hcz91_3, hcz91_4, hcz91_5, hfz91_0, hfz91_1, hfz91_2, hfz91_3, hfz91_4, hfz91_5⟩ := bc6 BK219.out; have hnb92 := NB203_200.out; have hnc92 := NB200_203.out; obtain ⟨hcz93_0, hcz93_1, hcz93_2, hcz93_3, hcz93_4, hcz93_5, hfz93_0, hfz93_1, hfz93_2, hfz93_3, hfz93_4, hfz93_5⟩ := bc6 BK203.out)); try go_wp2_with (first | ((with_reducible refine gate_dst (N := 6) rfl ?_); (try (refine gate_guard (by rfl) ?_; dsimp only)); refine box_event ?hg (N := 6) ?hd (cs := #[.int .i64 0, .int .i64 0, .int .i64 0, .int .i64 0, .int .i64 0, .int .i64 0]) (t := 104) ?hr ?_; (case hd => rfl); (case hg => rfl); (case hr => exact tG); intro gb219 hg w88 hbox hb; have n0_ := Aside0.mk (blk_below (g := gb200) (o := .cells #[.int .i64 a0_0, .slice (some ad202) l0_1.length c0_1] 35 (0, 0)) (tK BK200) hb); have n1_ := Aside0.mk (blk_below (g := gb203) (o := .cells #[.int .i64 ((rd_T104 l0_1 x20_2).f0), .int .i64 ((rd_T104 l0_1 x20_2).f1), .int .i64 ((rd_T104 l0_1 x20_2).f2), .int .i64 ((rd_T104 l0_1 x20_2).f3), .int .i64 ((rd_T104 l0_1 x20_2).f4), .int .i64 ((rd_T104 l0_1 x20_2).f5)] 104 (0, 0)) (tK BK203) hb); have n2_ := Aside0.mk (below_step tB hb); have n3_ := Aside0.mk (hbox); have n4_ := Aside0.mk ((by rw [hg]; exact (below_size tB) : w.heap.size ≤ gb219)); have n5_ := Aside0.mk ((by rw [hg]; exact (below_size tB) : w.heap.size ≤ gb219)); have n6_ := Aside0.mk ((by rw [hg]; exact Nat.ne_of_lt (blk_lt (g := gb200) (o := .cells #[.int .i64 a0_0, .slice (some ad202) l0_1.length c0_1] 35 (0, 0)) (tK BK200)) : gb200 ≠ gb219)); have n7_ := Aside0.mk ((by rw [hg]; exact Nat.ne_of_gt (blk_lt (g := gb200) (o := .cells #[.int .i64 a0_0, .slice (some ad202) l0_1.length c0_1] 35 (0, 0)) (tK BK200)) : gb219 ≠ gb200)); have n8_ := Aside0.mk ((by rw [hg]; exact Nat.ne_of_lt (blk_lt (g := gb203) (o := .cells #[.int .i64 ((rd_T104 l0_1 x20_2).f0), .int .i64 ((rd_T104 l0_1 x20_2).f1), .int .i64 ((rd_T104 l0_1 x20_2).f2), .int .i64 ((rd_T104 l0_1 x20_2).f3), .int .i64 ((rd_T104 l0_1 x20_2).f4), .int .i64 ((rd_T104 l0_1 x20_2).f5)] 104 (0, 0)) (tK BK203)) : gb203 ≠ gb219)); have n9_ := Aside0.mk ((by rw [hg]; exact Nat.ne_of_gt (blk_lt (g := gb203) (o := .cells #[.int .i64 ((rd_T104 l0_1 x20_2).f0), .int .i64 ((rd_T104 l0_1 x20_2).f1), .int .i64 ((rd_T104 l0_1 x20_2).f2), .int .i64 ((rd_T104 l0_1 x20_2).f3), .int .i64 ((rd_T104 l0_1 x20_2).f4), .int .i64 ((rd_T104 l0_1 x20_2).f5)] 104 (0, 0)) (tK BK203)) : gb219 ≠ gb203)); clear BK200; clear BK203; clear HB; have BK200 := n0_; have BK203 := n1_; have HB := n2_; have BK219 := n3_; have GW219 := n4_; have GE219 := n5_; have NB200_219 := n6_; have NB219_200 := n7_; have NB203_219 := n8_; have NB219_203 := n9_; clear n0_ n1_ n2_ n3_ n4_ n5_ n6_ n7_ n8_ n9_; clear hb hbox hg; have hnb89 := NB219_200.out; have hnc89 := NB200_219.out; have hnb90 := NB219_203.out; have hnc90 := NB203_219.out; obtain ⟨hcz91_0, hcz91_1, hcz91_2, hcz91_3, hcz91_4, hcz91_5, hfz91_0, hfz91_1, hfz91_2, hfz91_3, hfz91_4, hfz91_5⟩ := bc6 BK219.out; have hnb92 := NB203_200.out; have hnc92 := NB200_203.out; obtain ⟨hcz93_0, hcz93_1, hcz93_2, hcz93_3, hcz93_4, hcz93_5, hfz93_0, hfz93_1, hfz93_2, hfz93_3, hfz93_4, hfz93_5⟩ := bc6 BK203.out)))
                      go_ret
                      exact ⟨tE, tB⟩
                     ·rw [if_neg c87] at H
                      have c87b0 : (((rd_T104 y214 x81_4).f1) == ((rd_T104 l0_1 x20_2).f1)) = false := beq_eq_false_iff_ne.mpr c87
                      have c87b1 : (((rd_T104 y214 x81_4).f1) != ((rd_T104 l0_1 x20_2).f1)) = true := bne_iff_ne.mpr c87
                      have H' := Aside0.mk H
                      clear H
                      have p218 : 0 ≤ (x81_4 : Int) := of_decide_eq_true tA
                      have q218 : x81_4 < (y214.length : Int) := of_decide_eq_true tA
                      obtain ⟨ad218, e218, hx218_0, hx218_1, hx218_2, hx218_3, hx218_4, hx218_5⟩ := at_T104 HR217.out x81_4 p218 q218
                      obtain rfl : ad202 = ad218 := (by injection e218)
                      replace hx218_0 := hbc HB hx218_0
                      replace hx218_1 := hbc HB hx218_1
                      replace hx218_2 := hbc HB hx218_2
                      replace hx218_3 := hbc HB hx218_3
                      replace hx218_4 := hbc HB hx218_4
                      replace hx218_5 := hbc HB hx218_5
                      replace p218 := eq_true p218
                      replace q218 := eq_true q218
                      go_wp2_with (first | ((with_reducible refine gate_dst (N := 6) rfl ?_); (try (refine gate_guard (by rfl) ?_; dsimp only)); refine box_event ?hg (N := 6) ?hd (cs := #[.int .i64 0, .int .i64 0, .int .i64 0, .int .i64 0, .int .i64 0, .int .i64 0]) (t := 104) ?hr ?_; (case hd => rfl); (case hg => rfl); (case hr => exact tG); intro gb219 hg w94 hbox hb; have n0_ := Aside0.mk (blk_below (g := gb200) (o := .cells #[.int .i64 a0_0, .slice (some ad202) l0_1.length c0_1] 35 (0, 0)) (tK BK200) hb); have n1_ := Aside0.mk (blk_below (g := gb203) (o := .cells #[.int .i64 ((rd_T104 l0_1 x20_2).f0), .int .i64 ((rd_T104 l0_1 x20_2).f1), .int .i64 ((rd_T104 l0_1 x20_2).f2), .int .i64 ((rd_T104 l0_1 x20_2).f3), .int .i64 ((rd_T104 l0_1 x20_2).f4), .int .i64 ((rd_T104 l0_1 x20_2).f5)] 104 (0, 0)) (tK BK203) hb); have n2_ := Aside0.mk (below_step tB hb); have n3_ := Aside0.mk (hbox); have n4_ := Aside0.mk ((by rw [hg]; exact (below_size tB) : w.heap.size ≤ gb219)); have n5_ := Aside0.mk ((by rw [hg]; exact (below_size tB) : w.heap.size ≤ gb219)); have n6_ := Aside0.mk ((by rw [hg]; exact Nat.ne_of_lt (blk_lt (g := gb200) (o := .cells #[.int .i64 a0_0, .slice (some ad202) l0_1.length c0_1] 35 (0, 0)) (tK BK200)) : gb200 ≠ gb219)); have n7_ := Aside0.mk ((by rw [hg]; exact Nat.ne_of_gt (blk_lt (g := gb200) (o := .cells #[.int .i64 a0_0, .slice (some ad202) l0_1.length c0_1] 35 (0, 0)) (tK BK200)) : gb219 ≠ gb200)); have n8_ := Aside0.mk ((by rw [hg]; exact Nat.ne_of_lt (blk_lt (g := gb203) (o := .cells #[.int .i64 ((rd_T104 l0_1 x20_2).f0), .int .i64 ((rd_T104 l0_1 x20_2).f1), .int .i64 ((rd_T104 l0_1 x20_2).f2), .int .i64 ((rd_T104 l0_1 x20_2).f3), .int .i64 ((rd_T104 l0_1 x20_2).f4), .int .i64 ((rd_T104 l0_1 x20_2).f5)] 104 (0, 0)) (tK BK203)) : gb203 ≠ gb219)); have n9_ := Aside0.mk ((by rw [hg]; exact Nat.ne_of_gt (blk_lt (g := gb203) (o := .cells #[.int .i64 ((rd_T104 l0_1 x20_2).f0), .int .i64 ((rd_T104 l0_1 x20_2).f1), .int .i64 ((rd_T104 l0_1 x20_2).f2), .int .i64 ((rd_T104 l0_1 x20_2).f3), .int .i64 ((rd_T104 l0_1 x20_2).f4), .int .i64 ((rd_T104 l0_1 x20_2).f5)] 104 (0, 0)) (tK BK203)) : gb219 ≠ gb203)); clear BK200; clear BK203; clear HB; have BK200 := n0_; have BK203 := n1_; have HB := n2_; have BK219 := n3_; have GW219 := n4_; have GE219 := n5_; have NB200_219 := n6_; have NB219_200 := n7_; have NB203_219 := n8_; have NB219_203 := n9_; clear n0_ n1_ n2_ n3_ n4_ n5_ n6_ n7_ n8_ n9_; clear hb hbox hg; have hnb95 := NB219_200.out; have hnc95 := NB200_219.out; have hnb96 := NB219_203.out; have hnc96 := NB203_219.out; obtain ⟨hcz97_0, hcz97_1, hcz97_2, hcz97_3, hcz97_4, hcz97_5, hfz97_0, hfz97_1, hfz97_2, hfz97_3, hfz97_4, hfz97_5⟩ := bc6 BK219.out; have hnb98 := NB203_200.out; have hnc98 := NB200_203.out; obtain ⟨hcz99_0, hcz99_1, hcz99_2, hcz99_3, hcz99_4, hcz99_5, hfz99_0, hfz99_1, hfz99_2, hfz99_3, hfz99_4, hfz99_5⟩ := bc6 BK203.out))
                      repeat (go_quiet (first | ((with_reducible refine gate_dst (N := 6) rfl ?_); (try (refine gate_guard (by rfl) ?_; dsimp only)); refine box_event ?hg (N := 6) ?hd (cs := #[.int .i64 0, .int .i64 0, .int .i64 0, .int .i64 0, .int .i64 0, .int .i64 0]) (t := 104) ?hr ?_; (case hd => rfl); (case hg => rfl); (case hr => exact tG); intro gb219 hg w94 hbox hb; have n0_ := Aside0.mk (blk_below (g := gb200) (o := .cells #[.int .i64 a0_0, .slice (some ad202) l0_1.length c0_1] 35 (0, 0)) (tK BK200) hb); have n1_ := Aside0.mk (blk_below (g := gb203) (o := .cells #[.int .i64 ((rd_T104 l0_1 x20_2).f0), .int .i64 ((rd_T104 l0_1 x20_2).f1), .int .i64 ((rd_T104 l0_1 x20_2).f2), .int .i64 ((rd_T104 l0_1 x20_2).f3), .int .i64 ((rd_T104 l0_1 x20_2).f4), .int .i64 ((rd_T104 l0_1 x20_2).f5)] 104 (0, 0)) (tK BK203) hb); have n2_ := Aside0.mk (below_step tB hb); have n3_ := Aside0.mk (hbox); have n4_ := Aside0.mk ((by rw [hg]; exact (below_size tB) : w.heap.size ≤ gb219)); have n5_ := Aside0.mk ((by rw [hg]; exact (below_size tB) : w.heap.size ≤ gb219)); have n6_ := Aside0.mk ((by rw [hg]; exact Nat.ne_of_lt (blk_lt (g := gb200) (o := .cells #[.int .i64 a0_0, .slice (some ad202) l0_1.length c0_1] 35 (0, 0)) (tK BK200)) : gb200 ≠ gb219)); have n7_ := Aside0.mk ((by rw [hg]; exact Nat.ne_of_gt (blk_lt (g := gb200) (o := .cells #[.int .i64 a0_0, .slice (some ad202) l0_1.length c0_1] 35 (0, 0)) (tK BK200)) : gb219 ≠ gb200)); have n8_ := Aside0.mk ((by rw [hg]; exact Nat.ne_of_lt (blk_lt (g := gb203) (o := .cells #[.int .i64 ((rd_T104 l0_1 x20_2).f0), .int .i64 ((rd_T104 l0_1 x20_2).f1), .int .i64 ((rd_T104 l0_1 x20_2).f2), .int .i64 ((rd_T104 l0_1 x20_2).f3), .int .i64 ((rd_T104 l0_1 x20_2).f4), .int .i64 ((rd_T104 l0_1 x20_2).f5)] 104 (0, 0)) (tK BK203)) : gb203 ≠ gb219)); have n9_ := Aside0.mk ((by rw [hg]; exact Nat.ne_of_gt (blk_lt (g := gb203) (o := .cells #[.int .i64 ((rd_T104 l0_1 x20_2).f0), .int .i64 ((rd_T104 l0_1 x20_2).f1), .int .i64 ((rd_T104 l0_1 x20_2).f2), .int .i64 ((rd_T104 l0_1 x20_2).f3), .int .i64 ((rd_T104 l0_1 x20_2).f4), .int .i64 ((rd_T104 l0_1 x20_2).f5)] 104 (0, 0)) (tK BK203)) : gb219 ≠ gb203)); clear BK200; clear BK203; clear HB; have BK200 := n0_; have BK203 := n1_; have HB := n2_; have BK219 := n3_; have GW219 := n4_; have GE219 := n5_; have NB200_219 := n6_; have NB219_200 := n7_; have NB203_219 := n8_; have NB219_203 := n9_; clear n0_ n1_ n2_ n3_ n4_ n5_ n6_ n7_ n8_ n9_; clear hb hbox hg; have hnb95 := NB219_200.out; have hnc95 := NB200_219.out; have hnb96 := NB219_203.out; have hnc96 := NB203_219.out; obtain ⟨hcz97_0, hcz97_1, hcz97_2, hcz97_3, hcz97_4, hcz97_5, hfz97_0, hfz97_1, hfz97_2, hfz97_3, hfz97_4, hfz97_5⟩ := bc6 BK219.out; have hnb98 := NB203_200.out; have hnc98 := NB200_203.out; obtain ⟨hcz99_0, hcz99_1, hcz99_2, hcz99_3, hcz99_4, hcz99_5, hfz99_0, hfz99_1, hfz99_2, hfz99_3, hfz99_4, hfz99_5⟩ := bc6 BK203.out)); try go_wp2_with (first | ((with_reducible refine gate_dst (N := 6) rfl ?_); (try (refine gate_guard (by rfl) ?_; dsimp only)); refine box_event ?hg (N := 6) ?hd (cs := #[.int .i64 0, .int .i64 0, .int .i64 0, .int .i64 0, .int .i64 0, .int .i64 0]) (t := 104) ?hr ?_; (case hd => rfl); (case hg => rfl); (case hr => exact tG); intro gb219 hg w94 hbox hb; have n0_ := Aside0.mk (blk_below (g := gb200) (o := .cells #[.int .i64 a0_0, .slice (some ad202) l0_1.length c0_1] 35 (0, 0)) (tK BK200) hb); have n1_ := Aside0.mk (blk_below (g := gb203) (o := .cells #[.int .i64 ((rd_T104 l0_1 x20_2).f0), .int .i64 ((rd_T104 l0_1 x20_2).f1), .int .i64 ((rd_T104 l0_1 x20_2).f2), .int .i64 ((rd_T104 l0_1 x20_2).f3), .int .i64 ((rd_T104 l0_1 x20_2).f4), .int .i64 ((rd_T104 l0_1 x20_2).f5)] 104 (0, 0)) (tK BK203) hb); have n2_ := Aside0.mk (below_step tB hb); have n3_ := Aside0.mk (hbox); have n4_ := Aside0.mk ((by rw [hg]; exact (below_size tB) : w.heap.size ≤ gb219)); have n5_ := Aside0.mk ((by rw [hg]; exact (below_size tB) : w.heap.size ≤ gb219)); have n6_ := Aside0.mk ((by rw [hg]; exact Nat.ne_of_lt (blk_lt (g := gb200) (o := .cells #[.int .i64 a0_0, .slice (some ad202) l0_1.length c0_1] 35 (0, 0)) (tK BK200)) : gb200 ≠ gb219)); have n7_ := Aside0.mk ((by rw [hg]; exact Nat.ne_of_gt (blk_lt (g := gb200) (o := .cells #[.int .i64 a0_0, .slice (some ad202) l0_1.length c0_1] 35 (0, 0)) (tK BK200)) : gb219 ≠ gb200)); have n8_ := Aside0.mk ((by rw [hg]; exact Nat.ne_of_lt (blk_lt (g := gb203) (o := .cells #[.int .i64 ((rd_T104 l0_1 x20_2).f0), .int .i64 ((rd_T104 l0_1 x20_2).f1), .int .i64 ((rd_T104 l0_1 x20_2).f2), .int .i64 ((rd_T104 l0_1 x20_2).f3), .int .i64 ((rd_T104 l0_1 x20_2).f4), .int .i64 ((rd_T104 l0_1 x20_2).f5)] 104 (0, 0)) (tK BK203)) : gb203 ≠ gb219)); have n9_ := Aside0.mk ((by rw [hg]; exact Nat.ne_of_gt (blk_lt (g := gb203) (o := .cells #[.int .i64 ((rd_T104 l0_1 x20_2).f0), .int .i64 ((rd_T104 l0_1 x20_2).f1), .int .i64 ((rd_T104 l0_1 x20_2).f2), .int .i64 ((rd_T104 l0_1 x20_2).f3), .int .i64 ((rd_T104 l0_1 x20_2).f4), .int .i64 ((rd_T104 l0_1 x20_2).f5)] 104 (0, 0)) (tK BK203)) : gb219 ≠ gb203)); clear BK200; clear BK203; clear HB; have BK200 := n0_; have BK203 := n1_; have HB := n2_; have BK219 := n3_; have GW219 := n4_; have GE219 := n5_; have NB200_219 := n6_; have NB219_200 := n7_; have NB203_219 := n8_; have NB219_203 := n9_; clear n0_ n1_ n2_ n3_ n4_ n5_ n6_ n7_ n8_ n9_; clear hb hbox hg; have hnb95 := NB219_200.out; have hnc95 := NB200_219.out; have hnb96 := NB219_203.out; have hnc96 := NB203_219.out; obtain ⟨hcz97_0, hcz97_1, hcz97_2, hcz97_3, hcz97_4, hcz97_5, hfz97_0, hfz97_1, hfz97_2, hfz97_3, hfz97_4, hfz97_5⟩ := bc6 BK219.out; have hnb98 := NB203_200.out; have hnc98 := NB200_203.out; obtain ⟨hcz99_0, hcz99_1, hcz99_2, hcz99_3, hcz99_4, hcz99_5, hfz99_0, hfz99_1, hfz99_2, hfz99_3, hfz99_4, hfz99_5⟩ := bc6 BK203.out)))
                      go_roundg k4
                      case measure => have := HJ1.out; have := HK2.out; have := HJ12.out; have := HK4.out; omega
                      case rel => exact ⟨(wrap64 (x81_4 + 1)), tS, H', ⟨by have := HJ1.out; have := HK2.out; have := HJ12.out; have := HK4.out; omega⟩, ⟨by (with_reducible repeat (first | refine blk_drewN ?_ _ | refine blk_drew ?_ | refine blk_alloc ?_ _)); refine blk_far ?_ NB200_219.out _; (with_reducible repeat (first | refine blk_drewN ?_ _ | refine blk_drew ?_ | refine blk_alloc ?_ _)); refine blk_far ?_ NB200_219.out _; (with_reducible repeat (first | refine blk_drewN ?_ _ | refine blk_drew ?_ | refine blk_alloc ?_ _)); refine blk_far ?_ NB200_219.out _; (with_reducible repeat (first | refine blk_drewN ?_ _ | refine blk_drew ?_ | refine blk_alloc ?_ _)); refine blk_far ?_ NB200_219.out _; (with_reducible repeat (first | refine blk_drewN ?_ _ | refine blk_drew ?_ | refine blk_alloc ?_ _)); refine blk_far ?_ NB200_219.out _; (with_reducible repeat (first | refine blk_drewN ?_ _ | refine blk_drew ?_ | refine blk_alloc ?_ _)); refine blk_far ?_ NB200_219.out _; (with_reducible repeat (first | refine blk_drewN ?_ _ | refine blk_drew ?_ | refine blk_alloc ?_ _)); exact BK200.out⟩, ⟨by (with_reducible repeat (first | refine blk_drewN ?_ _ | refine blk_drew ?_ | refine blk_alloc ?_ _)); refine blk_far ?_ NB203_219.out _; (with_reducible repeat (first | refine blk_drewN ?_ _ | refine blk_drew ?_ | refine blk_alloc ?_ _)); refine blk_far ?_ NB203_219.out _; (with_reducible repeat (first | refine blk_drewN ?_ _ | refine blk_drew ?_ | refine blk_alloc ?_ _)); refine blk_far ?_ NB203_219.out _; (with_reducible repeat (first | refine blk_drewN ?_ _ | refine blk_drew ?_ | refine blk_alloc ?_ _)); refine blk_far ?_ NB203_219.out _; (with_reducible repeat (first | refine blk_drewN ?_ _ | refine blk_drew ?_ | refine blk_alloc ?_ _)); refine blk_far ?_ NB203_219.out _; (with_reducible repeat (first | refine blk_drewN ?_ _ | refine blk_drew ?_ | refine blk_alloc ?_ _)); refine blk_far ?_ NB203_219.out _; (with_reducible repeat (first | refine blk_drewN ?_ _ | refine blk_drew ?_ | refine blk_alloc ?_ _)); exact BK203.out⟩, ⟨tB⟩⟩
                    ·rw [if_neg c86] at H
                     have c86b0 : (((rd_T104 l0_1 x20_2).f5) == 1) = false := beq_eq_false_iff_ne.mpr c86
                     have c86b1 : (((rd_T104 l0_1 x20_2).f5) != 1) = true := bne_iff_ne.mpr c86
                     have H' := Aside0.mk H
                     clear H
                     have p218 : 0 ≤ (x81_4 : Int) := of_decide_eq_true tA
                     have q218 : x81_4 < (y214.length : Int) := of_decide_eq_true tA
                     obtain ⟨ad218, e218, hx218_0, hx218_1, hx218_2, hx218_3, hx218_4, hx218_5⟩ := at_T104 HR217.out x81_4 p218 q218
                     obtain rfl : ad202 = ad218 := (by injection e218)
                     replace hx218_0 := hbc HB hx218_0
                     replace hx218_1 := hbc HB hx218_1
                     replace hx218_2 := hbc HB hx218_2
                     replace hx218_3 := hbc HB hx218_3
                     replace hx218_4 := hbc HB hx218_4
                     replace hx218_5 := hbc HB hx218_5
                     replace p218 := eq_true p218
                     replace q218 := eq_true q218
                     go_wp2_with (first | ((with_reducible refine gate_dst (N := 6) rfl ?_); (try (refine gate_guard (by rfl) ?_; dsimp only)); refine box_event ?hg (N := 6) ?hd (cs := #[.int .i64 0, .int .i64 0, .int .i64 0, .int .i64 0, .int .i64 0, .int .i64 0]) (t := 104) ?hr ?_; (case hd => rfl); (case hg => rfl); (case hr => exact tG); intro gb219 hg w100 hbox hb; have n0_ := Aside0.mk (blk_below (g := gb200) (o := .cells #[.int .i64 a0_0, .slice (some ad202) l0_1.length c0_1] 35 (0, 0)) (tK BK200) hb); have n1_ := Aside0.mk (blk_below (g := gb203) (o := .cells #[.int .i64 ((rd_T104 l0_1 x20_2).f0), .int .i64 ((rd_T104 l0_1 x20_2).f1), .int .i64 ((rd_T104 l0_1 x20_2).f2), .int .i64 ((rd_T104 l0_1 x20_2).f3), .int .i64 ((rd_T104 l0_1 x20_2).f4), .int .i64 ((rd_T104 l0_1 x20_2).f5)] 104 (0, 0)) (tK BK203) hb); have n2_ := Aside0.mk (below_step tB hb); have n3_ := Aside0.mk (hbox); have n4_ := Aside0.mk ((by rw [hg]; exact (below_size tB) : w.heap.size ≤ gb219)); have n5_ := Aside0.mk ((by rw [hg]; exact (below_size tB) : w.heap.size ≤ gb219)); have n6_ := Aside0.mk ((by rw [hg]; exact Nat.ne_of_lt (blk_lt (g := gb200) (o := .cells #[.int .i64 a0_0, .slice (some ad202) l0_1.length c0_1] 35 (0, 0)) (tK BK200)) : gb200 ≠ gb219)); have n7_ := Aside0.mk ((by rw [hg]; exact Nat.ne_of_gt (blk_lt (g := gb200) (o := .cells #[.int .i64 a0_0, .slice (some ad202) l0_1.length c0_1] 35 (0, 0)) (tK BK200)) : gb219 ≠ gb200)); have n8_ := Aside0.mk ((by rw [hg]; exact Nat.ne_of_lt (blk_lt (g := gb203) (o := .cells #[.int .i64 ((rd_T104 l0_1 x20_2).f0), .int .i64 ((rd_T104 l0_1 x20_2).f1), .int .i64 ((rd_T104 l0_1 x20_2).f2), .int .i64 ((rd_T104 l0_1 x20_2).f3), .int .i64 ((rd_T104 l0_1 x20_2).f4), .int .i64 ((rd_T104 l0_1 x20_2).f5)] 104 (0, 0)) (tK BK203)) : gb203 ≠ gb219)); have n9_ := Aside0.mk ((by rw [hg]; exact Nat.ne_of_gt (blk_lt (g := gb203) (o := .cells #[.int .i64 ((rd_T104 l0_1 x20_2).f0), .int .i64 ((rd_T104 l0_1 x20_2).f1), .int .i64 ((rd_T104 l0_1 x20_2).f2), .int .i64 ((rd_T104 l0_1 x20_2).f3), .int .i64 ((rd_T104 l0_1 x20_2).f4), .int .i64 ((rd_T104 l0_1 x20_2).f5)] 104 (0, 0)) (tK BK203)) : gb219 ≠ gb203)); clear BK200; clear BK203; clear HB; have BK200 := n0_; have BK203 := n1_; have HB := n2_; have BK219 := n3_; have GW219 := n4_; have GE219 := n5_; have NB200_219 := n6_; have NB219_200 := n7_; have NB203_219 := n8_; have NB219_203 := n9_; clear n0_ n1_ n2_ n3_ n4_ n5_ n6_ n7_ n8_ n9_; clear hb hbox hg; have hnb101 := NB219_200.out; have hnc101 := NB200_219.out; have hnb102 := NB219_203.out; have hnc102 := NB203_219.out; obtain ⟨hcz103_0, hcz103_1, hcz103_2, hcz103_3, hcz103_4, hcz103_5, hfz103_0, hfz103_1, hfz103_2, hfz103_3, hfz103_4, hfz103_5⟩ := bc6 BK219.out; have hnb104 := NB203_200.out; have hnc104 := NB200_203.out; obtain ⟨hcz105_0, hcz105_1, hcz105_2, hcz105_3, hcz105_4, hcz105_5, hfz105_0, hfz105_1, hfz105_2, hfz105_3, hfz105_4, hfz105_5⟩ := bc6 BK203.out))
                     repeat (go_quiet (first | ((with_reducible refine gate_dst (N := 6) rfl ?_); (try (refine gate_guard (by rfl) ?_; dsimp only)); refine box_event ?hg (N := 6) ?hd (cs := #[.int .i64 0, .int .i64 0, .int .i64 0, .int .i64 0, .int .i64 0, .int .i64 0]) (t := 104) ?hr ?_; (case hd => rfl); (case hg => rfl); (case hr => exact tG); intro gb219 hg w100 hbox hb; have n0_ := Aside0.mk (blk_below (g := gb200) (o := .cells #[.int .i64 a0_0, .slice (some ad202) l0_1.length c0_1] 35 (0, 0)) (tK BK200) hb); have n1_ := Aside0.mk (blk_below (g := gb203) (o := .cells #[.int .i64 ((rd_T104 l0_1 x20_2).f0), .int .i64 ((rd_T104 l0_1 x20_2).f1), .int .i64 ((rd_T104 l0_1 x20_2).f2), .int .i64 ((rd_T104 l0_1 x20_2).f3), .int .i64 ((rd_T104 l0_1 x20_2).f4), .int .i64 ((rd_T104 l0_1 x20_2).f5)] 104 (0, 0)) (tK BK203) hb); have n2_ := Aside0.mk (below_step tB hb); have n3_ := Aside0.mk (hbox); have n4_ := Aside0.mk ((by rw [hg]; exact (below_size tB) : w.heap.size ≤ gb219)); have n5_ := Aside0.mk ((by rw [hg]; exact (below_size tB) : w.heap.size ≤ gb219)); have n6_ := Aside0.mk ((by rw [hg]; exact Nat.ne_of_lt (blk_lt (g := gb200) (o := .cells #[.int .i64 a0_0, .slice (some ad202) l0_1.length c0_1] 35 (0, 0)) (tK BK200)) : gb200 ≠ gb219)); have n7_ := Aside0.mk ((by rw [hg]; exact Nat.ne_of_gt (blk_lt (g := gb200) (o := .cells #[.int .i64 a0_0, .slice (some ad202) l0_1.length c0_1] 35 (0, 0)) (tK BK200)) : gb219 ≠ gb200)); have n8_ := Aside0.mk ((by rw [hg]; exact Nat.ne_of_lt (blk_lt (g := gb203) (o := .cells #[.int .i64 ((rd_T104 l0_1 x20_2).f0), .int .i64 ((rd_T104 l0_1 x20_2).f1), .int .i64 ((rd_T104 l0_1 x20_2).f2), .int .i64 ((rd_T104 l0_1 x20_2).f3), .int .i64 ((rd_T104 l0_1 x20_2).f4), .int .i64 ((rd_T104 l0_1 x20_2).f5)] 104 (0, 0)) (tK BK203)) : gb203 ≠ gb219)); have n9_ := Aside0.mk ((by rw [hg]; exact Nat.ne_of_gt (blk_lt (g := gb203) (o := .cells #[.int .i64 ((rd_T104 l0_1 x20_2).f0), .int .i64 ((rd_T104 l0_1 x20_2).f1), .int .i64 ((rd_T104 l0_1 x20_2).f2), .int .i64 ((rd_T104 l0_1 x20_2).f3), .int .i64 ((rd_T104 l0_1 x20_2).f4), .int .i64 ((rd_T104 l0_1 x20_2).f5)] 104 (0, 0)) (tK BK203)) : gb219 ≠ gb203)); clear BK200; clear BK203; clear HB; have BK200 := n0_; have BK203 := n1_; have HB := n2_; have BK219 := n3_; have GW219 := n4_; have GE219 := n5_; have NB200_219 := n6_; have NB219_200 := n7_; have NB203_219 := n8_; have NB219_203 := n9_; clear n0_ n1_ n2_ n3_ n4_ n5_ n6_ n7_ n8_ n9_; clear hb hbox hg; have hnb101 := NB219_200.out; have hnc101 := NB200_219.out; have hnb102 := NB219_203.out; have hnc102 := NB203_219.out; obtain ⟨hcz103_0, hcz103_1, hcz103_2, hcz103_3, hcz103_4, hcz103_5, hfz103_0, hfz103_1, hfz103_2, hfz103_3, hfz103_4, hfz103_5⟩ := bc6 BK219.out; have hnb104 := NB203_200.out; have hnc104 := NB200_203.out; obtain ⟨hcz105_0, hcz105_1, hcz105_2, hcz105_3, hcz105_4, hcz105_5, hfz105_0, hfz105_1, hfz105_2, hfz105_3, hfz105_4, hfz105_5⟩ := bc6 BK203.out)); try go_wp2_with (first | ((with_reducible refine gate_dst (N := 6) rfl ?_); (try (refine gate_guard (by rfl) ?_; dsimp only)); refine box_event ?hg (N := 6) ?hd (cs := #[.int .i64 0, .int .i64 0, .int .i64 0, .int .i64 0, .int .i64 0, .int .i64 0]) (t := 104) ?hr ?_; (case hd => rfl); (case hg => rfl); (case hr => exact tG); intro gb219 hg w100 hbox hb; have n0_ := Aside0.mk (blk_below (g := gb200) (o := .cells #[.int .i64 a0_0, .slice (some ad202) l0_1.length c0_1] 35 (0, 0)) (tK BK200) hb); have n1_ := Aside0.mk (blk_below (g := gb203) (o := .cells #[.int .i64 ((rd_T104 l0_1 x20_2).f0), .int .i64 ((rd_T104 l0_1 x20_2).f1), .int .i64 ((rd_T104 l0_1 x20_2).f2), .int .i64 ((rd_T104 l0_1 x20_2).f3), .int .i64 ((rd_T104 l0_1 x20_2).f4), .int .i64 ((rd_T104 l0_1 x20_2).f5)] 104 (0, 0)) (tK BK203) hb); have n2_ := Aside0.mk (below_step tB hb); have n3_ := Aside0.mk (hbox); have n4_ := Aside0.mk ((by rw [hg]; exact (below_size tB) : w.heap.size ≤ gb219)); have n5_ := Aside0.mk ((by rw [hg]; exact (below_size tB) : w.heap.size ≤ gb219)); have n6_ := Aside0.mk ((by rw [hg]; exact Nat.ne_of_lt (blk_lt (g := gb200) (o := .cells #[.int .i64 a0_0, .slice (some ad202) l0_1.length c0_1] 35 (0, 0)) (tK BK200)) : gb200 ≠ gb219)); have n7_ := Aside0.mk ((by rw [hg]; exact Nat.ne_of_gt (blk_lt (g := gb200) (o := .cells #[.int .i64 a0_0, .slice (some ad202) l0_1.length c0_1] 35 (0, 0)) (tK BK200)) : gb219 ≠ gb200)); have n8_ := Aside0.mk ((by rw [hg]; exact Nat.ne_of_lt (blk_lt (g := gb203) (o := .cells #[.int .i64 ((rd_T104 l0_1 x20_2).f0), .int .i64 ((rd_T104 l0_1 x20_2).f1), .int .i64 ((rd_T104 l0_1 x20_2).f2), .int .i64 ((rd_T104 l0_1 x20_2).f3), .int .i64 ((rd_T104 l0_1 x20_2).f4), .int .i64 ((rd_T104 l0_1 x20_2).f5)] 104 (0, 0)) (tK BK203)) : gb203 ≠ gb219)); have n9_ := Aside0.mk ((by rw [hg]; exact Nat.ne_of_gt (blk_lt (g := gb203) (o := .cells #[.int .i64 ((rd_T104 l0_1 x20_2).f0), .int .i64 ((rd_T104 l0_1 x20_2).f1), .int .i64 ((rd_T104 l0_1 x20_2).f2), .int .i64 ((rd_T104 l0_1 x20_2).f3), .int .i64 ((rd_T104 l0_1 x20_2).f4), .int .i64 ((rd_T104 l0_1 x20_2).f5)] 104 (0, 0)) (tK BK203)) : gb219 ≠ gb203)); clear BK200; clear BK203; clear HB; have BK200 := n0_; have BK203 := n1_; have HB := n2_; have BK219 := n3_; have GW219 := n4_; have GE219 := n5_; have NB200_219 := n6_; have NB219_200 := n7_; have NB203_219 := n8_; have NB219_203 := n9_; clear n0_ n1_ n2_ n3_ n4_ n5_ n6_ n7_ n8_ n9_; clear hb hbox hg; have hnb101 := NB219_200.out; have hnc101 := NB200_219.out; have hnb102 := NB219_203.out; have hnc102 := NB203_219.out; obtain ⟨hcz103_0, hcz103_1, hcz103_2, hcz103_3, hcz103_4, hcz103_5, hfz103_0, hfz103_1, hfz103_2, hfz103_3, hfz103_4, hfz103_5⟩ := bc6 BK219.out; have hnb104 := NB203_200.out; have hnc104 := NB200_203.out; obtain ⟨hcz105_0, hcz105_1, hcz105_2, hcz105_3, hcz105_4, hcz105_5, hfz105_0, hfz105_1, hfz105_2, hfz105_3, hfz105_4, hfz105_5⟩ := bc6 BK203.out)))
                     go_roundg k4
                     case measure => have := HJ1.out; have := HK2.out; have := HJ12.out; have := HK4.out; omega
                     case rel => exact ⟨(wrap64 (x81_4 + 1)), tS, H', ⟨by have := HJ1.out; have := HK2.out; have := HJ12.out; have := HK4.out; omega⟩, ⟨by (with_reducible repeat (first | refine blk_drewN ?_ _ | refine blk_drew ?_ | refine blk_alloc ?_ _)); refine blk_far ?_ NB200_219.out _; (with_reducible repeat (first | refine blk_drewN ?_ _ | refine blk_drew ?_ | refine blk_alloc ?_ _)); refine blk_far ?_ NB200_219.out _; (with_reducible repeat (first | refine blk_drewN ?_ _ | refine blk_drew ?_ | refine blk_alloc ?_ _)); refine blk_far ?_ NB200_219.out _; (with_reducible repeat (first | refine blk_drewN ?_ _ | refine blk_drew ?_ | refine blk_alloc ?_ _)); refine blk_far ?_ NB200_219.out _; (with_reducible repeat (first | refine blk_drewN ?_ _ | refine blk_drew ?_ | refine blk_alloc ?_ _)); refine blk_far ?_ NB200_219.out _; (with_reducible repeat (first | refine blk_drewN ?_ _ | refine blk_drew ?_ | refine blk_alloc ?_ _)); refine blk_far ?_ NB200_219.out _; (with_reducible repeat (first | refine blk_drewN ?_ _ | refine blk_drew ?_ | refine blk_alloc ?_ _)); exact BK200.out⟩, ⟨by (with_reducible repeat (first | refine blk_drewN ?_ _ | refine blk_drew ?_ | refine blk_alloc ?_ _)); refine blk_far ?_ NB203_219.out _; (with_reducible repeat (first | refine blk_drewN ?_ _ | refine blk_drew ?_ | refine blk_alloc ?_ _)); refine blk_far ?_ NB203_219.out _; (with_reducible repeat (first | refine blk_drewN ?_ _ | refine blk_drew ?_ | refine blk_alloc ?_ _)); refine blk_far ?_ NB203_219.out _; (with_reducible repeat (first | refine blk_drewN ?_ _ | refine blk_drew ?_ | refine blk_alloc ?_ _)); refine blk_far ?_ NB203_219.out _; (with_reducible repeat (first | refine blk_drewN ?_ _ | refine blk_drew ?_ | refine blk_alloc ?_ _)); refine blk_far ?_ NB203_219.out _; (with_reducible repeat (first | refine blk_drewN ?_ _ | refine blk_drew ?_ | refine blk_alloc ?_ _)); refine blk_far ?_ NB203_219.out _; (with_reducible repeat (first | refine blk_drewN ?_ _ | refine blk_drew ?_ | refine blk_alloc ?_ _)); exact BK203.out⟩, ⟨tB⟩⟩
                   ·rw [if_neg c85] at H
                    have c85b0 : (((rd_T104 y214 x81_4).f5) == 1) = false := beq_eq_false_iff_ne.mpr c85
                    have c85b1 : (((rd_T104 y214 x81_4).f5) != 1) = true := bne_iff_ne.mpr c85
                    have H' := Aside0.mk H
                    clear H
                    have p218 : 0 ≤ (x81_4 : Int) := of_decide_eq_true tA
                    have q218 : x81_4 < (y214.length : Int) := of_decide_eq_true tA
                    obtain ⟨ad218, e218, hx218_0, hx218_1, hx218_2, hx218_3, hx218_4, hx218_5⟩ := at_T104 HR217.out x81_4 p218 q218
                    obtain rfl : ad202 = ad218 := (by injection e218)
                    replace hx218_0 := hbc HB hx218_0
                    replace hx218_1 := hbc HB hx218_1
                    replace hx218_2 := hbc HB hx218_2
                    replace hx218_3 := hbc HB hx218_3
                    replace hx218_4 := hbc HB hx218_4
                    replace hx218_5 := hbc HB hx218_5
                    replace p218 := eq_true p218
                    replace q218 := eq_true q218
                    go_wp2_with (first | ((with_reducible refine gate_dst (N := 6) rfl ?_); (try (refine gate_guard (by rfl) ?_; dsimp only)); refine box_event ?hg (N := 6) ?hd (cs := #[.int .i64 0, .int .i64 0, .int .i64 0, .int .i64 0, .int .i64 0, .int .i64 0]) (t := 104) ?hr ?_; (case hd => rfl); (case hg => rfl); (case hr => exact tG); intro gb219 hg w106 hbox hb; have n0_ := Aside0.mk (blk_below (g := gb200) (o := .cells #[.int .i64 a0_0, .slice (some ad202) l0_1.length c0_1] 35 (0, 0)) (tK BK200) hb); have n1_ := Aside0.mk (blk_below (g := gb203) (o := .cells #[.int .i64 ((rd_T104 l0_1 x20_2).f0), .int .i64 ((rd_T104 l0_1 x20_2).f1), .int .i64 ((rd_T104 l0_1 x20_2).f2), .int .i64 ((rd_T104 l0_1 x20_2).f3), .int .i64 ((rd_T104 l0_1 x20_2).f4), .int .i64 ((rd_T104 l0_1 x20_2).f5)] 104 (0, 0)) (tK BK203) hb); have n2_ := Aside0.mk (below_step tB hb); have n3_ := Aside0.mk (hbox); have n4_ := Aside0.mk ((by rw [hg]; exact (below_size tB) : w.heap.size ≤ gb219)); have n5_ := Aside0.mk ((by rw [hg]; exact (below_size tB) : w.heap.size ≤ gb219)); have n6_ := Aside0.mk ((by rw [hg]; exact Nat.ne_of_lt (blk_lt (g := gb200) (o := .cells #[.int .i64 a0_0, .slice (some ad202) l0_1.length c0_1] 35 (0, 0)) (tK BK200)) : gb200 ≠ gb219)); have n7_ := Aside0.mk ((by rw [hg]; exact Nat.ne_of_gt (blk_lt (g := gb200) (o := .cells #[.int .i64 a0_0, .slice (some ad202) l0_1.length c0_1] 35 (0, 0)) (tK BK200)) : gb219 ≠ gb200)); have n8_ := Aside0.mk ((by rw [hg]; exact Nat.ne_of_lt (blk_lt (g := gb203) (o := .cells #[.int .i64 ((rd_T104 l0_1 x20_2).f0), .int .i64 ((rd_T104 l0_1 x20_2).f1), .int .i64 ((rd_T104 l0_1 x20_2).f2), .int .i64 ((rd_T104 l0_1 x20_2).f3), .int .i64 ((rd_T104 l0_1 x20_2).f4), .int .i64 ((rd_T104 l0_1 x20_2).f5)] 104 (0, 0)) (tK BK203)) : gb203 ≠ gb219)); have n9_ := Aside0.mk ((by rw [hg]; exact Nat.ne_of_gt (blk_lt (g := gb203) (o := .cells #[.int .i64 ((rd_T104 l0_1 x20_2).f0), .int .i64 ((rd_T104 l0_1 x20_2).f1), .int .i64 ((rd_T104 l0_1 x20_2).f2), .int .i64 ((rd_T104 l0_1 x20_2).f3), .int .i64 ((rd_T104 l0_1 x20_2).f4), .int .i64 ((rd_T104 l0_1 x20_2).f5)] 104 (0, 0)) (tK BK203)) : gb219 ≠ gb203)); clear BK200; clear BK203; clear HB; have BK200 := n0_; have BK203 := n1_; have HB := n2_; have BK219 := n3_; have GW219 := n4_; have GE219 := n5_; have NB200_219 := n6_; have NB219_200 := n7_; have NB203_219 := n8_; have NB219_203 := n9_; clear n0_ n1_ n2_ n3_ n4_ n5_ n6_ n7_ n8_ n9_; clear hb hbox hg; have hnb107 := NB219_200.out; have hnc107 := NB200_219.out; have hnb108 := NB219_203.out; have hnc108 := NB203_219.out; obtain ⟨hcz109_0, hcz109_1, hcz109_2, hcz109_3, hcz109_4, hcz109_5, hfz109_0, hfz109_1, hfz109_2, hfz109_3, hfz109_4, hfz109_5⟩ := bc6 BK219.out))
                    repeat (go_quiet (first | ((with_reducible refine gate_dst (N := 6) rfl ?_); (try (refine gate_guard (by rfl) ?_; dsimp only)); refine box_event ?hg (N := 6) ?hd (cs := #[.int .i64 0, .int .i64 0, .int .i64 0, .int .i64 0, .int .i64 0, .int .i64 0]) (t := 104) ?hr ?_; (case hd => rfl); (case hg => rfl); (case hr => exact tG); intro gb219 hg w106 hbox hb; have n0_ := Aside0.mk (blk_below (g := gb200) (o := .cells #[.int .i64 a0_0, .slice (some ad202) l0_1.length c0_1] 35 (0, 0)) (tK BK200) hb); have n1_ := Aside0.mk (blk_below (g := gb203) (o := .cells #[.int .i64 ((rd_T104 l0_1 x20_2).f0), .int .i64 ((rd_T104 l0_1 x20_2).f1), .int .i64 ((rd_T104 l0_1 x20_2).f2), .int .i64 ((rd_T104 l0_1 x20_2).f3), .int .i64 ((rd_T104 l0_1 x20_2).f4), .int .i64 ((rd_T104 l0_1 x20_2).f5)] 104 (0, 0)) (tK BK203) hb); have n2_ := Aside0.mk (below_step tB hb); have n3_ := Aside0.mk (hbox); have n4_ := Aside0.mk ((by rw [hg]; exact (below_size tB) : w.heap.size ≤ gb219)); have n5_ := Aside0.mk ((by rw [hg]; exact (below_size tB) : w.heap.size ≤ gb219)); have n6_ := Aside0.mk ((by rw [hg]; exact Nat.ne_of_lt (blk_lt (g := gb200) (o := .cells #[.int .i64 a0_0, .slice (some ad202) l0_1.length c0_1] 35 (0, 0)) (tK BK200)) : gb200 ≠ gb219)); have n7_ := Aside0.mk ((by rw [hg]; exact Nat.ne_of_gt (blk_lt (g := gb200) (o := .cells #[.int .i64 a0_0, .slice (some ad202) l0_1.length c0_1] 35 (0, 0)) (tK BK200)) : gb219 ≠ gb200)); have n8_ := Aside0.mk ((by rw [hg]; exact Nat.ne_of_lt (blk_lt (g := gb203) (o := .cells #[.int .i64 ((rd_T104 l0_1 x20_2).f0), .int .i64 ((rd_T104 l0_1 x20_2).f1), .int .i64 ((rd_T104 l0_1 x20_2).f2), .int .i64 ((rd_T104 l0_1 x20_2).f3), .int .i64 ((rd_T104 l0_1 x20_2).f4), .int .i64 ((rd_T104 l0_1 x20_2).f5)] 104 (0, 0)) (tK BK203)) : gb203 ≠ gb219)); have n9_ := Aside0.mk ((by rw [hg]; exact Nat.ne_of_gt (blk_lt (g := gb203) (o := .cells #[.int .i64 ((rd_T104 l0_1 x20_2).f0), .int .i64 ((rd_T104 l0_1 x20_2).f1), .int .i64 ((rd_T104 l0_1 x20_2).f2), .int .i64 ((rd_T104 l0_1 x20_2).f3), .int .i64 ((rd_T104 l0_1 x20_2).f4), .int .i64 ((rd_T104 l0_1 x20_2).f5)] 104 (0, 0)) (tK BK203)) : gb219 ≠ gb203)); clear BK200; clear BK203; clear HB; have BK200 := n0_; have BK203 := n1_; have HB := n2_; have BK219 := n3_; have GW219 := n4_; have GE219 := n5_; have NB200_219 := n6_; have NB219_200 := n7_; have NB203_219 := n8_; have NB219_203 := n9_; clear n0_ n1_ n2_ n3_ n4_ n5_ n6_ n7_ n8_ n9_; clear hb hbox hg; have hnb107 := NB219_200.out; have hnc107 := NB200_219.out; have hnb108 := NB219_203.out; have hnc108 := NB203_219.out; obtain ⟨hcz109_0, hcz109_1, hcz109_2, hcz109_3, hcz109_4, hcz109_5, hfz109_0, hfz109_1, hfz109_2, hfz109_3, hfz109_4, hfz109_5⟩ := bc6 BK219.out)); try go_wp2_with (first | ((with_reducible refine gate_dst (N := 6) rfl ?_); (try (refine gate_guard (by rfl) ?_; dsimp only)); refine box_event ?hg (N := 6) ?hd (cs := #[.int .i64 0, .int .i64 0, .int .i64 0, .int .i64 0, .int .i64 0, .int .i64 0]) (t := 104) ?hr ?_; (case hd => rfl); (case hg => rfl); (case hr => exact tG); intro gb219 hg w106 hbox hb; have n0_ := Aside0.mk (blk_below (g := gb200) (o := .cells #[.int .i64 a0_0, .slice (some ad202) l0_1.length c0_1] 35 (0, 0)) (tK BK200) hb); have n1_ := Aside0.mk (blk_below (g := gb203) (o := .cells #[.int .i64 ((rd_T104 l0_1 x20_2).f0), .int .i64 ((rd_T104 l0_1 x20_2).f1), .int .i64 ((rd_T104 l0_1 x20_2).f2), .int .i64 ((rd_T104 l0_1 x20_2).f3), .int .i64 ((rd_T104 l0_1 x20_2).f4), .int .i64 ((rd_T104 l0_1 x20_2).f5)] 104 (0, 0)) (tK BK203) hb); have n2_ := Aside0.mk (below_step tB hb); have n3_ := Aside0.mk (hbox); have n4_ := Aside0.mk ((by rw [hg]; exact (below_size tB) : w.heap.size ≤ gb219)); have n5_ := Aside0.mk ((by rw [hg]; exact (below_size tB) : w.heap.size ≤ gb219)); have n6_ := Aside0.mk ((by rw [hg]; exact Nat.ne_of_lt (blk_lt (g := gb200) (o := .cells #[.int .i64 a0_0, .slice (some ad202) l0_1.length c0_1] 35 (0, 0)) (tK BK200)) : gb200 ≠ gb219)); have n7_ := Aside0.mk ((by rw [hg]; exact Nat.ne_of_gt (blk_lt (g := gb200) (o := .cells #[.int .i64 a0_0, .slice (some ad202) l0_1.length c0_1] 35 (0, 0)) (tK BK200)) : gb219 ≠ gb200)); have n8_ := Aside0.mk ((by rw [hg]; exact Nat.ne_of_lt (blk_lt (g := gb203) (o := .cells #[.int .i64 ((rd_T104 l0_1 x20_2).f0), .int .i64 ((rd_T104 l0_1 x20_2).f1), .int .i64 ((rd_T104 l0_1 x20_2).f2), .int .i64 ((rd_T104 l0_1 x20_2).f3), .int .i64 ((rd_T104 l0_1 x20_2).f4), .int .i64 ((rd_T104 l0_1 x20_2).f5)] 104 (0, 0)) (tK BK203)) : gb203 ≠ gb219)); have n9_ := Aside0.mk ((by rw [hg]; exact Nat.ne_of_gt (blk_lt (g := gb203) (o := .cells #[.int .i64 ((rd_T104 l0_1 x20_2).f0), .int .i64 ((rd_T104 l0_1 x20_2).f1), .int .i64 ((rd_T104 l0_1 x20_2).f2), .int .i64 ((rd_T104 l0_1 x20_2).f3), .int .i64 ((rd_T104 l0_1 x20_2).f4), .int .i64 ((rd_T104 l0_1 x20_2).f5)] 104 (0, 0)) (tK BK203)) : gb219 ≠ gb203)); clear BK200; clear BK203; clear HB; have BK200 := n0_; have BK203 := n1_; have HB := n2_; have BK219 := n3_; have GW219 := n4_; have GE219 := n5_; have NB200_219 := n6_; have NB219_200 := n7_; have NB203_219 := n8_; have NB219_203 := n9_; clear n0_ n1_ n2_ n3_ n4_ n5_ n6_ n7_ n8_ n9_; clear hb hbox hg; have hnb107 := NB219_200.out; have hnc107 := NB200_219.out; have hnb108 := NB219_203.out; have hnc108 := NB203_219.out; obtain ⟨hcz109_0, hcz109_1, hcz109_2, hcz109_3, hcz109_4, hcz109_5, hfz109_0, hfz109_1, hfz109_2, hfz109_3, hfz109_4, hfz109_5⟩ := bc6 BK219.out)))
                    go_roundg k4
                    case measure => have := HJ1.out; have := HK2.out; have := HJ12.out; have := HK4.out; omega
                    case rel => exact ⟨(wrap64 (x81_4 + 1)), tS, H', ⟨by have := HJ1.out; have := HK2.out; have := HJ12.out; have := HK4.out; omega⟩, ⟨by (with_reducible repeat (first | refine blk_drewN ?_ _ | refine blk_drew ?_ | refine blk_alloc ?_ _)); refine blk_far ?_ NB200_219.out _; (with_reducible repeat (first | refine blk_drewN ?_ _ | refine blk_drew ?_ | refine blk_alloc ?_ _)); refine blk_far ?_ NB200_219.out _; (with_reducible repeat (first | refine blk_drewN ?_ _ | refine blk_drew ?_ | refine blk_alloc ?_ _)); refine blk_far ?_ NB200_219.out _; (with_reducible repeat (first | refine blk_drewN ?_ _ | refine blk_drew ?_ | refine blk_alloc ?_ _)); refine blk_far ?_ NB200_219.out _; (with_reducible repeat (first | refine blk_drewN ?_ _ | refine blk_drew ?_ | refine blk_alloc ?_ _)); refine blk_far ?_ NB200_219.out _; (with_reducible repeat (first | refine blk_drewN ?_ _ | refine blk_drew ?_ | refine blk_alloc ?_ _)); refine blk_far ?_ NB200_219.out _; (with_reducible repeat (first | refine blk_drewN ?_ _ | refine blk_drew ?_ | refine blk_alloc ?_ _)); exact BK200.out⟩, ⟨by (with_reducible repeat (first | refine blk_drewN ?_ _ | refine blk_drew ?_ | refine blk_alloc ?_ _)); refine blk_far ?_ NB203_219.out _; (with_reducible repeat (first | refine blk_drewN ?_ _ | refine blk_drew ?_ | refine blk_alloc ?_ _)); refine blk_far ?_ NB203_219.out _; (with_reducible repeat (first | refine blk_drewN ?_ _ | refine blk_drew ?_ | refine blk_alloc ?_ _)); refine blk_far ?_ NB203_219.out _; (with_reducible repeat (first | refine blk_drewN ?_ _ | refine blk_drew ?_ | refine blk_alloc ?_ _)); refine blk_far ?_ NB203_219.out _; (with_reducible repeat (first | refine blk_drewN ?_ _ | refine blk_drew ?_ | refine blk_alloc ?_ _)); refine blk_far ?_ NB203_219.out _; (with_reducible repeat (first | refine blk_drewN ?_ _ | refine blk_drew ?_ | refine blk_alloc ?_ _)); refine blk_far ?_ NB203_219.out _; (with_reducible repeat (first | refine blk_drewN ?_ _ | refine blk_drew ?_ | refine blk_alloc ?_ _)); exact BK203.out⟩, ⟨tB⟩⟩
                  ·rw [if_neg c84] at H
                   exact absurd H (by simp)
                 ·rw [if_neg c83] at H
                  exact absurd H (by simp)
                ·rw [if_neg c82] at H
                 have c82b0 : decide (x81_4 < (y214.length : Int)) = false := decide_eq_false c82
                 clear c82
                 have H' := Aside0.mk H
                 clear H
                 go_wp2
                 repeat (go_quiet (fail); try go_wp2)
                 go_roundg k4
                 case measure => have := HJ1.out; have := HK2.out; have := HJ12.out; have := HK4.out; omega
                 case rel => exact ⟨(wrap64 (x20_2 + 1)), tS, H', ⟨by have := HJ1.out; have := HK2.out; have := HJ12.out; have := HK4.out; omega⟩, ⟨tK BK200⟩, ⟨tB⟩⟩
             ·rw [if_neg c78] at H
              exact absurd H (by simp)
            ·rw [if_neg c77] at H
             exact absurd H (by simp)
        ·rw [if_neg c12] at H
         exact absurd H (by simp)
       ·rw [if_neg c11] at H
        exact absurd H (by simp)
      ·rw [if_neg c10] at H
       have c10b0 : decide (x20_2 < (l0_1.length : Int)) = false := decide_eq_false c10
       clear c10
       obtain rfl := Option.some.inj H
       go_wp2
       repeat (go_quiet (fail); try go_wp2)
       go_ret
       exact ⟨tE, tB⟩

end Go.Proofs.Ytjggdakbphjomaa.ZFnExactObjectTo
